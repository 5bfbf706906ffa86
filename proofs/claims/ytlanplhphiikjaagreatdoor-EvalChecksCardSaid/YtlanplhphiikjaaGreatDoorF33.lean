import Derived.Test.YtlanplhphiikjaaGreatDoorF16
import Derived.Test.YtlanplhphiikjaaGreatDoorF15
set_option maxRecDepth 100000
set_option maxHeartbeats 400000000
namespace Go.Proofs.YtlanplhphiikjaaGreatDoor
open Go.RowKit Go.Shelf Go.Lib Tryz
section
variable {P:Program} {T:Type}
theorem Mz {r:Rd T} (t ty E:TypeId) (i:TypeInfo) (ht:P.underlying t=some (.slice E)) (hi:P.info? E=some i) (S:Nat->Prop) (B:Nat) (w:World) (v:Value) (xs:List T) (css:List (List Value)) (hO:Own r E S B w v xs css) (c:Nat):
  (Builtin.append_ #[t,t] ty #[v,.slice none 0 c]).run P w=.ok v w:=by
 rcases hO.row.2 with ⟨rfl,_⟩ | ⟨g,cap,G,rfl,_,_,D,_⟩
 ·simp [Builtin.append_,run_underlying ht,sizeOf,typeInfo,hi,Builtin.lenOf,Builtin.firstCells]
 simp [Builtin.append_,run_underlying ht,sizeOf,typeInfo,hi,Builtin.lenOf,Builtin.firstCells,D,storeCells]
theorem run_cat {r:Rd T} (hk:0<r.k) (t ty E:TypeId) (i:TypeInfo) (z:Value) (bytes:Nat) (ht:P.underlying t=some (.slice E)) (hi:P.info? E=some i) (hz:i.zero=some z) (hsize:i.size=r.k) (hby:i.bytes=bytes) (hzs:z.cells.size=r.k) (hb1:bytes<=1000)
  (S:Nat->Prop) (B:Nat) (w:World) (v:Value) (xs:List T) (css:List (List Value)) (ys:List T) (q:Option Addr) (m c:Nat) (hO:Own r E S B w v xs css) (hY:Sl r (But S v) w (.slice q m c) ys)
  (h1:∀ S w cs x,r.R S w cs x->∀ u ∈ cs,u.oneCell'=true) (hl:xs.length+ys.length<=1000000) (hB:B<=w):
  ∃ p cap css' w1,(Builtin.append_ #[t,t] ty #[v,.slice q m c]).run P w=.ok (.slice p (xs.length+ys.length) cap) w1/\Own r E S B w1 (.slice p (xs.length+ys.length) cap) (xs++ys) css'/\w.grownBy w1 v.ownBlock/\((Value.slice p (xs.length+ys.length) cap).ownBlock=v.ownBlock\/(Value.slice p (xs.length+ys.length) cap).ownBlock=some w.heap.size):=by
 obtain ⟨q',c',dss,hv,O,hc⟩:=hY.css hk
 simp only [Ql] at hv
 obtain ⟨rfl,rfl,rfl⟩:=hv
 have J:∀ N:Addr,q=some N->(∀ j u,dss.flatten[j]?=some u->w.cell? (N.add j)=some u)->∃ p cap css' w1,(Builtin.append_ #[t,t] ty #[v,.slice q ys.length c]).run P w=.ok (.slice p (xs.length+ys.length) cap) w1/\Own r E S B w1 (.slice p (xs.length+ys.length) cap) (xs++ys) css'/\w.grownBy w1 v.ownBlock/\((Value.slice p (xs.length+ys.length) cap).ownBlock=v.ownBlock\/(Value.slice p (xs.length+ys.length) cap).ownBlock=some w.heap.size):=by
  rintro N rfl D
  obtain ⟨v1,w1,I,V,G,_,M⟩:=run_append_own_at (P:=P) w B t ty E i z r.k bytes ht hi hz hsize hby hzs hk v xs.length css.flatten hO.row N ys.length c dss.flatten O.flat D (fun u Y=>by
   obtain ⟨cc,aA,aD⟩:=List.mem_flatten.1 Y
   obtain ⟨i',U⟩:=Qt aA
   have aC:=(Qj U).1
   exact h1 _ w cc _ (O.R i' cc _ U (Qx (by rw [<- O.len];exact aC))) u aD) (by unfold maxLen;omega) (by
   have:=Nat.mul_le_mul (show xs.length+ys.length<=1000000 by omega) hb1
   omega) hB
  have L:=hO.append O (v':=v1) (w2:=w1) V G M
  obtain ⟨p,cap,rfl⟩:=L.form
  rw [Qe] at L I M
  exact ⟨p,cap,_,w1,I,L,G,M⟩
 by_cases hne:ys=[]
 ·subst hne
  have aB:dss=[]:=Zq O.len
  subst aB
  rcases q with _ | N
  ·obtain ⟨p,cap,rfl⟩:=hO.form
   exact ⟨p,cap,css,w,Mz t ty E i ht hi S B w _ xs css hO c,by simpa using hO,World.grownBy.refl w _,.inl rfl⟩
  exact J N rfl (fun j u Y=>by simp at Y)
 obtain ⟨b,Z,rfl,_,_,D⟩:=hc hne
 exact J _ rfl (fun j u Y=>by
  rw [show (⟨b,Z,none⟩:Addr).add j=⟨b,Z+j,none⟩ by unfold Addr.add;split <;> simp_all]
  exact D j u Y)
theorem step_cat {r:Rd T} (hk:0<r.k) {ops:Array Oper} {o:Oper} {a:Act} {K:Act->World->Prop} {Q:Exit->Act->World->Prop} {X:Prop} (hgd:o.guard=none) (s x:Operand) (t:TypeId)
  (ho:o.op=.call { callee:=.builtin .append,args:=#[s,x],argTypes:=#[t,t] }) (E:TypeId) (i:TypeInfo) (z:Value) (bytes:Nat) (ht:P.underlying t=some (.slice E)) (hi:P.info? E=some i) (hz:i.zero=some z)
  (hsize:i.size=r.k) (hby:i.bytes=bytes) (hzs:z.cells.size=r.k) (hb1:bytes<=1000) (S:Nat->Prop) (B:Nat) (w:World) (v:Value) (xs:List T) (css:List (List Value)) (ys:List T) (q:Option Addr) (m c:Nat) (hs:a.eval s=v)
  (hO:Own r E S B w v xs css) (hx:a.eval x=.slice q m c) (hY:Sl r (But S v) w (.slice q m c) ys) (h1:∀ S w cs x,r.R S w cs x->∀ u ∈ cs,u.oneCell'=true) (hl:xs.length+ys.length<=1000000) (hB:B<=w)
  (h:∀ p cap D I,Own r E S B I (.slice p (xs.length+ys.length) cap) (xs++ys) D->w.grownBy I v.ownBlock->((Value.slice p (xs.length+ys.length) cap).ownBlock=v.ownBlock\/(Value.slice p (xs.length+ys.length) cap).ownBlock=some w.heap.size)->K (a.put o.dst (.slice p (xs.length+ys.length) cap)) I):
  if Region.wanted o (yielded ops a.tmps)=true then Oper.wp P o a w K Q else X:=by
 have hw:Region.wanted o (yielded ops a.tmps)=true:=by simp [Region.wanted,hgd]
 rw [if_pos hw]
 obtain ⟨p,cap,D,I,G,h2,h3,h4⟩:=run_cat (P:=P) hk t o.type E i z bytes ht hi hz hsize hby hzs hb1 S B w v xs css ys q m c hO hY h1 hl hB
 unfold Oper.wp execOp
 simp only [ho,resolve,invoke,builtin,Sem.run_bind,Sem.run_pure,Result.andThen_ok,List.map_toArray,List.map_cons,List.map_nil,hs,hx,G]
 exact h p cap D I h2 h3 h4
end
section
variable {P:Program} {T:Type}
theorem Xr {r:Rd T} (hk:0<r.k) (h1:∀ S w cs x,r.R S w cs x->∀ u ∈ cs,u.oneCell'=true) {ops:Array Oper} {o:Oper} {a:Act} {K:Act->World->Prop} {Q:Exit->Act->World->Prop} {X:Prop} (hgd:o.guard=none) (s x:Operand) (t:TypeId)
  (ho:o.op=.call { callee:=.builtin .append,args:=#[s,x],argTypes:=#[t,t] }) (E:TypeId) (i:TypeInfo) (z:Value) (bytes:Nat) (ht:P.underlying t=some (.slice E)) (hi:P.info? E=some i) (hz:i.zero=some z)
  (hsize:i.size=r.k) (hby:i.bytes=bytes) (hzs:z.cells.size=r.k) (hb1:bytes<=1000) (S:Nat->Prop) (B:Nat) (w:World) (v:Value) (xs:List T) (css:List (List Value)) (hs:a.eval s=v)
  (hO:Own r E S B w v xs css) (v2:Value) (ys:List T) (hx:a.eval x=v2) (hY:Sl r (But S v) w v2 ys) (n:Nat) (hn:xs.length+ys.length=n) (hl:n<=1000000) (hB:B<=w)
  (h:∀ p cap D G,Own r E S B G (.slice p n cap) (xs++ys) D->Gz B w G v (.slice p n cap)->K (a.put o.dst (.slice p n cap)) G):
  if Region.wanted o (yielded ops a.tmps)=true then Oper.wp P o a w K Q else X:=by
 subst hn
 obtain ⟨q,c,rfl,_⟩:=hY.len
 have hv:∀ g,v.ownBlock=some g->B<=g:=fun g hg=>(hO.row.lt g hg).1
 exact step_cat (r:=r) hk hgd s x t ho E i z bytes ht hi hz hsize hby hzs hb1 S B w v xs css ys q ys.length c hs hO hx hY h1 hl hB (fun p cap D G h2 h3 h4=>h p cap D G h2 (Dm h3 hv hB h4))
def Bx (o:Oper):Oper:=o
theorem veil1 {id:Nat} {b:Bool} {Q:Exit->Act->World->Prop} {a:Act} {w:World} {o0 o:Oper} {l:List Oper} (h:(Code.region id (List.toArray (o0::Bx o::l)) b).wp P Q a w):(Code.region id (List.toArray (o0::o::l)) b).wp P Q a w:=h
def Mk (r:Rd T) (E:TypeId) (S0:Nat->Prop) (W0 w:World) (v:Value) (n:Nat) (xs:List T):Prop:=∃ css,Own r E S0 W0 w v xs css/\xs.length=n/\Below W0 W0 w
theorem Mk.nil {r:Rd T} {E:TypeId} {S0:Nat->Prop} {W0 w:World} (h:Below W0 W0 w):Mk r E S0 W0 w (.slice none 0 0) 0 []:=⟨[],Own.nil _ _ _ _ _,rfl,h⟩
theorem Mk.grow {r:Rd T} {E:TypeId} {S0:Nat->Prop} {W0 w w':World} {v:Value} {n:Nat} {xs:List T} (h:Mk r E S0 W0 w v n xs) (hb:Below w w w'):Mk r E S0 W0 w' v n xs:=
 let ⟨css,h1,h2,h3⟩:=h;⟨css,h1.below hb,h2,h3.thn hb⟩
theorem Mk.below {r:Rd T} {E:TypeId} {S0:Nat->Prop} {W0 w:World} {v:Value} {n:Nat} {xs:List T} (h:Mk r E S0 W0 w v n xs):Below W0 W0 w:=let ⟨_,_,_,h3⟩:=h;h3
theorem Mk.lt {r:Rd T} {E:TypeId} {S0:Nat->Prop} {W0 w:World} {v:Value} {n:Nat} {xs:List T} (h:Mk r E S0 W0 w v n xs):∀ g,v.ownBlock=some g->W0.heap.size<=g/\g<w.heap.size:=let ⟨_,h1,_,_⟩:=h;fun g e=>h1.row.lt g e
theorem Xj {r:Rd T} (hk:0<r.k) (h1:∀ S w cs x,r.R S w cs x->∀ u ∈ cs,u.oneCell'=true) {ops:Array Oper} {o:Oper} {a:Act} {K:Act->World->Prop} {Q:Exit->Act->World->Prop} {X:Prop} (hgd:o.guard=none) (s x:Operand) (t:TypeId)
  (ho:o.op=.call { callee:=.builtin .append,args:=#[s,x],argTypes:=#[t,t] }) (E:TypeId) (i:TypeInfo) (z:Value) (bytes:Nat) (ht:P.underlying t=some (.slice E)) (hi:P.info? E=some i) (hz:i.zero=some z)
  (hsize:i.size=r.k) (hby:i.bytes=bytes) (hzs:z.cells.size=r.k) (hb1:bytes<=1000) (S0:Nat->Prop) (W0 w:World) (v:Value) (n:Nat) (xs:List T) (hs:a.eval s=v)
  (hM:Mk r E S0 W0 w v n xs) (v2:Value) (ys:List T) (hx:a.eval x=v2) (hY:Sl r (But S0 v) w v2 ys) (m:Nat) (hm:n+ys.length=m) (hl:m<=1000000)
  (h:∀ p cap G,Mk r E S0 W0 G (.slice p m cap) m (xs++ys)->Gz W0 w G v (.slice p m cap)->K (a.put o.dst (.slice p m cap)) G):
  if Region.wanted o (yielded ops a.tmps)=true then Oper.wp P o a w K Q else X:=by
 obtain ⟨css,hO,hn,hB⟩:=hM
 subst hn
 exact Xr hk h1 hgd s x t ho E i z bytes ht hi hz hsize hby hzs hb1 S0 W0 w v xs css hs hO v2 ys hx hY m hm hl hB.size (fun p cap D G h2 h3=>h p cap G ⟨D,h2,by rw [Qe];exact hm,hB.trans h3.below⟩ h3)
end
theorem Ju:∀ S w cs x,Vf.R S w cs x->∀ u ∈ cs,u.oneCell'=true:=fun S w cs x h=>ty_one (show Y6 S w cs x from h)
theorem Bv {S:Nat->Prop} {w:World} {b:Nat} {x:Bs} (hb:w.heap[b]?=some (.cells #[x] 9 (0,0))) (hS:S b) (hl:x.length<=1000000):Sl Zi S w (.slice (some ⟨b,0,none⟩) 1 1) [x]:=
 Y2 hb hS (Cs.one (r:=Zi) (show Zi.R S w [x] x from ⟨rfl,hl⟩)) rfl rfl Od
theorem sl_ty1 {S:Nat->Prop} {w:World} {b:Nat} {k n:Int} {s:ByteArray} {v3 v4:Value} {x:Ty} (hb:w.heap[b]?=some (.cells #[k,.string s,n,v3,v4] 65 (0,0))) (hS:S b) (hx:Y6 S w [k,.string s,n,v3,v4] x):Sl Vf S w (.slice (some ⟨b,0,none⟩) 1 1) [x]:=
 Y2 hb hS (Cs.one (r:=Vf) hx) rfl rfl Od
def putT (n:Int) (ns:List Bs) (ks:List Ty) (name:Bs) (x:Ty):Ty:=.mk 5 [] n (Yt ns (below ns name) name) (Yt ks (below ns name) x)
def PutTIs (S:Nat->Prop) (w:World) (u:Ty) (m:Nat) (n:Int) (e:Ending) (w':World):Prop:=∃ p3 k3 p4 k4,e=.returned (.agg #[.int .i64 5,Oo,n,.slice p3 m k3,.slice p4 m k4])/\m<=k3/\m<=k4/\Y6 (fun b=>S b\/w<=b) w' [.int .i64 5,Oo,n,.slice p3 m k3,.slice p4 m k4] u/\Below w w w'
def PutMid (W1s:Nat) (W2:World) (m:Nat) (xs:List Bs) (tn:Int) (wx:World):Prop:=∃ p cap,wx.heap[W1s]?=some (.cells #[.int .i64 5,Oo,tn,.slice p m cap,Ot] 65 (0,0))/\m<=cap/\Sl Zi (fun b=>W2<=b) wx (.slice p m cap) xs/\Below W1s W2 wx
theorem N9 (S:Nat->Prop) (tk:Int) (ts:ByteArray) (tn:Int) (ns:List Bs) (ks:List Ty) (n:Nat) (p3:Option Addr) (k3:Nat) (p4:Option Addr) (k4:Nat) (name:Bs) (x:Ty) (cx:List Value) (w:World) (hn0:Sl Zi S w (.slice p3 n k3) ns) (hk0:Sl Vf S w (.slice p4 n k4) ks) (hnn:ns.length=n) (hkn:ks.length=n) (hx0:Y6 S w cx x) (hc3:n<=k3) (hc4:n<=k4) (hl1:n<=1000) (hnm:name.length<=1000000):
  Calls prog 52 #[.agg #[tk,.string ts,tn,.slice p3 n k3,.slice p4 n k4],sv name,cx] w (PutTIs S w (putT tn ns ks name x) (n+1) tn):=by
 have hn:=hn0.up
 have hk:=hk0.up
 have hx:Y6 (fun b=>S b/\b<w) w cx x:=hx0.move (.refl _ _) (fun b hb h=>⟨h,hb⟩)
 obtain ⟨xk,xs,xn,q3,m3,l3,q4,m4,l4,fQ⟩:=Y6.cells hx
 subst fQ
 obtain ⟨bJ,fE,fN,HN,HM⟩:=Pw hn hk hx hnn hkn
 have fS:below ns name<=n:=by rw [<- hnn];exact below_le _ _
 clear hn0 hk0 hx0 hn hk hx hnn hkn
 obtain ⟨i0,j1,j2,j3,j4⟩:=Y3 (P:=prog) (t:=65) (z:=.agg zY) (n:=5) (b:=80) Og
 obtain ⟨HJ,aS,aT,aU⟩:=Py j1 j2 j3 j4
 clear j1 j2 j3 j4
 obtain ⟨i9,j1,j2,j3,j4⟩:=Y3 (P:=prog) (t:=9) (z:=.string ⟨#[]⟩) (n:=1) (b:=16) Og
 obtain ⟨HS,aV,aW,aX⟩:=Py j1 j2 j3 j4
 clear j1 j2 j3 j4
 unfold sv
 go_enter func52,ntmps52
 go_wp2_with fail
 generalize aM:((w.alloc _).alloc _).alloc _=I
 have dZ:=eqB aM (Yr _ _ _ _)
 have cV:=eqH (b:=w.heap.size) aM (Ze _ _ _ _)
 have dY:=eqH (b:=w.heap.size+1) aM (Zf _ _ _ _)
 have dU:=eqH (b:=w.heap.size+1+1) aM (Z9 _ _ _ _)
 have dF:I=w.heap.size+3:=by rw [<- aM];simp
 obtain ⟨aR,bN,aY,fI,aZ⟩:=Pw dZ cV dY dU dF
 obtain ⟨c0,c1,c2,c3,c4⟩:=row5 cV
 clear aM dZ cV dY dU dF
 go_loop [7] (fun i=>∃ k:Nat,k<=n/\i=.int .i64 k/\Aside (∀ (j:Nat) (y:Bs),j<k->ns[j]?=some y->Y7 y name<0)) (fun i=>n - (intOf i).toNat)
 case atStart=>exact ⟨0,Q3 _,rfl,fun j _ hj=>absurd hj (Z1 _)⟩
 obtain ⟨k,hk,rfl,A⟩:=hrel
 have cY:(∃ y,ns[k]?=some y/\Y7 y name<0)\/(below ns name=k/\((∃ y,ns[k]?=some y/\¬ Y7 y name<0)\/k=n)):=by
  by_cases aD:k<n
  ·obtain ⟨y,hy⟩:∃ y,ns[k]?=some y:=⟨_,Qx (by rw [HN.out];exact aD)⟩
   by_cases hc:Y7 y name<0
   ·exact .inl ⟨y,hy,hc⟩
   exact .inr ⟨Dc A.out hy hc,.inl ⟨y,hy,hc⟩⟩
  have hkn:k=n:=Oa
  refine .inr ⟨?_,.inr hkn⟩
  rw [hkn,<- HN.out]
  exact Ge (fun j z hz=>A.out j z (by have:=(Qj hz).1;have:=HN.out;omega) hz)
 rcases cY with ⟨y,hy,hc⟩ | ⟨eI,cY⟩
 ·have aD:k<n:=by have:=(Qj hy).1;have:=HN.out;omega
  have eE:(0:Int)<=(k:Int):=Oa
  have eF:(k:Int)<(n:Int):=Oa
  have bV:decide (k<n)=true:=by simpa using aD
  obtain ⟨b,eU,rfl,eN,-⟩:=(bJ.out.below aR.out).str hy
  have hq:Op.bytesLess y name=true:=by rw [(Vc y name).1];simpa using hc
  have HC:=Qq hc;have HY:=Qq hy
  clear hc hy aD
  go_wp2_with fail
  go_round
  case measure=>simp [intOf];omega
  case rel=>
   refine ⟨k+1,Oa,by go_num,(show Aside _ from fun j z hj hz=>?_)⟩
   by_cases e:j=k
   ·subst e
    have:=HY.out
    rw [this] at hz
    cases hz
    exact HC.out
   exact A.out j z Oa hz
 obtain ⟨V1,V2,eK,eL,dV,N⟩:=Kl (P:=prog) 46 9 underlying46 sizeOf9 bJ.out (by rw [HN.out];exact ⟨_,_,rfl,hc3⟩) k (by rw [HN.out];exact hk)
 obtain ⟨V3,V4,dC,dD,dW,dX⟩:=Kl (P:=prog) 63 65 underlying63 sizeOf65 fE.out (by rw [HM.out];exact ⟨_,_,rfl,hc4⟩) k (by rw [HM.out];exact hk)
 obtain ⟨fJ,dN,dO,dP,fH⟩:=Pw dV N dW dX eI
 have eJ:(ns.take k).length=k:=by rw [Qf,HN.out];omega
 have eD:(ns.drop k).length=n - k:=by rw [Qr,HN.out]
 have cN:(ks.take k).length=k:=by rw [Qf,HM.out];omega
 have cJ:(ks.drop k).length=n - k:=by rw [Qr,HM.out]
 obtain ⟨fK,fD,dQ,dG⟩:=Py eJ eD cN cJ
 clear dV N dW dX eI eJ eD cN cJ A
 rcases cY with ⟨y,hy,hc⟩ | hkn
 focus
  have aD:k<n:=by have:=(Qj hy).1;have:=HN.out;omega
  have eE:(0:Int)<=(k:Int):=Oa
  have eF:(k:Int)<(n:Int):=Oa
  have bV:decide (k<n)=true:=by simpa using aD
  obtain ⟨b,eU,rfl,eN,-⟩:=(bJ.out.below aR.out).str hy
  have hq:Op.bytesLess y name=false:=by rw [(Vc y name).1];simpa using hc
  clear hc hy aD
  go_upto_region 5 with fail
  clear hq eN eE eF bV
  obtain ⟨p3,dB⟩:∃ q:Option Addr,some (⟨b,eU,none⟩:Addr)=q:=⟨_,rfl⟩
  rw [dB] at bN bJ
  simp only [dB] at eK eL c3
  clear dB
 rotate_left
 focus
  have bV:decide (k<n)=false:=by simp;omega
  clear hkn
  go_upto_region 5 with fail
  clear bV
 all_goals
  generalize cW:I.alloc _=G
  have aO:=eqB cW (Zb _ _)
  have bS:=eqH (b:=I.heap.size) cW (Qw _ _)
  clear cW
  have fP:=kB aO bN.out
  have cK:=Z3 bS
  have aE:=Qq aO;have fF:=Qq bS
  have cO:=rA3 bS
  have fL:=Qq dC;have fM:=Qq dD
  have J:=Qq (fun w' (h:Below I I w') (hz:G<=w'.heap.size)=>(show (fun w'=>Oi w' w 3 (.slice p3 n k3)/\G<=w'.heap.size/\Below I I w') w' from ⟨Qk _ _ 3 _ _ _ (kB h bN.out),hz,h⟩))
  have bG:=Qq (fun w' o (h:(fun w'=>Oi w' w 3 (.slice p3 n k3)/\G<=w'.heap.size/\Below I I w') w')=>J.out (w'.alloc o) (h.2.2.alloc h.2.2.size o) (by have:=h.2.1;simp;omega))
  have bM:=Qq (fun w' v (h:(fun w'=>Oi w' w 3 (.slice p3 n k3)/\G<=w'.heap.size/\Below I I w') w')=>J.out (w'.setCell ⟨I,3,none⟩ v) (h.2.2.setCell (p:=⟨I,3,none⟩) (Q4 _) v) (by have:=h.2.1;simpa using this))
  have bK:=Qq (J.out G.drew aO.drew (Q4 _))
  have bL:=Qq (fun o=>J.out (G.alloc o).drew (aO.thn (Zb _ o)).drew (Zb _ o).size)
  have aG:=Qq (show Below G G G.drew from (Qz _ _).drew)
  have aH:=Qq (show Below G G (G.alloc (.cells #[name] 9 (0,0))).drew from (Zb _ _).drew)
  have aA:∀ w',Below G G w'->Below w w w':=fun w' h=>(aR.out.thn aO).thn h
  have aL:=Qq (fun w' (h:Below G G w')=>(fJ.out.below (aA w' h)).mono (S':=But (fun b=>(S b/\b<w)\/w<=b) (.slice none 0 0)) (fun b _ hb=>⟨.inl hb,fun e=>by cases e⟩))
  have bO:=Qq (fun w' v (h:Below G G w') (hv:∀ g,v.ownBlock=some g->G.heap.size<=g/\g<w'.heap.size)=>(dN.out.below (aA w' h)).mono (S':=But (fun b=>(S b/\b<w)\/w<=b) v) (fun b _ hb=>⟨.inl hb,fun e=>by have h1:=(hv b e.symm).1;have h2:=hb.2;have h3:=aZ.out;omega⟩))
  have fR:w.heap.size<=G.heap.size:=Ob aZ.out
  have aI:=Qq (fun (w':World) (v:Value) (b:Nat) (hb:w'.heap[b]?=some (Obj.cells #[name] 9 (0,0))) (h:G<=b) (hv:some b≠v.ownBlock)=>Bv (S:=But (fun b=>(S b/\b<w)\/w<=b) v) hb ⟨.inr (Q7 fR h),hv⟩ hnm)
  have bB:0+(ns.take k).length=k:=by rw [fK.out];omega
  have bC:k+[name].length=k+1:=rfl
  have bD:k+1+(ns.drop k).length=n+1:=by rw [fD.out];omega
  obtain ⟨aJ,aK,bI⟩:=Px bB bC bD
  clear aO bS fP aA c0 c1 c2 c3 c4 dC dD bB bC bD
  go_cut [7] from 28 to 43 (fun t7 wx=>t7=.int .i64 k/\PutMid I G (n+1) (Yt ns k name) tn wx)
  case first=>
   refine veil1 ?_
   have dE:∀ o,Bx o=o:=fun _=>rfl
   go_region_held3 (fun w'=>Oi w' w 3 (.slice p3 n k3)/\G<=w'.heap.size/\Below I I w') (first | with_reducible exact bK.out | with_reducible exact N | with_reducible exact bL.out _ | with_reducible exact bG.out _ _ N | with_reducible exact bM.out _ _ N)
    (first
     | (refine Xj (r:=Zi) Of Vm Oe (.tmp 29) (.tmp 33) 46 Oe 9 i9 (.string ⟨#[]⟩) 16 underlying46 HS.out aV.out aW.out aX.out rfl Oa (fun b=>(S b/\b<w)\/w<=b) G G.drew (.slice none 0 0) 0 [] Oe (Mk.nil aG.out) V1 (ns.take k) Oe (aL.out _ aG.out) k aJ.out Oa ?_;intro p5 c5 w5 L T;have N:=J.out w5 (aE.out.trans (L.below.mono Oa)) L.below.size;have O:=Qq L;clear L T)
     | (refine Xj (r:=Zi) Of Vm Oe (.tmp 29) (.tmp 33) 46 Oe 9 i9 (.string ⟨#[]⟩) 16 underlying46 HS.out aV.out aW.out aX.out rfl Oa (fun b=>(S b/\b<w)\/w<=b) G (G.alloc (.cells #[name] 9 (0,0))).drew (.slice none 0 0) 0 [] Oe (Mk.nil aH.out) V1 (ns.take k) Oe (aL.out _ aH.out) k aJ.out Oa ?_;intro p5 c5 w5 L T;have N:=J.out w5 (aE.out.trans (L.below.mono Oa)) L.below.size;have cS:=Qq ((T.other G Od (fun e=>by cases e)).trans (show (G.alloc (.cells #[name] 9 (0,0))).heap[G.heap.size]?=_ from Qw _ _));have cR:=Qq (show some G.heap.size≠(Value.slice p5 k c5).ownBlock from fun e=>by rcases T.at' with h | ⟨g,h,h'⟩;(rw [h] at e;cases e);(rw [h] at e;have e':=Q6 e;simp at h';omega));have O:=Qq L;clear L T)
     | (refine Xj (r:=Zi) Of Vm Oe (.tmp 34) (.tmp 36) 46 Oe 9 i9 (.string ⟨#[]⟩) 16 underlying46 HS.out aV.out aW.out aX.out rfl Oa (fun b=>(S b/\b<w)\/w<=b) G w5 (.slice p5 k c5) k ([]++ns.take k) Oe O.out (.slice (some ⟨G,0,none⟩) 1 1) [name] Oe (aI.out _ _ _ cS.out (Q4 _) cR.out) (k+1) aK.out Oa ?_;intro p6 c6 w6 M aB;have N:=J.out w6 (aE.out.trans (M.below.mono Oa)) M.below.size;have V:=Qq M;clear M aB)
     | (refine Xj (r:=Zi) Of Vm Oe (.tmp 34) (.tmp 36) 46 Oe 9 i9 (.string ⟨#[]⟩) 16 underlying46 HS.out aV.out aW.out aX.out rfl Oa (fun b=>(S b/\b<w)\/w<=b) G (w5.alloc (.cells #[name] 9 (0,0))) (.slice p5 k c5) k ([]++ns.take k) Oe (O.out.grow (Zb _ _)) (.slice (some ⟨w5,0,none⟩) 1 1) [name] Oe (aI.out _ _ _ (Qw _ _) O.out.below.size (fun e=>Nat.lt_irrefl _ (O.out.lt _ e.symm).2)) (k+1) aK.out Oa ?_;intro p6 c6 w6 M aB;have N:=J.out w6 (aE.out.trans (M.below.mono Oa)) M.below.size;have V:=Qq M;clear M aB)
     | (refine Xj (r:=Zi) Of Vm Oe (.tmp 37) (.tmp 41) 46 Oe 9 i9 (.string ⟨#[]⟩) 16 underlying46 HS.out aV.out aW.out aX.out rfl Oa (fun b=>(S b/\b<w)\/w<=b) G w6 (.slice p6 (k+1) c6) (k+1) ([]++ns.take k++[name]) Oe V.out V2 (ns.drop k) Oe (bO.out _ _ V.out.below V.out.lt) (n+1) bI.out Oa ?_;intro p7 c7 w7 U cU;have N:=J.out w7 (aE.out.trans (U.below.mono Oa)) U.below.size;have r7:=kE U.below cK fF.out;have f7:=fA 3 r7;have k7:=rA3 r7;have cQ:=Qq r7;have cP:=Qq U;clear U cU r7))
   all_goals
    go_wp2_with fail
    go_meet
    obtain ⟨css7,Y,cZ,bR⟩:=cP.out
    have fO:Own Zi 9 (fun _=>False) G w7 (.slice p7 (n+1) c7) ([]++ns.take k++[name]++ns.drop k) css7:=⟨Y.row,⟨Y.cs.len,fun i c x hc hx=>Y.cs.R i c x hc hx⟩⟩
    refine ⟨rfl,p7,c7,?_,Y.cap.2,?_,(show Below I G w7 from bR.mono (Nat.le_of_lt cK)).setCell (p:=⟨I,3,none⟩) (Q4 _) _⟩
    ·rw [Qd _ _ _ _ _ _ cQ.out];rfl
    have h9:=(fO.sl (S':=fun b=>G<=b) (by rw [cZ];omega) (fun b hb=>hb) (fun b _ h=>h.elim)).frame (w':=w7.setCell ⟨I,3,none⟩ (.slice p7 (n+1) c7)) (fun b hb _=>Z4 (by have:G.heap.size<=b:=hb;show b≠I;omega))
    have e9:[]++ns.take k++[name]++ns.drop k=Yt ns k name:=by unfold Yt;simp
    rw [e9] at h9
    exact h9
  obtain ⟨rfl,pn,cn,bT,eC,eH,eA⟩:=hcut
  obtain ⟨D,rfl⟩:∃ D,D=wc:=⟨_,rfl⟩
  have cL:=Z3 bT
  have Z:Below I I D:=aE.out.trans eA
  obtain ⟨aF,fG,dJ,fC⟩:=Py Z bT eH eC
  have cO:=rA4 bT
  clear J bG bM bK bL aG aH aL bO aI aJ aK bI
  have J:=Qq (fun w' (h:Below I I w') (hz:D<=w'.heap.size)=>(show (fun w'=>Oi w' w 4 (.slice p4 n k4)/\Pa w' (w+1) xk (.string xs) xn (.slice q3 m3 l3) (.slice q4 m4 l4) (D<=w'.heap.size/\Below I I w')) w' from ⟨Qk _ _ 4 _ _ _ (kB h bN.out),Qk _ _ 0 _ _ _ (kB h aY.out),Qk _ _ 1 _ _ _ (kB h aY.out),Qk _ _ 2 _ _ _ (kB h aY.out),Qk _ _ 3 _ _ _ (kB h aY.out),Qk _ _ 4 _ _ _ (kB h aY.out),hz,h⟩))
  have bG:=Qq (fun w' o (h:(fun w'=>Oi w' w 4 (.slice p4 n k4)/\Pa w' (w+1) xk (.string xs) xn (.slice q3 m3 l3) (.slice q4 m4 l4) (D<=w'.heap.size/\Below I I w')) w')=>J.out (w'.alloc o) (h.2.2.2.2.2.2.2.alloc h.2.2.2.2.2.2.2.size o) (by have:=h.2.2.2.2.2.2.1;simp;omega))
  have bM:=Qq (fun w' v (h:(fun w'=>Oi w' w 4 (.slice p4 n k4)/\Pa w' (w+1) xk (.string xs) xn (.slice q3 m3 l3) (.slice q4 m4 l4) (D<=w'.heap.size/\Below I I w')) w')=>J.out (w'.setCell ⟨I,4,none⟩ v) (h.2.2.2.2.2.2.2.setCell (p:=⟨I,4,none⟩) (Q4 _) v) (by have:=h.2.2.2.2.2.2.1;simpa using this))
  have bK:=Qq (J.out D.drew Z.drew (Q4 _))
  have bL:=Qq (fun o=>J.out (D.alloc o).drew (Z.thn (Zb _ o)).drew (Zb _ o).size)
  have aG:=Qq (show Below D D D.drew from (Qz _ _).drew)
  have aH:=Qq (show Below D D (D.alloc (.cells #[xk,.string xs,xn,.slice q3 m3 l3,.slice q4 m4 l4] 65 (0,0))).drew from (Zb _ _).drew)
  have fU:w.heap.size<=D.heap.size:=Ob aZ.out
  have aA:∀ w',Below D D w'->Below w w w':=fun w' h=>(aR.out.thn Z).thn h
  have aL:=Qq (fun w' (h:Below D D w')=>(dO.out.below (aA w' h)).mono (S':=But (fun b=>(S b/\b<w)\/D<=b) (.slice none 0 0)) (fun b _ hb=>⟨.inl hb,fun e=>by cases e⟩))
  have bO:=Qq (fun (w':World) (v:Value) (h:Below D D w') (hv:∀ g,v.ownBlock=some g->D.heap.size<=g/\g<w'.heap.size)=>(dP.out.below (aA w' h)).mono (S':=But (fun b=>(S b/\b<w)\/D<=b) v) (fun b _ hb=>⟨.inl hb,fun e=>by have h1:=(hv b e.symm).1;have h2:=hb.2;omega⟩))
  have aI:=Qq (fun (w':World) (v:Value) (b:Nat) (h':Below D D w') (hb:w'.heap[b]?=some (Obj.cells #[xk,.string xs,xn,.slice q3 m3 l3,.slice q4 m4 l4] 65 (0,0))) (h:D<=b) (hv:some b≠v.ownBlock) (hvv:∀ g,v.ownBlock=some g->D.heap.size<=g/\g<w'.heap.size)=>sl_ty1 (S:=But (fun b=>(S b/\b<w)\/D<=b) v) hb ⟨.inr h,hv⟩ ((fN.out.move (.of_below (aA w' h')) (fun c _ hc=>⟨.inl hc,fun e=>by have h1:=(hvv c e.symm).1;have h2:=hc.2;omega⟩))))
  have bB:0+(ks.take k).length=k:=by rw [dQ.out];omega
  have bC:k+[x].length=k+1:=rfl
  have bD:k+1+(ks.drop k).length=n+1:=by rw [dG.out];omega
  obtain ⟨aJ,aK,bI⟩:=Px bB bC bD
  clear bT eC eH eA Z aA bB bC bD
  have dC:=fL.out;have dD:=fM.out
  clear eK eL
  go_upto_region 6 with fail
  refine veil1 ?_
  have dE:∀ o,Bx o=o:=fun _=>rfl
  go_region_held3 (fun w'=>Oi w' w 4 (.slice p4 n k4)/\Pa w' (w+1) xk (.string xs) xn (.slice q3 m3 l3) (.slice q4 m4 l4) (D<=w'.heap.size/\Below I I w')) (first | with_reducible exact bK.out | with_reducible exact N | with_reducible exact bL.out _ | with_reducible exact bG.out _ _ N | with_reducible exact bM.out _ _ N)
   (first
    | (refine Xj (r:=Vf) Of Ju Oe (.tmp 45) (.tmp 49) 63 Oe 65 i0 (.agg zY) 80 underlying63 HJ.out aS.out aT.out aU.out rfl Oa (fun b=>(S b/\b<w)\/D<=b) D D.drew (.slice none 0 0) 0 [] Oe (Mk.nil aG.out) V3 (ks.take k) Oe (aL.out _ aG.out) k aJ.out Oa ?_;intro p5 c5 w5 L T;have N:=J.out w5 (aF.out.trans (L.below.mono Oa)) L.below.size;have O:=Qq L;clear L T)
    | (refine Xj (r:=Vf) Of Ju Oe (.tmp 45) (.tmp 49) 63 Oe 65 i0 (.agg zY) 80 underlying63 HJ.out aS.out aT.out aU.out rfl Oa (fun b=>(S b/\b<w)\/D<=b) D (D.alloc (.cells #[xk,.string xs,xn,.slice q3 m3 l3,.slice q4 m4 l4] 65 (0,0))).drew (.slice none 0 0) 0 [] Oe (Mk.nil aH.out) V3 (ks.take k) Oe (aL.out _ aH.out) k aJ.out Oa ?_;intro p5 c5 w5 L T;have N:=J.out w5 (aF.out.trans (L.below.mono Oa)) L.below.size;have cS:=Qq ((T.other D Od (fun e=>by cases e)).trans (show (D.alloc (.cells #[xk,.string xs,xn,.slice q3 m3 l3,.slice q4 m4 l4] 65 (0,0))).heap[D.heap.size]?=_ from Qw _ _));have cR:=Qq (show some D.heap.size≠(Value.slice p5 k c5).ownBlock from fun e=>by rcases T.at' with h | ⟨g,h,h'⟩;(rw [h] at e;cases e);(rw [h] at e;have e':=Q6 e;simp at h';omega));have O:=Qq L;clear L T)
    | (refine Xj (r:=Vf) Of Ju Oe (.tmp 50) (.tmp 52) 63 Oe 65 i0 (.agg zY) 80 underlying63 HJ.out aS.out aT.out aU.out rfl Oa (fun b=>(S b/\b<w)\/D<=b) D w5 (.slice p5 k c5) k ([]++ks.take k) Oe O.out (.slice (some ⟨D,0,none⟩) 1 1) [x] Oe (aI.out _ _ _ O.out.below cS.out (Q4 _) cR.out O.out.lt) (k+1) aK.out Oa ?_;intro p6 c6 w6 M aB;have N:=J.out w6 (aF.out.trans (M.below.mono Oa)) M.below.size;have V:=Qq M;clear M aB)
    | (refine Xj (r:=Vf) Of Ju Oe (.tmp 50) (.tmp 52) 63 Oe 65 i0 (.agg zY) 80 underlying63 HJ.out aS.out aT.out aU.out rfl Oa (fun b=>(S b/\b<w)\/D<=b) D (w5.alloc (.cells #[xk,.string xs,xn,.slice q3 m3 l3,.slice q4 m4 l4] 65 (0,0))) (.slice p5 k c5) k ([]++ks.take k) Oe (O.out.grow (Zb _ _)) (.slice (some ⟨w5,0,none⟩) 1 1) [x] Oe (aI.out _ _ _ (O.out.below.thn (Zb _ _)) (Qw _ _) O.out.below.size (fun e=>Nat.lt_irrefl _ (O.out.lt _ e.symm).2) (O.out.grow (Zb _ _)).lt) (k+1) aK.out Oa ?_;intro p6 c6 w6 M aB;have N:=J.out w6 (aF.out.trans (M.below.mono Oa)) M.below.size;have V:=Qq M;clear M aB)
    | (refine Xj (r:=Vf) Of Ju Oe (.tmp 53) (.tmp 57) 63 Oe 65 i0 (.agg zY) 80 underlying63 HJ.out aS.out aT.out aU.out rfl Oa (fun b=>(S b/\b<w)\/D<=b) D w6 (.slice p6 (k+1) c6) (k+1) ([]++ks.take k++[x]) Oe V.out V4 (ks.drop k) Oe (bO.out _ _ V.out.below V.out.lt) (n+1) bI.out Oa ?_;intro p7 c7 w7 U cU;have N:=J.out w7 (aF.out.trans (U.below.mono Oa)) U.below.size;have r7:=kE U.below cL fG.out;have f7:=fA 4 r7;have k7:=rA4 r7;have cQ:=Qq r7;have cP:=Qq U;clear U cU r7))
  all_goals
   obtain ⟨W8,aN⟩:=eX (w7.setCell ⟨I,4,none⟩ (.slice p7 (n+1) c7))
   rw [aN]
   obtain ⟨css7,Y,cZ,bR⟩:=cP.out
   have dT:W8.heap[I.heap.size]?=some (.cells #[.int .i64 5,Oo,tn,.slice pn (n+1) cn,.slice p7 (n+1) c7] 65 (0,0)):=by rw [<- aN,Qd _ _ _ _ _ _ cQ.out];rfl
   have dA:∀ b,b≠I.heap.size->W8.heap[b]?=w7.heap[b]?:=fun b hb=>by rw [<- aN];exact Z4 hb
   have cI:Below I I w7:=aF.out.trans (bR.mono (Nat.le_of_lt cL))
   have cX:Below I I W8:=by rw [<- aN];exact cI.setCell (p:=⟨I,4,none⟩) (Q4 _) _
   have bU:=kB cX fI.out
   have fT:W8.heap.size=w7.heap.size:=by rw [<- aN];simp [World.setCell]
   have cM:Sl Zi (fun b=>G<=b) W8 (.slice pn (n+1) cn) (Yt ns k name):=(dJ.out.below bR).frame (fun b hb _=>dA b (by have:G.heap.size<=b:=hb;omega))
   have e9:[]++ks.take k++[x]++ks.drop k=Yt ks k x:=by unfold Yt;simp
   have bA:=(Y.sl (S':=fun b=>(S b/\b<w)\/D<=b) (by rw [cZ];omega) (fun b hb=>.inr hb) (fun b _ h=>h)).frame (w':=W8) (fun b hb _=>dA b (by have:=aZ.out;rcases hb with h | h;exact (by have:=h.2;omega);omega))
   rw [e9] at bA
   have eB:=Y.cap.2
   obtain ⟨fB,dL,dK,dI⟩:=Py cX bU cM bA
   obtain ⟨e0,e1,e2,e3,e4⟩:=row5 dT
   obtain ⟨r0,r1,r2,r3,r4⟩:=row5 bU
   obtain ⟨f0,f1,f2,f3,f4⟩:=frz5 bU
   clear aN dA dT cI cX bU cM bA Y e9
   go_wp2_with fail
   show bodyPost _ _ _ _ _ (Zn W8 (w+1+1) (.int .i64 5) Oo tn (.slice pn (n+1) cn) (.slice p7 (n+1) c7))
   refine Q2 (v:=.agg #[.int .i64 5,Oo,tn,.slice pn (n+1) cn,.slice p7 (n+1) c7]) (by simp [results,results52,go_sem,Z8 dL.out]) rfl ⟨pn,cn,p7,c7,rfl,fC.out,eB,?_,Z7 (aR.out.thn fB.out) Oa⟩
   rw [show putT tn ns ks name x=.mk 5 [] tn (Yt ns k name) (Yt ks k x) from by unfold putT;rw [fH.out]]
   have dF:=aZ.out
   refine Ub (s:=[]) Od ?_ ?_
   ·exact (dK.out.frame (fun b hb _=>Za (by have:G.heap.size<=b:=hb;omega))).mono (fun b _ hb=>.inr (by have:G.heap.size<=b:=hb;omega))
   refine (dI.out.frame (fun b hb _=>Za (by rcases hb with h | h;exact (by have:=h.2;omega);omega))).mono (fun b _ hb=>?_)
   rcases hb with h | h
   ·exact .inl h.1
   exact .inr Oa
end Go.Proofs.YtlanplhphiikjaaGreatDoor

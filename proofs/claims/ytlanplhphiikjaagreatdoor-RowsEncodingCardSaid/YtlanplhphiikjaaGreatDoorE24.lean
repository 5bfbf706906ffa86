import Derived.Test.YtlanplhphiikjaaGreatDoorE14
import Derived.Test.YtlanplhphiikjaaGreatDoorE13
set_option maxRecDepth 100000
set_option maxHeartbeats 400000000
namespace Go.Proofs.YtlanplhphiikjaaGreatDoor
open Go.RowKit Go.Shelf Go.Lib Tryz
section
variable {P:Program} {T:Type}
theorem Qqn {r:Rd T} (hk:0<r.k) (h1:∀ S w cs x,r.R S w cs x->∀ u ∈ cs,u.oneCell'=true) {ops:Array Oper} {o:Oper} {a:Act} {K:Act->World->Prop} {Q:Exit->Act->World->Prop} {X:Prop} (hgd:o.guard=none) (s x:Operand) (t:TypeId)
  (ho:o.op=.call { callee:=.builtin .append,args:=#[s,x],argTypes:=#[t,t] }) (E:TypeId) (i:TypeInfo) (z:Value) (bytes:Nat) (ht:P.underlying t=some (.slice E)) (hi:P.info? E=some i) (hz:i.zero=some z)
  (hsize:i.size=r.k) (hby:i.bytes=bytes) (hzs:z.cells.size=r.k) (hb1:bytes<=1000) (S:Nat->Prop) (B:Nat) (w:World) (v:Value) (xs:List T) (css:List (List Value)) (hs:a.eval s=v)
  (hO:Own r E S B w v xs css) (v2:Value) (ys:List T) (hx:a.eval x=v2) (hY:Sl r (But S v) w v2 ys) (n:Nat) (hn:xs.length+ys.length=n) (hl:n<=1000000) (hB:B<=w)
  (h:∀ p cap A D,Own r E S B D (.slice p n cap) (xs++ys) A->Fg B w D v (.slice p n cap)->K (a.put o.dst (.slice p n cap)) D):
  if Region.wanted o (yielded ops a.tmps)=true then Oper.wp P o a w K Q else X:=by
 subst hn
 obtain ⟨q,c,rfl,_⟩:=hY.len
 have hv:∀ g,v.ownBlock=some g->B<=g:=fun g hg=>(hO.row.lt g hg).1
 exact Re (r:=r) hk hgd s x t ho E i z bytes ht hi hz hsize hby hzs hb1 S B w v xs css ys q ys.length c hs hO hx hY h1 hl hB (fun p cap A D h2 h3 h4=>h p cap A D h2 (M8 h3 hv hB h4))
def veil (o:Oper):Oper:=o
theorem veil1 {id:Nat} {b:Bool} {Q:Exit->Act->World->Prop} {a:Act} {w:World} {o0 o:Oper} {l:List Oper} (h:(Code.region id (List.toArray (o0::veil o::l)) b).wp P Q a w):(Code.region id (List.toArray (o0::o::l)) b).wp P Q a w:=h
def Mk (r:Rd T) (E:TypeId) (S0:Nat->Prop) (W0 w:World) (v:Value) (n:Nat) (xs:List T):Prop:=∃ css,Own r E S0 W0 w v xs css/\xs.length=n/\Below W0 W0 w
theorem Mk.nil {r:Rd T} {E:TypeId} {S0:Nat->Prop} {W0 w:World} (h:Below W0 W0 w):Mk r E S0 W0 w (.slice none 0 0) 0 []:=⟨[],Own.nil _ _ _ _ _,rfl,h⟩
theorem Mk.grow {r:Rd T} {E:TypeId} {S0:Nat->Prop} {W0 w w':World} {v:Value} {n:Nat} {xs:List T} (h:Mk r E S0 W0 w v n xs) (hb:Below w w w'):Mk r E S0 W0 w' v n xs:=
 let ⟨css,h1,h2,h3⟩:=h;⟨css,h1.below hb,h2,h3.thn hb⟩
theorem Mk.below {r:Rd T} {E:TypeId} {S0:Nat->Prop} {W0 w:World} {v:Value} {n:Nat} {xs:List T} (h:Mk r E S0 W0 w v n xs):Below W0 W0 w:=let ⟨_,_,_,h3⟩:=h;h3
theorem Mk.lt {r:Rd T} {E:TypeId} {S0:Nat->Prop} {W0 w:World} {v:Value} {n:Nat} {xs:List T} (h:Mk r E S0 W0 w v n xs):∀ g,v.ownBlock=some g->W0.heap.size<=g/\g<w.heap.size:=let ⟨_,h1,_,_⟩:=h;fun g e=>h1.row.lt g e
theorem Xt {r:Rd T} (hk:0<r.k) (h1:∀ S w cs x,r.R S w cs x->∀ u ∈ cs,u.oneCell'=true) {ops:Array Oper} {o:Oper} {a:Act} {K:Act->World->Prop} {Q:Exit->Act->World->Prop} {X:Prop} (hgd:o.guard=none) (s x:Operand) (t:TypeId)
  (ho:o.op=.call { callee:=.builtin .append,args:=#[s,x],argTypes:=#[t,t] }) (E:TypeId) (i:TypeInfo) (z:Value) (bytes:Nat) (ht:P.underlying t=some (.slice E)) (hi:P.info? E=some i) (hz:i.zero=some z)
  (hsize:i.size=r.k) (hby:i.bytes=bytes) (hzs:z.cells.size=r.k) (hb1:bytes<=1000) (S0:Nat->Prop) (W0 w:World) (v:Value) (n:Nat) (xs:List T) (hs:a.eval s=v)
  (hM:Mk r E S0 W0 w v n xs) (v2:Value) (ys:List T) (hx:a.eval x=v2) (hY:Sl r (But S0 v) w v2 ys) (m:Nat) (hm:n+ys.length=m) (hl:m<=1000000)
  (h:∀ p cap D,Mk r E S0 W0 D (.slice p m cap) m (xs++ys)->Fg W0 w D v (.slice p m cap)->K (a.put o.dst (.slice p m cap)) D):
  if Region.wanted o (yielded ops a.tmps)=true then Oper.wp P o a w K Q else X:=by
 obtain ⟨css,hO,hn,hB⟩:=hM
 subst hn
 exact Qqn hk h1 hgd s x t ho E i z bytes ht hi hz hsize hby hzs hb1 S0 W0 w v xs css hs hO v2 ys hx hY m hm hl hB.size (fun p cap A D h2 h3=>h p cap D ⟨A,h2,by rw [Ql];exact hm,hB.trans h3.below⟩ h3)
end
theorem B0:∀ S w cs x,Jo.R S w cs x->∀ u ∈ cs,u.oneCell'=true:=fun S w cs x h=>ty_one (show Xc S w cs x from h)
theorem Ci {S:Nat->Prop} {w:World} {b:Nat} {x:Bs} (hb:w.heap[b]?=some (.cells #[x] 9 (0,0))) (hS:S b) (hl:x.length<=1000000):Sl Zg S w (.slice (some ⟨b,0,none⟩) 1 1) [x]:=
 Y2 hb hS (Cs.one (r:=Zg) (show Zg.R S w [x] x from ⟨rfl,hl⟩)) rfl rfl Qxz
theorem sl_ty1 {S:Nat->Prop} {w:World} {b:Nat} {k n:Int} {s:ByteArray} {v3 v4:Value} {x:Ty} (hb:w.heap[b]?=some (.cells #[k,.string s,n,v3,v4] 65 (0,0))) (hS:S b) (hx:Xc S w [k,.string s,n,v3,v4] x):Sl Jo S w (.slice (some ⟨b,0,none⟩) 1 1) [x]:=
 Y2 hb hS (Cs.one (r:=Jo) hx) rfl rfl Qxz
def putT (n:Int) (ns:List Bs) (ks:List Ty) (name:Bs) (x:Ty):Ty:=.mk 5 [] n (X5 ns (below ns name) name) (X5 ks (below ns name) x)
def PutTIs (S:Nat->Prop) (w:World) (u:Ty) (m:Nat) (n:Int) (e:Ending) (w':World):Prop:=∃ p3 k3 p4 k4,e=.returned (.agg #[.int .i64 5,Qxd,n,.slice p3 m k3,.slice p4 m k4])/\m<=k3/\m<=k4/\Xc (fun b=>S b\/w<=b) w' [.int .i64 5,Qxd,n,.slice p3 m k3,.slice p4 m k4] u/\Below w w w'
def PutMid (W1s:Nat) (W2:World) (m:Nat) (xs:List Bs) (tn:Int) (wx:World):Prop:=∃ p cap,wx.heap[W1s]?=some (.cells #[.int .i64 5,Qxd,tn,.slice p m cap,Qxe] 65 (0,0))/\m<=cap/\Sl Zg (fun b=>W2<=b) wx (.slice p m cap) xs/\Below W1s W2 wx
theorem Qjm (S:Nat->Prop) (tk:Int) (ts:ByteArray) (tn:Int) (ns:List Bs) (ks:List Ty) (n:Nat) (p3:Option Addr) (k3:Nat) (p4:Option Addr) (k4:Nat) (name:Bs) (x:Ty) (cx:List Value) (w:World) (hn0:Sl Zg S w (.slice p3 n k3) ns) (hk0:Sl Jo S w (.slice p4 n k4) ks) (hnn:ns.length=n) (hkn:ks.length=n) (hx0:Xc S w cx x) (hc3:n<=k3) (hc4:n<=k4) (hl1:n<=1000) (hnm:name.length<=1000000):
  Calls prog 52 #[.agg #[tk,.string ts,tn,.slice p3 n k3,.slice p4 n k4],sv name,cx] w (PutTIs S w (putT tn ns ks name x) (n+1) tn):=by
 have hn:=hn0.up
 have hk:=hk0.up
 have hx:Xc (fun b=>S b/\b<w) w cx x:=hx0.move (.refl _ _) (fun b hb h=>⟨h,hb⟩)
 obtain ⟨xk,xs,xn,q3,m3,l3,q4,m4,l4,fS⟩:=Xc.cells hx
 subst fS
 obtain ⟨bL,fG,fP,HN,HM⟩:=Qxp hn hk hx hnn hkn
 have fU:below ns name<=n:=by rw [<- hnn];exact Sg _ _
 clear hn0 hk0 hx0 hn hk hx hnn hkn
 obtain ⟨i0,j1,j2,j3,j4⟩:=Y4 (P:=prog) (t:=65) (z:=.agg zY) (n:=5) (b:=80) Qxx
 obtain ⟨HJ,aU,aV,aW⟩:=Qxo j1 j2 j3 j4
 clear j1 j2 j3 j4
 obtain ⟨i9,j1,j2,j3,j4⟩:=Y4 (P:=prog) (t:=9) (z:=.string ⟨#[]⟩) (n:=1) (b:=16) Qxx
 obtain ⟨HS,aX,aY,aZ⟩:=Qxo j1 j2 j3 j4
 clear j1 j2 j3 j4
 unfold sv
 go_enter func52,ntmps52
 go_wp2_with fail
 generalize aO:((w.alloc _).alloc _).alloc _=J
 have eC:=eqB aO (U8 _ _ _ _)
 have cY:=eqH (b:=w.heap.size) aO (Yc _ _ _ _)
 have eB:=eqH (b:=w.heap.size+1) aO (Y8 _ _ _ _)
 have dX:=eqH (b:=w.heap.size+1+1) aO (Yz _ _ _ _)
 have dI:J=w.heap.size+3:=by rw [<- aO];simp
 obtain ⟨aT,bP,bA,fK,bB⟩:=Qxp eC cY eB dX dI
 obtain ⟨c0,c1,c2,c3,c4⟩:=row5 cY
 clear aO eC cY eB dX dI
 go_loop [7] (fun i=>∃ k:Nat,k<=n/\i=.int .i64 k/\Aside (∀ (j:Nat) (y:Bs),j<k->ns[j]?=some y->Yg y name<0)) (fun i=>n - (intOf i).toNat)
 case atStart=>exact ⟨0,Q8 _,rfl,fun j _ hj=>absurd hj (Z6 _)⟩
 obtain ⟨k,hk,rfl,A⟩:=hrel
 have dB:(∃ y,ns[k]?=some y/\Yg y name<0)\/(below ns name=k/\((∃ y,ns[k]?=some y/\¬ Yg y name<0)\/k=n)):=by
  by_cases aF:k<n
  ·obtain ⟨y,hy⟩:∃ y,ns[k]?=some y:=⟨_,Qx (by rw [HN.out];exact aF)⟩
   by_cases hc:Yg y name<0
   ·exact .inl ⟨y,hy,hc⟩
   exact .inr ⟨Gv A.out hy hc,.inl ⟨y,hy,hc⟩⟩
  have hkn:k=n:=Qvu
  refine .inr ⟨?_,.inr hkn⟩
  rw [hkn,<- HN.out]
  exact Bi (fun j z hz=>A.out j z (by have:=(Qj hz).1;have:=HN.out;omega) hz)
 rcases dB with ⟨y,hy,hc⟩ | ⟨eL,dB⟩
 ·have aF:k<n:=by have:=(Qj hy).1;have:=HN.out;omega
  have eH:(0:Int)<=(k:Int):=Qvu
  have eI:(k:Int)<(n:Int):=Qvu
  have bX:decide (k<n)=true:=by simpa using aF
  obtain ⟨b,off,rfl,eQ,-⟩:=(bL.out.below aT.out).str hy
  have hq:Op.bytesLess y name=true:=by rw [(Vc y name).1];simpa using hc
  have HC:=Qq hc;have HY:=Qq hy
  clear hc hy aF
  go_wp2_with fail
  go_round
  case measure=>simp [intOf];omega
  case rel=>
   refine ⟨k+1,Qvu,by go_num,(show Aside _ from fun j z hj hz=>?_)⟩
   by_cases e:j=k
   ·subst e
    have:=HY.out
    rw [this] at hz
    cases hz
    exact HC.out
   exact A.out j z Qvu hz
 obtain ⟨V1,V2,eN,eO,dY,T⟩:=Va (P:=prog) 46 9 underlying46 sizeOf9 bL.out (by rw [HN.out];exact ⟨_,_,rfl,hc3⟩) k (by rw [HN.out];exact hk)
 obtain ⟨V3,V4,dF,dG,dZ,eA⟩:=Va (P:=prog) 63 65 underlying63 sizeOf65 fG.out (by rw [HM.out];exact ⟨_,_,rfl,hc4⟩) k (by rw [HM.out];exact hk)
 obtain ⟨fL,dQ,dR,dS,fJ⟩:=Qxp dY T dZ eA eL
 have eM:(ns.take k).length=k:=by rw [Qm,HN.out];omega
 have eG:(ns.drop k).length=n - k:=by rw [Zq,HN.out]
 have cR:(ks.take k).length=k:=by rw [Qm,HM.out];omega
 have cM:(ks.drop k).length=n - k:=by rw [Zq,HM.out]
 obtain ⟨fM,fF,dT,dJ⟩:=Qxo eM eG cR cM
 clear dY T dZ eA eL eM eG cR cM A
 rcases dB with ⟨y,hy,hc⟩ | hkn
 focus
  have aF:k<n:=by have:=(Qj hy).1;have:=HN.out;omega
  have eH:(0:Int)<=(k:Int):=Qvu
  have eI:(k:Int)<(n:Int):=Qvu
  have bX:decide (k<n)=true:=by simpa using aF
  obtain ⟨b,off,rfl,eQ,-⟩:=(bL.out.below aT.out).str hy
  have hq:Op.bytesLess y name=false:=by rw [(Vc y name).1];simpa using hc
  clear hc hy aF
  go_upto_region 5 with fail
  clear hq eQ eH eI bX
  obtain ⟨p3,dE⟩:∃ q:Option Addr,some (⟨b,off,none⟩:Addr)=q:=⟨_,rfl⟩
  rw [dE] at bP bL
  simp only [dE] at eN eO c3
  clear dE
 rotate_left
 focus
  have bX:decide (k<n)=false:=by simp;omega
  clear hkn
  go_upto_region 5 with fail
  clear bX
 all_goals
  generalize cZ:J.alloc _=I
  have aQ:=eqB cZ (Ze _ _)
  have bU:=eqH (b:=J.heap.size) cZ (Qw _ _)
  clear cZ
  have fR:=kB aQ bP.out
  have cN:=Z8 bU
  have aG:=Qq aQ;have fH:=Qq bU
  have cO:=rA3 bU
  have fN:=Qq dF;have fO:=Qq dG
  have M:=Qq (fun w' (h:Below J J w') (hz:I<=w'.heap.size)=>(show (fun w'=>Qxw w' w 3 (.slice p3 n k3)/\I<=w'.heap.size/\Below J J w') w' from ⟨Qk _ _ 3 _ _ _ (kB h bP.out),hz,h⟩))
  have bI:=Qq (fun w' o (h:(fun w'=>Qxw w' w 3 (.slice p3 n k3)/\I<=w'.heap.size/\Below J J w') w')=>M.out (w'.alloc o) (h.2.2.alloc h.2.2.size o) (by have:=h.2.1;simp;omega))
  have bO:=Qq (fun w' v (h:(fun w'=>Qxw w' w 3 (.slice p3 n k3)/\I<=w'.heap.size/\Below J J w') w')=>M.out (w'.setCell ⟨J,3,none⟩ v) (h.2.2.setCell (p:=⟨J,3,none⟩) (Q9 _) v) (by have:=h.2.1;simpa using this))
  have bM:=Qq (M.out I.drew aQ.drew (Q9 _))
  have bN:=Qq (fun o=>M.out (I.alloc o).drew (aQ.thn (Ze _ o)).drew (Ze _ o).size)
  have aI:=Qq (show Below I I I.drew from (Qz _ _).drew)
  have aJ:=Qq (show Below I I (I.alloc (.cells #[name] 9 (0,0))).drew from (Ze _ _).drew)
  have aC:∀ w',Below I I w'->Below w w w':=fun w' h=>(aT.out.thn aQ).thn h
  have aN:=Qq (fun w' (h:Below I I w')=>(fL.out.below (aC w' h)).mono (S':=But (fun b=>(S b/\b<w)\/w<=b) (.slice none 0 0)) (fun b _ hb=>⟨.inl hb,fun e=>by cases e⟩))
  have bQ:=Qq (fun w' v (h:Below I I w') (hv:∀ g,v.ownBlock=some g->I.heap.size<=g/\g<w'.heap.size)=>(dQ.out.below (aC w' h)).mono (S':=But (fun b=>(S b/\b<w)\/w<=b) v) (fun b _ hb=>⟨.inl hb,fun e=>by have h1:=(hv b e.symm).1;have h2:=hb.2;have h3:=bB.out;omega⟩))
  have fT:w.heap.size<=I.heap.size:=Qxj bB.out
  have aK:=Qq (fun (w':World) (v:Value) (b:Nat) (hb:w'.heap[b]?=some (Obj.cells #[name] 9 (0,0))) (h:I<=b) (hv:some b≠v.ownBlock)=>Ci (S:=But (fun b=>(S b/\b<w)\/w<=b) v) hb ⟨.inr (Qc fT h),hv⟩ hnm)
  have bD:0+(ns.take k).length=k:=by rw [fM.out];omega
  have bE:k+[name].length=k+1:=rfl
  have bF:k+1+(ns.drop k).length=n+1:=by rw [fF.out];omega
  obtain ⟨aL,aM,bK⟩:=Qxn bD bE bF
  clear aQ bU fR aC c0 c1 c2 c3 c4 dF dG bD bE bF
  go_cut [7] from 28 to 43 (fun t7 wx=>t7=.int .i64 k/\PutMid J I (n+1) (X5 ns k name) tn wx)
  case first=>
   refine veil1 ?_
   have dH:∀ o,veil o=o:=fun _=>rfl
   go_region_held3 (fun w'=>Qxw w' w 3 (.slice p3 n k3)/\I<=w'.heap.size/\Below J J w') (first | with_reducible exact bM.out | with_reducible exact T | with_reducible exact bN.out _ | with_reducible exact bI.out _ _ T | with_reducible exact bO.out _ _ T)
    (first
     | (refine Xt (r:=Zg) Qxv Vq Qxk (.tmp 29) (.tmp 33) 46 Qxk 9 i9 (.string ⟨#[]⟩) 16 underlying46 HS.out aX.out aY.out aZ.out rfl Qvu (fun b=>(S b/\b<w)\/w<=b) I I.drew (.slice none 0 0) 0 [] Qxk (Mk.nil aI.out) V1 (ns.take k) Qxk (aN.out _ aI.out) k aL.out Qvu ?_;intro p5 c5 w5 N V;have T:=M.out w5 (aG.out.trans (N.below.mono Qvu)) N.below.size;have U:=Qq N;clear N V)
     | (refine Xt (r:=Zg) Qxv Vq Qxk (.tmp 29) (.tmp 33) 46 Qxk 9 i9 (.string ⟨#[]⟩) 16 underlying46 HS.out aX.out aY.out aZ.out rfl Qvu (fun b=>(S b/\b<w)\/w<=b) I (I.alloc (.cells #[name] 9 (0,0))).drew (.slice none 0 0) 0 [] Qxk (Mk.nil aJ.out) V1 (ns.take k) Qxk (aN.out _ aJ.out) k aL.out Qvu ?_;intro p5 c5 w5 N V;have T:=M.out w5 (aG.out.trans (N.below.mono Qvu)) N.below.size;have cV:=Qq ((V.other I Qxz (fun e=>by cases e)).trans (show (I.alloc (.cells #[name] 9 (0,0))).heap[I.heap.size]?=_ from Qw _ _));have cU:=Qq (show some I.heap.size≠(Value.slice p5 k c5).ownBlock from fun e=>by rcases V.at' with h | ⟨g,h,h'⟩;(rw [h] at e;cases e);(rw [h] at e;have e':=Qb e;simp at h';omega));have U:=Qq N;clear N V)
     | (refine Xt (r:=Zg) Qxv Vq Qxk (.tmp 34) (.tmp 36) 46 Qxk 9 i9 (.string ⟨#[]⟩) 16 underlying46 HS.out aX.out aY.out aZ.out rfl Qvu (fun b=>(S b/\b<w)\/w<=b) I w5 (.slice p5 k c5) k ([]++ns.take k) Qxk U.out (.slice (some ⟨I,0,none⟩) 1 1) [name] Qxk (aK.out _ _ _ cV.out (Q9 _) cU.out) (k+1) aM.out Qvu ?_;intro p6 c6 w6 O aD;have T:=M.out w6 (aG.out.trans (O.below.mono Qvu)) O.below.size;have Z:=Qq O;clear O aD)
     | (refine Xt (r:=Zg) Qxv Vq Qxk (.tmp 34) (.tmp 36) 46 Qxk 9 i9 (.string ⟨#[]⟩) 16 underlying46 HS.out aX.out aY.out aZ.out rfl Qvu (fun b=>(S b/\b<w)\/w<=b) I (w5.alloc (.cells #[name] 9 (0,0))) (.slice p5 k c5) k ([]++ns.take k) Qxk (U.out.grow (Ze _ _)) (.slice (some ⟨w5,0,none⟩) 1 1) [name] Qxk (aK.out _ _ _ (Qw _ _) U.out.below.size (fun e=>Nat.lt_irrefl _ (U.out.lt _ e.symm).2)) (k+1) aM.out Qvu ?_;intro p6 c6 w6 O aD;have T:=M.out w6 (aG.out.trans (O.below.mono Qvu)) O.below.size;have Z:=Qq O;clear O aD)
     | (refine Xt (r:=Zg) Qxv Vq Qxk (.tmp 37) (.tmp 41) 46 Qxk 9 i9 (.string ⟨#[]⟩) 16 underlying46 HS.out aX.out aY.out aZ.out rfl Qvu (fun b=>(S b/\b<w)\/w<=b) I w6 (.slice p6 (k+1) c6) (k+1) ([]++ns.take k++[name]) Qxk Z.out V2 (ns.drop k) Qxk (bQ.out _ _ Z.out.below Z.out.lt) (n+1) bK.out Qvu ?_;intro p7 c7 w7 Y cX;have T:=M.out w7 (aG.out.trans (Y.below.mono Qvu)) Y.below.size;have r7:=kE Y.below cN fH.out;have f7:=fA 3 r7;have k7:=rA3 r7;have cT:=Qq r7;have cS:=Qq Y;clear Y cX r7))
   all_goals
    go_wp2_with fail
    go_meet
    obtain ⟨cK,aA,dC,bT⟩:=cS.out
    have fQ:Own Zg 9 (fun _=>False) I w7 (.slice p7 (n+1) c7) ([]++ns.take k++[name]++ns.drop k) cK:=⟨aA.row,⟨aA.cs.len,fun i c x hc hx=>aA.cs.R i c x hc hx⟩⟩
    refine ⟨rfl,p7,c7,?_,aA.cap.2,?_,(show Below J I w7 from bT.mono (Nat.le_of_lt cN)).setCell (p:=⟨J,3,none⟩) (Q9 _) _⟩
    ·rw [Qi _ _ _ _ _ _ cT.out];rfl
    have h9:=(fQ.sl (S':=fun b=>I<=b) (by rw [dC];omega) (fun b hb=>hb) (fun b _ h=>h.elim)).frame (w':=w7.setCell ⟨J,3,none⟩ (.slice p7 (n+1) c7)) (fun b hb _=>Z9 (by have:I.heap.size<=b:=hb;show b≠J;omega))
    have e9:[]++ns.take k++[name]++ns.drop k=X5 ns k name:=by unfold X5;simp
    rw [e9] at h9
    exact h9
  obtain ⟨rfl,pn,cn,bV,eF,eK,eD⟩:=hcut
  obtain ⟨D,rfl⟩:∃ D,D=wc:=⟨_,rfl⟩
  have cP:=Z8 bV
  have aB:Below J J D:=aG.out.trans eD
  obtain ⟨aH,fI,dM,fE⟩:=Qxo aB bV eK eF
  have cO:=rA4 bV
  clear M bI bO bM bN aI aJ aN bQ aK aL aM bK
  have M:=Qq (fun w' (h:Below J J w') (hz:D<=w'.heap.size)=>(show (fun w'=>Qxw w' w 4 (.slice p4 n k4)/\Qyy w' (w+1) xk (.string xs) xn (.slice q3 m3 l3) (.slice q4 m4 l4) (D<=w'.heap.size/\Below J J w')) w' from ⟨Qk _ _ 4 _ _ _ (kB h bP.out),Qk _ _ 0 _ _ _ (kB h bA.out),Qk _ _ 1 _ _ _ (kB h bA.out),Qk _ _ 2 _ _ _ (kB h bA.out),Qk _ _ 3 _ _ _ (kB h bA.out),Qk _ _ 4 _ _ _ (kB h bA.out),hz,h⟩))
  have bI:=Qq (fun w' o (h:(fun w'=>Qxw w' w 4 (.slice p4 n k4)/\Qyy w' (w+1) xk (.string xs) xn (.slice q3 m3 l3) (.slice q4 m4 l4) (D<=w'.heap.size/\Below J J w')) w')=>M.out (w'.alloc o) (h.2.2.2.2.2.2.2.alloc h.2.2.2.2.2.2.2.size o) (by have:=h.2.2.2.2.2.2.1;simp;omega))
  have bO:=Qq (fun w' v (h:(fun w'=>Qxw w' w 4 (.slice p4 n k4)/\Qyy w' (w+1) xk (.string xs) xn (.slice q3 m3 l3) (.slice q4 m4 l4) (D<=w'.heap.size/\Below J J w')) w')=>M.out (w'.setCell ⟨J,4,none⟩ v) (h.2.2.2.2.2.2.2.setCell (p:=⟨J,4,none⟩) (Q9 _) v) (by have:=h.2.2.2.2.2.2.1;simpa using this))
  have bM:=Qq (M.out D.drew aB.drew (Q9 _))
  have bN:=Qq (fun o=>M.out (D.alloc o).drew (aB.thn (Ze _ o)).drew (Ze _ o).size)
  have aI:=Qq (show Below D D D.drew from (Qz _ _).drew)
  have aJ:=Qq (show Below D D (D.alloc (.cells #[xk,.string xs,xn,.slice q3 m3 l3,.slice q4 m4 l4] 65 (0,0))).drew from (Ze _ _).drew)
  have fW:w.heap.size<=D.heap.size:=Qxj bB.out
  have aC:∀ w',Below D D w'->Below w w w':=fun w' h=>(aT.out.thn aB).thn h
  have aN:=Qq (fun w' (h:Below D D w')=>(dR.out.below (aC w' h)).mono (S':=But (fun b=>(S b/\b<w)\/D<=b) (.slice none 0 0)) (fun b _ hb=>⟨.inl hb,fun e=>by cases e⟩))
  have bQ:=Qq (fun (w':World) (v:Value) (h:Below D D w') (hv:∀ g,v.ownBlock=some g->D.heap.size<=g/\g<w'.heap.size)=>(dS.out.below (aC w' h)).mono (S':=But (fun b=>(S b/\b<w)\/D<=b) v) (fun b _ hb=>⟨.inl hb,fun e=>by have h1:=(hv b e.symm).1;have h2:=hb.2;omega⟩))
  have aK:=Qq (fun (w':World) (v:Value) (b:Nat) (h':Below D D w') (hb:w'.heap[b]?=some (Obj.cells #[xk,.string xs,xn,.slice q3 m3 l3,.slice q4 m4 l4] 65 (0,0))) (h:D<=b) (hv:some b≠v.ownBlock) (hvv:∀ g,v.ownBlock=some g->D.heap.size<=g/\g<w'.heap.size)=>sl_ty1 (S:=But (fun b=>(S b/\b<w)\/D<=b) v) hb ⟨.inr h,hv⟩ ((fP.out.move (.of_below (aC w' h')) (fun c _ hc=>⟨.inl hc,fun e=>by have h1:=(hvv c e.symm).1;have h2:=hc.2;omega⟩))))
  have bD:0+(ks.take k).length=k:=by rw [dT.out];omega
  have bE:k+[x].length=k+1:=rfl
  have bF:k+1+(ks.drop k).length=n+1:=by rw [dJ.out];omega
  obtain ⟨aL,aM,bK⟩:=Qxn bD bE bF
  clear bV eF eK eD aB aC bD bE bF
  have dF:=fN.out;have dG:=fO.out
  clear eN eO
  go_upto_region 6 with fail
  refine veil1 ?_
  have dH:∀ o,veil o=o:=fun _=>rfl
  go_region_held3 (fun w'=>Qxw w' w 4 (.slice p4 n k4)/\Qyy w' (w+1) xk (.string xs) xn (.slice q3 m3 l3) (.slice q4 m4 l4) (D<=w'.heap.size/\Below J J w')) (first | with_reducible exact bM.out | with_reducible exact T | with_reducible exact bN.out _ | with_reducible exact bI.out _ _ T | with_reducible exact bO.out _ _ T)
   (first
    | (refine Xt (r:=Jo) Qxv B0 Qxk (.tmp 45) (.tmp 49) 63 Qxk 65 i0 (.agg zY) 80 underlying63 HJ.out aU.out aV.out aW.out rfl Qvu (fun b=>(S b/\b<w)\/D<=b) D D.drew (.slice none 0 0) 0 [] Qxk (Mk.nil aI.out) V3 (ks.take k) Qxk (aN.out _ aI.out) k aL.out Qvu ?_;intro p5 c5 w5 N V;have T:=M.out w5 (aH.out.trans (N.below.mono Qvu)) N.below.size;have U:=Qq N;clear N V)
    | (refine Xt (r:=Jo) Qxv B0 Qxk (.tmp 45) (.tmp 49) 63 Qxk 65 i0 (.agg zY) 80 underlying63 HJ.out aU.out aV.out aW.out rfl Qvu (fun b=>(S b/\b<w)\/D<=b) D (D.alloc (.cells #[xk,.string xs,xn,.slice q3 m3 l3,.slice q4 m4 l4] 65 (0,0))).drew (.slice none 0 0) 0 [] Qxk (Mk.nil aJ.out) V3 (ks.take k) Qxk (aN.out _ aJ.out) k aL.out Qvu ?_;intro p5 c5 w5 N V;have T:=M.out w5 (aH.out.trans (N.below.mono Qvu)) N.below.size;have cV:=Qq ((V.other D Qxz (fun e=>by cases e)).trans (show (D.alloc (.cells #[xk,.string xs,xn,.slice q3 m3 l3,.slice q4 m4 l4] 65 (0,0))).heap[D.heap.size]?=_ from Qw _ _));have cU:=Qq (show some D.heap.size≠(Value.slice p5 k c5).ownBlock from fun e=>by rcases V.at' with h | ⟨g,h,h'⟩;(rw [h] at e;cases e);(rw [h] at e;have e':=Qb e;simp at h';omega));have U:=Qq N;clear N V)
    | (refine Xt (r:=Jo) Qxv B0 Qxk (.tmp 50) (.tmp 52) 63 Qxk 65 i0 (.agg zY) 80 underlying63 HJ.out aU.out aV.out aW.out rfl Qvu (fun b=>(S b/\b<w)\/D<=b) D w5 (.slice p5 k c5) k ([]++ks.take k) Qxk U.out (.slice (some ⟨D,0,none⟩) 1 1) [x] Qxk (aK.out _ _ _ U.out.below cV.out (Q9 _) cU.out U.out.lt) (k+1) aM.out Qvu ?_;intro p6 c6 w6 O aD;have T:=M.out w6 (aH.out.trans (O.below.mono Qvu)) O.below.size;have Z:=Qq O;clear O aD)
    | (refine Xt (r:=Jo) Qxv B0 Qxk (.tmp 50) (.tmp 52) 63 Qxk 65 i0 (.agg zY) 80 underlying63 HJ.out aU.out aV.out aW.out rfl Qvu (fun b=>(S b/\b<w)\/D<=b) D (w5.alloc (.cells #[xk,.string xs,xn,.slice q3 m3 l3,.slice q4 m4 l4] 65 (0,0))) (.slice p5 k c5) k ([]++ks.take k) Qxk (U.out.grow (Ze _ _)) (.slice (some ⟨w5,0,none⟩) 1 1) [x] Qxk (aK.out _ _ _ (U.out.below.thn (Ze _ _)) (Qw _ _) U.out.below.size (fun e=>Nat.lt_irrefl _ (U.out.lt _ e.symm).2) (U.out.grow (Ze _ _)).lt) (k+1) aM.out Qvu ?_;intro p6 c6 w6 O aD;have T:=M.out w6 (aH.out.trans (O.below.mono Qvu)) O.below.size;have Z:=Qq O;clear O aD)
    | (refine Xt (r:=Jo) Qxv B0 Qxk (.tmp 53) (.tmp 57) 63 Qxk 65 i0 (.agg zY) 80 underlying63 HJ.out aU.out aV.out aW.out rfl Qvu (fun b=>(S b/\b<w)\/D<=b) D w6 (.slice p6 (k+1) c6) (k+1) ([]++ks.take k++[x]) Qxk Z.out V4 (ks.drop k) Qxk (bQ.out _ _ Z.out.below Z.out.lt) (n+1) bK.out Qvu ?_;intro p7 c7 w7 Y cX;have T:=M.out w7 (aH.out.trans (Y.below.mono Qvu)) Y.below.size;have r7:=kE Y.below cP fI.out;have f7:=fA 4 r7;have k7:=rA4 r7;have cT:=Qq r7;have cS:=Qq Y;clear Y cX r7))
  all_goals
   obtain ⟨W8,aP⟩:=eX (w7.setCell ⟨J,4,none⟩ (.slice p7 (n+1) c7))
   rw [aP]
   obtain ⟨cK,aA,dC,bT⟩:=cS.out
   have dW:W8.heap[J.heap.size]?=some (.cells #[.int .i64 5,Qxd,tn,.slice pn (n+1) cn,.slice p7 (n+1) c7] 65 (0,0)):=by rw [<- aP,Qi _ _ _ _ _ _ cT.out];rfl
   have dD:∀ b,b≠J.heap.size->W8.heap[b]?=w7.heap[b]?:=fun b hb=>by rw [<- aP];exact Z9 hb
   have cL:Below J J w7:=aH.out.trans (bT.mono (Nat.le_of_lt cP))
   have dA:Below J J W8:=by rw [<- aP];exact cL.setCell (p:=⟨J,4,none⟩) (Q9 _) _
   have bW:=kB dA fK.out
   have fV:W8.heap.size=w7.heap.size:=by rw [<- aP];simp [World.setCell]
   have cQ:Sl Zg (fun b=>I<=b) W8 (.slice pn (n+1) cn) (X5 ns k name):=(dM.out.below bT).frame (fun b hb _=>dD b (by have:I.heap.size<=b:=hb;omega))
   have e9:[]++ks.take k++[x]++ks.drop k=X5 ks k x:=by unfold X5;simp
   have bC:=(aA.sl (S':=fun b=>(S b/\b<w)\/D<=b) (by rw [dC];omega) (fun b hb=>.inr hb) (fun b _ h=>h)).frame (w':=W8) (fun b hb _=>dD b (by have:=bB.out;rcases hb with h | h;exact (by have:=h.2;omega);omega))
   rw [e9] at bC
   have eE:=aA.cap.2
   obtain ⟨fD,dO,dN,dL⟩:=Qxo dA bW cQ bC
   obtain ⟨e0,e1,e2,e3,e4⟩:=row5 dW
   obtain ⟨r0,r1,r2,r3,r4⟩:=row5 bW
   obtain ⟨f0,f1,f2,f3,f4⟩:=frz5 bW
   clear aP dD dW cL dA bW cQ bC aA e9
   go_wp2_with fail
   show bodyPost _ _ _ _ _ (Zp W8 (w+1+1) (.int .i64 5) Qxd tn (.slice pn (n+1) cn) (.slice p7 (n+1) c7))
   refine Q7 (v:=.agg #[.int .i64 5,Qxd,tn,.slice pn (n+1) cn,.slice p7 (n+1) c7]) (by simp [results,results52,go_sem,Zd dO.out]) rfl ⟨pn,cn,p7,c7,rfl,fE.out,eE,?_,Zf (aT.out.thn fD.out) Qvu⟩
   rw [show putT tn ns ks name x=.mk 5 [] tn (X5 ns k name) (X5 ks k x) from by unfold putT;rw [fJ.out]]
   have dI:=bB.out
   refine Dy (s:=[]) Qxz ?_ ?_
   ·exact (dN.out.frame (fun b hb _=>Zi (by have:I.heap.size<=b:=hb;omega))).mono (fun b _ hb=>.inr (by have:I.heap.size<=b:=hb;omega))
   refine (dL.out.frame (fun b hb _=>Zi (by rcases hb with h | h;exact (by have:=h.2;omega);omega))).mono (fun b _ hb=>?_)
   rcases hb with h | h
   ·exact .inl h.1
   exact .inr Qvu
end Go.Proofs.YtlanplhphiikjaaGreatDoor

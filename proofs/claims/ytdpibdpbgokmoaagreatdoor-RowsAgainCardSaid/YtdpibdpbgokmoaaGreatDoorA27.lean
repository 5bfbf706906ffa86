import Derived.Test.YtdpibdpbgokmoaaGreatDoorA17
set_option maxRecDepth 100000
set_option maxHeartbeats 400000000
namespace Go.Proofs.YtdpibdpbgokmoaaGreatDoor
open Go.RowKit Go.Shelf Go.Lib Tryz
section
variable {P:Program} {T:Type}
theorem Qqt {r:Rd T} (hk:0<r.k) (h1:∀ S w cs x,r.R S w cs x->∀ u ∈ cs,u.oneCell'=true) {ops:Array Oper} {o:Oper} {a:Act} {K:Act->World->Prop} {Q:Exit->Act->World->Prop} {X:Prop} (hgd:o.guard=none) (s x:Operand) (t:TypeId)
  (ho:o.op=.call { callee:=.builtin .append,args:=#[s,x],argTypes:=#[t,t] }) (E:TypeId) (i:TypeInfo) (z:Value) (bytes:Nat) (ht:P.underlying t=some (.slice E)) (hi:P.info? E=some i) (hz:i.zero=some z)
  (hsize:i.size=r.k) (hby:i.bytes=bytes) (hzs:z.cells.size=r.k) (hb1:bytes<=1000) (S:Nat->Prop) (B:Nat) (w:World) (v:Value) (xs:List T) (css:List (List Value)) (hs:a.eval s=v)
  (hO:Own r E S B w v xs css) (v2:Value) (ys:List T) (hx:a.eval x=v2) (hY:Sl r (But S v) w v2 ys) (n:Nat) (hn:xs.length+ys.length=n) (hl:n<=1000000) (hB:B<=w)
  (h:∀ p cap A D,Own r E S B D (.slice p n cap) (xs++ys) A->M8 B w D v (.slice p n cap)->K (a.put o.dst (.slice p n cap)) D):
  if Region.wanted o (yielded ops a.tmps)=true then Oper.wp P o a w K Q else X:=by
 subst hn
 obtain ⟨q,c,rfl,_⟩:=hY.len
 have hv:∀ g,v.ownBlock=some g->B<=g:=λg hg=>(hO.row.lt g hg).1
 exact step_cat (r:=r) hk hgd s x t ho E i z bytes ht hi hz hsize hby hzs hb1 S B w v xs css ys q ys.length c hs hO hx hY h1 hl hB (λp cap A D h2 h3 h4=>h p cap A D h2 (Mx h3 hv hB h4))
def veil (o:Oper):Oper:=o
theorem veil1 {id:Nat} {b:Bool} {Q:Exit->Act->World->Prop} {a:Act} {w:World} {o0 o:Oper} {l:List Oper} (h:(Code.region id (List.toArray (o0::veil o::l)) b).wp P Q a w):(Code.region id (List.toArray (o0::o::l)) b).wp P Q a w:=h
def Mk (r:Rd T) (E:TypeId) (S0:Nat->Prop) (W0 w:World) (v:Value) (n:Nat) (xs:List T):Prop:=∃ css,Own r E S0 W0 w v xs css/\xs.length=n/\Below W0 W0 w
theorem Mk.nil {r:Rd T} {E:TypeId} {S0:Nat->Prop} {W0 w:World} (h:Below W0 W0 w):Mk r E S0 W0 w (.slice none 0 0) 0 []:=⟨[],Own.nil _ _ _ _ _,rfl,h⟩
theorem Mk.grow {r:Rd T} {E:TypeId} {S0:Nat->Prop} {W0 w w':World} {v:Value} {n:Nat} {xs:List T} (h:Mk r E S0 W0 w v n xs) (hb:Below w w w'):Mk r E S0 W0 w' v n xs:=
 let ⟨css,h1,h2,h3⟩:=h;⟨css,h1.below hb,h2,h3.n hb⟩
theorem Mk.below {r:Rd T} {E:TypeId} {S0:Nat->Prop} {W0 w:World} {v:Value} {n:Nat} {xs:List T} (h:Mk r E S0 W0 w v n xs):Below W0 W0 w:=let ⟨_,_,_,h3⟩:=h;h3
theorem Mk.lt {r:Rd T} {E:TypeId} {S0:Nat->Prop} {W0 w:World} {v:Value} {n:Nat} {xs:List T} (h:Mk r E S0 W0 w v n xs):∀ g,v.ownBlock=some g->W0.heap.size<=g/\g<w.heap.size:=let ⟨_,h1,_,_⟩:=h;λg e=>h1.row.lt g e
theorem Vx {r:Rd T} (hk:0<r.k) (h1:∀ S w cs x,r.R S w cs x->∀ u ∈ cs,u.oneCell'=true) {ops:Array Oper} {o:Oper} {a:Act} {K:Act->World->Prop} {Q:Exit->Act->World->Prop} {X:Prop} (hgd:o.guard=none) (s x:Operand) (t:TypeId)
  (ho:o.op=.call { callee:=.builtin .append,args:=#[s,x],argTypes:=#[t,t] }) (E:TypeId) (i:TypeInfo) (z:Value) (bytes:Nat) (ht:P.underlying t=some (.slice E)) (hi:P.info? E=some i) (hz:i.zero=some z)
  (hsize:i.size=r.k) (hby:i.bytes=bytes) (hzs:z.cells.size=r.k) (hb1:bytes<=1000) (S0:Nat->Prop) (W0 w:World) (v:Value) (n:Nat) (xs:List T) (hs:a.eval s=v)
  (hM:Mk r E S0 W0 w v n xs) (v2:Value) (ys:List T) (hx:a.eval x=v2) (hY:Sl r (But S0 v) w v2 ys) (m:Nat) (hm:n+ys.length=m) (hl:m<=1000000)
  (h:∀ p cap D,Mk r E S0 W0 D (.slice p m cap) m (xs++ys)->M8 W0 w D v (.slice p m cap)->K (a.put o.dst (.slice p m cap)) D):
  if Region.wanted o (yielded ops a.tmps)=true then Oper.wp P o a w K Q else X:=by
 obtain ⟨css,hO,hn,hB⟩:=hM
 subst hn
 exact Qqt hk h1 hgd s x t ho E i z bytes ht hi hz hsize hby hzs hb1 S0 W0 w v xs css hs hO v2 ys hx hY m hm hl hB.size (λp cap A D h2 h3=>h p cap D ⟨A,h2,by rw [Ql];exact hm,hB.trans h3.below⟩ h3)
end
theorem Gc:∀ S w cs x,Jl.R S w cs x->∀ u ∈ cs,u.oneCell'=true:=λS w cs x h=>ty_one (show Xl S w cs x from h)
theorem As {S:Nat->Prop} {w:World} {b:Nat} {x:Bs} (hb:w.heap[b]?=some (.cells #[x] 9 (0,0))) (hS:S b) (hl:x.length<=1000000):Sl Zh S w (.slice (some ⟨b,0,none⟩) 1 1) [x]:=
 Y4 hb hS (Cs.one (r:=Zh) (show Zh.R S w [x] x from ⟨rfl,hl⟩)) rfl rfl Ib
theorem sl_ty1 {S:Nat->Prop} {w:World} {b:Nat} {k n:Int} {s:ByteArray} {v3 v4:Value} {x:Ty} (hb:w.heap[b]?=some (.cells #[k,.string s,n,v3,v4] 56 (0,0))) (hS:S b) (hx:Xl S w [k,.string s,n,v3,v4] x):Sl Jl S w (.slice (some ⟨b,0,none⟩) 1 1) [x]:=
 Y4 hb hS (Cs.one (r:=Jl) hx) rfl rfl Ib
def putT (n:Int) (ns:List Bs) (ks:List Ty) (name:Bs) (x:Ty):Ty:=.mk 5 [] n (Xp ns (below ns name) name) (Xp ks (below ns name) x)
def PutTIs (S:Nat->Prop) (w:World) (u:Ty) (m:Nat) (n:Int) (e:Ending) (w':World):Prop:=∃ p3 k3 p4 k4,e=.returned (.agg #[.int .i64 5,Ig,n,.slice p3 m k3,.slice p4 m k4])/\m<=k3/\m<=k4/\Xl (λb=>S b\/w<=b) w' [.int .i64 5,Ig,n,.slice p3 m k3,.slice p4 m k4] u/\Below w w w'
def PutMid (W1s:Nat) (W2:World) (m:Nat) (xs:List Bs) (tn:Int) (wx:World):Prop:=∃ p cap,wx.heap[W1s]?=some (.cells #[.int .i64 5,Ig,tn,.slice p m cap,Ie] 56 (0,0))/\m<=cap/\Sl Zh (λb=>W2<=b) wx (.slice p m cap) xs/\Below W1s W2 wx
theorem Qzb (S:Nat->Prop) (tk:Int) (ts:ByteArray) (tn:Int) (ns:List Bs) (ks:List Ty) (n:Nat) (p3:Option Addr) (k3:Nat) (p4:Option Addr) (k4:Nat) (name:Bs) (x:Ty) (cx:List Value) (w:World) (hn0:Sl Zh S w (.slice p3 n k3) ns) (hk0:Sl Jl S w (.slice p4 n k4) ks) (hnn:ns.length=n) (hkn:ks.length=n) (hx0:Xl S w cx x) (hc3:n<=k3) (hc4:n<=k4) (hl1:n<=1000) (hnm:name.length<=1000000):
  Calls prog 94 #[.agg #[tk,.string ts,tn,.slice p3 n k3,.slice p4 n k4],sv name,cx] w (PutTIs S w (putT tn ns ks name x) (n+1) tn):=by
 have hn:=hn0.up
 have hk:=hk0.up
 have hx:Xl (λb=>S b/\b<w) w cx x:=hx0.move (.refl _ _) (λb hb h=>⟨h,hb⟩)
 obtain ⟨xk,xs,xn,q3,m3,l3,q4,m4,l4,fS⟩:=Xl.cells hx
 subst fS
 obtain ⟨bK,fG,fP,HN,HM⟩:=AO hn hk hx hnn hkn
 have fU:below ns name<=n:=by rw [<- hnn];exact P7 _ _
 clear hn0 hk0 hx0 hn hk hx hnn hkn
 obtain ⟨i0,j1,j2,j3,j4⟩:=Y8 (P:=prog) (t:=56) (z:=.agg zY) (n:=5) (b:=80) Ir
 obtain ⟨HJ,aT,aU,aV⟩:=It j1 j2 j3 j4
 clear j1 j2 j3 j4
 obtain ⟨i9,j1,j2,j3,j4⟩:=Y8 (P:=prog) (t:=9) (z:=.string ⟨#[]⟩) (n:=1) (b:=16) Ir
 obtain ⟨HS,aW,aX,aY⟩:=It j1 j2 j3 j4
 clear j1 j2 j3 j4
 unfold sv
 go_enter func94,ntmps94
 go_wp2_with fail
 generalize aN:((w.alloc _).alloc _).alloc _=I
 have eB:=Iq aN (Xt _ _ _ _)
 have cX:=Ik (b:=w.heap.size) aN (Zp _ _ _ _)
 have eA:=Ik (b:=w.heap.size+1) aN (Zo _ _ _ _)
 have dW:=Ik (b:=w.heap.size+1+1) aN (Zi _ _ _ _)
 have dH:I=w.heap.size+3:=by rw [<- aN];simp
 obtain ⟨aS,bO,aZ,fK,bA⟩:=AO eB cX eA dW dH
 obtain ⟨c0,c1,c2,c3,c4⟩:=If cX
 clear aN eB cX eA dW dH
 go_loop [7] (λi=>∃ k:Nat,k<=n/\i=.int .i64 k/\Aside (∀ (j:Nat) (y:Bs),j<k->ns[j]?=some y->Yi y name<0)) (λi=>n - (intOf i).toNat)
 case atStart=>exact ⟨0,Q8 _,rfl,λj _ hj=>absurd hj (Z6 _)⟩
 obtain ⟨k,hk,rfl,A⟩:=hrel
 have dA:(∃ y,ns[k]?=some y/\Yi y name<0)\/(below ns name=k/\((∃ y,ns[k]?=some y/\¬ Yi y name<0)\/k=n)):=by
  by_cases aE:k<n
  ·obtain ⟨y,hy⟩:∃ y,ns[k]?=some y:=⟨_,Qx (by rw [HN.o];exact aE)⟩
   by_cases hc:Yi y name<0
   ·exact .inl ⟨y,hy,hc⟩
   exact .inr ⟨Gw A.o hy hc,.inl ⟨y,hy,hc⟩⟩
  have hkn:k=n:=Ia
  refine .inr ⟨?_,.inr hkn⟩
  rw [hkn,<- HN.o]
  exact B7 (λj z hz=>A.o j z (by have:=(Qj hz).1;have:=HN.o;omega) hz)
 rcases dA with ⟨y,hy,hc⟩ | ⟨eK,dA⟩
 ·have aE:k<n:=by have:=(Qj hy).1;have:=HN.o;omega
  have eG:(0:Int)<=(k:Int):=Ia
  have eH:(k:Int)<(n:Int):=Ia
  have bW:decide (k<n)=true:=by simpa using aE
  obtain ⟨b,eW,rfl,eP,-⟩:=(bK.o.below aS.o).str hy
  have hq:Op.bytesLess y name=true:=by rw [(Vn y name).1];simpa using hc
  have HC:=Qq hc;have HY:=Qq hy
  clear hc hy aE
  go_wp2_with fail
  go_round
  case measure=>simp [intOf];omega
  case rel=>
   refine ⟨k+1,Ia,by go_num,(show Aside _ from λj z hj hz=>?_)⟩
   by_cases e:j=k
   ·subst e
    have:=HY.o
    rw [this] at hz
    cases hz
    exact HC.o
   exact A.o j z Ia hz
 obtain ⟨V1,V2,eM,eN,dX,O⟩:=Jz (P:=prog) 33 9 underlying33 sizeOf9 bK.o (by rw [HN.o];exact ⟨_,_,rfl,hc3⟩) k (by rw [HN.o];exact hk)
 obtain ⟨V3,V4,dE,dF,dY,dZ⟩:=Jz (P:=prog) 54 56 underlying54 sizeOf56 fG.o (by rw [HM.o];exact ⟨_,_,rfl,hc4⟩) k (by rw [HM.o];exact hk)
 obtain ⟨fL,dP,dQ,dR,fJ⟩:=AO dX O dY dZ eK
 have eL:(ns.take k).length=k:=by rw [Qm,HN.o];omega
 have eF:(ns.drop k).length=n - k:=by rw [Zq,HN.o]
 have cQ:(ks.take k).length=k:=by rw [Qm,HM.o];omega
 have cL:(ks.drop k).length=n - k:=by rw [Zq,HM.o]
 obtain ⟨fM,fF,dS,dI⟩:=It eL eF cQ cL
 clear dX O dY dZ eK eL eF cQ cL A
 rcases dA with ⟨y,hy,hc⟩ | hkn
 focus
  have aE:k<n:=by have:=(Qj hy).1;have:=HN.o;omega
  have eG:(0:Int)<=(k:Int):=Ia
  have eH:(k:Int)<(n:Int):=Ia
  have bW:decide (k<n)=true:=by simpa using aE
  obtain ⟨b,eW,rfl,eP,-⟩:=(bK.o.below aS.o).str hy
  have hq:Op.bytesLess y name=false:=by rw [(Vn y name).1];simpa using hc
  clear hc hy aE
  go_upto_region 5 with fail
  clear hq eP eG eH bW
  obtain ⟨p3,dD⟩:∃ q:Option Addr,some (⟨b,eW,none⟩:Addr)=q:=⟨_,rfl⟩
  rw [dD] at bO bK
  simp only [dD] at eM eN c3
  clear dD
 rotate_left
 focus
  have bW:decide (k<n)=false:=by simp;omega
  clear hkn
  go_upto_region 5 with fail
  clear bW
 all_goals
  generalize cY:I.alloc _=G
  have aP:=Iq cY (Zg _ _)
  have bT:=Ik (b:=I.heap.size) cY (Qw _ _)
  clear cY
  have fR:=kB aP bO.o
  have cM:=Z8 bT
  have aF:=Qq aP;have fH:=Qq bT
  have cO:=AH bT
  have fN:=Qq dE;have fO:=Qq dF
  have J:=Qq (λw' (h:Below I I w') (hz:G<=w'.heap.size)=>(show (λw'=>Ii w' w 3 (.slice p3 n k3)/\G<=w'.heap.size/\Below I I w') w' from ⟨Qk _ _ 3 _ _ _ (kB h bO.o),hz,h⟩))
  have bH:=Qq (λw' o (h:(λw'=>Ii w' w 3 (.slice p3 n k3)/\G<=w'.heap.size/\Below I I w') w')=>J.o (w'.alloc o) (h.2.2.alloc h.2.2.size o) (by have:=h.2.1;simp;omega))
  have bN:=Qq (λw' v (h:(λw'=>Ii w' w 3 (.slice p3 n k3)/\G<=w'.heap.size/\Below I I w') w')=>J.o (w'.setCell ⟨I,3,none⟩ v) (h.2.2.setCell (p:=⟨I,3,none⟩) (Q9 _) v) (by have:=h.2.1;simpa using this))
  have bL:=Qq (J.o G.drew aP.drew (Q9 _))
  have bM:=Qq (λo=>J.o (G.alloc o).drew (aP.n (Zg _ o)).drew (Zg _ o).size)
  have aH:=Qq (show Below G G G.drew from (Qz _ _).drew)
  have aI:=Qq (show Below G G (G.alloc (.cells #[name] 9 (0,0))).drew from (Zg _ _).drew)
  have aB:∀ w',Below G G w'->Below w w w':=λw' h=>(aS.o.n aP).n h
  have aM:=Qq (λw' (h:Below G G w')=>(fL.o.below (aB w' h)).mono (S':=But (λb=>(S b/\b<w)\/w<=b) (.slice none 0 0)) (λb _ hb=>⟨.inl hb,λe=>by cases e⟩))
  have bP:=Qq (λw' v (h:Below G G w') (hv:∀ g,v.ownBlock=some g->G.heap.size<=g/\g<w'.heap.size)=>(dP.o.below (aB w' h)).mono (S':=But (λb=>(S b/\b<w)\/w<=b) v) (λb _ hb=>⟨.inl hb,λe=>by have h1:=(hv b e.symm).1;have h2:=hb.2;have h3:=bA.o;omega⟩))
  have fT:w.heap.size<=G.heap.size:=Ix bA.o
  have aJ:=Qq (λ(w':World) (v:Value) (b:Nat) (hb:w'.heap[b]?=some (Obj.cells #[name] 9 (0,0))) (h:G<=b) (hv:some b≠v.ownBlock)=>As (S:=But (λb=>(S b/\b<w)\/w<=b) v) hb ⟨.inr (Qc fT h),hv⟩ hnm)
  have bC:0+(ns.take k).length=k:=by rw [fM.o];omega
  have bD:k+[name].length=k+1:=rfl
  have bE:k+1+(ns.drop k).length=n+1:=by rw [fF.o];omega
  obtain ⟨aK,aL,bJ⟩:=Im bC bD bE
  clear aP bT fR aB c0 c1 c2 c3 c4 dE dF bC bD bE
  go_cut [7] from 28 to 43 (λt7 wx=>t7=.int .i64 k/\PutMid I G (n+1) (Xp ns k name) tn wx)
  case first=>
   refine veil1 ?_
   have dG:∀ o,veil o=o:=λ_=>rfl
   go_region_held3 (λw'=>Ii w' w 3 (.slice p3 n k3)/\G<=w'.heap.size/\Below I I w') (first | with_reducible exact bL.o | with_reducible exact O | with_reducible exact bM.o _ | with_reducible exact bH.o _ _ O | with_reducible exact bN.o _ _ O)
    (first
     | (refine Vx (r:=Zh) Ih X5 Iy (.tmp 29) (.tmp 33) 33 Iy 9 i9 (.string ⟨#[]⟩) 16 underlying33 HS.o aW.o aX.o aY.o rfl Ia (λb=>(S b/\b<w)\/w<=b) G G.drew (.slice none 0 0) 0 [] Iy (Mk.nil aH.o) V1 (ns.take k) Iy (aM.o _ aH.o) k aK.o Ia ?_;intro p5 c5 w5 M U;have O:=J.o w5 (aF.o.trans (M.below.mono Ia)) M.below.size;have T:=Qq M;clear M U)
     | (refine Vx (r:=Zh) Ih X5 Iy (.tmp 29) (.tmp 33) 33 Iy 9 i9 (.string ⟨#[]⟩) 16 underlying33 HS.o aW.o aX.o aY.o rfl Ia (λb=>(S b/\b<w)\/w<=b) G (G.alloc (.cells #[name] 9 (0,0))).drew (.slice none 0 0) 0 [] Iy (Mk.nil aI.o) V1 (ns.take k) Iy (aM.o _ aI.o) k aK.o Ia ?_;intro p5 c5 w5 M U;have O:=J.o w5 (aF.o.trans (M.below.mono Ia)) M.below.size;have cU:=Qq ((U.other G Ib (λe=>by cases e)).trans (show (G.alloc (.cells #[name] 9 (0,0))).heap[G.heap.size]?=_ from Qw _ _));have cT:=Qq (show some G.heap.size≠(Value.slice p5 k c5).ownBlock from λe=>by rcases U.at' with h | ⟨g,h,h'⟩;(rw [h] at e;cases e);(rw [h] at e;have e':=Qb e;simp at h';omega));have T:=Qq M;clear M U)
     | (refine Vx (r:=Zh) Ih X5 Iy (.tmp 34) (.tmp 36) 33 Iy 9 i9 (.string ⟨#[]⟩) 16 underlying33 HS.o aW.o aX.o aY.o rfl Ia (λb=>(S b/\b<w)\/w<=b) G w5 (.slice p5 k c5) k ([]++ns.take k) Iy T.o (.slice (some ⟨G,0,none⟩) 1 1) [name] Iy (aJ.o _ _ _ cU.o (Q9 _) cT.o) (k+1) aL.o Ia ?_;intro p6 c6 w6 N aC;have O:=J.o w6 (aF.o.trans (N.below.mono Ia)) N.below.size;have Y:=Qq N;clear N aC)
     | (refine Vx (r:=Zh) Ih X5 Iy (.tmp 34) (.tmp 36) 33 Iy 9 i9 (.string ⟨#[]⟩) 16 underlying33 HS.o aW.o aX.o aY.o rfl Ia (λb=>(S b/\b<w)\/w<=b) G (w5.alloc (.cells #[name] 9 (0,0))) (.slice p5 k c5) k ([]++ns.take k) Iy (T.o.grow (Zg _ _)) (.slice (some ⟨w5,0,none⟩) 1 1) [name] Iy (aJ.o _ _ _ (Qw _ _) T.o.below.size (λe=>Nat.lt_irrefl _ (T.o.lt _ e.symm).2)) (k+1) aL.o Ia ?_;intro p6 c6 w6 N aC;have O:=J.o w6 (aF.o.trans (N.below.mono Ia)) N.below.size;have Y:=Qq N;clear N aC)
     | (refine Vx (r:=Zh) Ih X5 Iy (.tmp 37) (.tmp 41) 33 Iy 9 i9 (.string ⟨#[]⟩) 16 underlying33 HS.o aW.o aX.o aY.o rfl Ia (λb=>(S b/\b<w)\/w<=b) G w6 (.slice p6 (k+1) c6) (k+1) ([]++ns.take k++[name]) Iy Y.o V2 (ns.drop k) Iy (bP.o _ _ Y.o.below Y.o.lt) (n+1) bJ.o Ia ?_;intro p7 c7 w7 V cW;have O:=J.o w7 (aF.o.trans (V.below.mono Ia)) V.below.size;have r7:=kE V.below cM fH.o;have f7:=fA 3 r7;have k7:=AH r7;have cS:=Qq r7;have cR:=Qq V;clear V cW r7))
   all_goals
    go_wp2_with fail
    go_meet
    obtain ⟨cJ,Z,dB,bS⟩:=cR.o
    have fQ:Own Zh 9 (λ_=>False) G w7 (.slice p7 (n+1) c7) ([]++ns.take k++[name]++ns.drop k) cJ:=⟨Z.row,⟨Z.cs.len,λi c x hc hx=>Z.cs.R i c x hc hx⟩⟩
    refine ⟨rfl,p7,c7,?_,Z.cap.2,?_,(show Below I G w7 from bS.mono (Nat.le_of_lt cM)).setCell (p:=⟨I,3,none⟩) (Q9 _) _⟩
    ·rw [Qi _ _ _ _ _ _ cS.o];rfl
    have h9:=(fQ.sl (S':=λb=>G<=b) (by rw [dB];omega) (λb hb=>hb) (λb _ h=>h.elim)).frame (w':=w7.setCell ⟨I,3,none⟩ (.slice p7 (n+1) c7)) (λb hb _=>Za (by have:G.heap.size<=b:=hb;show b≠I;omega))
    have e9:[]++ns.take k++[name]++ns.drop k=Xp ns k name:=by unfold Xp;simp
    rw [e9] at h9
    exact h9
  obtain ⟨rfl,pn,cn,bU,eE,eJ,eC⟩:=hcut
  obtain ⟨D,rfl⟩:∃ D,D=wc:=⟨_,rfl⟩
  have cN:=Z8 bU
  have aA:Below I I D:=aF.o.trans eC
  obtain ⟨aG,fI,dL,fE⟩:=It aA bU eJ eE
  have cO:=Iz bU
  clear J bH bN bL bM aH aI aM bP aJ aK aL bJ
  have J:=Qq (λw' (h:Below I I w') (hz:D<=w'.heap.size)=>(show (λw'=>Ii w' w 4 (.slice p4 n k4)/\AQ w' (w+1) xk (.string xs) xn (.slice q3 m3 l3) (.slice q4 m4 l4) (D<=w'.heap.size/\Below I I w')) w' from ⟨Qk _ _ 4 _ _ _ (kB h bO.o),Qk _ _ 0 _ _ _ (kB h aZ.o),Qk _ _ 1 _ _ _ (kB h aZ.o),Qk _ _ 2 _ _ _ (kB h aZ.o),Qk _ _ 3 _ _ _ (kB h aZ.o),Qk _ _ 4 _ _ _ (kB h aZ.o),hz,h⟩))
  have bH:=Qq (λw' o (h:(λw'=>Ii w' w 4 (.slice p4 n k4)/\AQ w' (w+1) xk (.string xs) xn (.slice q3 m3 l3) (.slice q4 m4 l4) (D<=w'.heap.size/\Below I I w')) w')=>J.o (w'.alloc o) (h.2.2.2.2.2.2.2.alloc h.2.2.2.2.2.2.2.size o) (by have:=h.2.2.2.2.2.2.1;simp;omega))
  have bN:=Qq (λw' v (h:(λw'=>Ii w' w 4 (.slice p4 n k4)/\AQ w' (w+1) xk (.string xs) xn (.slice q3 m3 l3) (.slice q4 m4 l4) (D<=w'.heap.size/\Below I I w')) w')=>J.o (w'.setCell ⟨I,4,none⟩ v) (h.2.2.2.2.2.2.2.setCell (p:=⟨I,4,none⟩) (Q9 _) v) (by have:=h.2.2.2.2.2.2.1;simpa using this))
  have bL:=Qq (J.o D.drew aA.drew (Q9 _))
  have bM:=Qq (λo=>J.o (D.alloc o).drew (aA.n (Zg _ o)).drew (Zg _ o).size)
  have aH:=Qq (show Below D D D.drew from (Qz _ _).drew)
  have aI:=Qq (show Below D D (D.alloc (.cells #[xk,.string xs,xn,.slice q3 m3 l3,.slice q4 m4 l4] 56 (0,0))).drew from (Zg _ _).drew)
  have fW:w.heap.size<=D.heap.size:=Ix bA.o
  have aB:∀ w',Below D D w'->Below w w w':=λw' h=>(aS.o.n aA).n h
  have aM:=Qq (λw' (h:Below D D w')=>(dQ.o.below (aB w' h)).mono (S':=But (λb=>(S b/\b<w)\/D<=b) (.slice none 0 0)) (λb _ hb=>⟨.inl hb,λe=>by cases e⟩))
  have bP:=Qq (λ(w':World) (v:Value) (h:Below D D w') (hv:∀ g,v.ownBlock=some g->D.heap.size<=g/\g<w'.heap.size)=>(dR.o.below (aB w' h)).mono (S':=But (λb=>(S b/\b<w)\/D<=b) v) (λb _ hb=>⟨.inl hb,λe=>by have h1:=(hv b e.symm).1;have h2:=hb.2;omega⟩))
  have aJ:=Qq (λ(w':World) (v:Value) (b:Nat) (h':Below D D w') (hb:w'.heap[b]?=some (Obj.cells #[xk,.string xs,xn,.slice q3 m3 l3,.slice q4 m4 l4] 56 (0,0))) (h:D<=b) (hv:some b≠v.ownBlock) (hvv:∀ g,v.ownBlock=some g->D.heap.size<=g/\g<w'.heap.size)=>sl_ty1 (S:=But (λb=>(S b/\b<w)\/D<=b) v) hb ⟨.inr h,hv⟩ ((fP.o.move (.f (aB w' h')) (λc _ hc=>⟨.inl hc,λe=>by have h1:=(hvv c e.symm).1;have h2:=hc.2;omega⟩))))
  have bC:0+(ks.take k).length=k:=by rw [dS.o];omega
  have bD:k+[x].length=k+1:=rfl
  have bE:k+1+(ks.drop k).length=n+1:=by rw [dI.o];omega
  obtain ⟨aK,aL,bJ⟩:=Im bC bD bE
  clear bU eE eJ eC aA aB bC bD bE
  have dE:=fN.o;have dF:=fO.o
  clear eM eN
  go_upto_region 6 with fail
  refine veil1 ?_
  have dG:∀ o,veil o=o:=λ_=>rfl
  go_region_held3 (λw'=>Ii w' w 4 (.slice p4 n k4)/\AQ w' (w+1) xk (.string xs) xn (.slice q3 m3 l3) (.slice q4 m4 l4) (D<=w'.heap.size/\Below I I w')) (first | with_reducible exact bL.o | with_reducible exact O | with_reducible exact bM.o _ | with_reducible exact bH.o _ _ O | with_reducible exact bN.o _ _ O)
   (first
    | (refine Vx (r:=Jl) Ih Gc Iy (.tmp 45) (.tmp 49) 54 Iy 56 i0 (.agg zY) 80 underlying54 HJ.o aT.o aU.o aV.o rfl Ia (λb=>(S b/\b<w)\/D<=b) D D.drew (.slice none 0 0) 0 [] Iy (Mk.nil aH.o) V3 (ks.take k) Iy (aM.o _ aH.o) k aK.o Ia ?_;intro p5 c5 w5 M U;have O:=J.o w5 (aG.o.trans (M.below.mono Ia)) M.below.size;have T:=Qq M;clear M U)
    | (refine Vx (r:=Jl) Ih Gc Iy (.tmp 45) (.tmp 49) 54 Iy 56 i0 (.agg zY) 80 underlying54 HJ.o aT.o aU.o aV.o rfl Ia (λb=>(S b/\b<w)\/D<=b) D (D.alloc (.cells #[xk,.string xs,xn,.slice q3 m3 l3,.slice q4 m4 l4] 56 (0,0))).drew (.slice none 0 0) 0 [] Iy (Mk.nil aI.o) V3 (ks.take k) Iy (aM.o _ aI.o) k aK.o Ia ?_;intro p5 c5 w5 M U;have O:=J.o w5 (aG.o.trans (M.below.mono Ia)) M.below.size;have cU:=Qq ((U.other D Ib (λe=>by cases e)).trans (show (D.alloc (.cells #[xk,.string xs,xn,.slice q3 m3 l3,.slice q4 m4 l4] 56 (0,0))).heap[D.heap.size]?=_ from Qw _ _));have cT:=Qq (show some D.heap.size≠(Value.slice p5 k c5).ownBlock from λe=>by rcases U.at' with h | ⟨g,h,h'⟩;(rw [h] at e;cases e);(rw [h] at e;have e':=Qb e;simp at h';omega));have T:=Qq M;clear M U)
    | (refine Vx (r:=Jl) Ih Gc Iy (.tmp 50) (.tmp 52) 54 Iy 56 i0 (.agg zY) 80 underlying54 HJ.o aT.o aU.o aV.o rfl Ia (λb=>(S b/\b<w)\/D<=b) D w5 (.slice p5 k c5) k ([]++ks.take k) Iy T.o (.slice (some ⟨D,0,none⟩) 1 1) [x] Iy (aJ.o _ _ _ T.o.below cU.o (Q9 _) cT.o T.o.lt) (k+1) aL.o Ia ?_;intro p6 c6 w6 N aC;have O:=J.o w6 (aG.o.trans (N.below.mono Ia)) N.below.size;have Y:=Qq N;clear N aC)
    | (refine Vx (r:=Jl) Ih Gc Iy (.tmp 50) (.tmp 52) 54 Iy 56 i0 (.agg zY) 80 underlying54 HJ.o aT.o aU.o aV.o rfl Ia (λb=>(S b/\b<w)\/D<=b) D (w5.alloc (.cells #[xk,.string xs,xn,.slice q3 m3 l3,.slice q4 m4 l4] 56 (0,0))) (.slice p5 k c5) k ([]++ks.take k) Iy (T.o.grow (Zg _ _)) (.slice (some ⟨w5,0,none⟩) 1 1) [x] Iy (aJ.o _ _ _ (T.o.below.n (Zg _ _)) (Qw _ _) T.o.below.size (λe=>Nat.lt_irrefl _ (T.o.lt _ e.symm).2) (T.o.grow (Zg _ _)).lt) (k+1) aL.o Ia ?_;intro p6 c6 w6 N aC;have O:=J.o w6 (aG.o.trans (N.below.mono Ia)) N.below.size;have Y:=Qq N;clear N aC)
    | (refine Vx (r:=Jl) Ih Gc Iy (.tmp 53) (.tmp 57) 54 Iy 56 i0 (.agg zY) 80 underlying54 HJ.o aT.o aU.o aV.o rfl Ia (λb=>(S b/\b<w)\/D<=b) D w6 (.slice p6 (k+1) c6) (k+1) ([]++ks.take k++[x]) Iy Y.o V4 (ks.drop k) Iy (bP.o _ _ Y.o.below Y.o.lt) (n+1) bJ.o Ia ?_;intro p7 c7 w7 V cW;have O:=J.o w7 (aG.o.trans (V.below.mono Ia)) V.below.size;have r7:=kE V.below cN fI.o;have f7:=fA 4 r7;have k7:=Iz r7;have cS:=Qq r7;have cR:=Qq V;clear V cW r7))
  all_goals
   obtain ⟨W8,aO⟩:=eX (w7.setCell ⟨I,4,none⟩ (.slice p7 (n+1) c7))
   rw [aO]
   obtain ⟨cJ,Z,dB,bS⟩:=cR.o
   have dV:W8.heap[I.heap.size]?=some (.cells #[.int .i64 5,Ig,tn,.slice pn (n+1) cn,.slice p7 (n+1) c7] 56 (0,0)):=by rw [<- aO,Qi _ _ _ _ _ _ cS.o];rfl
   have dC:∀ b,b≠I.heap.size->W8.heap[b]?=w7.heap[b]?:=λb hb=>by rw [<- aO];exact Za hb
   have cK:Below I I w7:=aG.o.trans (bS.mono (Nat.le_of_lt cN))
   have cZ:Below I I W8:=by rw [<- aO];exact cK.setCell (p:=⟨I,4,none⟩) (Q9 _) _
   have bV:=kB cZ fK.o
   have fV:W8.heap.size=w7.heap.size:=by rw [<- aO];simp [World.setCell]
   have cP:Sl Zh (λb=>G<=b) W8 (.slice pn (n+1) cn) (Xp ns k name):=(dL.o.below bS).frame (λb hb _=>dC b (by have:G.heap.size<=b:=hb;omega))
   have e9:[]++ks.take k++[x]++ks.drop k=Xp ks k x:=by unfold Xp;simp
   have bB:=(Z.sl (S':=λb=>(S b/\b<w)\/D<=b) (by rw [dB];omega) (λb hb=>.inr hb) (λb _ h=>h)).frame (w':=W8) (λb hb _=>dC b (by have:=bA.o;rcases hb with h | h;exact (by have:=h.2;omega);omega))
   rw [e9] at bB
   have eD:=Z.cap.2
   obtain ⟨fD,dN,dM,dK⟩:=It cZ bV cP bB
   obtain ⟨e0,e1,e2,e3,e4⟩:=If dV
   obtain ⟨r0,r1,r2,r3,r4⟩:=If bV
   obtain ⟨f0,f1,f2,f3,f4⟩:=Ip bV
   clear aO dC dV cK cZ bV cP bB Z e9
   go_wp2_with fail
   show bodyPost _ _ _ _ _ (Zl W8 (w+1+1) (.int .i64 5) Ig tn (.slice pn (n+1) cn) (.slice p7 (n+1) c7))
   refine Q7 (v:=.agg #[.int .i64 5,Ig,tn,.slice pn (n+1) cn,.slice p7 (n+1) c7]) (by simp [results,results94,go_sem,Ze dN.o]) rfl ⟨pn,cn,p7,c7,rfl,fE.o,eD,?_,Zd (aS.o.n fD.o) Ia⟩
   rw [show putT tn ns ks name x=.mk 5 [] tn (Xp ns k name) (Xp ks k x) from by unfold putT;rw [fJ.o]]
   have dH:=bA.o
   refine D9 (s:=[]) Ib ?_ ?_
   ·exact (dM.o.frame (λb hb _=>Zf (by have:G.heap.size<=b:=hb;omega))).mono (λb _ hb=>.inr (by have:G.heap.size<=b:=hb;omega))
   refine (dK.o.frame (λb hb _=>Zf (by rcases hb with h | h;exact (by have:=h.2;omega);omega))).mono (λb _ hb=>?_)
   rcases hb with h | h
   ·exact .inl h.1
   exact .inr Ia
end Go.Proofs.YtdpibdpbgokmoaaGreatDoor

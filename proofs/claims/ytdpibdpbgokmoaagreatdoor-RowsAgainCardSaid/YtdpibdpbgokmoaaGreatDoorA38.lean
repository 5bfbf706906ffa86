import Derived.Test.YtdpibdpbgokmoaaGreatDoorA37
set_option maxRecDepth 100000
set_option maxHeartbeats 400000000
namespace Go.Proofs.YtdpibdpbgokmoaaGreatDoor
open Go.RowKit Go.Shelf Go.Lib Tryz
def Nl (n1 n2:Bs) (r0 r1:Option Val) (r2:Val->Option Val):Option Val:=match r0 with
 | some v=>if v.kind=3 then (if v.s=n1 then r1 else if v.s=n2 then (match v.kids with
  | [x]=>r2 x
  | _=>none) else none) else none
 | none=>none
theorem idx_two {n1 n2 x:Bs}:X8 (λy=>decide (y=x)) [n1,n2]=if n1=x then 0 else if n2=x then 1 else -1:=by
 unfold X8
 simp only [List.findIdx?_cons,List.findIdx?_nil]
 by_cases h1:n1=x
 ·simp [h1]
 by_cases h2:n2=x
 ·subst h2;simp [h1]
 simp [h1,h2]
theorem ev_match (nm:Bs) (n:Int) (s:Bs) (n1 n2 b2:Bs) (x y t:Ex) (a z:Int) (env:List (Bs × Val)) (r0 r1:Option Val) (r2:Val->Option Val) (hne:b2≠[]) (hx:EvO x env r0) (hy:EvO y env r1) (ht:∀ u,EvO t ((b2,u)::env) (r2 u)):EvO (.mk 13 nm n s [n1,n2] [[],b2] [x,y,t] a z) env (Nl n1 n2 r0 r1 r2):=by
 obtain ⟨R,M⟩:=eX (Nl n1 n2 r0 r1 r2)
 rw [M]
 intro S0 S' cs p w bL cL cK cI
 have bX:=Qq cL
 clear cL
 have he:Xy (λb=>S0 b/\b<w) w p env:=cI.move (.refl _ _) (λb hb h=>⟨h,hb⟩)
 obtain ⟨nv,bv,kv,rfl,dZ,eA,hn,hb,hk⟩:=Yy.1 cK
 obtain ⟨np,nc,rfl,_⟩:=hn.len
 obtain ⟨bp,bc,rfl,_⟩:=hb.len
 obtain ⟨kp,kc,rfl,dK⟩:=hk.len
 obtain ⟨q,rfl⟩:=he.ptr
 obtain ⟨HE,HK,bY,bE⟩:=It he hk hn hb
 obtain ⟨kl,U⟩:=eX ([x,y,t].length)
 rw [U] at HK dK
 have aR:=Qq U
 clear cK he cI hn hb hk
 unfold sv
 rw [U]
 clear U
 go_enter func91,ntmps91
 go_upto_region 3 with fail
 generalize aC:((w.alloc _).alloc _).alloc _=T
 have I:=Iq aC (Xt _ _ _ _)
 have h0:=Ik (b:=w.heap.size) aC (Zp _ _ _ _)
 have h1:=Ik (b:=w.heap.size+1) aC (Zo _ _ _ _)
 have h2:=Ik (b:=w.heap.size+1+1) aC (Zi _ _ _ _)
 have eB:w.heap.size+1+1<T.heap.size:=Z8 h2
 have c0:=AB h0;have c1:=AA h0;have c2:=AM h0;have c3:=AH h0;have c4:=Iz h0;have c5:=AY h0;have c6:=AK h0
 obtain ⟨H0,H1,H2,aM⟩:=It h0 h1 h2 I
 have aB:=Qq (λ(k:Nat) e9 r9 (hke:[x,y,t][k]?=some e9) (hev:EvO e9 env r9) W (hbw:Below T T W) (x9:Nat) (hxl:w<=x9) (hxW:x9<W)=>D8 w (w+1) k (λb=>S0 b/\b≠w+1+1/\b≠x9) S' kp kc [x,y,t] e9 (.pointer q) env r9 W
  (by rw [aR.o];exact (Qk _ _ 6 _ _ _ (kB hbw h0)).trans rfl) (by rw [aR.o];exact (HK.o.below I).below hbw) ((Qk _ _ 0 _ _ _ (kB hbw h1)).trans rfl) (λb hb=>⟨bL b (BC I.size hbw.size),by have:=hbw.size;omega,Ia⟩) (bX.o.below (I.n hbw)) ((HE.o.move (.f I) Ij).move (.f hbw) (λb _ h=>⟨h.1,by have:=h.2;omega,by have:=h.2;omega⟩)) hke hev)
 have aA:Hid (∀ W,Below T T W->Calls prog 132 #[Ic,Iv w,Iv (w+1)] W (Xw (λb=>S0 b/\b≠w+1+1/\b≠w+1) W r0)):=Qq (λW hW=>aB.o 0 x r0 rfl hx W hW (w+1) Ia (Ix hW.size))
 have bV:Hid (∀ W,Below T T W->Calls prog 132 #[.int .i64 1,Iv w,Iv (w+1)] W (Xw (λb=>S0 b/\b≠w+1+1/\b≠w+1+1) W r1)):=Qq (λW hW=>aB.o 1 y r1 rfl hy W hW (w+1+1) Ia (Ix hW.size))
 have bU:=Qq (λ(v:Bs) W (hW:Below T T W)=>Gz S' (.slice np 2 nc) [n1,n2] v W ((bY.o.below I).below hW))
 unfold sv at bU
 obtain ⟨bb,dR,dI,aF,_⟩:=(bE.o.below I).str (i:=0) (x:=[]) rfl
 obtain ⟨dU,dF,aZ,aY,aX⟩:=(bE.o.below I).str (i:=1) (x:=b2) rfl
 subst dI
 simp only [Zv,Addr.mk.injEq,and_true] at aZ
 obtain ⟨rfl,rfl⟩:=aZ
 rw [Nat.add_zero] at aF
 obtain ⟨cZ,bT,HT,cA⟩:=It hne aX ht bL
 have HC:=Qq (λW (h:Below T T W)=>Qe (kC h c4) (Qe (kC h c5) (Qe (kC h aF) (kC h aY))))
 clear h0 h1 h2 I aC aB hx hy ht hne aX bL c1 c2 c3 c4 c5 c6 bY bE aF aY
 cases r0 with
 | none=>
  obtain rfl:none=R:=M
  go_wp2_with (go_at_call 132;refine (aA.o _ (Qz _ _)).mono ?_;rintro e w4 ⟨rfl,hb⟩)
  exact ⟨rfl,rfl,aM.o.n hb⟩
 | some u=>
  by_cases hk:u.kind=3
  ·have aS:=Qq (λcu W (hu:Z9 (λb=>S0 b/\b≠w+1+1/\b≠w+1) W cu u)=>Hn 3 _ u cu W hu hk)
   have A:(if u.s=n1 then r1 else if u.s=n2 then (match u.kids with | [x]=>r2 x | _=>none) else none)=R:=by rw [<- M];unfold Nl;dsimp only;rw [if_pos hk]
   clear M hk
   go_upto_region 48 with (first
    | (go_at_call 131;refine (aS.o _ _ HU.o).mono ?_;rintro e w5 ⟨rfl,hb⟩;have cC:=Qq (Z9.move HU.o (.f hb) Ij);have cW:=Qq (Z.o.n hb);clear hb;clear aS)
    | (go_at_call 132;refine (aA.o _ (Qz _ _)).mono ?_;rintro e w4 ⟨cu,rfl,hu,hb⟩;obtain ⟨a3,dD,a4,dE,D,_⟩:=Z9.cells hu;simp only [Il] at D;subst D;have HU:=Qq hu;have Z:=Qq ((Qz T T).n hb);clear hu hb;clear aA))
   generalize bN:World.alloc w5 _=Y
   have bP:=Iq bN (Zg _ _)
   have bO:=Ik (b:=w5.heap.size) bN (Qw _ _)
   have x2:=AM bO;have x4:=Iz bO
   have G:=Qq (cW.o.n bP)
   have cD:=Qq (Z9.move cC.o (.f bP) Ij)
   have bI:=Qq (kB G.o H2.o)
   have aP:=Qq (aM.o.n G.o)
   obtain ⟨d4,d5,q0,q1⟩:=HC.o Y G.o
   have HI:=Qq (bU.o u.s Y G.o)
   rw [idx_two] at HI
   have eC:w.heap.size+1+1<Y.heap.size:=Z8 bI.o
   clear bN bP bO
   by_cases hs1:n1=u.s
   ·rw [if_pos hs1.symm] at A
    obtain rfl:r1=R:=A
    rw [if_pos hs1] at HI
    have HM:=Qq Xf
    clear hs1 x4
    go_wp2_with (first
     | (go_at_call 134;refine (HM.o _).mono ?_;rintro e w' ⟨rfl,rfl⟩)
     | (go_at_call 139;refine HI.o.mono ?_;rintro e w' ⟨rfl,rfl⟩))
    cases r1 with
    | none=>
     refine (bV.o _ G.o).mono ?_
     rintro e w8 ⟨rfl,bQ⟩
     exact ⟨rfl,rfl,aP.o.n bQ⟩
    | some r=>
     refine (bV.o _ G.o).mono ?_
     rintro e w4 ⟨cr,rfl,O,N⟩
     obtain ⟨q3,l3,q4,l4,D,_⟩:=Z9.cells O
     simp only [Il] at D
     subst D
     have M:=kB N bI.o
     have bD:=Qq (aP.o.n N)
     have bH:=Qq O
     have HR:=Qq M
     have fz:=λj=>Qn _ _ j _ _ M
     obtain ⟨f0,f1,f2,f3,f4⟩:=Iw fz
     have rr:=λj=>Qk _ _ j _ _ _ M
     obtain ⟨r0,r1,r2,r3,r4⟩:=Iw rr
     simp only [Qf,Qg,Qh] at r0 r1 r2 r3 r4
     clear fz rr O N M
     go_wp2_with fail
     show bodyPost _ _ _ _ _ (AI w4 (w+1+1) r q3 l3 q4 l4)
     refine Q7 (v:=.agg (Is r q3 l3 q4 l4)) (by simp [results,results91,go_sem,Ze HR.o]) rfl ⟨_,rfl,?_,Zd bD.o Ia⟩
     exact Z9.move bH.o (λb hb _=>Zf (by have:=hb.2.1;omega)) (λ_ _ h=>h.1)
   rw [if_neg (λe=>hs1 e.symm)] at A
   rw [if_neg hs1] at HI
   by_cases hs2:n2=u.s
   ·rw [if_pos hs2.symm] at A
    rw [if_pos hs2] at HI
    have dV:(!List.isEmpty b2)=true:=by have h:=cZ.o;cases b2 with | nil=>exact absurd rfl h | cons _ _=>rfl
    by_cases hl:u.kids.length=1
    ·obtain ⟨x0,cM⟩:∃ x0,u.kids=[x0]:=List.length_eq_one_iff.1 hl
     rw [cM] at A
     have bZ:=Qq (show r2 x0=R from A)
     clear A
     obtain ⟨eH,eF,eI,eG,bA,_,cG,_⟩:=Z9.cells cD.o
     simp only [Il,List.cons.injEq,Qr,and_true,true_and] at bA
     obtain ⟨⟨rfl,rfl⟩,rfl,rfl⟩:=bA
     obtain ⟨kb,dT,dN,rfl,dX,dW,_,bR,V⟩:=cG.elem (i:=0) (x:=x0) (by rw [cM];rfl)
     obtain ⟨z3,aI,z4,aJ,bB,_⟩:=Z9.cells (show Z9 _ _ dN x0 from bR)
     simp only [Il] at bB
     subst bB
     have y0:=V 0 _ rfl;have y1:=V 1 _ rfl;have y2:=V 2 _ rfl;have y3:=V 3 _ rfl;have y4:=V 4 _ rfl
     simp only [show Zc.k=5 from rfl,Nat.add_zero,Nat.zero_mul] at y0 y1 y2 y3 y4
     rw [hl] at x4
     have v0:=AB ((kB G.o H1.o))
     have HM:=Qq Xf
     have bW:=Qq (show Z9 _ Y (Il x0 z3 aI z4 aJ) x0 from bR)
     clear hs1 hs2 bR V cG hl cD cC HU
     go_upto_region 52 with (first
      | (go_at_call 134;refine (HM.o _).mono ?_;rintro e w' ⟨rfl,rfl⟩)
      | (go_at_call 139;refine HI.o.mono ?_;rintro e w' ⟨rfl,rfl⟩))
     go_still_tail 10,Ir
     change wpList _ _ _ _ _ Y.drew
     have aO:=Qq (show Below Y Y Y.drew from (Qz _ _).drew)
     generalize Y.drew=w7 at aO
     clear x2 x4 y0 y1 y2 y3 y4 v0 d4 d5 q0 q1
     have aU:∀ o,(World.alloc w7 o).heap[w.heap.size+1]?=some (.cells #[.pointer q] 122 (0,0)):=λo=>((G.o.n (aO.o.n (Zg w7 o))).block _ (Z8 H1.o)).trans H1.o
     have v0:=Qk _ _ 0 _ _ _ (aU (.cells #[.pointer q,b2,x0.kind,x0.n,x0.s,.slice z3 x0.names.length aI,.slice z4 x0.kids.length aJ] 124 (0,0)))
     have f0:=fA 0 (aU (.cells #[.pointer q,b2,x0.kind,x0.n,x0.s,.slice z3 x0.names.length aI,.slice z4 x0.kids.length aJ] 124 (0,0)))
     simp only [Qf,Qg] at v0
     have dC:=Qq aU
     clear aU
     go_upto_region 53 with fail
     generalize aD:World.alloc w7 _=w8
     have aN:Hid (Below Y Y w8):=Qq (by rw [<- aD];exact aO.o.n (Zg _ _))
     have bJ:Hid (w8.heap[w7.heap.size]?=some (.cells #[.pointer q,b2,x0.kind,x0.n,x0.s,.slice z3 x0.names.length aI,.slice z4 x0.kids.length aJ] 124 (0,0))):=Qq (by rw [<- aD];exact Qw _ _)
     have cE:Hid (w8.heap[w.heap.size+1]?=some (.cells #[.pointer q] 122 (0,0))):=Qq (by rw [<- aD];exact dC.o _)
     rw [aD] at v0 f0
     clear aD
     generalize aE:World.setCell w8 _ _=w9
     have cH:w9.heap[w.heap.size+1]?=some (.cells #[Iv w7] 122 (0,0)):=by rw [<- aE];exact Qi _ _ _ _ _ _ cE.o
     have aG:∀ b,b≠w.heap.size+1->w9.heap[b]?=w8.heap[b]?:=λb hb=>by rw [<- aE];exact Za hb
     have J:Below w w w9:=by rw [<- aE];exact (aM.o.n (G.o.n aN.o)).setCell (by show w<=w.heap.size+1;omega) _
     have eE:w9.heap.size=w8.heap.size:=by rw [<- aE];simp [World.setCell]
     clear aE v0 f0
     have dS:=aO.o.size
     have eD:w7.heap.size<w8.heap.size:=Z8 bJ.o
     have dB:Hid (w9.heap[w.heap.size+1+1]?=_):=Qq ((aG _ Ia).trans (kB aN.o bI.o))
     have aW:=Qq J
     have hA:Jy (λb=>S0 b/\b≠w+1+1/\b≠w+1) Y w9:=λb hb dL=>(aG b hb.2.2).trans (aN.o.block b dL)
     have cJ:Xy (λb=>S0 b/\b≠w+1+1/\b≠w+1+1) w9 (.pointer (some ⟨w7,0,none⟩)) ((b2,x0)::env):=.cons _ q b2 x0 z3 aI z4 aJ env ⟨cA.o _ Ia,Ia,Ia⟩ ((aG _ Ia).trans bJ.o) bT.o (Z9.move bW.o hA (λb _ h=>⟨h.1,h.2.1,h.2.1⟩)) (HE.o.move (.f J) (λb _ h=>⟨h.1,by have:=h.2;omega,by have:=h.2;omega⟩))
     have bF:=Qq (D8 w (w+1) 2 (λb=>S0 b/\b≠w+1+1/\b≠w+1+1) S' kp kc [x,y,t] t (.pointer (some ⟨w7,0,none⟩)) ((b2,x0)::env) (r2 x0) w9
      (by rw [aR.o];exact (Qk _ _ 6 _ _ _ ((aG _ Ia).trans (kB (G.o.n aN.o) H0.o))).trans rfl) (by rw [aR.o];exact HK.o.below J) ((Qk _ _ 0 _ _ _ cH).trans rfl) (λb hb=>⟨cA.o b Ia,Ia,Ia⟩) (bX.o.below J) cJ rfl (HT.o x0))
     clear cH aG J hA cJ bW HE HK bJ cE
     rw [bZ.o] at bF
     clear bZ
     go_wp2_with fail
     cases R with
     | none=>
      refine (bF.o).mono ?_
      rintro e w8 ⟨rfl,bQ⟩
      exact ⟨rfl,rfl,aW.o.n bQ⟩
     | some r=>
      refine (bF.o).mono ?_
      rintro e w4 ⟨cr,rfl,O,N⟩
      obtain ⟨q3,l3,q4,l4,D,_⟩:=Z9.cells O
      simp only [Il] at D
      subst D
      have M:=kB N dB.o
      have bD:=Qq (aW.o.n N)
      have bH:=Qq O
      have HR:=Qq M
      have fz:=λj=>Qn _ _ j _ _ M
      obtain ⟨f0,f1,f2,f3,f4⟩:=Iw fz
      have rr:=λj=>Qk _ _ j _ _ _ M
      obtain ⟨r0,r1,r2,r3,r4⟩:=Iw rr
      simp only [Qf,Qg,Qh] at r0 r1 r2 r3 r4
      clear fz rr O N M
      go_wp2_with fail
      show bodyPost _ _ _ _ _ (AI w4 (w+1+1) r q3 l3 q4 l4)
      refine Q7 (v:=.agg (Is r q3 l3 q4 l4)) (by simp [results,results91,go_sem,Ze HR.o]) rfl ⟨_,rfl,?_,Zd bD.o Ia⟩
      exact Z9.move bH.o (λb hb _=>Zf (by have:=hb.2.1;omega)) (λ_ _ h=>h.1)
    obtain rfl:none=R:=by
     rw [<- A];split
     ·exfalso;apply hl;rename_i h9;rw [h9];rfl
     rfl
    have HM:=Qq Xf
    have cY:=Qq Ga
    have dY:((u.kids.length:Int)==1)=false:=by rw [beq_eq_false_iff_ne];omega
    clear hs1 hs2 A hl
    go_wp2_with (first
     | (go_at_call 134;refine (cY.o _).mono ?_;rintro e w' ⟨rfl,rfl⟩)
     | (go_at_call 134;refine (HM.o _).mono ?_;rintro e w' ⟨rfl,rfl⟩)
     | (go_at_call 139;refine HI.o.mono ?_;rintro e w' ⟨rfl,rfl⟩))
    exact ⟨rfl,rfl,aP.o⟩
   rw [if_neg (λe=>hs2 e.symm)] at A
   obtain rfl:none=R:=A
   rw [if_neg hs2] at HI
   have HM:=Qq Ga
   clear hs1 hs2 x4
   go_wp2_with (first
    | (go_at_call 134;refine (HM.o _).mono ?_;rintro e w' ⟨rfl,rfl⟩)
    | (go_at_call 139;refine HI.o.mono ?_;rintro e w' ⟨rfl,rfl⟩))
   exact ⟨rfl,rfl,aP.o⟩
  have aS:=Qq (λcu W (hu:Z9 (λb=>S0 b/\b≠w+1+1/\b≠w+1) W cu u)=>of_no 3 _ u cu W hu hk)
  obtain rfl:none=R:=by rw [<- M];unfold Nl;dsimp only;rw [if_neg hk]
  clear M hk
  go_wp2_with (first
   | (go_at_call 131;refine (aS.o _ _ HU.o).mono ?_;rintro e w5 ⟨rfl,hb⟩)
   | (go_at_call 132;refine (aA.o _ (Qz _ _)).mono ?_;rintro e w4 ⟨cu,rfl,hu,hb⟩;obtain ⟨a3,dD,a4,dE,D,_⟩:=Z9.cells hu;simp only [Il] at D;subst D;have HU:=Qq hu;have Z:=Qq ((Qz T T).n hb);clear hu hb;clear aA))
  exact ⟨rfl,rfl,aM.o.n (Z.o.n hb)⟩
theorem gal3 (w:World) (o p q:Obj):Gr w (((w.alloc o).alloc p).alloc q):=(Uj w o p).alloc q
theorem hasLeafG (v:Val) (t:Ty) (hl:K8 t) (S S':Nat->Prop) (cv ct:List Value) (ps:Option Addr) (ns cs:Nat) (w:World) (hv:Z9 S w cv v) (ht:Xl S' w ct t):
  Calls prog 82 #[.slice ps ns cs,cv,ct] w λe w'=>e=.returned (.bool (v.kind==t.kind))/\Gr w w':=by
 obtain ⟨k,s,n,names,kids⟩:=t
 obtain ⟨p3,k3,p4,k4,A,_⟩:=Z9.cells hv
 simp only [Il] at A
 subst A
 obtain ⟨q3,l3,q4,l4,rfl,_⟩:=ht.cells'
 clear hv ht
 have hk:k=0\/k=1\/k=2:=hl
 clear hl
 simp only [Ty.kind]
 rcases hk with rfl | rfl | rfl
 all_goals
  go_enter func82,ntmps82
  go_wp2_with fail
  go_ret
  exact ⟨rfl,gal3 _ _ _ _⟩
theorem hasS3 (T:Nat) (S:Nat->Prop) (us:List Sm) (x:Bs) (w:World) (hc:w.cell? ⟨T,1,none⟩=some (.string ⟨x.toArray⟩)):Uv prog 119 #[Iv T] J3 S us (λu=>decide (u.name=x)) w:=by
 rintro W u cs hb hu ⟨rv,rfl,_,_⟩
 have A:=kD hb (Qv w _ hc) hc
 have D:=Qv W _ A
 have G:T<W.heap.size:=D
 have hq:(u.name==x)=decide (u.name=x):=by rw [Bool.eq_iff_iff,beq_iff_eq,decide_eq_true_eq]
 have HQ:=Qq hq
 clear hq hc hb hu
 show Calls prog 119 #[.agg #[sv u.name,rv],Iv T] W _
 unfold sv
 go_enter func119,ntmps119
 go_wp2_with fail
 go_ret
 exact ⟨by rw [<- HQ.o];rfl,Zg _ _⟩
theorem hasS4 (V:Nat) (S:Nat->Prop) (us:List Ct) (x:Bs) (w:World) (hc:w.cell? ⟨V,2,none⟩=some (.string ⟨x.toArray⟩)):Uv prog 121 #[Iv V] Bn S us (λu=>decide (u.name=x)) w:=by
 rintro W u cs hb hu ⟨tc,rfl,_,A⟩
 obtain ⟨tk,ts,tn,t3,n3,l3,t4,n4,l4,rfl⟩:=A.cells
 have D:=kD hb (Qv w _ hc) hc
 have G:=Qv W _ D
 have I:V<W.heap.size:=G
 have hq:(u.name==x)=decide (u.name=x):=by rw [Bool.eq_iff_iff,beq_iff_eq,decide_eq_true_eq]
 have HQ:=Qq hq
 clear hq hc hb hu A
 show Calls prog 121 #[.agg #[sv u.name,.bool u.has,tk,.string ts,tn,.slice t3 n3 l3,.slice t4 n4 l4],Iv V] W _
 unfold sv
 go_enter func121,ntmps121
 go_wp2_with fail
 go_ret
 exact ⟨by rw [<- HQ.o];rfl,Zg _ _⟩
theorem hasSum (us:List Sm) (v:Val) (s:Bs) (tn:Int) (names:List Bs) (kids:List Ty) (hl:∀ u ∈ us,∀ c ∈ u.ctors,K8 c.arg):Fv us v (.mk 3 s tn names kids) (Hv us v s):=by
 intro S0 dV dT cv ct ps ns cs w bB cJ cG
 have bM:Sl J3 (λb=>b<w) w (.slice ps ns cs) us:=bB.mono (λb hb _=>hb)
 have hv:Z9 (λb=>b<w) w cv v:=cJ.move (.refl _ _) (λb hb _=>hb)
 clear cJ bB
 obtain ⟨p3,k3,p4,k4,cD,_,aY,_⟩:=Z9.cells hv
 simp only [Il] at cD
 subst cD
 obtain ⟨q3,l3,q4,l4,rfl,_⟩:=cG.cells'
 obtain ⟨r,hr⟩:=eX (Hv us v s)
 rw [hr]
 obtain ⟨HR,HU,HV,HL⟩:=It hr bM aY hl
 obtain ⟨up,uc,hue,eI⟩:=bM.len
 cases hue
 clear hv aY bM hl hr cG
 go_enter func82,ntmps82
 go_upto_region 13 with fail
 generalize aL:((w.alloc _).alloc _).alloc _=W1
 have bJ:=Iq aL (Xt _ _ _ _)
 have bG:=Ik (b:=w.heap.size) aL (Zp _ _ _ _)
 have cA:=Ik (b:=w.heap.size+1) aL (J5 _ _ _ _)
 have bZ:=Ik (b:=w.heap.size+2) aL (Zi _ _ _ _)
 clear aL
 obtain ⟨cT,cZ,cX⟩:=Im bJ cA bG
 have HI:=Qq (Fi Tryz.ixSum J3 isAgg61 sizeOf61 119 #[Iv (w+2)] (enters_of func119 Ir rfl) _ (.slice ps us.length cs) us W1 (λu=>decide (u.name=s)) (HU.o.below bJ)
  (hasS3 _ _ us s W1 (by rw [Qk _ _ 1 _ _ _ bZ];rfl)))
 have a0:=AB bG
 clear bJ cA bZ bG
 go_upto_region 14 with (refine HI.o.mono ?_;rintro e w2 ⟨rfl,aF⟩;have cU:=Qq aF)
 have aF:=cU.o
 have bH:=kB aF cX.o
 have aK:=kB aF cZ.o
 obtain ⟨dA,cY,aC⟩:=Im aK bH (cT.o.n aF)
 have a0:=AB bH;have b0:=AB aK;have b2:=AM aK;have Y:=Iz aK
 clear aF bH aK
 by_cases h3:v.kind=3
 ·have dE:(v.kind != 3)=false:=by rw [h3];rfl
  have J:(match atP (λu=>decide (u.name=s)) us with
   | none=>false
   | some u=>Jh u v)=r:=by rw [<- HR.o];unfold Hv;rw [h3];rfl
  have aD:=Qq J
  clear J
  rcases Vt (λu:Sm=>decide (u.name=s)) us with ⟨hi,hn⟩ | ⟨i,u,hi,bN,cF⟩
  ·obtain rfl:false=r:=by rw [<- aD.o,hn]
   rw [hi]
   go_wp2_with fail
   go_ret
   exact ⟨rfl,aC.o⟩
  have aE:=Qq (show Jh u v=r by rw [<- aD.o,cF])
  rw [hi]
  have eE:=(Qj bN).1
  have eC:(0:Int)<=(i:Int):=Ia
  have eD:(i:Int)<(us.length:Int):=Ia
  obtain ⟨ub,aP,eJ,rfl,cH,_,_,⟨dX,rfl,_,aX⟩,cI⟩:=(HU.o.below aC.o).elem bN
  obtain ⟨cp,cc,rfl,dZ⟩:=aX.len
  have d1:=cI 1 _ rfl
  rw [show J3.k=2 from rfl] at d1
  have HC:=Qq aX;have aI:=Qq (HL.o u (Qy bN))
  have cW:=Qq (Fi Tryz.ixCtor Bn isAgg58 sizeOf58 121 #[Iv (w+1)] (enters_of func121 Ir rfl) _ (.slice cp u.ctors.length cc) u.ctors w2 (λc=>decide (c.name=v.s)) aX
   (hasS4 _ _ u.ctors v.s w2 b2))
  clear cI aX hi cF b2
  go_upto_region 17 with (refine cW.o.mono ?_;rintro e w3 ⟨rfl,Z⟩;have bT:=Qq Z)
  have Z:=bT.o
  have bY:=kB Z cY.o
  have cB:=kB Z dA.o
  have dB:=Qq cB;have aZ:=Qq (aC.o.n Z)
  have a0:=AB bY
  have d1:=kC Z d1
  have cH:=Qa cH Z.size
  clear Z bY cB b0 Y
  rcases Vt (λc:Ct=>decide (c.name=v.s)) u.ctors with ⟨hk,hn⟩ | ⟨k,c,hk,aW,cE⟩
  ·obtain rfl:false=r:=by rw [<- aE.o];unfold Jh;rw [hn]
   rw [hk]
   go_wp2_with fail
   go_ret
   exact ⟨rfl,aZ.o⟩
  have V:=Qq (show (if c.has then (match v.kids with
   | [x]=>x.kind==c.arg.kind
   | _=>false) else decide (v.kids.length=0))=r by rw [<- aE.o];unfold Jh;rw [cE];rfl)
  rw [hk]
  have eH:=(Qj aW).1
  have eF:(0:Int)<=(k:Int):=Ia
  have eG:(k:Int)<(u.ctors.length:Int):=Ia
  obtain ⟨cb,dU,dW,rfl,dY,_,_,⟨tc,rfl,eA,aO⟩,aA⟩:=(HC.o.below bT.o).elem aW
  obtain ⟨tk,ts,tm,t3,n3,m3,t4,n4,m4,rfl⟩:=aO.cells
  have e0:=aA 0 _ rfl;have e1:=aA 1 _ rfl;have e2:=aA 2 _ rfl;have e3:=aA 3 _ rfl;have e4:=aA 4 _ rfl;have e5:=aA 5 _ rfl;have e6:=aA 6 _ rfl
  rw [show Bn.k=7 from rfl] at e0 e1 e2 e3 e4 e5 e6
  rw [Nat.add_zero] at e0
  unfold sv at e0
  have aJ:=Qq aO;have aH:=Qq (aI.o c (Qy aW))
  clear aW aA aO hk cE
  go_upto_region 20 with fail
  generalize bI:w3.alloc _=M
  have aM:=Iq bI (Zg _ _)
  have T:=Ik (b:=w3.heap.size) bI (Qw _ _)
  have cC:=kB aM dB.o
  have U:=Qq (aZ.o.n aM);have cV:=Qq aM
  have a0:=kC aM a0
  have Y:=Iz cC;have O:=AA T;have g2:=AM T;have g3:=AH T;have g4:=Iz T;have g5:=AY T;have g6:=AK T
  clear bI aM cC d1 e0 e1 e2 e3 e4 e5 e6
  cases hhas:c.has with
  | false=>
   rw [hhas] at O
   have J:=V.o
   rw [hhas] at J
   simp only [Bool.false_eq_true,if_false] at J
   by_cases h0:v.kids.length=0
   ·obtain rfl:true=r:=by rw [<- J];simp [h0]
    have bL:((v.kids.length:Int)==0)=true:=by rw [beq_iff_eq];omega
    clear J h0 a0 g2 g3 g4 g5 g6 T V aE aD HR aJ aH HV HC aI HU
    have N:=Qq (show ∀ W,(λW=>Below M M W) W->Ii W (w+1) 4 (.slice p4 v.kids.length k4)/\Ii W w3 1 (.bool false) from λW h=>by
     have I:∀ {b j:Nat} {u:Value},M.cell? ⟨b,j,none⟩=some u->W.cell? ⟨b,j,none⟩=some u:=λhc=>kC h hc
     exact ⟨I Y,I O⟩)
    clear Y O
    refine wp_region_held_drew (S:=λW=>Below M M W) Ir (Qz _ _).drew (λG=>?_)
    refine In (v:=?_) 0 (λD A=>?_) ?_;rotate_left
    ·(go_simp;try with_reducible rfl)
    refine In (v:=?_) 1 (λD A=>?_) ?_;rotate_left
    ·(obtain ⟨-,O⟩:=N.o D A;go_simp;try with_reducible rfl)
    refine In (v:=?_) 2 (λD A=>?_) ?_;rotate_left
    ·(go_simp;try with_reducible rfl)
    refine AD 3 ?_
    refine AD 4 ?_
    refine AD 5 ?_
    refine AD 6 ?_
    refine In (v:=?_) 7 (λD A=>?_) ?_;rotate_left
    ·(go_simp;try with_reducible rfl)
    refine In (v:=?_) 8 (λD A=>?_) ?_;rotate_left
    ·(go_simp;try with_reducible rfl)
    refine AD 9 ?_
    refine AD 10 ?_
    refine AD 11 ?_
    refine AD 12 ?_
    refine AD 13 ?_
    refine AD 14 ?_
    refine AD 15 ?_
    refine AD 16 ?_
    refine In (v:=?_) 17 (λD A=>?_) ?_;rotate_left
    ·(go_simp;try with_reducible rfl)
    refine In (v:=?_) 18 (λD A=>?_) ?_;rotate_left
    ·(go_simp;try with_reducible rfl)
    refine In (v:=?_) 19 (λD A=>?_) ?_;rotate_left
    ·(go_simp;try with_reducible rfl)
    refine In (v:=?_) 20 (λD A=>?_) ?_;rotate_left
    ·(obtain ⟨-,O⟩:=N.o D A;go_simp;try with_reducible rfl)
    refine In (v:=?_) 21 (λD A=>?_) ?_;rotate_left
    ·(go_simp;try with_reducible rfl)
    refine In (v:=?_) 22 (λD A=>?_) ?_;rotate_left
    ·(go_simp;try with_reducible rfl)
    refine In (v:=?_) 23 (λD A=>?_) ?_;rotate_left
    ·(go_simp;try with_reducible rfl)
    refine In (v:=?_) 24 (λD A=>?_) ?_;rotate_left
    ·(obtain ⟨Y,-⟩:=N.o D A;go_simp;try with_reducible rfl)
    refine In (v:=?_) 25 (λD A=>?_) ?_;rotate_left
    ·(go_simp;try with_reducible rfl)
    refine In (v:=?_) 26 (λD A=>?_) ?_;rotate_left
    ·(go_simp;try with_reducible rfl)
    refine In (v:=?_) 27 (λD A=>?_) ?_;rotate_left
    ·(go_simp;try with_reducible rfl)
    refine In (v:=?_) 28 (λD A=>?_) ?_;rotate_left
    ·(go_simp;try with_reducible rfl)
    refine In (v:=?_) 29 (λD A=>?_) ?_;rotate_left
    ·(go_simp;try with_reducible rfl)
    refine wpAnyH_done Ir ?_ _
    clear G
    go_wp2_with fail
    go_ret
    exact ⟨rfl,U.o.n (Qz _ _).drew⟩
   obtain rfl:false=r:=by rw [<- J];simp [h0]
   have bL:((v.kids.length:Int)==0)=false:=by rw [<- Qt,beq_iff_eq];omega
   clear J h0 a0 g2 g3 g4 g5 g6 T V aE aD HR aJ aH HV HC aI HU
   have N:=Qq (show ∀ W,(λW=>Below M M W) W->Ii W (w+1) 4 (.slice p4 v.kids.length k4)/\Ii W w3 1 (.bool false) from λW h=>by
    have I:∀ {b j:Nat} {u:Value},M.cell? ⟨b,j,none⟩=some u->W.cell? ⟨b,j,none⟩=some u:=λhc=>kC h hc
    exact ⟨I Y,I O⟩)
   clear Y O
   refine wp_region_held_drew (S:=λW=>Below M M W) Ir (Qz _ _).drew (λG=>?_)
   refine In (v:=?_) 0 (λD A=>?_) ?_;rotate_left
   ·(go_simp;try with_reducible rfl)
   refine In (v:=?_) 1 (λD A=>?_) ?_;rotate_left
   ·(obtain ⟨-,O⟩:=N.o D A;go_simp;try with_reducible rfl)
   refine In (v:=?_) 2 (λD A=>?_) ?_;rotate_left
   ·(go_simp;try with_reducible rfl)
   refine AD 3 ?_
   refine AD 4 ?_
   refine AD 5 ?_
   refine AD 6 ?_
   refine In (v:=?_) 7 (λD A=>?_) ?_;rotate_left
   ·(go_simp;try with_reducible rfl)
   refine In (v:=?_) 8 (λD A=>?_) ?_;rotate_left
   ·(go_simp;try with_reducible rfl)
   refine AD 9 ?_
   refine AD 10 ?_
   refine AD 11 ?_
   refine AD 12 ?_
   refine AD 13 ?_
   refine AD 14 ?_
   refine AD 15 ?_
   refine AD 16 ?_
   refine In (v:=?_) 17 (λD A=>?_) ?_;rotate_left
   ·(go_simp;try with_reducible rfl)
   refine In (v:=?_) 18 (λD A=>?_) ?_;rotate_left
   ·(go_simp;try with_reducible rfl)
   refine In (v:=?_) 19 (λD A=>?_) ?_;rotate_left
   ·(go_simp;try with_reducible rfl)
   refine In (v:=?_) 20 (λD A=>?_) ?_;rotate_left
   ·(obtain ⟨-,O⟩:=N.o D A;go_simp;try with_reducible rfl)
   refine In (v:=?_) 21 (λD A=>?_) ?_;rotate_left
   ·(go_simp;try with_reducible rfl)
   refine In (v:=?_) 22 (λD A=>?_) ?_;rotate_left
   ·(go_simp;try with_reducible rfl)
   refine In (v:=?_) 23 (λD A=>?_) ?_;rotate_left
   ·(go_simp;try with_reducible rfl)
   refine In (v:=?_) 24 (λD A=>?_) ?_;rotate_left
   ·(obtain ⟨Y,-⟩:=N.o D A;go_simp;try with_reducible rfl)
   refine In (v:=?_) 25 (λD A=>?_) ?_;rotate_left
   ·(go_simp;try with_reducible rfl)
   refine In (v:=?_) 26 (λD A=>?_) ?_;rotate_left
   ·(go_simp;try with_reducible rfl)
   refine In (v:=?_) 27 (λD A=>?_) ?_;rotate_left
   ·(go_simp;try with_reducible rfl)
   refine In (v:=?_) 28 (λD A=>?_) ?_;rotate_left
   ·(go_simp;try with_reducible rfl)
   refine In (v:=?_) 29 (λD A=>?_) ?_;rotate_left
   ·(go_simp;try with_reducible rfl)
   refine wpAnyH_done Ir ?_ _
   clear G
   go_wp2_with fail
   go_ret
   exact ⟨rfl,U.o.n (Qz _ _).drew⟩
  | true=>
   rw [hhas] at O
   have J:=V.o
   rw [hhas] at J
   simp only [if_true] at J
   by_cases h1:v.kids.length=1
   ·obtain ⟨x,hx⟩:=List.length_eq_one_iff.1 h1
    rw [hx] at J
    have cL:v.kids[0]?=some x:=by rw [hx];rfl
    rw [h1] at HV Y
    obtain ⟨ga,oa,x3,bO,x4,bP,rfl,eB,cK,f0,f1,f2,f3,f4⟩:=(HV.o.below U.o).val cL
    simp only [Nat.zero_mul,Nat.add_zero] at f0 f1 f2 f3 f4
    have bA:(x.kind==c.arg.kind)=r:=J
    have bW:=Qq cK;have bV:=Qq (aJ.o.move (.f cV.o) Ij)
    have bK:∀ W,Below M M W->Calls prog 82 #[Io ub aP us.length cs,.agg (Il x x3 bO x4 bP).toArray,.agg #[tk,.string ts,tm,.slice t3 n3 m3,.slice t4 n4 m4]] W λe w'=>e=.returned (.bool r)/\Below W W w':=λW h=>by
     rw [<- bA]
     exact (hasLeafG x c.arg aH.o _ _ _ _ _ _ _ _ (bW.o.move (.f h) Ij) (bV.o.move (.f h) Ij)).mono (by rintro e w' ⟨rfl,hg⟩;exact ⟨rfl,hg.bl⟩)
    unfold Il at bK
    have bL:((1:Int)==1)=true:=rfl
    clear J bA h1 hx cL cK T V aE aD HR aJ aH HV HC aI HU bW bV
    cases r with
    | false=>
     have N:=Qq (show ∀ W,(λW=>Below M M W) W->Ii W w 0 (Io ub aP us.length cs)/\Ii W (w+1) 4 (Io ga oa 1 k4)/\Ii W w3 1 (.bool true)/\Ii W w3 2 tk/\Ii W w3 3 (.string ts)/\Ii W w3 4 tm/\Ii W w3 5 (.slice t3 n3 m3)/\Ii W w3 6 (.slice t4 n4 m4)/\BD W ga oa x.kind x.n x.s (.slice x3 x.names.length bO) (.slice x4 x.kids.length bP) from λW h=>by
      have I:∀ {b j:Nat} {u:Value},M.cell? ⟨b,j,none⟩=some u->W.cell? ⟨b,j,none⟩=some u:=λhc=>kC h hc
      exact ⟨I a0,I Y,I O,I g2,I g3,I g4,I g5,I g6,I f0,I f1,I f2,I f3,I f4⟩)
     clear a0 Y O g2 g3 g4 g5 g6 f0 f1 f2 f3 f4
     refine wp_region_held_drew (S:=λW=>Below M M W) Ir (Qz _ _).drew (λG=>?_)
     refine In (v:=?_) 0 (λD A=>?_) ?_;rotate_left
     ·(go_simp;try with_reducible rfl)
     refine In (v:=?_) 1 (λD A=>?_) ?_;rotate_left
     ·(obtain ⟨-,-,O,-,-,-,-,-,-,-,-,-,-⟩:=N.o D A;go_simp;try with_reducible rfl)
     refine In (v:=?_) 2 (λD A=>?_) ?_;rotate_left
     ·(go_simp;try with_reducible rfl)
     refine In (v:=?_) 3 (λD A=>?_) ?_;rotate_left
     ·(go_simp;try with_reducible rfl)
     refine In (v:=?_) 4 (λD A=>?_) ?_;rotate_left
     ·(obtain ⟨-,Y,-,-,-,-,-,-,-,-,-,-,-⟩:=N.o D A;go_simp;try with_reducible rfl)
     refine In (v:=?_) 5 (λD A=>?_) ?_;rotate_left
     ·(go_simp;try with_reducible rfl)
     refine In (v:=?_) 6 (λD A=>?_) ?_;rotate_left
     ·(go_simp;try with_reducible rfl)
     refine In (v:=?_) 7 (λD A=>?_) ?_;rotate_left
     ·(go_simp;try with_reducible rfl)
     refine In (v:=?_) 8 (λD A=>?_) ?_;rotate_left
     ·(go_simp;try with_reducible rfl)
     refine In (v:=?_) 9 (λD A=>?_) ?_;rotate_left
     ·(obtain ⟨a0,-,-,-,-,-,-,-,-,-,-,-,-⟩:=N.o D A;go_simp;try with_reducible rfl)
     refine In (v:=?_) 10 (λD A=>?_) ?_;rotate_left
     ·(go_simp;try with_reducible rfl)
     refine In (v:=?_) 11 (λD A=>?_) ?_;rotate_left
     ·(obtain ⟨-,Y,-,-,-,-,-,-,-,-,-,-,-⟩:=N.o D A;go_simp;try with_reducible rfl)
     refine In (v:=?_) 12 (λD A=>?_) ?_;rotate_left
     ·(go_simp;try with_reducible rfl)
     refine In (v:=?_) 13 (λD A=>?_) ?_;rotate_left
     ·(obtain ⟨-,-,-,-,-,-,-,-,f0,f1,f2,f3,f4⟩:=N.o D A;go_simp;try with_reducible rfl)
     refine In (v:=?_) 14 (λD A=>?_) ?_;rotate_left
     ·(go_simp;try with_reducible rfl)
     refine In (v:=?_) 15 (λD A=>?_) ?_;rotate_left
     ·(obtain ⟨-,-,-,g2,g3,g4,g5,g6,-,-,-,-,-⟩:=N.o D A;go_simp;try with_reducible rfl)
     refine AE 16 (λK hK=>?_) Qo
     go_simp
     refine (bK _ (Qz _ _).drew).mono ?_
     rintro e w5 ⟨rfl,aN⟩
     have aG:Hid (Below M M w5):=Qq ((Qz _ _).drew.n aN)
     clear aN
     try dsimp only
     refine hK.o _ _ aG.o (λG=>?_)
     clear hK K
     refine In (v:=?_) 17 (λD A=>?_) ?_;rotate_left
     ·(go_simp;try with_reducible rfl)
     refine In (v:=?_) 18 (λD A=>?_) ?_;rotate_left
     ·(go_simp;try with_reducible rfl)
     refine In (v:=?_) 19 (λD A=>?_) ?_;rotate_left
     ·(go_simp;try with_reducible rfl)
     refine In (v:=?_) 20 (λD A=>?_) ?_;rotate_left
     ·(obtain ⟨-,-,O,-,-,-,-,-,-,-,-,-,-⟩:=N.o D A;go_simp;try with_reducible rfl)
     refine In (v:=?_) 21 (λD A=>?_) ?_;rotate_left
     ·(go_simp;try with_reducible rfl)
     refine In (v:=?_) 22 (λD A=>?_) ?_;rotate_left
     ·(go_simp;try with_reducible rfl)
     refine AD 23 ?_
     refine AD 24 ?_
     refine AD 25 ?_
     refine AD 26 ?_
     refine In (v:=?_) 27 (λD A=>?_) ?_;rotate_left
     ·(go_simp;try with_reducible rfl)
     refine In (v:=?_) 28 (λD A=>?_) ?_;rotate_left
     ·(go_simp;try with_reducible rfl)
     refine In (v:=?_) 29 (λD A=>?_) ?_;rotate_left
     ·(go_simp;try with_reducible rfl)
     refine wpAnyH_done Ir ?_ _
     clear G
     go_wp2_with fail
     go_ret
     exact ⟨rfl,U.o.n aG.o⟩
    | true=>
     have N:=Qq (show ∀ W,(λW=>Below M M W) W->Ii W w 0 (Io ub aP us.length cs)/\Ii W (w+1) 4 (Io ga oa 1 k4)/\Ii W w3 1 (.bool true)/\Ii W w3 2 tk/\Ii W w3 3 (.string ts)/\Ii W w3 4 tm/\Ii W w3 5 (.slice t3 n3 m3)/\Ii W w3 6 (.slice t4 n4 m4)/\BD W ga oa x.kind x.n x.s (.slice x3 x.names.length bO) (.slice x4 x.kids.length bP) from λW h=>by
      have I:∀ {b j:Nat} {u:Value},M.cell? ⟨b,j,none⟩=some u->W.cell? ⟨b,j,none⟩=some u:=λhc=>kC h hc
      exact ⟨I a0,I Y,I O,I g2,I g3,I g4,I g5,I g6,I f0,I f1,I f2,I f3,I f4⟩)
     clear a0 Y O g2 g3 g4 g5 g6 f0 f1 f2 f3 f4
     refine wp_region_held_drew (S:=λW=>Below M M W) Ir (Qz _ _).drew (λG=>?_)
     refine In (v:=?_) 0 (λD A=>?_) ?_;rotate_left
     ·(go_simp;try with_reducible rfl)
     refine In (v:=?_) 1 (λD A=>?_) ?_;rotate_left
     ·(obtain ⟨-,-,O,-,-,-,-,-,-,-,-,-,-⟩:=N.o D A;go_simp;try with_reducible rfl)
     refine In (v:=?_) 2 (λD A=>?_) ?_;rotate_left
     ·(go_simp;try with_reducible rfl)
     refine In (v:=?_) 3 (λD A=>?_) ?_;rotate_left
     ·(go_simp;try with_reducible rfl)
     refine In (v:=?_) 4 (λD A=>?_) ?_;rotate_left
     ·(obtain ⟨-,Y,-,-,-,-,-,-,-,-,-,-,-⟩:=N.o D A;go_simp;try with_reducible rfl)
     refine In (v:=?_) 5 (λD A=>?_) ?_;rotate_left
     ·(go_simp;try with_reducible rfl)
     refine In (v:=?_) 6 (λD A=>?_) ?_;rotate_left
     ·(go_simp;try with_reducible rfl)
     refine In (v:=?_) 7 (λD A=>?_) ?_;rotate_left
     ·(go_simp;try with_reducible rfl)
     refine In (v:=?_) 8 (λD A=>?_) ?_;rotate_left
     ·(go_simp;try with_reducible rfl)
     refine In (v:=?_) 9 (λD A=>?_) ?_;rotate_left
     ·(obtain ⟨a0,-,-,-,-,-,-,-,-,-,-,-,-⟩:=N.o D A;go_simp;try with_reducible rfl)
     refine In (v:=?_) 10 (λD A=>?_) ?_;rotate_left
     ·(go_simp;try with_reducible rfl)
     refine In (v:=?_) 11 (λD A=>?_) ?_;rotate_left
     ·(obtain ⟨-,Y,-,-,-,-,-,-,-,-,-,-,-⟩:=N.o D A;go_simp;try with_reducible rfl)
     refine In (v:=?_) 12 (λD A=>?_) ?_;rotate_left
     ·(go_simp;try with_reducible rfl)
     refine In (v:=?_) 13 (λD A=>?_) ?_;rotate_left
     ·(obtain ⟨-,-,-,-,-,-,-,-,f0,f1,f2,f3,f4⟩:=N.o D A;go_simp;try with_reducible rfl)
     refine In (v:=?_) 14 (λD A=>?_) ?_;rotate_left
     ·(go_simp;try with_reducible rfl)
     refine In (v:=?_) 15 (λD A=>?_) ?_;rotate_left
     ·(obtain ⟨-,-,-,g2,g3,g4,g5,g6,-,-,-,-,-⟩:=N.o D A;go_simp;try with_reducible rfl)
     refine AE 16 (λK hK=>?_) Qo
     go_simp
     refine (bK _ (Qz _ _).drew).mono ?_
     rintro e w5 ⟨rfl,aN⟩
     have aG:Hid (Below M M w5):=Qq ((Qz _ _).drew.n aN)
     clear aN
     try dsimp only
     refine hK.o _ _ aG.o (λG=>?_)
     clear hK K
     refine In (v:=?_) 17 (λD A=>?_) ?_;rotate_left
     ·(go_simp;try with_reducible rfl)
     refine In (v:=?_) 18 (λD A=>?_) ?_;rotate_left
     ·(go_simp;try with_reducible rfl)
     refine AD 19 ?_
     refine AD 20 ?_
     refine AD 21 ?_
     refine AD 22 ?_
     refine AD 23 ?_
     refine AD 24 ?_
     refine AD 25 ?_
     refine AD 26 ?_
     refine AD 27 ?_
     refine In (v:=?_) 28 (λD A=>?_) ?_;rotate_left
     ·(go_simp;try with_reducible rfl)
     refine In (v:=?_) 29 (λD A=>?_) ?_;rotate_left
     ·(go_simp;try with_reducible rfl)
     refine wpAnyH_done Ir ?_ _
     clear G
     go_wp2_with fail
     go_ret
     exact ⟨rfl,U.o.n aG.o⟩
   obtain rfl:false=r:=by
    rw [<- J]
    match aY:v.kids with
    | []=>rfl
    | [x]=>rw [aY] at h1;simp at h1
    | _::_::_=>rfl
   have bL:((v.kids.length:Int)==1)=false:=by rw [<- Qt,beq_iff_eq];omega
   clear J h1 a0 g2 g3 g4 g5 g6 T V aE aD HR aJ aH HV HC aI HU
   have N:=Qq (show ∀ W,(λW=>Below M M W) W->Ii W (w+1) 4 (.slice p4 v.kids.length k4)/\Ii W w3 1 (.bool true) from λW h=>by
    have I:∀ {b j:Nat} {u:Value},M.cell? ⟨b,j,none⟩=some u->W.cell? ⟨b,j,none⟩=some u:=λhc=>kC h hc
    exact ⟨I Y,I O⟩)
   clear Y O
   refine wp_region_held_drew (S:=λW=>Below M M W) Ir (Qz _ _).drew (λG=>?_)
   refine In (v:=?_) 0 (λD A=>?_) ?_;rotate_left
   ·(go_simp;try with_reducible rfl)
   refine In (v:=?_) 1 (λD A=>?_) ?_;rotate_left
   ·(obtain ⟨-,O⟩:=N.o D A;go_simp;try with_reducible rfl)
   refine In (v:=?_) 2 (λD A=>?_) ?_;rotate_left
   ·(go_simp;try with_reducible rfl)
   refine In (v:=?_) 3 (λD A=>?_) ?_;rotate_left
   ·(go_simp;try with_reducible rfl)
   refine In (v:=?_) 4 (λD A=>?_) ?_;rotate_left
   ·(obtain ⟨Y,-⟩:=N.o D A;go_simp;try with_reducible rfl)
   refine In (v:=?_) 5 (λD A=>?_) ?_;rotate_left
   ·(go_simp;try with_reducible rfl)
   refine In (v:=?_) 6 (λD A=>?_) ?_;rotate_left
   ·(go_simp;try with_reducible rfl)
   refine In (v:=?_) 7 (λD A=>?_) ?_;rotate_left
   ·(go_simp;try with_reducible rfl)
   refine In (v:=?_) 8 (λD A=>?_) ?_;rotate_left
   ·(go_simp;try with_reducible rfl)
   refine AD 9 ?_
   refine AD 10 ?_
   refine AD 11 ?_
   refine AD 12 ?_
   refine AD 13 ?_
   refine AD 14 ?_
   refine AD 15 ?_
   refine AD 16 ?_
   refine In (v:=?_) 17 (λD A=>?_) ?_;rotate_left
   ·(go_simp;try with_reducible rfl)
   refine In (v:=?_) 18 (λD A=>?_) ?_;rotate_left
   ·(go_simp;try with_reducible rfl)
   refine In (v:=?_) 19 (λD A=>?_) ?_;rotate_left
   ·(go_simp;try with_reducible rfl)
   refine In (v:=?_) 20 (λD A=>?_) ?_;rotate_left
   ·(obtain ⟨-,O⟩:=N.o D A;go_simp;try with_reducible rfl)
   refine In (v:=?_) 21 (λD A=>?_) ?_;rotate_left
   ·(go_simp;try with_reducible rfl)
   refine In (v:=?_) 22 (λD A=>?_) ?_;rotate_left
   ·(go_simp;try with_reducible rfl)
   refine AD 23 ?_
   refine AD 24 ?_
   refine AD 25 ?_
   refine AD 26 ?_
   refine In (v:=?_) 27 (λD A=>?_) ?_;rotate_left
   ·(go_simp;try with_reducible rfl)
   refine In (v:=?_) 28 (λD A=>?_) ?_;rotate_left
   ·(go_simp;try with_reducible rfl)
   refine In (v:=?_) 29 (λD A=>?_) ?_;rotate_left
   ·(go_simp;try with_reducible rfl)
   refine wpAnyH_done Ir ?_ _
   clear G
   go_wp2_with fail
   go_ret
   exact ⟨rfl,U.o.n (Qz _ _).drew⟩
 have dE:(v.kind != 3)=true:=by rw [bne_iff_ne];exact h3
 obtain rfl:false=r:=by
  have dD:(v.kind==3)=false:=by simpa using h3
  rw [<- HR.o];unfold Hv;rw [dD];rfl
 clear h3
 go_wp2_with fail
 go_ret
 exact ⟨rfl,aC.o⟩
theorem hasP_at (us:List Sm) (hu:Dd us) (v:Val) (t:Ty) (h:K8 t\/t.kind=3):Fv us v t (Ox us v t):=by
 obtain ⟨k,s,n,names,kids⟩:=t
 unfold Ox
 rcases h with h | h
 ·have A:k=0\/k=1\/k=2:=h
  rw [if_neg (show ¬ (Ty.mk k s n names kids).kind=3 from by simp only [Ty.kind];omega)]
  exact Am us v k A s n names kids
 have A:k=3:=h
 subst A
 exact hasSum us v s n names kids hu
structure Dc (s:Sc) (c:Nat) (l:List Rel):Prop where
 tabs:l.map Rel.table=s.tables.map Tbl.name
 rows:∀ r ∈ l,∀ v ∈ r.rows,Kb v
 few:∀ r ∈ l,r.rows.length<=c
theorem Dc.len {s:Sc} {c:Nat} {l:List Rel} (h:Dc s c l):l.length=s.tables.length:=by have:=congrArg List.length h.tabs;simpa using this
theorem Dc.mono {s:Sc} {c d:Nat} {l:List Rel} (h:Dc s c l) (hc:c<=d):Dc s d l:=⟨h.tabs,h.rows,λr hr=>Qc (h.few r hr) hc⟩
theorem Dc.set {s:Sc} {c:Nat} {l:List Rel} (h:Dc s c l) {i:Nat} {r:Rel} (hr:l[i]?=some r) (zs:List Val) (hz:∀ v ∈ zs,Kb v) (hc:zs.length<=c):Dc s c (l.set i ⟨r.table,zs⟩):=by
 have D:∀ q ∈ l.set i ⟨r.table,zs⟩,q ∈ l\/q=⟨r.table,zs⟩:=λq A=>List.mem_or_eq_of_mem_set A
 refine ⟨?_,λq A u hu=>?_,λq A=>?_⟩
 ·rw [<- h.tabs,List.map_set]
  obtain ⟨h1,rfl⟩:=Qj hr
  apply List.ext_getElem?
  intro j
  rw [List.getElem?_set]
  split
  ·rename_i e
   subst e
   simp [h1]
  rfl
 ·rcases D q A with A | rfl
  ·exact h.rows q A u hu
  exact hz u hu
 rcases D q A with A | rfl
 ·exact h.few q A
 exact hc
theorem Dc.ins {s:Sc} {c:Nat} {l:List Rel} (h:Dc s c l) (x:Bs) (v:Val) (hv:Kb v):Dc s (c+1) (Xn l x v):=by
 cases ha:Yr l x with
 | none=>rw [Bp ha];exact h.mono (Nat.le_succ c)
 | some i=>
  obtain ⟨r,A⟩:∃ r,l[i]?=some r:=by
   unfold Yr at ha
   have:=(List.findIdx?_eq_some_iff_getElem.1 ha).1
   exact ⟨_,Qx this⟩
  rw [Ey ha A]
  have hm:=Qy A
  refine (h.mono (Nat.le_succ c)).set A _ (λu D=>?_) ?_
  ·rcases Nd D with D | rfl
   ·exact h.rows r hm u D
   exact hv
  have:=Sv r.rows v;have:=h.few r hm;omega
def Ng (s:Sc) (c:Nat) (W0 wr:World) (v:Value) (n:Nat):Prop:=∃ l css,Dc s c l/\l.length=n/\Own Xz 70 (λb=>W0<=b) W0 wr v l css
theorem Ng.grow {s:Sc} {c:Nat} {W0 wr wr':World} {v:Value} {n:Nat} (h:Ng s c W0 wr v n) (hb:Below wr wr wr'):Ng s c W0 wr' v n:=by
 obtain ⟨l,css,h1,h2,h3⟩:=h
 exact ⟨l,css,h1,h2,h3.below hb⟩
theorem Qqc (S:Nat->Prop) (v:Value) (l:List Int) (w:World) (hs:V5 S w v l) (hi:Kz l) (hk:Xk l 0 13=7):
  Calls prog 17 #[v,Ic] w (J7 w (Gen.check 7)):=by
 have HP:=Qq (λW (hb:Below w w W)=>Ys S v l 0 13 W (hs.below hb) hi Ia Ia)
 rw [hk] at HP
 obtain ⟨p,cap,rfl,_⟩:=hs.len
 clear hs hi hk
 go_enter func17,ntmps17
 go_upto_region 8 with fail
 generalize aG:(((((((w.alloc _).alloc _).alloc _).alloc _).alloc _).alloc _).alloc _).alloc _=W8
 have cT:=Iq aG (Yj (Yj (Yj (Yj (Yj (Yj (Yj (Zg w _) _) _) _) _) _) _) _)
 have cX:W8=w.heap.size+8:=by rw [<- aG];simp
 have r8:=Ik (b:=w.heap.size) aG (Zb (Zb (Zb (Zb (Zb (Zb (Zb (Y6 rfl _) _) _) _) _) _) _) _)
 have ha:=Ik (b:=w.heap.size+1) aG (Zb (Zb (Zb (Zb (Zb (Zb (Y6 Ib _) _) _) _) _) _) _)
 have hb:=Ik (b:=w.heap.size+1+1) aG (Zb (Zb (Zb (Zb (Zb (Y6 Ib _) _) _) _) _) _)
 have bF:=Ik (b:=w.heap.size+1+1+1+1+1+1) aG (Zb (Y6 Ib _) _)
 have aM:w.heap.size<W8.heap.size:=Ia
 have dR:w.heap.size≠W8.heap.size:=Ia
 have dP:=Qq cX
 clear cX
 have bV:=Qq cT;have dE:=Qq r8
 clear aG cT r8
 obtain ⟨a0,a1,a2,a3,a4,a5,a6,a7,a8⟩:=AC ha
 clear ha
 obtain ⟨b0,b1,b2,b3,b4,b5,b6,b7,b8⟩:=AC hb
 clear hb
 obtain ⟨O,T,U,V,Y,Z,aA,aB,aC⟩:=AC bF
 clear bF
 go_upto_region 22 with (go_at_call 18;refine (HP.o _ bV.o).mono ?_;rintro e w' ⟨rfl,rfl⟩)
 obtain ⟨aS,aT,aU,aV⟩:=It True.intro True.intro True.intro True.intro
 go_upto_region 23 with (have hk:=aU.o;clear aU hk;generalize aW:World.alloc W8 _=W9;have A:=Iq aW (Zg _ _);have bE:=Ik (b:=W8.heap.size) aW (Qw _ _);have a0:=kC A a0;have a1:=kC A a1;have a2:=kC A a2;have a3:=kC A a3;have a4:=kC A a4;have a5:=kC A a5;have a6:=kC A a6;have a7:=kC A a7;have a8:=kC A a8;have b0:=kC A b0;have b1:=kC A b1;have b2:=kC A b2;have b3:=kC A b3;have b4:=kC A b4;have b5:=kC A b5;have b6:=kC A b6;have b7:=kC A b7;have b8:=kC A b8;have O:=kC A O;have T:=kC A T;have U:=kC A U;have V:=kC A V;have Y:=kC A Y;have Z:=kC A Z;have aA:=kC A aA;have aB:=kC A aB;have aC:=kC A aC;have bW:=Qq bE;have bD:=Qq A;clear aW bE A)
 generalize hW:(World.alloc W9 _).alloc _=aK
 have I:=Iq hW (Zs _ _ _)
 have cR:=Ik (b:=W9.heap.size) hW (Zb (Y6 rfl _) _)
 have cP:=Ik (b:=W9.heap.size+1) hW (Y6 Ib _)
 clear hW
 have O:=kC I O
 have T:=kC I T
 have U:=kC I U
 have V:=kC I V
 have Y:=kC I Y
 have Z:=kC I Z
 have aA:=kC I aA
 have aB:=kC I aB
 have aC:=kC I aC
 obtain ⟨r0,r1,r2,r3,r4,r5,r6,r7,r8⟩:=AC cP
 have dB:=Qq (kB I bW.o)
 have aN:=Qq (bD.o.n I);have cZ:=Qq cR
 clear I cR cP a0 b0 a1 b1 a2 b2 a3 b3 a4 b4 a5 b5 a6 b6 a7 b7 a8 b8
 go_upto_region 24 with (have hk:=aV.o;clear aV hk;generalize aH:World.alloc aK _=aO;have D:=Iq aH (Zg _ _);have aP:=Ik (b:=aK.heap.size) aH (Qw _ _);have r0:=kC D r0;have r1:=kC D r1;have r2:=kC D r2;have r3:=kC D r3;have r4:=kC D r4;have r5:=kC D r5;have r6:=kC D r6;have r7:=kC D r7;have r8:=kC D r8;have O:=kC D O;have T:=kC D T;have U:=kC D U;have V:=kC D V;have Y:=kC D Y;have Z:=kC D Z;have aA:=kC D aA;have aB:=kC D aB;have aC:=kC D aC;have bH:=Qq aP;have aF:=Qq D;clear aH aP D)
 generalize hW:(World.alloc aO _).alloc _=aL
 have G:=Iq hW (Zs _ _ _)
 have cS:=Ik (b:=aO.heap.size) hW (Zb (Y6 rfl _) _)
 have cQ:=Ik (b:=aO.heap.size+1) hW (Y6 Ib _)
 clear hW
 have r0:=kC G r0
 have r1:=kC G r1
 have r2:=kC G r2
 have r3:=kC G r3
 have r4:=kC G r4
 have r5:=kC G r5
 have r6:=kC G r6
 have r7:=kC G r7
 have r8:=kC G r8
 obtain ⟨t0,t1,t2,t3,t4,t5,t6,t7,t8⟩:=AC cQ
 have dC:=Qq (kB G bH.o)
 have bC:=Qq (aF.o.n G);have dA:=Qq cS
 have aE:=Qq (aN.o.n (aF.o.n G))
 have dO:w.heap.size<W9.heap.size:=Qa aM bD.o.size
 have cV:w.heap.size<aO.heap.size:=Qa aM (aN.o.n aF.o).size
 clear G cS cQ O T U V Y Z aA aB aC
 have cU:w.heap.size<aK.heap.size:=Qa aM aN.o.size
 have aY:w.heap.size<aL.heap.size:=Qa aM aE.o.size
 have aZ:∀ W,Below aK aK W->Yx (λb=>w<b) W [.int .i64 6,Ig,Ic,Ig,Io W8 0 2 2,Ie,Io W9 0 2 2,Ic,Ic] Gen.rec:=λW hW=>Xv (nm:=[]) (s:=[]) Ib Ib (Y4 (xs:=[[121],[120]]) (kB hW dB.o) aM (Rv _ _ [121] [120] Ib Ib) rfl rfl Ib) (Sl.nil _ _ _) (Y4 (xs:=[Gen.a,Gen.b]) (kB hW cZ.o) dO ((Cs.one (r:=Vz) (Yv 3 [97] 0 [] Ib Ib)).app (Cs.one (r:=Vz) (Yv 3 [98] 0 [] Ib Ib))) rfl rfl Ib)
 have bG:∀ W,Below aL aL W->Yx (λb=>w<b) W [.int .i64 7,Ig,Ic,Ig,Io aK 0 1 1,Ie,Io aO 0 2 2,Ic,Ic] Gen.wth:=λW hW=>Xv (nm:=[]) (s:=[]) Ib Ib (Y4 (xs:=[[120]]) (kB hW dC.o) cU (Dq [120] Ib) rfl rfl Ib) (Sl.nil _ _ _) (Y4 (xs:=[Gen.rec,Gen.one]) (kB hW dA.o) cV ((Cs.one (r:=Vz) (aZ W (bC.o.n hW))).app (Cs.one (r:=Vz) (Yv 0 [] 1 [] Ib Ib))) rfl rfl Ib)
 have bX:=Qq aZ;have bY:=Qq bG
 clear aZ bG
 go_wp2_with (first
   | (have hk:=aS.o;clear aS hk;generalize aI:World.alloc aL _=bK;have J:=Iq aI (Zg _ _);have aQ:=Ik (b:=aL.heap.size) aI (Qw _ _);have r0:=kC J r0;have r1:=kC J r1;have r2:=kC J r2;have r3:=kC J r3;have r4:=kC J r4;have r5:=kC J r5;have r6:=kC J r6;have r7:=kC J r7;have r8:=kC J r8;have bI:=Qq aQ;have M:=Qq J;clear aI aQ J)
   | (have hk:=aT.o;clear aT hk;generalize aJ:World.alloc bK _=dQ;have aX:=Iq aJ (Zg _ _);have aR:=Ik (b:=bK.heap.size) aJ (Qw _ _);have bJ:=Qq aR;have N:=Qq aX;clear aJ aR aX)
   | (go_at_call 63;refine (Vo w [60] _ _ [.int .i64 8,.string ⟨#[120]⟩,Ic,Ig,Ie,Ie,Io aL 0 1 1,Ic,Ic] [.int .i64 8,.string ⟨#[121]⟩,Ic,Ig,Ie,Ie,Io bK 0 1 1,Ic,Ic] _ Ib (Xv (nm:=[120]) (s:=[]) Ib Ib (Sl.nil _ _ _) (Sl.nil _ _ _) (Y4 (xs:=[Gen.wth]) (kB N.o bI.o) aY (Cs.one (r:=Vz) (x:=Gen.wth) (show Yx _ _ _ _ from bY.o _ (M.o.n N.o))) rfl rfl Ib)) (Xv (nm:=[121]) (s:=[]) Ib Ib (Sl.nil _ _ _) (Sl.nil _ _ _) (Y4 (xs:=[Gen.rec]) bJ.o (Qa aY M.o.size) (Cs.one (r:=Vz) (x:=Gen.rec) (show Yx _ _ _ _ from bX.o _ (bC.o.n (M.o.n N.o)))) rfl rfl Ib)) (Qa aY (M.o.n N.o).size)).mono ?_;rintro e w1 ⟨cE,cG,cF,cH,cA,cJ,cM,cB,cK,cN,cC,cL,cO,cD,cI,rfl,cW,bL⟩;have bA:=(((aE.o.n (M.o.n N.o)).n bL).block _ aM).trans dE.o;obtain ⟨y0,y1,y2,y3,y4,y5,y6,y7,y8⟩:=AC bA;obtain ⟨f0,f1,f2,f3,f4,f5,f6,f7,f8⟩:=BB bA;have dD:=Qq bA;clear bA;have H1:=Qq cW;have cY:=Qq bL;clear cW bL))
 show bodyPost _ _ _ _ _ (put9 w1 w cE (.string cG) cF (.string cH) (.slice cA cJ cM) (.slice cB cK cN) (.slice cC cL cO) cD cI)
 exact Q7 (v:=.agg (AW cE cG cF cH cA cJ cM cB cK cN cC cL cO cD cI)) (by simp [results,results17,go_sem,Xm dD.o]) rfl (Uu H1.o (bV.o.n (aE.o.n (M.o.n (N.o.n cY.o)))) rfl)
end Go.Proofs.YtdpibdpbgokmoaaGreatDoor

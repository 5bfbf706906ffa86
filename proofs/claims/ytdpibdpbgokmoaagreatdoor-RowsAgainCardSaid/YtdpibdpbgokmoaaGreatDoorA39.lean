import Derived.Test.YtdpibdpbgokmoaaGreatDoorA35
set_option maxRecDepth 100000
set_option maxHeartbeats 400000000
namespace Go.Proofs.YtdpibdpbgokmoaaGreatDoor
open Go.RowKit Go.Shelf Go.Lib Tryz
theorem Ro (nm:Bs) (n:Int) (s:Bs) (names binds:List Bs) (x:Ex) (a z:Int) (env:List (Bs × Val)) (u v:Val) (hx:EvO x env (some u)) (hk4:u.kind=4) (hgv:Yp u nm=some v):EvO (.mk 8 nm n s names binds [x] a z) env (some v):=by
 have bU:=Qq hk4;have bI:=Qq hgv
 clear hk4 hgv
 intro S0 S' cs p w bX cG cF cE
 have cN:=Qq cG
 clear cG
 have he:Xy (λb=>S0 b/\b<w) w p env:=cE.move (.refl _ _) (λb hb h=>⟨h,hb⟩)
 obtain ⟨nv,bv,kv,rfl,dC,dL,hn,hb,hk⟩:=Yy.1 cF
 obtain ⟨np,nc,rfl,_⟩:=hn.len
 obtain ⟨bp,bc,rfl,_⟩:=hb.len
 obtain ⟨kp,kc,rfl,dA⟩:=hk.len
 obtain ⟨q,rfl⟩:=he.ptr
 obtain ⟨HE,HK,cO,cL⟩:=It he hk hn hb
 obtain ⟨kl,aU⟩:=eX ([x].length)
 rw [aU] at HK dA
 have bV:=Qq aU
 clear cF he cE hn hb hk
 unfold sv
 rw [aU]
 clear aU
 go_enter func91,ntmps91
 go_upto_region 3 with fail
 generalize bD:((w.alloc _).alloc _).alloc _=w3
 have aW:=Iq bD (Xt _ _ _ _)
 have h0:=Ik (b:=w.heap.size) bD (Zp _ _ _ _)
 have h1:=Ik (b:=w.heap.size+1) bD (Zo _ _ _ _)
 have h2:=Ik (b:=w.heap.size+1+1) bD (Zi _ _ _ _)
 have dM:w.heap.size+1+1<w3.heap.size:=Z8 h2
 have c0:=AB h0;have c1:=AA h0;have c2:=AM h0;have c3:=AH h0;have c4:=Iz h0;have c5:=AY h0;have c6:=AK h0
 obtain ⟨H0,H1,H2,cD⟩:=It h0 h1 h2 aW
 have bN:=Qq (λ(k:Nat) e9 r9 (hke:[x][k]?=some e9) (hev:EvO e9 env r9) W (hbw:Below w3 w3 W) (x9:Nat) (hxl:w<=x9) (hxW:x9<W)=>D8 w (w+1) k (λb=>S0 b/\b≠w+1+1/\b≠x9) S' kp kc [x] e9 (.pointer q) env r9 W
  (by rw [bV.o];exact (Qk _ _ 6 _ _ _ (kB hbw h0)).trans rfl) (by rw [bV.o];exact (HK.o.below aW).below hbw) ((Qk _ _ 0 _ _ _ (kB hbw h1)).trans rfl) (λb hb=>⟨bX b (BC aW.size hbw.size),by have:=hbw.size;omega,Ia⟩) (cN.o.below (aW.n hbw)) ((HE.o.move (.f aW) Ij).move (.f hbw) (λb _ h=>⟨h.1,by have:=h.2;omega,by have:=h.2;omega⟩)) hke hev)
 have bJ:Hid (∀ W,Below w3 w3 W->Calls prog 132 #[Ic,Iv w,Iv (w+1)] W (Xw (λb=>S0 b/\b≠w+1+1/\b≠w+1+1) W (some u))):=Qq (λW hW=>bN.o 0 x (some u) rfl hx W hW (w+1+1) Ia (Ix hW.size))
 have cZ:kl=1:=bV.o.symm
 subst cZ
 have cP:=Qq bX;have dI:=Qq dC
 have dK:w.heap.size<w3.heap.size:=Ia
 clear h0 h1 h2 aW bD HE HK bN hx c2 c3 c4 c5 cO cL bX
 go_wp2_with fail
 go_cut [15,16] (λdG dH wx=>Su w3 v (.bool true) dG dH wx)
 case first=>
  clear c0 c1 c6
  have HD:=Qq (show ∀ W,(λW=>W.heap[w.heap.size]?=some (.cells #[.int .i64 8,nm,n,s,.slice np names.length nc,.slice bp binds.length bc,.slice kp 1 kc,a,z] 46 (0,0))/\Below w w W) W->Ii W w 1 nm/\True from λW h=>⟨(Qk _ _ 1 _ _ _ h.1).trans rfl,trivial⟩)
  have O:=Qq (show ∀ W,Below w3 w3 W->(λW=>W.heap[w.heap.size]?=some (.cells #[.int .i64 8,nm,n,s,.slice np names.length nc,.slice bp binds.length bc,.slice kp 1 kc,a,z] 46 (0,0))/\Below w w W) W from λW hb=>⟨kB hb H0.o,cD.o.n hb⟩)
  refine wp_region_held_drew (S:=λW=>W.heap[w.heap.size]?=some (.cells #[.int .i64 8,nm,n,s,.slice np names.length nc,.slice bp binds.length bc,.slice kp 1 kc,a,z] 46 (0,0))/\Below w w W) Ir (O.o _ (Qz _ _).drew) (λA=>?_)
  refine In (v:=?_) 0 (λT D=>?_) ?_;rotate_left
  ·(obtain ⟨c1,_⟩:=HD.o T D;go_simp;try with_reducible rfl)
  refine In (v:=?_) 3 (λT D=>?_) ?_;rotate_left
  ·(obtain ⟨c1,_⟩:=HD.o T D;go_simp;try with_reducible rfl)
  refine In (v:=?_) 4 (λT D=>?_) ?_;rotate_left
  ·(obtain ⟨c1,_⟩:=HD.o T D;go_simp;try with_reducible rfl)
  have aV:Hid (Below w3 w3 w3.drew):=Qq (Qz _ _).drew
  have dD:=aV.o.size
  generalize w3.drew=wd at A aV dD |-
  refine BH [1,9] ?_
  refine AZ (λK J=>?_) ?_
  ·go_simp
   refine (bJ.o _ aV.o).mono ?_
   rintro e w5 ⟨cu,rfl,hu,hb⟩
   obtain ⟨a3,cS,a4,cT,Y,_⟩:=Z9.cells hu
   simp only [Il] at Y
   subst Y
   have HU:=Qq hu
   clear hu bJ
   have aJ:=Qq (aV.o.n hb)
   have cH:=aJ.o.size
   clear hb
   try dsimp only
   refine J.o _ _ (O.o _ aJ.o) (λA=>?_)
   clear J K
   refine BH [2,9] ?_
   refine AZ (λK J=>?_) ?_
   ·go_simp
    refine (Hn 4 _ u _ _ HU.o bU.o).mono ?_
    rintro e w6 ⟨rfl,hb⟩
    have M:=Qq (aJ.o.n hb)
    have bT:=M.o.size
    replace HU:=Qq (Z9.move HU.o (.f hb) Ij)
    clear hb
    try dsimp only
    refine J.o _ _ (O.o _ M.o) (λA=>?_)
    clear J K
    refine BH [5,9] ?_
    refine AZ (λK J=>?_) ?_
    ·go_simp
     have HG:=Qq (F8 _ u _ nm w6 HU.o)
     unfold R2 at HG
     rw [bI.o] at HG
     unfold sv at HG
     refine HG.o.mono ?_
     rintro e w7 ⟨bW,rfl,aD,hb⟩
     obtain ⟨q3,l3,q4,l4,Y,_⟩:=Z9.cells aD
     simp only [Il,Option.getD_some] at Y
     subst Y
     have HV:Hid (Z9 (λb=>w6<=b/\b<w7) w7 (Il v q3 l3 q4 l4) v):=Qq (Z9.move aD (.refl _ _) (λb hb h=>⟨h,hb⟩))
     clear aD
     clear HG HU
     have I:=Qq (M.o.n hb)
     have bG:=I.o.size
     clear hb
     try dsimp only
     refine J.o _ _ (O.o _ I.o) (λA=>?_)
     clear J K
     refine In (v:=?_) 6 (λT D=>?_) ?_;rotate_left
     ·(obtain ⟨c1,_⟩:=HD.o T D;go_simp;try with_reducible rfl)
     refine In (v:=?_) 7 (λT D=>?_) ?_;rotate_left
     ·(obtain ⟨c1,_⟩:=HD.o T D;go_simp;try with_reducible rfl)
     refine In (v:=?_) 8 (λT D=>?_) ?_;rotate_left
     ·(obtain ⟨c1,_⟩:=HD.o T D;go_simp;try with_reducible rfl)
     refine AE 9 (λK J=>?_) Qo
     go_simp
     generalize Z:World.alloc w7 _=wb
     have aK:=Iq Z (Zg _ _)
     have U:=Qq (I.o.n aK)
     have bZ:=I.o.size
     have cB:=U.o.size
     have V:Hid (wb.heap[w7.heap.size]?=some (.cells zV 36 (0,0))):=Qq (by rw [<- Z];exact Qw _ _)
     clear Z
     replace HV:=Qq (Z9.move HV.o (.f aK) Ij)
     clear aK
     try dsimp only
     refine J.o _ _ (O.o _ U.o) (λA=>?_)
     clear J K
     have aA:=V.o
     have fz:=λj=>Qn _ _ j _ _ aA
     obtain ⟨f0,f1,f2,f3,f4⟩:=Iw fz
     have rr:=λj=>Qk _ _ j _ _ _ aA
     obtain ⟨r0,r1,r2,r3,r4⟩:=Iw rr
     simp only [Qf,Qg,Qh] at r0 r1 r2 r3 r4
     clear fz rr
     refine AE 10 (λK J=>?_) Qo
     go_simp
     have cA:=U.o.size
     have N:Below w3 w3 (AI wb w7 v q3 l3 q4 l4):=Zd U.o Ia
     have aB:(Zl wb w7 v.kind v.n v.s (.slice q3 v.names.length l3) (.slice q4 v.kids.length l4)).heap[w7.heap.size]?=some (.cells (Is v q3 l3 q4 l4) 36 (0,0)):=Yd V.o
     have aC:∀ k,k≠w7.heap.size->(Zl wb w7 v.kind v.n v.s (.slice q3 v.names.length l3) (.slice q4 v.kids.length l4)).heap[k]?=wb.heap[k]?:=λk hk=>Zf hk
     unfold Zl at N aB aC
     refine J.o _ _ (O.o _ N) (λA=>?_)
     refine In (v:=?_) 11 (λT D=>?_) ?_;rotate_left
     ·(obtain ⟨c1,_⟩:=HD.o T D;go_simp;try with_reducible rfl)
     refine wpAnyH_done Ir ?_ _
     clear J K A f0 f1 f2 f3 f4 r0 r1 r2 r3 r4 aA
     generalize World.setCell _ _ _=w9 at N aB aC |-
     go_wp2_with fail
     go_meet
     exact ⟨w7.heap.size,q3,l3,q4,l4,rfl,rfl,aB,Z9.move HV.o (λb hb _=>aC b (by have:=hb.1;have:=hb.2;omega)) (λb _ hb=>⟨by have:=hb.1;omega,by have:=hb.1;have:=hb.2;omega⟩),N,Ia⟩
    refine AZ (λK J=>?_) ?_
    ·go_simp
     generalize Z:World.alloc w6 _=wb
     have aK:=Iq Z (Zg _ _)
     have U:=Qq (M.o.n aK)
     have bZ:=M.o.size
     have cB:=U.o.size
     have aL:Hid (wb.heap[w6.heap.size]?=some (.cells zV 36 (0,0))):=Qq (by rw [<- Z];exact Qw _ _)
     clear Z
     replace HU:=Qq (Z9.move HU.o (.f aK) Ij)
     clear aK
     try dsimp only
     refine J.o _ _ (O.o _ U.o) (λA=>?_)
     clear J K
     refine AE 5 (λK J=>?_) ?_
     ·go_simp
      have HG:=Qq (F8 _ u _ nm wb HU.o)
      unfold R2 at HG
      rw [bI.o] at HG
      unfold sv at HG
      refine HG.o.mono ?_
      rintro e w7 ⟨bW,rfl,aD,hb⟩
      obtain ⟨q3,l3,q4,l4,Y,_⟩:=Z9.cells aD
      simp only [Il,Option.getD_some] at Y
      subst Y
      have HV:Hid (Z9 (λb=>wb<=b/\b<w7) w7 (Il v q3 l3 q4 l4) v):=Qq (Z9.move aD (.refl _ _) (λb hb h=>⟨h,hb⟩))
      clear aD
      clear HG HU
      have I:=Qq (U.o.n hb)
      have bG:=I.o.size
      have V:=Qq (kB hb aL.o)
      have bF:=Z8 aL.o
      clear hb
      try dsimp only
      refine J.o _ _ (O.o _ I.o) (λA=>?_)
      clear J K
      refine In (v:=?_) 6 (λT D=>?_) ?_;rotate_left
      ·(obtain ⟨c1,_⟩:=HD.o T D;go_simp;try with_reducible rfl)
      refine In (v:=?_) 7 (λT D=>?_) ?_;rotate_left
      ·(obtain ⟨c1,_⟩:=HD.o T D;go_simp;try with_reducible rfl)
      refine In (v:=?_) 8 (λT D=>?_) ?_;rotate_left
      ·(obtain ⟨c1,_⟩:=HD.o T D;go_simp;try with_reducible rfl)
      have aA:=V.o
      have fz:=λj=>Qn _ _ j _ _ aA
      obtain ⟨f0,f1,f2,f3,f4⟩:=Iw fz
      have rr:=λj=>Qk _ _ j _ _ _ aA
      obtain ⟨r0,r1,r2,r3,r4⟩:=Iw rr
      simp only [Qf,Qg,Qh] at r0 r1 r2 r3 r4
      clear fz rr
      refine AE 10 (λK J=>?_) Qo
      go_simp
      have cA:=I.o.size
      have N:Below w3 w3 (AI w7 w6 v q3 l3 q4 l4):=Zd I.o Ia
      have aB:(Zl w7 w6 v.kind v.n v.s (.slice q3 v.names.length l3) (.slice q4 v.kids.length l4)).heap[w6.heap.size]?=some (.cells (Is v q3 l3 q4 l4) 36 (0,0)):=Yd V.o
      have aC:∀ k,k≠w6.heap.size->(Zl w7 w6 v.kind v.n v.s (.slice q3 v.names.length l3) (.slice q4 v.kids.length l4)).heap[k]?=w7.heap[k]?:=λk hk=>Zf hk
      unfold Zl at N aB aC
      refine J.o _ _ (O.o _ N) (λA=>?_)
      refine In (v:=?_) 11 (λT D=>?_) ?_;rotate_left
      ·(obtain ⟨c1,_⟩:=HD.o T D;go_simp;try with_reducible rfl)
      refine wpAnyH_done Ir ?_ _
      clear J K A f0 f1 f2 f3 f4 r0 r1 r2 r3 r4 aA
      generalize World.setCell _ _ _=w9 at N aB aC |-
      go_wp2_with fail
      go_meet
      exact ⟨w6.heap.size,q3,l3,q4,l4,rfl,rfl,aB,Z9.move HV.o (λb hb _=>aC b (by have:=hb.1;have:=hb.2;omega)) (λb _ hb=>⟨by have:=hb.1;omega,by have:=hb.1;have:=hb.2;omega⟩),N,Ia⟩
     exact Qo
    exact Qo
   refine AZ (λK J=>?_) ?_
   ·go_simp
    generalize Z:World.alloc w5 _=wb
    have aK:=Iq Z (Zg _ _)
    have U:=Qq (aJ.o.n aK)
    have bZ:=aJ.o.size
    have cB:=U.o.size
    have aQ:Hid (wb.heap[w5.heap.size]?=some (.cells zV 36 (0,0))):=Qq (by rw [<- Z];exact Qw _ _)
    clear Z
    replace HU:=Qq (Z9.move HU.o (.f aK) Ij)
    clear aK
    try dsimp only
    refine J.o _ _ (O.o _ U.o) (λA=>?_)
    clear J K
    refine AE 2 (λK J=>?_) ?_
    ·go_simp
     refine (Hn 4 _ u _ _ HU.o bU.o).mono ?_
     rintro e w6 ⟨rfl,hb⟩
     have M:=Qq (U.o.n hb)
     have bT:=M.o.size
     have aL:=Qq (kB hb aQ.o)
     have bF:=Z8 aQ.o
     replace HU:=Qq (Z9.move HU.o (.f hb) Ij)
     clear hb
     try dsimp only
     refine J.o _ _ (O.o _ M.o) (λA=>?_)
     clear J K
     refine AE 5 (λK J=>?_) ?_
     ·go_simp
      have HG:=Qq (F8 _ u _ nm w6 HU.o)
      unfold R2 at HG
      rw [bI.o] at HG
      unfold sv at HG
      refine HG.o.mono ?_
      rintro e w7 ⟨bW,rfl,aD,hb⟩
      obtain ⟨q3,l3,q4,l4,Y,_⟩:=Z9.cells aD
      simp only [Il,Option.getD_some] at Y
      subst Y
      have HV:Hid (Z9 (λb=>w6<=b/\b<w7) w7 (Il v q3 l3 q4 l4) v):=Qq (Z9.move aD (.refl _ _) (λb hb h=>⟨h,hb⟩))
      clear aD
      clear HG HU
      have I:=Qq (M.o.n hb)
      have bG:=I.o.size
      have V:=Qq (kB hb aL.o)
      have bF:=Z8 aL.o
      clear hb
      try dsimp only
      refine J.o _ _ (O.o _ I.o) (λA=>?_)
      clear J K
      refine In (v:=?_) 6 (λT D=>?_) ?_;rotate_left
      ·(obtain ⟨c1,_⟩:=HD.o T D;go_simp;try with_reducible rfl)
      refine In (v:=?_) 7 (λT D=>?_) ?_;rotate_left
      ·(obtain ⟨c1,_⟩:=HD.o T D;go_simp;try with_reducible rfl)
      refine In (v:=?_) 8 (λT D=>?_) ?_;rotate_left
      ·(obtain ⟨c1,_⟩:=HD.o T D;go_simp;try with_reducible rfl)
      have aA:=V.o
      have fz:=λj=>Qn _ _ j _ _ aA
      obtain ⟨f0,f1,f2,f3,f4⟩:=Iw fz
      have rr:=λj=>Qk _ _ j _ _ _ aA
      obtain ⟨r0,r1,r2,r3,r4⟩:=Iw rr
      simp only [Qf,Qg,Qh] at r0 r1 r2 r3 r4
      clear fz rr
      refine AE 10 (λK J=>?_) Qo
      go_simp
      have cA:=I.o.size
      have N:Below w3 w3 (AI w7 w5 v q3 l3 q4 l4):=Zd I.o Ia
      have aB:(Zl w7 w5 v.kind v.n v.s (.slice q3 v.names.length l3) (.slice q4 v.kids.length l4)).heap[w5.heap.size]?=some (.cells (Is v q3 l3 q4 l4) 36 (0,0)):=Yd V.o
      have aC:∀ k,k≠w5.heap.size->(Zl w7 w5 v.kind v.n v.s (.slice q3 v.names.length l3) (.slice q4 v.kids.length l4)).heap[k]?=w7.heap[k]?:=λk hk=>Zf hk
      unfold Zl at N aB aC
      refine J.o _ _ (O.o _ N) (λA=>?_)
      refine In (v:=?_) 11 (λT D=>?_) ?_;rotate_left
      ·(obtain ⟨c1,_⟩:=HD.o T D;go_simp;try with_reducible rfl)
      refine wpAnyH_done Ir ?_ _
      clear J K A f0 f1 f2 f3 f4 r0 r1 r2 r3 r4 aA
      generalize World.setCell _ _ _=w9 at N aB aC |-
      go_wp2_with fail
      go_meet
      exact ⟨w5.heap.size,q3,l3,q4,l4,rfl,rfl,aB,Z9.move HV.o (λb hb _=>aC b (by have:=hb.1;have:=hb.2;omega)) (λb _ hb=>⟨by have:=hb.1;omega,by have:=hb.1;have:=hb.2;omega⟩),N,Ia⟩
     exact Qo
    exact Qo
   exact Qo
  refine AZ (λK J=>?_) ?_
  ·go_simp
   generalize Z:World.alloc wd _=wb
   have aK:=Iq Z (Zg _ _)
   have U:=Qq (aV.o.n aK)
   have bZ:=aV.o.size
   have cB:=U.o.size
   have bO:Hid (wb.heap[wd.heap.size]?=some (.cells zV 36 (0,0))):=Qq (by rw [<- Z];exact Qw _ _)
   clear Z
   clear aK
   try dsimp only
   refine J.o _ _ (O.o _ U.o) (λA=>?_)
   clear J K
   refine AE 1 (λK J=>?_) ?_
   ·go_simp
    refine (bJ.o _ U.o).mono ?_
    rintro e w5 ⟨cu,rfl,hu,hb⟩
    obtain ⟨a3,cS,a4,cT,Y,_⟩:=Z9.cells hu
    simp only [Il] at Y
    subst Y
    have HU:=Qq hu
    clear hu bJ
    have aJ:=Qq (U.o.n hb)
    have cH:=aJ.o.size
    have aQ:=Qq (kB hb bO.o)
    have bF:=Z8 bO.o
    clear hb
    try dsimp only
    refine J.o _ _ (O.o _ aJ.o) (λA=>?_)
    clear J K
    refine AE 2 (λK J=>?_) ?_
    ·go_simp
     refine (Hn 4 _ u _ _ HU.o bU.o).mono ?_
     rintro e w6 ⟨rfl,hb⟩
     have M:=Qq (aJ.o.n hb)
     have bT:=M.o.size
     have aL:=Qq (kB hb aQ.o)
     have bF:=Z8 aQ.o
     replace HU:=Qq (Z9.move HU.o (.f hb) Ij)
     clear hb
     try dsimp only
     refine J.o _ _ (O.o _ M.o) (λA=>?_)
     clear J K
     refine AE 5 (λK J=>?_) ?_
     ·go_simp
      have HG:=Qq (F8 _ u _ nm w6 HU.o)
      unfold R2 at HG
      rw [bI.o] at HG
      unfold sv at HG
      refine HG.o.mono ?_
      rintro e w7 ⟨bW,rfl,aD,hb⟩
      obtain ⟨q3,l3,q4,l4,Y,_⟩:=Z9.cells aD
      simp only [Il,Option.getD_some] at Y
      subst Y
      have HV:Hid (Z9 (λb=>w6<=b/\b<w7) w7 (Il v q3 l3 q4 l4) v):=Qq (Z9.move aD (.refl _ _) (λb hb h=>⟨h,hb⟩))
      clear aD
      clear HG HU
      have I:=Qq (M.o.n hb)
      have bG:=I.o.size
      have V:=Qq (kB hb aL.o)
      have bF:=Z8 aL.o
      clear hb
      try dsimp only
      refine J.o _ _ (O.o _ I.o) (λA=>?_)
      clear J K
      refine In (v:=?_) 6 (λT D=>?_) ?_;rotate_left
      ·(obtain ⟨c1,_⟩:=HD.o T D;go_simp;try with_reducible rfl)
      refine In (v:=?_) 7 (λT D=>?_) ?_;rotate_left
      ·(obtain ⟨c1,_⟩:=HD.o T D;go_simp;try with_reducible rfl)
      refine In (v:=?_) 8 (λT D=>?_) ?_;rotate_left
      ·(obtain ⟨c1,_⟩:=HD.o T D;go_simp;try with_reducible rfl)
      have aA:=V.o
      have fz:=λj=>Qn _ _ j _ _ aA
      obtain ⟨f0,f1,f2,f3,f4⟩:=Iw fz
      have rr:=λj=>Qk _ _ j _ _ _ aA
      obtain ⟨r0,r1,r2,r3,r4⟩:=Iw rr
      simp only [Qf,Qg,Qh] at r0 r1 r2 r3 r4
      clear fz rr
      refine AE 10 (λK J=>?_) Qo
      go_simp
      have cA:=I.o.size
      have N:Below w3 w3 (AI w7 wd v q3 l3 q4 l4):=Zd I.o Ia
      have aB:(Zl w7 wd v.kind v.n v.s (.slice q3 v.names.length l3) (.slice q4 v.kids.length l4)).heap[wd.heap.size]?=some (.cells (Is v q3 l3 q4 l4) 36 (0,0)):=Yd V.o
      have aC:∀ k,k≠wd.heap.size->(Zl w7 wd v.kind v.n v.s (.slice q3 v.names.length l3) (.slice q4 v.kids.length l4)).heap[k]?=w7.heap[k]?:=λk hk=>Zf hk
      unfold Zl at N aB aC
      refine J.o _ _ (O.o _ N) (λA=>?_)
      refine In (v:=?_) 11 (λT D=>?_) ?_;rotate_left
      ·(obtain ⟨c1,_⟩:=HD.o T D;go_simp;try with_reducible rfl)
      refine wpAnyH_done Ir ?_ _
      clear J K A f0 f1 f2 f3 f4 r0 r1 r2 r3 r4 aA
      generalize World.setCell _ _ _=w9 at N aB aC |-
      go_wp2_with fail
      go_meet
      exact ⟨wd.heap.size,q3,l3,q4,l4,rfl,rfl,aB,Z9.move HV.o (λb hb _=>aC b (by have:=hb.1;have:=hb.2;omega)) (λb _ hb=>⟨by have:=hb.1;omega,by have:=hb.1;have:=hb.2;omega⟩),N,Ia⟩
     exact Qo
    exact Qo
   exact Qo
  exact Qo
 obtain ⟨G,q3,l3,q4,l4,rfl,rfl,hG,hV,hb,dJ⟩:=hcut
 obtain ⟨w9,rfl⟩:∃ w9,w9=wc:=⟨_,rfl⟩
 have cQ:=Qq hV;have cK:=Qq (cD.o.n hb)
 have bL:=kB hb H2.o
 have HR:=Qq bL
 have fz:=λj=>Qn _ _ j _ _ bL
 obtain ⟨f0,f1,f2,f3,f4⟩:=Iw fz
 have rr:=λj=>Qk _ _ j _ _ _ bL
 obtain ⟨r0,r1,r2,r3,r4⟩:=Iw rr
 simp only [Qf,Qg,Qh] at r0 r1 r2 r3 r4
 clear fz rr
 have fz:=λj=>Qn _ _ j _ _ hG
 obtain ⟨g0,g1,g2,g3,g4⟩:=Iw fz
 have rr:=λj=>Qk _ _ j _ _ _ hG
 obtain ⟨y0,y1,y2,y3,y4⟩:=Iw rr
 simp only [Qf,Qg,Qh] at y0 y1 y2 y3 y4
 clear fz rr
 clear bL hG hV hb
 have HM:=Qq Xf
 go_wp2_with (go_at_call 134;refine (HM.o _).mono ?_;rintro e w' ⟨rfl,rfl⟩)
 show bodyPost _ _ _ _ _ (AI w9 (w+1+1) v q3 l3 q4 l4)
 refine Q7 (v:=.agg (Is v q3 l3 q4 l4)) (by simp [results,results91,go_sem,Ze HR.o]) rfl ⟨_,rfl,?_,Zd cK.o Ia⟩
 exact Z9.move cQ.o (λb hb _=>Zf (by have:=hb.1;omega)) (λb _ h=>cP.o b (by have:=h.1;omega))
theorem Dg {A B:Type} {p:A->B->Bool}:∀ {a:List A} {b:List B},Iu p a b=true->a.length=b.length/\∀ (j:Nat) (x:A) (y:B),a[j]?=some x->b[j]?=some y->p x y=true
 | [],[],_=>⟨rfl,λ_ _ _ h=>by simp at h⟩
 | [],_::_,h=>by cases h
 | _::_,[],h=>by cases h
 | x::s,y::t,h=>by
  have h':(p x y&&Iu p s t)=true:=h
  rw [Bool.and_eq_true] at h'
  obtain ⟨h1,h2⟩:=h'
  obtain ⟨h3,h4⟩:=Dg h2
  refine ⟨by rw [List.length_cons,List.length_cons,h3],λj u v hu hv=>?_⟩
  cases j with
  | zero=>cases hu;cases hv;exact h1
  | succ j=>exact h4 j u v hu hv
theorem Td {a b:List Bs} (h:Iu (λx y=>decide (x=y)) a b=true):a=b:=by
 obtain ⟨h1,h2⟩:=Dg h
 refine List.ext_getElem? λj=>?_
 cases ha:a[j]? with
 | none=>rw [List.getElem?_eq_none_iff] at ha;exact (List.getElem?_eq_none_iff.2 Ia).symm
 | some x=>
  have hj:=(Qj ha).1
  have hb:b[j]?=some (b[j]'Ia):=Qx Ia
  rw [hb]
  have:=h2 j x _ ha hb
  rw [of_decide_eq_true this]
theorem Nr {A:Type} {p:A->A->Bool} (hp:∀ x,p x x=true):∀ l:List A,Iu p l l=true
 | []=>rfl
 | x::s=>by show (p x x&&Iu p s s)=true;rw [hp,Nr hp s];rfl
theorem R9 (x:Val):eqv x x=true:=F5.2 rfl
theorem eqv_int {a b:Int} (h:eqv (Y5 a) (Y5 b)=true):a=b:=by
 have h':=F5.1 h
 simpa [Y5,key] using h'
theorem Pa:∀ {a b:List Int},Iu eqv (a.map Y5) (b.map Y5)=true->a=b
 | [],[],_=>rfl
 | [],_::_,h=>by cases h
 | _::_,[],h=>by cases h
 | x::s,y::t,h=>by
  have h':(eqv (Y5 x) (Y5 y)&&Iu eqv (s.map Y5) (t.map Y5))=true:=h
  rw [Bool.and_eq_true] at h'
  rw [eqv_int h'.1,Pa h'.2]
def Ui (us:List Sm) (t:Tbl) (v:Val):Bool:=BP (Ox us) v (t.columns.map Col.name) (t.columns.map Col.type)
def Br (t:Tbl) (v:Val):List Int:=((keyOf t.key v).getD []).map Val.n
structure Oz (s:Sc) (t:Tbl):Prop where
 srt:Srt Dy t.columns
 few:t.columns.length<=19
 some:t.columns≠[]
 keyc:∀ k ∈ t.key,∃ j c,Vh (t.columns.map Col.name) k=.some j/\t.columns[j]?=.some c/\c.type.kind=0
 keyl:t.key.length<=3
 keyn:0<t.key.length
 refs:∀ r ∈ t.refs,(Yw s.tables r.table).isSome=true
theorem Y7.kind0 {v:Val} (h:Y7 v) (hk:v.kind=0):∃ n,v=Y5 n/\-1000000<=n/\n<=1000000:=by
 cases h with
 | int n hb=>exact ⟨n,rfl,hb⟩
 | text s=>cases hk
 | bool n hn=>cases hk
 | make s kids hs hl hk'=>cases hk
 | record names kids hl hn hs hk'=>cases hk
 | list kids hk'=>cases hk
theorem Y7.kidG {v:Val} (h:Y7 v):∀ x ∈ v.kids,Y7 x:=by
 cases h with
 | int n hb=>intro x A;simp [Val.kids] at A
 | text s=>intro x A;simp [Val.kids] at A
 | bool n hn=>intro x A;simp [Val.kids] at A
 | make s kids hs hl hk=>exact hk
 | record names kids hl hn hs hk=>exact hk
 | list kids hk=>exact hk
theorem Qzv {us:List Sm} {s:Sc} {t:Tbl} (hT:Oz s t) {v:Val} (hv:Y7 v) (h:Ui us t v=true) {k:Bs} (hk:k ∈ t.key):∃ n,Yp v k=some (Y5 n)/\-1000000<=n/\n<=1000000:=by
 unfold Ui BP at h
 rw [Bool.and_eq_true,Bool.and_eq_true] at h
 obtain ⟨⟨h1,h2⟩,h3⟩:=h
 have hn:=Td h2
 obtain ⟨j,c,hj,hc,G⟩:=hT.keyc k hk
 obtain ⟨h4,h5⟩:=Dg h3
 have I:v.kind=4:=by simpa using h1
 have A:=(Qj hc).1
 have N:v.kids[j]?=some (v.kids[j]'(by rw [h4,Z7];exact A)):=Qx _
 have D:=h5 j _ _ N (by rw [List.getElem?_map,hc];rfl)
 have h7:(v.kids[j]'(by rw [h4,Z7];exact A)).kind=0:=by
  unfold Ox at D
  rw [if_neg Ia,G] at D
  simpa using D
 obtain ⟨n,J,M⟩:=(hv.kidG _ (Qy N)).kind0 h7
 refine ⟨n,?_,M⟩
 unfold Yp
 rw [if_pos I,hn,hj]
 show v.kids[j]?=_
 rw [N,J]
theorem Hm {v:Val}:∀ {ks:List Bs},(∀ k ∈ ks,∃ n,Yp v k=some (Y5 n)/\-1000000<=n/\n<=1000000)->∃ l:List Int,keyOf ks v=some (l.map Y5)/\l.length=ks.length/\∀ x ∈ l,-1000000<=x/\x<=1000000
 | [],_=>⟨[],rfl,rfl,λ_ h=>by cases h⟩
 | k::ks,h=>by
  obtain ⟨n,h1,h2⟩:=h k Ib
  obtain ⟨l,h3,h4,h5⟩:=Hm (ks:=ks) (λk hk=>h k (by simp [hk]))
  refine ⟨n::l,?_,by simp [h4],?_⟩
  ·unfold keyOf;rw [h1,h3];rfl
  intro x A
  rcases Z3.1 A with rfl | A
  ·exact h2
  exact h5 x A
theorem Wu (l:List Int):(l.map Y5).map Val.n=l:=by
 rw [List.map_map]
 have:(Val.n ∘ Y5)=id:=rfl
 rw [this,List.map_id]
theorem G9 {us:List Sm} {s:Sc} {t:Tbl} (hT:Oz s t) {v:Val} (hv:Y7 v) (h:Ui us t v=true):keyOf t.key v=some ((Br t v).map Y5)/\(Br t v).length=t.key.length/\∀ x ∈ Br t v,-1000000<=x/\x<=1000000:=by
 obtain ⟨l,h1,h2,h3⟩:=Hm (λk hk=>Qzv hT hv h hk)
 have:Br t v=l:=by unfold Br;rw [h1];exact Wu l
 rw [this]
 exact ⟨h1,h2,h3⟩
theorem T9 {us:List Sm} {s:Sc} {t:Tbl} (hT:Oz s t) {rows:List Val} (hg:∀ v ∈ rows,Y7 v) (h:∀ v ∈ rows,Ui us t v=true):H9 t rows (Br t) where
 key:=λr A=>(G9 hT (hg r A) (h r A)).1
 bd:=λr A x hx=>by have:=(G9 hT (hg r A) (h r A)).2.2 x hx;omega
 len:=λr A=>by rw [(G9 hT (hg r A) (h r A)).2.1];exact hT.keyl
theorem L3 (n:Nat) (ks:List Bs) (i:Nat):(ust n ks (i+1)).1<=(ust n ks i).1:=by
 show (Vs (ks.take i) (ust n ks i) (ks.getD i [])).1<=_
 generalize ust n ks i=st
 unfold Vs
 split
 ·exact Q9 _
 split
 ·show _<=_;simp only;omega
 exact Q9 _
theorem T5 (n:Nat) (ks:List Bs):∀ i,(ust n ks i).1<=n
 | 0=>Q9 n
 | i+1=>Qc (L3 n ks i) (T5 n ks i)
theorem P6 (n:Nat) (ks:List Bs) (i:Nat):∀ k,(ust n ks (i+k)).1<=(ust n ks i).1
 | 0=>Q9 _
 | k+1=>Qc (L3 n ks (i+k)) (P6 n ks i k)
theorem ust_zero {ks:List Bs} (h:(ust ks.length ks ks.length).1=ks.length) {i j:Nat} {a b:Bs} (hij:i<j) (ha:ks[i]?=some a) (hb:ks[j]?=some b):a≠b:=by
 intro e
 subst e
 have hj:=(Qj hb).1
 have h1:(ust ks.length ks (j+1)).1=ks.length:=by
  have h2:=P6 ks.length ks (j+1) (ks.length - (j+1))
  rw [show j+1+(ks.length - (j+1))=ks.length by omega,h] at h2
  have:=T5 ks.length ks (j+1)
  omega
 have h3:(ust ks.length ks j).1=ks.length:=by
  have:=L3 ks.length ks j
  have:=T5 ks.length ks j
  omega
 have A:(Vs (ks.take j) (ust ks.length ks j) (ks.getD j [])).1=ks.length:=h1
 have hd:ks.getD j []=a:=by rw [Qs,hb];rfl
 rw [hd] at A
 unfold Vs at A
 cases hf:Yn (ks.take j) a with
 | none=>
  unfold Yn at hf
  rw [List.findIdx?_eq_none_iff] at hf
  have:=hf a (Qy (i:=i) (by rw [List.getElem?_take_of_lt hij];exact ha))
  simp at this
 | some q=>
  have hq:=Gk hf
  rw [Qm] at hq
  rw [hf] at A
  simp only [h3] at A
  rw [if_pos Ia] at A
  simp only at A
  omega
theorem Qzd {rows:List Val} {K:Val->List Int} (h:(Uy rows (ust rows.length (rows.map λr=>kb (K r)) rows.length)).code=0) {i j:Nat} {a b:Val} (hij:i<j) (ha:rows[i]?=some a) (hb:rows[j]?=some b):K a≠K b:=by
 intro e
 unfold Uy at h
 split at h
 ·rename_i h1
  have h2:(ust (rows.map λr=>kb (K r)).length (rows.map λr=>kb (K r)) (rows.map λr=>kb (K r)).length).1=(rows.map λr=>kb (K r)).length:=by rw [Z7];exact h1
  exact ust_zero h2 hij (by rw [List.getElem?_map,ha];rfl) (by rw [List.getElem?_map,hb];rfl) (congrArg kb e)
 cases h
theorem Qjv (S:Nat->Prop) (v:Value) (l:List Int) (w:World) (hs:V5 S w v l) (hi:Kz l) (hk:Xk l 0 13=6):
  Calls prog 17 #[v,Ic] w (J7 w (Gen.check 6)):=by
 have HP:=Qq (λW (hb:Below w w W)=>Ys S v l 0 13 W (hs.below hb) hi Ia Ia)
 rw [hk] at HP
 obtain ⟨p,cap,rfl,_⟩:=hs.len
 clear hs hi hk
 go_enter func17,ntmps17
 go_upto_region 8 with fail
 generalize aH:(((((((w.alloc _).alloc _).alloc _).alloc _).alloc _).alloc _).alloc _).alloc _=W8
 have bC:=Iq aH (Yj (Yj (Yj (Yj (Yj (Yj (Yj (Zg w _) _) _) _) _) _) _) _)
 have bX:W8=w.heap.size+8:=by rw [<- aH];simp
 have r8:=Ik (b:=w.heap.size) aH (Zb (Zb (Zb (Zb (Zb (Zb (Zb (Y6 rfl _) _) _) _) _) _) _) _)
 have D:=(((Yu.row (show W8.heap[w.heap.size+1+1+1+1+1]?=some (.cells #[.int .i64 3,.string ⟨#[101]⟩,Ic,Ig,Ie,Ie,Ie,Ic,Ic] 46 (0,0)) from by rw [<- aH];exact Zb (Zb (Y6 Ib _) _) _)).app (Yu.row (show W8.heap[w.heap.size+1+1+1+1+1+1+1]?=some (.cells #[.int .i64 2,Ig,.int .i64 1,Ig,Ie,Ie,Ie,Ic,Ic] 46 (0,0)) from by rw [<- aH];exact Y6 Ib _))).app (Yu.row (show W8.heap[w.heap.size+1+1]?=some (.cells #[.int .i64 3,.string ⟨#[98]⟩,Ic,Ig,Ie,Ie,Ie,Ic,Ic] 46 (0,0)) from by rw [<- aH];exact Zb (Zb (Zb (Zb (Zb (Y6 Ib _) _) _) _) _) _)))
 have hG:=(Ul (Ul (Xc (show w<w.heap.size+1+1+1+1+1 by omega) (.int .i64 3) (.string ⟨#[101]⟩) (.int .i64 0) (.string ⟨#[]⟩) (.slice none 0 0) (.slice none 0 0) (.slice none 0 0) (.int .i64 0) (.int .i64 0)) (Xc (show w<w.heap.size+1+1+1+1+1+1+1 by omega) (.int .i64 2) (.string ⟨#[]⟩) (.int .i64 1) (.string ⟨#[]⟩) (.slice none 0 0) (.slice none 0 0) (.slice none 0 0) (.int .i64 0) (.int .i64 0))) (Xc (show w<w.heap.size+1+1 by omega) (.int .i64 3) (.string ⟨#[98]⟩) (.int .i64 0) (.string ⟨#[]⟩) (.slice none 0 0) (.slice none 0 0) (.slice none 0 0) (.int .i64 0) (.int .i64 0)))
 have aU:=Qq bC;have Z:=Qq r8
 clear aH bC r8 bX
 go_upto_region 20 with (go_at_call 18;refine (HP.o _ aU.o).mono ?_;rintro e w' ⟨rfl,rfl⟩)
 refine let_mvar% ?Lq1:=λw':World=>(BA w' (w+1+1+1+1+1) (.int .i64 3) (.string ⟨#[101]⟩) Ic Ig Ie Ie Ie Ic Ic ((BA w' (w+1+1+1+1+1+1+1) (.int .i64 2) Ig (.int .i64 1) Ig Ie Ie Ie Ic Ic ((BI w' (w+1+1) (.int .i64 3) (.string ⟨#[98]⟩) Ic Ig Ie Ie Ie Ic Ic:Prop)):Prop)):Prop);?_
 have HS:=Qq (λw' (h:Yu (Jr (w+1+1+1+1+1) (.int .i64 3) (.string ⟨#[101]⟩) (.int .i64 0) (.string ⟨#[]⟩) (.slice none 0 0) (.slice none 0 0) (.slice none 0 0) (.int .i64 0) (.int .i64 0)++Jr (w+1+1+1+1+1+1+1) (.int .i64 2) (.string ⟨#[]⟩) (.int .i64 1) (.string ⟨#[]⟩) (.slice none 0 0) (.slice none 0 0) (.slice none 0 0) (.int .i64 0) (.int .i64 0)++Jr (w+1+1) (.int .i64 3) (.string ⟨#[98]⟩) (.int .i64 0) (.string ⟨#[]⟩) (.slice none 0 0) (.slice none 0 0) (.slice none 0 0) (.int .i64 0) (.int .i64 0)) w')=>(show ?Lq1 w' from Yu.spread h))
 have HG:=Qq hG
 have aX:=Qq (λw' z0 z1 z2 z3 z4 z5 z6 z7 z8 (h:Yu _ w')=>HS.o _ (h.put9 HG.o z0 z1 z2 z3 z4 z5 z6 z7 z8))
 unfold put9 at aX
 have G:=aU
 clear hG
 obtain ⟨aK,aE,aD,aL,aM⟩:=AO True.intro True.intro True.intro True.intro True.intro
 go_region_held3 ?Lq1 (first | with_reducible exact HS.o _ D | with_reducible exact HS.o _ D.drew | with_reducible exact HS.o _ (D.alloc _) | with_reducible exact HS.o _ (D.alloc _).drew | with_reducible exact HS.o _ ((D.alloc _).alloc _) | with_reducible exact HS.o _ ((D.alloc _).alloc _).drew | with_reducible exact HS.o _ (((D.alloc _).alloc _).alloc _) | with_reducible exact aX.o _ _ _ _ _ _ _ _ _ _ D)
  (first
   | (have hn:=I.o;clear hn;(repeat (first
      | (have hk:=aE.o;clear aE hk;generalize aB:World.alloc _ (Obj.cells #[.string ⟨#[82,101,100]⟩,.string ⟨#[68,97,114,107]⟩] 9 _)=WN;have Y:=Vm aB;have aP:=Jp aB;have aR:=Fk aB Z.o;have O:=D.later Y;clear D;have D:=O;clear O;have N:=Qq (Ym Y Z.o);clear Z;have Z:=N;clear N;have J:=Qq (G.o.n Y);clear G;have G:=J;clear J;(try (have A:=Qq (Ym Y T.o);clear T;have T:=A;clear A));(try (have A:=Qq (Ym Y M.o);clear M;have M:=A;clear A));(try (have A:=Qq (I.o.move (.f Y) Ij);clear I;have I:=A;clear A));obtain ⟨U,aW,aG⟩:=Im aP aR (Bj aB);clear aB Y aP aR)
      | (have hk:=aD.o;clear aD hk;generalize aA:World.alloc _ (Obj.cells #[Ig,.string ⟨#[110]⟩] 9 _)=WB;have V:=Vm aA;have aO:=Jp aA;have aQ:=Fk aA Z.o;have O:=D.later V;clear D;have D:=O;clear O;have N:=Qq (Ym V Z.o);clear Z;have Z:=N;clear N;have J:=Qq (G.o.n V);clear G;have G:=J;clear J;(try (have A:=Qq (Ym V U.o);clear U;have U:=A;clear A));(try (have A:=Qq (Ym V M.o);clear M;have M:=A;clear A));(try (have A:=Qq (I.o.move (.f V) Ij);clear I;have I:=A;clear A));obtain ⟨T,aV,aF⟩:=Im aO aQ (Bj aA);clear aA V aO aQ)
      | (have hn:=I.o;clear hn;have hk:=aL.o;clear aL hk;generalize aN:World.alloc _ (Obj.cells #[.int .i64 3,.string ⟨#[101]⟩,Ic,Ig,Ie,Ie,Ie,Ic,Ic,.int .i64 2,Ig,.int .i64 1,Ig,Ie,Ie,Ie,Ic,Ic,bM,.string bO,bN,.string bP,.slice bI bR bU,.slice bJ bS bV,.slice bK bT bW,bL,bQ] 46 _)=WK;have aI:=Vm aN;have bD:=Jp aN;have bE:=Fk aN Z.o;have O:=D.later aI;clear D;have D:=O;clear O;have N:=Qq (Ym aI Z.o);clear Z;have Z:=N;clear N;have J:=Qq (G.o.n aI);clear G;have G:=J;clear J;(try (have A:=Qq (Ym aI U.o);clear U;have U:=A;clear A));(try (have A:=Qq (Ym aI T.o);clear T;have T:=A;clear A));(try (have A:=Qq (I.o.move (.f aI) Ij);clear I;have I:=A;clear A));obtain ⟨M,bH,aJ⟩:=Im bD bE (Bj aN);clear aN aI bD bE)
      | fail));have hn:=U.o;clear hn;have hn:=T.o;clear hn;have hn:=M.o;clear hn;have hk:=aM.o;clear aM hk;obtain ⟨⟨f0,f1,f2,f3,f4,f5,f6,f7,f8⟩,y0,y1,y2,y3,y4,y5,y6,y7,y8⟩:=BM Z.o;go_simp)
   | (have hk:=aK.o;go_at_call 63;(repeat (first
      | (have hk:=aE.o;clear aE hk;generalize aB:World.alloc _ (Obj.cells #[.string ⟨#[82,101,100]⟩,.string ⟨#[68,97,114,107]⟩] 9 _)=WN;have Y:=Vm aB;have aP:=Jp aB;have aR:=Fk aB Z.o;have O:=D.later Y;clear D;have D:=O;clear O;have N:=Qq (Ym Y Z.o);clear Z;have Z:=N;clear N;have J:=Qq (G.o.n Y);clear G;have G:=J;clear J;(try (have A:=Qq (Ym Y T.o);clear T;have T:=A;clear A));(try (have A:=Qq (Ym Y M.o);clear M;have M:=A;clear A));(try (have A:=Qq (I.o.move (.f Y) Ij);clear I;have I:=A;clear A));obtain ⟨U,aW,aG⟩:=Im aP aR (Bj aB);clear aB Y aP aR)
      | (have hk:=aD.o;clear aD hk;generalize aA:World.alloc _ (Obj.cells #[Ig,.string ⟨#[110]⟩] 9 _)=WB;have V:=Vm aA;have aO:=Jp aA;have aQ:=Fk aA Z.o;have O:=D.later V;clear D;have D:=O;clear O;have N:=Qq (Ym V Z.o);clear Z;have Z:=N;clear N;have J:=Qq (G.o.n V);clear G;have G:=J;clear J;(try (have A:=Qq (Ym V U.o);clear U;have U:=A;clear A));(try (have A:=Qq (Ym V M.o);clear M;have M:=A;clear A));(try (have A:=Qq (I.o.move (.f V) Ij);clear I;have I:=A;clear A));obtain ⟨T,aV,aF⟩:=Im aO aQ (Bj aA);clear aA V aO aQ)
      | fail));refine (Vo w [60] _ _ _ _ _ Ib (by exact (Yv 3 [110] 0 [] Ib Ib)) (by exact (Yv 3 [98] 0 [] Ib Ib)) (by exact Z8 Z.o)).mono ?_;rintro e W1 ⟨bM,bO,bN,bP,bI,bR,bU,bJ,bS,bV,bK,bT,bW,bL,bQ,rfl,bF,aC⟩;clear aK hk;(try (have bB:=Uz aC;clear aC;have aC:=bB;clear bB));have O:=D.later aC;clear D;have D:=O;clear O;have N:=Qq (Ym aC Z.o);clear Z;have Z:=N;clear N;have J:=Qq (G.o.n aC);clear G;have G:=J;clear J;(try (have A:=Qq (Ym aC U.o);clear U;have U:=A;clear A));(try (have A:=Qq (Ym aC T.o);clear T;have T:=A;clear A));(try (have A:=Qq (Ym aC M.o);clear M;have M:=A;clear A));have I:=Qq bF;clear bF aC)
   | fail)
 all_goals
  go_wp2_with fail
  show bodyPost _ _ _ _ _ (put9 _ w (.int .i64 13) Ig Ic Ig (Io _ 0 2 2) (Io _ 0 2 2) (Io _ 0 3 3) Ic Ic)
  exact Q7 (v:=.agg #[.int .i64 13,Ig,Ic,Ig,Io _ 0 2 2,Io _ 0 2 2,Io _ 0 3 3,Ic,Ic]) (by simp [results,results17,go_sem,Xm Z.o]) rfl (Uu (Xv (nm:=[]) (s:=[]) Ib Ib (Y4 (xs:=[[82,101,100],[68,97,114,107]]) (S8 U.o (by have h1:=aG.o;have h2:=aF.o;have h3:=aJ.o;omega)) (by have A:=aW.o;have h1:=aG.o;have h2:=aF.o;have h3:=aJ.o;show w.heap.size<_;omega) (Rv _ _ [82,101,100] [68,97,114,107] Ib Ib) rfl rfl Ib) (Y4 (xs:=[[],[110]]) (S8 T.o (by have h1:=aG.o;have h2:=aF.o;have h3:=aJ.o;omega)) (by have A:=aV.o;have h1:=aG.o;have h2:=aF.o;have h3:=aJ.o;show w.heap.size<_;omega) (Rv _ _ [] [110] Ib Ib) rfl rfl Ib) (Y4 (xs:=[Gen.e,Gen.yes,Gen.op [60] [Gen.var [110],Gen.b]]) (S8 M.o (by have h1:=aG.o;have h2:=aF.o;have h3:=aJ.o;omega)) (by have A:=bH.o;have h1:=aG.o;have h2:=aF.o;have h3:=aJ.o;show w.heap.size<_;omega) (((Cs.one (r:=Vz) (Yv 3 [101] 0 [] Ib Ib)).app (Cs.one (r:=Vz) (Yv 2 [] 1 [] Ib Ib))).app (Cs.one (r:=Vz) I.o)) rfl rfl Ib)) G.o rfl)
end Go.Proofs.YtdpibdpbgokmoaaGreatDoor

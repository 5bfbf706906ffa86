import Derived.Test.YtdpibdpbgokmoaaGreatDoorC37
import Derived.Test.YtdpibdpbgokmoaaGreatDoorC38
import Derived.Test.YtdpibdpbgokmoaaGreatDoorC28
set_option maxRecDepth 100000
set_option maxHeartbeats 400000000
namespace Go.Proofs.YtdpibdpbgokmoaaGreatDoor
open Go.RowKit Go.Shelf Go.Lib Tryz
def RecAt (names:List Bs) (vals:List Val) (v:Val):Prop:=∀ (S S':Nat→Prop) (nv vv:Value) (w:World),Xl w→Sl Zh S w nv names→Sl Ze S' w vv vals →
 Calls prog 136 #[nv,vv] w fun e w'=>∃ cs',e=.returned (.tuple #[.agg cs'.toArray,Qqd])∧Z9 (fun b=>w≤b) w' cs' v∧Below w w w'
theorem ev_rec (nm:Bs) (n:Int) (s:Bs) (names binds:List Bs) (kids:List Ex) (a z:Int) (env:List (Bs × Val)) (f:Ex→Option Val) (vals:List Val) (v:Val) (hev:∀ e ∈ kids,EvO e env (f e)) (hL:Jz f kids=some vals) (hrec:RecAt names vals v):EvO (.mk 6 nm n s names binds kids a z) env (some v):=by
 have aZ:=Qq hrec
 clear hrec
 intro S0 S' cs p w bQ cF cD cC
 have bJ:=Qq cF
 clear cF
 have he:Xv (fun b=>S0 b∧b<w) w p env:=cC.move (.refl _ _) (fun b hb h=>⟨h,hb⟩)
 obtain ⟨nv,bv,kv,rfl,dA,dH,hn,hb,hk⟩:=Yx.1 cD
 obtain ⟨np,nc,rfl,_⟩:=hn.len
 obtain ⟨bp,bc,rfl,_⟩:=hb.len
 obtain ⟨kp,kc,rfl,cE⟩:=hk.len
 obtain ⟨q,rfl⟩:=he.ptr
 obtain ⟨HE,HK,bZ,cQ⟩:=Qqp he hk hn hb
 obtain ⟨kl,aT⟩:=eX (kids.length)
 rw [aT] at HK cE
 have bY:=Qq aT
 clear cD he cC hn hb hk
 unfold sv
 rw [aT]
 clear aT
 go_enter func91,ntmps91
 go_upto_region 3 with fail
 generalize bC:((w.alloc _).alloc _).alloc _=w3
 have aX:=eqB bC (Xm _ _ _ _)
 have h0:=eqH (b:=w.heap.size) bC (Zp _ _ _ _)
 have h1:=eqH (b:=w.heap.size+1) bC (Zo _ _ _ _)
 have h2:=eqH (b:=w.heap.size+1+1) bC (Zi _ _ _ _)
 have dI:w.heap.size+1+1<w3.heap.size:=Z8 h2
 have c0:=rA0 h0;have c1:=rA1 h0;have c2:=rA2 h0;have c3:=rA3 h0;have c4:=rA4 h0;have c5:=rA5 h0;have c6:=rA6 h0
 obtain ⟨H0,H1,H2,aV⟩:=Qqp h0 h1 h2 aX
 have aM:=Qq (fun W (hW:Below w3 w3 W)=>Nq (w+1) (fun b=>S0 b∧b≠w+1+1) S' kp kc kids (.pointer q) env f W (by rw [bY.out];exact (HK.out.below aX).below hW) ((Qk _ _ 0 _ _ _ (kB hW h1)).trans rfl) (fun b hb=>⟨bQ b (Qqz aX.size hW.size),by have:=hW.size;omega⟩) (bJ.out.below (aX.thn hW)) ((HE.out.move (.of_below aX) Qzx).move (.of_below hW) (fun b _ h=>⟨h.1,by have:=h.2;omega⟩)) hev)
 rw [hL,bY.out] at aM
 have dF:kl≤1000000:=cE
 obtain ⟨cS,dD,aY⟩:=Qqo bQ dA (bZ.out.below aV.out)
 have dG:w.heap.size<w3.heap.size:=Qqj
 clear h0 h1 h2 aX bC HE HK hev hL c1 c2 c3 c5 bZ cQ bQ
 go_wp2_with fail
 go_cut [8,9] (fun t8 t9 wx=>R3 w3 v (.int .i64 0) t8 t9 wx)
 case first=>
  clear c0 c4 c6
  have HD:=Qq (show ∀ W,(fun W=>W.heap[w.heap.size]?=some (.cells #[.int .i64 6,nm,n,s,.slice np names.length nc,.slice bp binds.length bc,.slice kp kl kc,a,z] 46 (0,0))∧Below w w W) W→Qqa W w 4 (.slice np names.length nc)∧Qqa W w 6 (.slice kp kl kc) from fun W h=>⟨(Qk _ _ 4 _ _ _ h.1).trans rfl,(Qk _ _ 6 _ _ _ h.1).trans rfl⟩)
  have V:=Qq (show ∀ W,Below w3 w3 W→(fun W=>W.heap[w.heap.size]?=some (.cells #[.int .i64 6,nm,n,s,.slice np names.length nc,.slice bp binds.length bc,.slice kp kl kc,a,z] 46 (0,0))∧Below w w W) W from fun W hb=>⟨kB hb H0.out,aV.out.thn hb⟩)
  refine wp_region_held_drew (S:=fun W=>W.heap[w.heap.size]?=some (.cells #[.int .i64 6,nm,n,s,.slice np names.length nc,.slice bp binds.length bc,.slice kp kl kc,a,z] 46 (0,0))∧Below w w W) Qqy (V.out _ (Qz _ _).drew) (fun D=>?_)
  refine tkD (v:=?_) 0 (fun M A=>?_) ?_;rotate_left
  ·(obtain ⟨c4,c6⟩:=HD.out M A;go_simp;try with_reducible rfl)
  refine tkD (v:=?_) 1 (fun M A=>?_) ?_;rotate_left
  ·(obtain ⟨c4,c6⟩:=HD.out M A;go_simp;try with_reducible rfl)
  refine tkD (v:=?_) 2 (fun M A=>?_) ?_;rotate_left
  ·(obtain ⟨c4,c6⟩:=HD.out M A;go_simp;try with_reducible rfl)
  refine tkD (v:=?_) 3 (fun M A=>?_) ?_;rotate_left
  ·(obtain ⟨c4,c6⟩:=HD.out M A;go_simp;try with_reducible rfl)
  refine tkD (v:=?_) 4 (fun M A=>?_) ?_;rotate_left
  ·(obtain ⟨c4,c6⟩:=HD.out M A;go_simp;try with_reducible rfl)
  have aW:Hid (Below w3 w3 w3.drew):=Qq (Qz _ _).drew
  have dB:=aW.out.size
  generalize w3.drew=wd at D aW dB ⊢
  refine rsD [5,10] ?_
  refine rcD (fun K N=>?_) ?_
  ·go_simp
   refine (aM.out _ aW.out).mono ?_
   rintro e w5 ⟨p4,bA,cB,rfl,bB,bR,hb⟩
   have aJ:Hid (Sl Ze (fun _=>True) w5 (.slice p4 kl bA) vals):=Qq (by have h:=bB.sl (S':=fun _=>True) Qqj (fun _ _=>trivial) (fun _ _ _=>trivial);exact h)
   clear bB bR aM
   have J:=Qq (aW.out.thn hb)
   have cK:=J.out.size
   clear hb
   try dsimp only
   refine N.out _ _ (V.out _ J.out) (fun D=>?_)
   clear N K
   refine rsD [6,10] ?_
   refine rcD (fun K N=>?_) ?_
   ·go_simp
    refine (aZ.out _ _ _ _ w5 (bJ.out.below (aV.out.thn J.out)) (aY.out.below J.out) aJ.out).mono ?_
    rintro e Y ⟨cA,rfl,aD,hb⟩
    obtain ⟨q3,l3,q4,l4,aP,_⟩:=Z9.cells aD
    simp only [vcs] at aP
    subst aP
    have HV:Hid (Z9 (fun b=>w5≤b∧b<Y) Y (vcs v q3 l3 q4 l4) v):=Qq (Z9.move aD (.refl _ _) (fun b hb h=>⟨h,hb⟩))
    clear aD
    clear aJ
    have I:=Qq (J.out.thn hb)
    have bO:=I.out.size
    clear hb
    try dsimp only
    refine N.out _ _ (V.out _ I.out) (fun D=>?_)
    clear N K
    refine tkD (v:=?_) 7 (fun M A=>?_) ?_;rotate_left
    ·(obtain ⟨c4,c6⟩:=HD.out M A;go_simp;try with_reducible rfl)
    refine tkD (v:=?_) 8 (fun M A=>?_) ?_;rotate_left
    ·(obtain ⟨c4,c6⟩:=HD.out M A;go_simp;try with_reducible rfl)
    refine tkD (v:=?_) 9 (fun M A=>?_) ?_;rotate_left
    ·(obtain ⟨c4,c6⟩:=HD.out M A;go_simp;try with_reducible rfl)
    refine rdD 10 (fun K N=>?_) Qo
    go_simp
    generalize Z:World.alloc Y _=wb
    have aI:=eqB Z (Zg _ _)
    have O:=Qq (I.out.thn aI)
    have cG:=I.out.size
    have cJ:=O.out.size
    have U:Hid (wb.heap[Y.heap.size]?=some (.cells zV 36 (0,0))):=Qq (by rw [← Z];exact Qw _ _)
    clear Z
    replace HV:=Qq (Z9.move HV.out (.of_below aI) Qzx)
    clear aI
    try dsimp only
    refine N.out _ _ (V.out _ O.out) (fun D=>?_)
    clear N K
    have aA:=U.out
    have fz:=fun j=>Qn _ _ j _ _ aA
    obtain ⟨f0,f1,f2,f3,f4⟩:=Qzj fz
    have rr:=fun j=>Qk _ _ j _ _ _ aA
    obtain ⟨r0,r1,r2,r3,r4⟩:=Qzj rr
    simp only [Qf,Qg,Qh] at r0 r1 r2 r3 r4
    clear fz rr
    refine rdD 11 (fun K N=>?_) Qo
    go_simp
    have cI:=O.out.size
    have T:Below w3 w3 (Qqm wb Y v q3 l3 q4 l4):=Zc O.out Qqj
    have aB:(Zl wb Y v.kind v.n v.s (.slice q3 v.names.length l3) (.slice q4 v.kids.length l4)).heap[Y.heap.size]?=some (.cells (Qqg v q3 l3 q4 l4) 36 (0,0)):=Yd U.out
    have aC:∀ k,k≠Y.heap.size→(Zl wb Y v.kind v.n v.s (.slice q3 v.names.length l3) (.slice q4 v.kids.length l4)).heap[k]?=wb.heap[k]?:=fun k hk=>Zf hk
    unfold Zl at T aB aC
    refine N.out _ _ (V.out _ T) (fun D=>?_)
    refine tkD (v:=?_) 12 (fun M A=>?_) ?_;rotate_left
    ·(obtain ⟨c4,c6⟩:=HD.out M A;go_simp;try with_reducible rfl)
    refine wpAnyH_done Qqy ?_ _
    clear N K D f0 f1 f2 f3 f4 r0 r1 r2 r3 r4 aA
    generalize World.setCell _ _ _=w9 at T aB aC ⊢
    go_wp2_with fail
    go_meet
    exact ⟨Y.heap.size,q3,l3,q4,l4,rfl,rfl,aB,Z9.move HV.out (fun b hb _=>aC b (by have:=hb.1;have:=hb.2;omega)) (fun b _ hb=>⟨by have:=hb.1;omega,by have:=hb.1;have:=hb.2;omega⟩),T,Qqj⟩
   refine rcD (fun K N=>?_) ?_
   ·go_simp
    generalize Z:World.alloc w5 _=wb
    have aI:=eqB Z (Zg _ _)
    have O:=Qq (J.out.thn aI)
    have cG:=J.out.size
    have cJ:=O.out.size
    have aO:Hid (wb.heap[w5.heap.size]?=some (.cells zV 36 (0,0))):=Qq (by rw [← Z];exact Qw _ _)
    clear Z
    replace aJ:=Qq (aJ.out.below aI)
    clear aI
    try dsimp only
    refine N.out _ _ (V.out _ O.out) (fun D=>?_)
    clear N K
    refine rdD 6 (fun K N=>?_) ?_
    ·go_simp
     refine (aZ.out _ _ _ _ wb (bJ.out.below (aV.out.thn O.out)) (aY.out.below O.out) aJ.out).mono ?_
     rintro e Y ⟨cA,rfl,aD,hb⟩
     obtain ⟨q3,l3,q4,l4,aP,_⟩:=Z9.cells aD
     simp only [vcs] at aP
     subst aP
     have HV:Hid (Z9 (fun b=>wb≤b∧b<Y) Y (vcs v q3 l3 q4 l4) v):=Qq (Z9.move aD (.refl _ _) (fun b hb h=>⟨h,hb⟩))
     clear aD
     clear aJ
     have I:=Qq (O.out.thn hb)
     have bO:=I.out.size
     have U:=Qq (kB hb aO.out)
     have cH:=Z8 aO.out
     clear hb
     try dsimp only
     refine N.out _ _ (V.out _ I.out) (fun D=>?_)
     clear N K
     refine tkD (v:=?_) 7 (fun M A=>?_) ?_;rotate_left
     ·(obtain ⟨c4,c6⟩:=HD.out M A;go_simp;try with_reducible rfl)
     refine tkD (v:=?_) 8 (fun M A=>?_) ?_;rotate_left
     ·(obtain ⟨c4,c6⟩:=HD.out M A;go_simp;try with_reducible rfl)
     refine tkD (v:=?_) 9 (fun M A=>?_) ?_;rotate_left
     ·(obtain ⟨c4,c6⟩:=HD.out M A;go_simp;try with_reducible rfl)
     have aA:=U.out
     have fz:=fun j=>Qn _ _ j _ _ aA
     obtain ⟨f0,f1,f2,f3,f4⟩:=Qzj fz
     have rr:=fun j=>Qk _ _ j _ _ _ aA
     obtain ⟨r0,r1,r2,r3,r4⟩:=Qzj rr
     simp only [Qf,Qg,Qh] at r0 r1 r2 r3 r4
     clear fz rr
     refine rdD 11 (fun K N=>?_) Qo
     go_simp
     have cI:=I.out.size
     have T:Below w3 w3 (Qqm Y w5 v q3 l3 q4 l4):=Zc I.out Qqj
     have aB:(Zl Y w5 v.kind v.n v.s (.slice q3 v.names.length l3) (.slice q4 v.kids.length l4)).heap[w5.heap.size]?=some (.cells (Qqg v q3 l3 q4 l4) 36 (0,0)):=Yd U.out
     have aC:∀ k,k≠w5.heap.size→(Zl Y w5 v.kind v.n v.s (.slice q3 v.names.length l3) (.slice q4 v.kids.length l4)).heap[k]?=Y.heap[k]?:=fun k hk=>Zf hk
     unfold Zl at T aB aC
     refine N.out _ _ (V.out _ T) (fun D=>?_)
     refine tkD (v:=?_) 12 (fun M A=>?_) ?_;rotate_left
     ·(obtain ⟨c4,c6⟩:=HD.out M A;go_simp;try with_reducible rfl)
     refine wpAnyH_done Qqy ?_ _
     clear N K D f0 f1 f2 f3 f4 r0 r1 r2 r3 r4 aA
     generalize World.setCell _ _ _=w9 at T aB aC ⊢
     go_wp2_with fail
     go_meet
     exact ⟨w5.heap.size,q3,l3,q4,l4,rfl,rfl,aB,Z9.move HV.out (fun b hb _=>aC b (by have:=hb.1;have:=hb.2;omega)) (fun b _ hb=>⟨by have:=hb.1;omega,by have:=hb.1;have:=hb.2;omega⟩),T,Qqj⟩
    exact Qo
   exact Qo
  refine rcD (fun K N=>?_) ?_
  ·go_simp
   generalize Z:World.alloc wd _=wb
   have aI:=eqB Z (Zg _ _)
   have O:=Qq (aW.out.thn aI)
   have cG:=aW.out.size
   have cJ:=O.out.size
   have bN:Hid (wb.heap[wd.heap.size]?=some (.cells zV 36 (0,0))):=Qq (by rw [← Z];exact Qw _ _)
   clear Z
   clear aI
   try dsimp only
   refine N.out _ _ (V.out _ O.out) (fun D=>?_)
   clear N K
   refine rdD 5 (fun K N=>?_) ?_
   ·go_simp
    refine (aM.out _ O.out).mono ?_
    rintro e w5 ⟨p4,bA,cB,rfl,bB,bR,hb⟩
    have aJ:Hid (Sl Ze (fun _=>True) w5 (.slice p4 kl bA) vals):=Qq (by have h:=bB.sl (S':=fun _=>True) Qqj (fun _ _=>trivial) (fun _ _ _=>trivial);exact h)
    clear bB bR aM
    have J:=Qq (O.out.thn hb)
    have cK:=J.out.size
    have aO:=Qq (kB hb bN.out)
    have cH:=Z8 bN.out
    clear hb
    try dsimp only
    refine N.out _ _ (V.out _ J.out) (fun D=>?_)
    clear N K
    refine rdD 6 (fun K N=>?_) ?_
    ·go_simp
     refine (aZ.out _ _ _ _ w5 (bJ.out.below (aV.out.thn J.out)) (aY.out.below J.out) aJ.out).mono ?_
     rintro e Y ⟨cA,rfl,aD,hb⟩
     obtain ⟨q3,l3,q4,l4,aP,_⟩:=Z9.cells aD
     simp only [vcs] at aP
     subst aP
     have HV:Hid (Z9 (fun b=>w5≤b∧b<Y) Y (vcs v q3 l3 q4 l4) v):=Qq (Z9.move aD (.refl _ _) (fun b hb h=>⟨h,hb⟩))
     clear aD
     clear aJ
     have I:=Qq (J.out.thn hb)
     have bO:=I.out.size
     have U:=Qq (kB hb aO.out)
     have cH:=Z8 aO.out
     clear hb
     try dsimp only
     refine N.out _ _ (V.out _ I.out) (fun D=>?_)
     clear N K
     refine tkD (v:=?_) 7 (fun M A=>?_) ?_;rotate_left
     ·(obtain ⟨c4,c6⟩:=HD.out M A;go_simp;try with_reducible rfl)
     refine tkD (v:=?_) 8 (fun M A=>?_) ?_;rotate_left
     ·(obtain ⟨c4,c6⟩:=HD.out M A;go_simp;try with_reducible rfl)
     refine tkD (v:=?_) 9 (fun M A=>?_) ?_;rotate_left
     ·(obtain ⟨c4,c6⟩:=HD.out M A;go_simp;try with_reducible rfl)
     have aA:=U.out
     have fz:=fun j=>Qn _ _ j _ _ aA
     obtain ⟨f0,f1,f2,f3,f4⟩:=Qzj fz
     have rr:=fun j=>Qk _ _ j _ _ _ aA
     obtain ⟨r0,r1,r2,r3,r4⟩:=Qzj rr
     simp only [Qf,Qg,Qh] at r0 r1 r2 r3 r4
     clear fz rr
     refine rdD 11 (fun K N=>?_) Qo
     go_simp
     have cI:=I.out.size
     have T:Below w3 w3 (Qqm Y wd v q3 l3 q4 l4):=Zc I.out Qqj
     have aB:(Zl Y wd v.kind v.n v.s (.slice q3 v.names.length l3) (.slice q4 v.kids.length l4)).heap[wd.heap.size]?=some (.cells (Qqg v q3 l3 q4 l4) 36 (0,0)):=Yd U.out
     have aC:∀ k,k≠wd.heap.size→(Zl Y wd v.kind v.n v.s (.slice q3 v.names.length l3) (.slice q4 v.kids.length l4)).heap[k]?=Y.heap[k]?:=fun k hk=>Zf hk
     unfold Zl at T aB aC
     refine N.out _ _ (V.out _ T) (fun D=>?_)
     refine tkD (v:=?_) 12 (fun M A=>?_) ?_;rotate_left
     ·(obtain ⟨c4,c6⟩:=HD.out M A;go_simp;try with_reducible rfl)
     refine wpAnyH_done Qqy ?_ _
     clear N K D f0 f1 f2 f3 f4 r0 r1 r2 r3 r4 aA
     generalize World.setCell _ _ _=w9 at T aB aC ⊢
     go_wp2_with fail
     go_meet
     exact ⟨wd.heap.size,q3,l3,q4,l4,rfl,rfl,aB,Z9.move HV.out (fun b hb _=>aC b (by have:=hb.1;have:=hb.2;omega)) (fun b _ hb=>⟨by have:=hb.1;omega,by have:=hb.1;have:=hb.2;omega⟩),T,Qqj⟩
    exact Qo
   exact Qo
  exact Qo
 obtain ⟨G,q3,l3,q4,l4,rfl,rfl,hG,hV,hb,dE⟩:=hcut
 obtain ⟨w9,rfl⟩:∃ w9,w9=wc:=⟨_,rfl⟩
 have cT:=Qq hV;have cP:=Qq (aV.out.thn hb)
 have bL:=kB hb H2.out
 have HR:=Qq bL
 have fz:=fun j=>Qn _ _ j _ _ bL
 obtain ⟨f0,f1,f2,f3,f4⟩:=Qzj fz
 have rr:=fun j=>Qk _ _ j _ _ _ bL
 obtain ⟨r0,r1,r2,r3,r4⟩:=Qzj rr
 simp only [Qf,Qg,Qh] at r0 r1 r2 r3 r4
 clear fz rr
 have fz:=fun j=>Qn _ _ j _ _ hG
 obtain ⟨g0,g1,g2,g3,g4⟩:=Qzj fz
 have rr:=fun j=>Qk _ _ j _ _ _ hG
 obtain ⟨y0,y1,y2,y3,y4⟩:=Qzj rr
 simp only [Qf,Qg,Qh] at y0 y1 y2 y3 y4
 clear fz rr
 clear bL hG hV hb
 have HM:=Qq X8
 go_wp2_with (go_at_call 134;refine (HM.out _).mono ?_;rintro e w' ⟨rfl,rfl⟩)
 show bodyPost _ _ _ _ _ (Qqm w9 (w+1+1) v q3 l3 q4 l4)
 refine Q7 (v:=.agg (Qqg v q3 l3 q4 l4)) (by simp [results,results91,go_sem,Zd HR.out]) rfl ⟨_,rfl,?_,Zc cP.out Qqj⟩
 exact Z9.move cT.out (fun b hb _=>Zf (by have:=hb.1;omega)) (fun b _ h=>cS.out b (by have:=h.1;omega))
structure Oy (s:Sc):Prop where
 sums:J0 s.sums
 gen:∀ t ∈ s.tables,Df t
 ok:∀ t ∈ s.tables,Mj t
 few:s.tables.length≤20
 once:(s.tables.map Tbl.name).Nodup
structure Ut (s:Sc) (c:Nat) (l:List Rel):Prop where
 tabs:l.map Rel.table=s.tables.map Tbl.name
 rows:∀ r ∈ l,∀ v ∈ r.rows,Vp v
 few:∀ r ∈ l,r.rows.length≤c
 up:∀ r ∈ l,UpV r.rows
theorem Ut.len {s:Sc} {c:Nat} {l:List Rel} (h:Ut s c l):l.length=s.tables.length:=by have:=congrArg List.length h.tabs;simpa using this
theorem Ut.mono {s:Sc} {c d:Nat} {l:List Rel} (h:Ut s c l) (hc:c≤d):Ut s d l:=⟨h.tabs,h.rows,fun r hr=>Qc (h.few r hr) hc,h.up⟩
theorem Rm (s:Sc):Ut s 5 (X9 s):=by
 refine ⟨by simp [X9,Function.comp_def],fun r A=>?_,fun r A=>?_,fun r A=>?_⟩
 all_goals
  unfold X9 at A
  obtain ⟨t,_,rfl⟩:=List.mem_map.1 A
  simp [UpV]
theorem Mz {l:List Val} {x y:Val} (h:y ∈ Kj l x):y ∈ l∨y=x:=by
 unfold Kj at h
 split at h
 ·exact .inl h
 rcases Z4.1 h with h | h
 ·exact .inl (List.mem_of_mem_take h)
 rcases Z3.1 h with h | h
 ·exact .inr h
 exact .inl (Zw h)
theorem Pg (l:List Val) (x:Val):(Kj l x).length≤l.length+1:=by
 unfold Kj
 split
 ·omega
 rw [Ql,List.length_cons,Qm,Zq];omega
theorem Ut.ins {s:Sc} {c:Nat} {l:List Rel} (h:Ut s c l) (x:Bs) (v:Val) (hv:Vp v) (hc:∀ i r,Ur l x=some i→l[i]?=some r→r.rows.length<c):Ut s c (Dj l x v):=by
 cases ha:Ur l x with
 | none=>rw [Gp ha];exact h
 | some i=>
  obtain ⟨r,G⟩:∃ r,l[i]?=some r:=by
   unfold Ur at ha
   have:=(List.findIdx?_eq_some_iff_getElem.1 ha).1
   exact ⟨_,Qx this⟩
  rw [Gs ha G]
  have hm:=Qy G
  have hi:=hc i r ha G
  have D:∀ q ∈ l.set i ⟨r.table,Kj r.rows v⟩,q ∈ l∨q=⟨r.table,Kj r.rows v⟩:=fun q A=>List.mem_or_eq_of_mem_set A
  refine ⟨?_,fun q A u I=>?_,fun q A=>?_,fun q A=>?_⟩
  ·rw [← h.tabs,List.map_set]
   obtain ⟨h1,rfl⟩:=Qj G
   apply List.ext_getElem?
   intro j
   rw [List.getElem?_set]
   split
   ·rename_i e
    subst e
    simp [h1]
   rfl
  ·rcases D q A with A | rfl
   ·exact h.rows q A u I
   rcases Mz I with I | rfl
   ·exact h.rows r hm u I
   exact hv
  ·rcases D q A with A | rfl
   ·exact h.few q A
   have:=Pg r.rows v
   show (Kj r.rows v).length≤c
   omega
  rcases D q A with A | rfl
  ·exact h.up q A
  exact putV_up (h.up r hm) v
theorem Ut.at_ {s:Sc} {c:Nat} {l:List Rel} (h:Ut s c l) (hd:(s.tables.map Tbl.name).Nodup) {i:Nat} {t:Tbl} (ht:s.tables[i]?=some t):Ur l t.name=some i:=by
 have I:i<l.length:=by rw [h.len];exact (Qj ht).1
 have hn:∀ j (A:j<l.length),(l[j]).table=(s.tables.map Tbl.name)[j]'(by rw [← h.tabs];simpa using A):=fun j A=>by
  have:(l.map Rel.table)[j]'(by simpa using A)=(l[j]).table:=Qqk
  rw [← this]
  simp only [h.tabs]
 have G:(s.tables.map Tbl.name)[i]'(by rw [← h.tabs];simpa using I)=t.name:=by
  obtain ⟨h1,rfl⟩:=Qj ht
  simp
 unfold Ur
 refine List.findIdx?_eq_some_iff_getElem.2 ⟨I,by simp [hn i I,G],fun j A=>?_⟩
 have D:j<l.length:=Qqj
 have:(l[j]).table≠t.name:=by
  rw [hn j D,← G]
  intro e
  exact (List.pairwise_iff_getElem.1 hd) j i (by rw [← h.tabs];simpa using D) (by rw [← h.tabs];simpa using I) A e
 simpa using this
def Ox (s:Sc) (l:List Rel):Prop:=Uy s l=true∧∀ c i,c<5→i<s.tables.length→(cfR s l c i).code=0
theorem badF_nil {code:Int} {p:Val→Bool}:Xi code p []=Ft.zero:=rfl
theorem Qji (s:Sc):Ox s (X9 s):=by
 have A:∀ i,((X9 s).getD i ⟨[],[]⟩).rows=[]:=fun i=>by
  rw [Qs]
  unfold X9
  rw [List.getElem?_map]
  cases s.tables[i]? <;> rfl
 refine ⟨?_,fun c i hc _=>?_⟩
 ·have h:∀ a:List Tbl,eqL (fun (t:Tbl) (r:Rel)=>Ue r.rows&&decide (t.name=r.table)) a (a.map fun t=>⟨t.name,[]⟩)=true:=by
   intro a
   induction a with
   | nil=>rfl
   | cons x a ih=>simp only [List.map_cons,eqL,Ue,Bool.true_and,decide_true,ih]
  exact h s.tables
 have D:∀ rs:List Rf,Yi s (X9 s) [] rs=Ft.zero:=by
  intro rs
  induction rs with
  | nil=>rfl
  | cons r rs ih=>rw [Yi,badF_nil,if_pos (show Ft.zero.code=0 from rfl),ih]
 match c,hc with
 | 0,_=>unfold cfR;rw [A];rfl
 | 1,_=>unfold cfR;rw [A];rfl
 | 2,_=>unfold cfR;rw [A];rfl
 | 3,_=>unfold cfR;rw [A,D];rfl
 | 4,_=>unfold cfR;rw [A];rfl
theorem rf_code {s:Sc} {l:List Rel} {f:Ft} (h:RF s l f) (h0:f.code=0):Ox s l:=by
 cases hn:Uy s l with
 | false=>rw [h.2 hn] at h0;cases h0
 | true=>
  rcases h.1 hn with ⟨_,hz⟩ | ⟨c,i,_,_,A,rfl,_⟩
  ·exact ⟨hn,hz⟩
  exact absurd h0 A
theorem T4 {s:Sc} {l:List Rel} {w w':World} {e:Ending} (h:Xt w s l (cfR s l) e w'):(∃ (c:Int) (x1 x2 x3 x4 x5 x6 x7 x8 x9 x10 x11:Value),e=.returned (.agg #[c,x1,x2,x3,x4,x5,x6,x7,x8,x9,x10,x11])∧(c=0→Ox s l))∧Below w w w':=by
 obtain ⟨f,h1,h2,A,rfl,hf,hb⟩:=h
 obtain ⟨p3,k3,p4,k4,q3,l3,q4,l4,rfl,_⟩:=Vc hf
 exact ⟨⟨f.code,_,_,_,_,_,_,_,_,_,_,_,rfl,fun h0=>rf_code ⟨h1,h2⟩ h0⟩,hb⟩
def Jp (s:Sc) (c:Nat) (W0 wr:World) (v:Value) (n:Nat):Prop:=∃ l css,(Ut s c l∧Ox s l)∧l.length=n∧Own Yn 70 (fun b=>W0≤b) W0 wr v l css
def StateOk (s:Sc) (c:Nat) (w:World) (e:Ending) (w':World):Prop:=∃ l p cap css,e=.returned (.slice p l.length cap)∧Ox s l∧Ut s c l∧Own Yn 70 (fun b=>w≤b) w w' (.slice p l.length cap) l css∧Below w w w'
def StateIs' (s:Sc) (c:Nat) (w:World) (e:Ending) (w':World):Prop:=∃ l p cap css,e=.returned (.slice p l.length cap)∧Ut s c l∧Own Yn 70 (fun b=>w≤b) w w' (.slice p l.length cap) l css∧Below w w w'
theorem J0.ok {us:List Sm} (h:J0 us):Ko us:=fun u hu c hc=>(h u hu c hc).1
theorem Jp.grow {s:Sc} {c:Nat} {W0 wr wr':World} {v:Value} {n:Nat} (h:Jp s c W0 wr v n) (hb:Below wr wr wr'):Jp s c W0 wr' v n:=by
 obtain ⟨l,css,h1,h2,h3⟩:=h
 exact ⟨l,css,h1,h2,h3.below hb⟩
theorem Lt (HCk:Kx) (s:Sc) (hS:Oy s) (S0 S3:Nat→Prop) (cs:List Value) (nv:Value) (ns:List Int) (w:World) (hs:Xu S0 w cs s) (hn0:Xc S3 w nv ns) (hi:Ub ns):
  Calls prog 6 #[cs,nv] w (StateOk s 5 w):=by
 have Y:=Qq (fun W (hW:Below w w W)=>R0 S0 s cs W (hs.below hW) (Qqq hS.few))
 obtain ⟨aY,eC,D⟩:=Qqo hs hn0 hS
 have bT:=Qq (fun (k:Nat) W (hW:Below w w W)=>Yr S3 nv ns (k+1) 5 W (hn0.below hW) hi Qqj Qqj)
 obtain ⟨uv,tv,rfl,hu,ht⟩:=hs
 obtain ⟨up,uc,rfl,_⟩:=hu.len
 obtain ⟨tp,tc,rfl,_⟩:=ht.len
 obtain ⟨np,nc,rfl,_⟩:=hn0.len
 obtain ⟨n,hn⟩:=eX (s.tables.length)
 have gD:n≤20:=Qqq hS.few
 have he:(X9 s).length=n:=by rw [← hn];simp [X9]
 unfold Az at Y
 rw [hn] at ht aY Y ⊢
 rw [he] at Y
 obtain ⟨HT,HN,HI⟩:=Qqo ht hn hi
 clear hu ht hn0 hn he hS hi
 simp only [Int.natCast_add,Int.cast_ofNat_Int] at bT
 go_enter func6,ntmps6
 go_upto_region 1 with fail
 generalize bF:w.alloc _=W1
 have cQ:=eqB bF (Zg _ _)
 have bG:=eqH (b:=w.heap.size) bF (Qw _ _)
 have aV:=Qq cQ;have aJ:=Qq bG
 obtain ⟨c0,c1⟩:=row2 bG
 clear bF cQ bG
 have aE:=Z8 aJ.out
 go_upto_region 2 with (go_at_call 19;refine (Y.out _ aV.out).mono ?_;rintro e w2 ⟨p2,cF,cJ,rfl,cL,cR⟩;have eD:=Qq cL;have dX:=Qq (show Below W1 W1 w2 from cR);clear cL cR)
 have cZ:Jp s 5 w w2 (.slice p2 n cF) n:=⟨X9 s,cJ,⟨Rm s,Qji s⟩,by rw [← HN.out];simp [X9],eD.out.weak Qqj (fun b _ h=>by rcases h with h | h;exact h.elim;exact Qqj)⟩
 have eI:=Qq cZ
 clear cZ Y c0 c1
 go_wp2_with fail
 go_loopw [5,6,7,8,9,10] (fun t5 t6 _ _ _ _ wr=>∃ (k:Nat) (p:Option Addr) (cap:Nat),k≤3∧t5=.slice p n cap∧t6=.int .i64 k∧Aside (Jp s 5 w wr (.slice p n cap) n∧Below W1 W1 wr)) (fun _ t6 _ _ _ _ _=>3 - (intOf t6).toNat)
 case atStart=>exact ⟨0,_,_,Q8 _,rfl,rfl,⟨eI.out,dX.out⟩⟩
 obtain ⟨ps,pa,cG,fU,rfl,rfl,hA⟩:=hrel
 have aN:=Qq hA.out.1;have bQ:=Qq hA.out.2
 clear hA
 by_cases hps:ps<3
 ·have g1:(ps:Int)<3:=Qqj
  go_upto_region 6 with fail
  go_loopw [5,7,8,9,10] (fun t5 t7 _ _ _ wr=>∃ (k:Nat) (p:Option Addr) (cap:Nat),k≤n∧t5=.slice p n cap∧t7=.int .i64 k∧Aside (Jp s 5 w wr (.slice p n cap) n∧Below W1 W1 wr)) (fun _ t7 _ _ _ _=>n - (intOf t7).toNat)
  case atStart=>exact ⟨0,_,_,Q8 _,rfl,rfl,⟨aN.out,bQ.out⟩⟩
  obtain ⟨i,pb,fT,fX,rfl,rfl,hA⟩:=hrel
  have aO:=Qq hA.out.1;have aW:=Qq hA.out.2
  clear hA
  have cP:=kE aW.out aE aJ.out
  have c1:=rA1 cP
  clear cP
  by_cases hin:i<n
  ·have g2:(i:Int)<(n:Int):=Qqj
   have g3:(0:Int)≤(i:Int):=Qqj
   go_upto_region 9 with fail
   clear c1
   go_loopw [5,8,9,10] (fun t5 t8 _ _ wr=>∃ (k:Nat) (p:Option Addr) (cap:Nat),k≤3∧t5=.slice p n cap∧t8=.int .i64 k∧Aside (Jp s 5 w wr (.slice p n cap) n∧Below W1 W1 wr)) (fun _ t8 _ _ _=>3 - (intOf t8).toNat)
   case atStart=>exact ⟨0,_,_,Q8 _,rfl,rfl,⟨aO.out,aW.out⟩⟩
   obtain ⟨k,pc,aA,fY,rfl,rfl,hA⟩:=hrel
   have I:=Qq hA.out.1;have U:=Qq hA.out.2
   clear hA
   have J:=Qq (aV.out.thn U.out)
   by_cases hk:k<3
   ·have g4:(k:Int)<3:=Qqj
    obtain ⟨l,css,⟨hg,-⟩,cV,hO⟩:=I.out
    have bD:Sl Yn (fun b=>w≤b) wr (.slice pc n aA) l:=by
     have:=hO.sl (S':=fun b=>w≤b) Qqj (fun _ h=>h) Qzx
     exact this
    obtain ⟨r,hr⟩:∃ r,l[i]?=some r:=⟨_,Qx Qqj⟩
    obtain ⟨lb,aT,gF,fA,gC,gB,_,⟨rv,cX,fE,fF,fD⟩,cY⟩:=bD.elem hr
    subst fA;subst cX
    obtain ⟨q,m,aS,_⟩:=fD
    obtain ⟨mr,bH⟩:=eX (r.rows.length)
    rw [bH] at aS
    subst aS
    have e1:=cY 1 _ rfl
    rw [show Yn.k=2 from rfl] at e1
    obtain ⟨aH,bV,HR,eA⟩:=Qqp hg bD hr bH
    clear hg hO bD hr cY fE fF bH css
    by_cases hm5:mr<5
    ·have g5:(mr:Int)<5:=Qqj
     obtain ⟨a,ha⟩:∃ a:Nat,11*(ps:Int)+5*(i:Int)+3*(k:Int)=(a:Int):=⟨11*ps+5*i+3*k,Qqj⟩
     have eW:a≤1000:=Qqj
     have aX:=Qq (bT.out a)
     obtain ⟨z,hz⟩:=eX (Yp ns (a+1) 5)
     rw [hz] at aX
     clear hz
     go_upto_region 12 with fail
     by_cases hz0:z=0
     ·subst hz0
      go_wp2_with (go_at_call 18;refine (aX.out _ J.out).mono ?_;rintro e w' ⟨rfl,rfl⟩)
      go_roundw
      case measure=>simp [intOf];omega
      case rel=>exact ⟨k+1,_,_,Qqj,rfl,by go_num,I.out,U.out⟩
     have hq:(z==0)=false:=by rw [← Qt,beq_iff_eq];exact hz0
     obtain ⟨t,ht⟩:∃ t,s.tables[i]?=some t:=⟨_,Qx (by rw [HN.out];exact hin)⟩
     obtain ⟨tb,T,fV,fH,gE,_,_,bE,A⟩:=(HT.out.below J.out).elem ht
     subst fH
     obtain ⟨cI,cH,dD,dC,dM,dL,k9,dN,n9,dO,dH,dE,cC,dI,dF,cD,dJ,dG,cE,a9,z9,cT,_⟩:=Yj bE
     simp only [tcs] at cT
     subst cT
     have aD:=kE U.out aE aJ.out
     obtain ⟨c0,c1⟩:=row2 aD
     have d0:=A 0 _ rfl;have d1:=A 1 _ rfl;have d2:=A 2 _ rfl;have d3:=A 3 _ rfl;have d4:=A 4 _ rfl;have d5:=A 5 _ rfl;have d6:=A 6 _ rfl;have d7:=A 7 _ rfl;have d8:=A 8 _ rfl;have d9:=A 9 _ rfl;have aZ:=A 10 _ rfl;have bA:=A 11 _ rfl;have bB:=A 12 _ rfl
     rw [show Zn.k=13 from rfl] at d0 d1 d2 d3 d4 d5 d6 d7 d8 d9 aZ bA bB
     rw [Nat.add_zero] at d0
     try unfold sv at d0
     obtain ⟨eJ,bZ,eK⟩:=Qqo bE (Qy ht) ht
     clear aD A bE ht e1
     go_upto_region 13 with (go_at_call 18;refine (aX.out _ J.out).mono ?_;rintro e w' ⟨rfl,rfl⟩)
     refine let_mvar% ?Lq1:=fun w':World=>Qqa w' w 0 (.slice up s.sums.length uc)∧Qqa w' w 1 (Qqb tb T n tc)∧Qzd w' tb (T+i*13) t.name (.slice cI t.columns.length cH) (.slice dD t.key.length dC) (.slice dM t.refs.length dL) k9 (.string dN) n9 (.string dO) (.slice dH dE cC) (.slice dI dF cD) (.slice dJ dG cE) a9 z9 (Below wr wr w');?_
     have HS:∀ w',Below wr wr w'→?Lq1 w':=by
      intro w' h
      have N:∀ {b j:Nat} {u:Value},wr.cell? ⟨b,j,none⟩=some u→w'.cell? ⟨b,j,none⟩=some u:=fun hc=>kC h hc
      exact ⟨N c0,N c1,N d0,N d1,N d2,N d3,N d4,N d5,N d6,N d7,N d8,N d9,N aZ,N bA,N bB,h⟩
     obtain ⟨bU,eH,dY,G,dW,aI⟩:=U9 HS (fun w' h=>h.2.2.2.2.2.2.2.2.2.2.2.2.2.2.2)
     have HP:=fun w' x0 x1 x2 x3 x4 h=>aI.out (Zl w' wr x0 x1 x2 x3 x4) (Zc (G.out w' h) (Q9 _))
     unfold Zl at HP
     have eG:=Qq HP
     clear HS HP c0 c1 d0 d1 d2 d3 d4 d5 d6 d7 d8 d9 aZ bA bB
     have aM:=Qq (fun W' (h':Below wr wr W')=>(rrow_any S0 (fun b=>w≤b) _ S3 s [.slice up s.sums.length uc,Qqb tb T n tc] (.slice (some ⟨lb,aT,none⟩) n aA) l t (Qqh t cI cH dD dC dM dL k9 dN n9 dO dH dE cC dI dF cD dJ dG cE a9 z9) (.slice np ns.length nc) ns a W' (aY.out.below (J.out.thn h')) ((bV.out.below h').rel) (Zn.frame eJ.out (.of_below h')) (eC.out.below (J.out.thn h')) HI.out eW (D.out.gen t bZ.out) D.out.sums (fun t ht=>(D.out.ok t ht).key) (fun r hr v hv=>(aH.out.rows r hr v hv).good)).mono (R':=fun e w2=>∃ v q3 m3 q4 m4,e=.returned (.agg (Qqg v q3 m3 q4 m4))∧Vp v∧Z9 (fun b=>w≤b) w2 (vcs v q3 m3 q4 m4) v∧Below wr wr w2) (by
      rintro e w2 ⟨v,q3,m3,q4,m4,rfl,x1,x2,x3,x4⟩
      have fG:=h'.size
      have fJ:=J.out.size
      have fZ:=(D.out.gen t bZ.out).few
      exact ⟨v,q3,m3,q4,m4,rfl,⟨x1,Qqj⟩,x3.move (.refl _ _) (fun b _ h=>h.elim id (fun h=>by show w≤b;omega)),h'.thn x4⟩))
     have Z:=Qq (fun W' v q3 m3 q4 m4 (h':Below wr wr W') (hv:Z9 (fun b=>w≤b) W' (vcs v q3 m3 q4 m4) v)=>(B3 (fun b=>w≤b) (.slice (some ⟨lb,aT,none⟩) n aA) l t.name v _ W' (bV.out.below h') hv Qqj (fun r hr=>by have:=aH.out.few r hr;omega)).mono (R':=fun e w2=>∃ p cap css,e=.returned (.slice p n cap)∧Own Yn 70 (fun b=>w≤b) w w2 (.slice p n cap) (Dj l t.name v) css∧Below wr wr w2) (by
      rintro e w2 ⟨p,cap,css,rfl,x1,x2⟩
      have fG:=h'.size
      have fJ:=J.out.size
      rw [Dx,cV] at x1 ⊢
      exact ⟨p,cap,css,rfl,x1.weak Qqj (fun b _ h=>h.elim id (fun h=>by show w≤b;omega)),h'.thn x2⟩))
     unfold sv vcs at Z
     go_cut [10] from 24 to 73 (fun fL wx=>∃ p cap v css,fL=.slice p n cap∧Vp v∧Own Yn 70 (fun b=>w≤b) w wx (.slice p n cap) (Dj l t.name v) css∧Below wr wr wx)
     case first=>
      go_region_held3 ?Lq1 (first | with_reducible exact bU.out | with_reducible exact cO | with_reducible exact cN)
       (first
        | (go_at_call 20;refine (Z.out _ _ _ _ _ _ (G.out _ cN) eL.out).mono ?_;rintro e w3 ⟨p9,M,aB,rfl,cM,fC⟩;have cO:=aI.out _ fC;have eE:=Qq cM;clear cM)
        | (go_at_call 21;refine (aM.out _ (G.out _ Qqw)).mono ?_;rintro e w2 ⟨v,q3,m3,q4,m4,rfl,cU,dA,fB⟩;have cN:=aI.out _ fB;have dZ:=Qq cU;have eL:=Qq dA;clear cU dA))
      all_goals
       go_wp2_with fail
       go_meet
       exact ⟨p9,M,v,aB,rfl,dZ.out,eE.out,G.out _ cO⟩
     obtain ⟨p9,M,v,aB,rfl,dB,bC,aK⟩:=hcut
     have aL:Ut s 5 (Dj l t.name v):=aH.out.ins t.name v dB (fun i' r' h1 h2=>by
      rw [aH.out.at_ D.out.once eK.out] at h1
      cases h1
      rw [HR.out] at h2
      cases h2
      rw [eA.out];exact hm5)
     have O:(Dj l t.name v).length=n:=by rw [Dx,cV]
     obtain ⟨fW,V,cA⟩:=Qqo aL (U.out.thn aK) (J.out.thn aK)
     have bY:=Qq (show Ox s (Dj l t.name v)→Jp s 5 w wc (.slice p9 n M) n from fun bI=>⟨_,aB,⟨aL,bI⟩,O,bC⟩)
     have aQ:Sl Yn (fun b=>w≤b) wc (.slice p9 n M) (Dj l t.name v):=by
      have:=bC.sl (S':=(fun b=>w≤b)) Qqj (fun _ h=>h) Qzx
      exact this
     have bR:=Qq ((HCk S0 (fun b=>w≤b) s [.slice up s.sums.length uc,Qqb tb T n tc] (.slice p9 n M) (Dj l t.name v) wc (aY.out.below cA.out) aQ.rel (by rw [O,HN.out]) D.out.sums.ok D.out.ok aL.rows).mono fun e w' h=>T4 h)
     have aD:=kE V.out aE aJ.out
     obtain ⟨c0,c1⟩:=row2 aD
     have bW:=Qq (I.out.grow aK)
     clear dB bC aL O aQ aD aM Z aK
     clear bU eH dY G dW eG aI
     go_upto_region 15 with (go_at_call 10;refine bR.out.mono ?_;rintro e w4 ⟨⟨fc,x1,x2,x3,x4,x5,x6,x7,x8,x9,fR,fS,rfl,aR⟩,cS⟩;have bS:=Qq aR;clear aR;have gA:∀ W,(Instr.field 38 (.agg #[fc,x1,x2,x3,x4,x5,x6,x7,x8,x9,fR,fS]) 0).run prog W=.ok (.int .i64 fc) W:=(fun W=>by simp [Instr.field,go_sem,part,asAgg]);have aG:=Qq cS;clear cS)
     focus
      have eY:fc=0:=by first | assumption | (simp_all;done) | omega
      have bX:=Qq (bY.out (bS.out eY))
      go_wp2_with fail
      go_roundw
      case measure=>simp [intOf];omega
      case rel=>exact ⟨k+1,_,_,Qqj,rfl,by go_num,bX.out.grow aG.out,V.out.thn aG.out⟩
     focus
      exact ⟨⟨k+1,_,_,Qqj,rfl,by go_num,bW.out.grow (by have h:=aG.out;exact h),V.out.thn aG.out⟩,by simp [intOf];omega⟩
    have g5:¬ (mr:Int)<5:=Qqj
    go_wp2_with fail
    go_roundw
    case measure=>simp [intOf];omega
    case rel=>exact ⟨i+1,_,_,Qqj,rfl,by go_num,I.out,U.out⟩
   have eZ:k=3:=Qqj
   subst eZ
   go_wp2_with fail
   go_roundw
   case measure=>simp [intOf];omega
   case rel=>exact ⟨i+1,_,_,Qqj,rfl,by go_num,I.out,U.out⟩
  have g2:¬ (i:Int)<(n:Int):=Qqj
  go_wp2_with fail
  go_roundw
  case measure=>simp [intOf];omega
  case rel=>exact ⟨ps+1,_,_,Qqj,rfl,by go_num,aO.out,aW.out⟩
 have cW:ps=3:=Qqj
 subst cW
 go_wp2_with fail
 go_ret
 obtain ⟨l,css,⟨hg,bI⟩,hl,hO⟩:=aN.out
 subst hl
 exact ⟨l,pa,cG,css,rfl,bI,hg,hO,aV.out.thn bQ.out⟩
theorem Sr (HCk:Kx) (s:Sc) (hS:Oy s) (S0 S3:Nat→Prop) (cs:List Value) (nv:Value) (ns:List Int) (w:World) (hs:Xu S0 w cs s) (hn0:Xc S3 w nv ns) (hi:Ub ns):
  Calls prog 6 #[cs,nv] w (StateIs' s 5 w):=
 (Lt HCk s hS S0 S3 cs nv ns w hs hn0 hi).mono fun _ _ ⟨l,p,cap,css,h1,_,h2,h3,h4⟩=>⟨l,p,cap,css,h1,h2,h3,h4⟩
theorem Pb (nm:Bs) (n:Int) (s:Bs) (names binds:List Bs) (kids:List Ex) (a z:Int) (d:Nat) (HM:∀ (S:Nat→Prop) (ce:List Value) (nv vv:Value) (ns:List Bs) (vs:List Val) (w:World),Yv S w ce (.mk 13 nm n s names binds kids a z)→Sl Zh S w nv ns→Sl Ze S w vv vs→ns.length≤vs.length→vs.length+(d+1)≤1000→(∀ v ∈ vs,Y3 v) →
  Calls prog 146 #[ce,nv,vv] w (X6 S w (Gl (Y1 d) names binds kids ns vs))):∀ (S:Nat→Prop) (ce:List Value) (nv vv:Value) (ns:List Bs) (vs:List Val) (w:World),Yv S w ce (.mk 13 nm n s names binds kids a z)→Sl Zh S w nv ns→Sl Ze S w vv vs→ns.length≤vs.length→vs.length+(d+1)≤1000→(∀ v ∈ vs,Y3 v) →
  Calls prog 97 #[ce,nv,vv] w (X6 S w (Y1 (d+1) (.mk 13 nm n s names binds kids a z) ns vs)):=by
 intro S ce nv vv ns vs w aC Z aA G hd hb
 have hx:Yv (fun b=>S b∧b<w) w ce (.mk 13 nm n s names binds kids a z):=aC.move (.refl _ _) (fun b hb h=>⟨h,hb⟩)
 have hn:=Z.up
 have hv:=aA.up
 obtain ⟨np,nc,rfl,_⟩:=hn.len
 obtain ⟨vp,vc,rfl,bB⟩:=hv.len
 have aN:=Qq hx
 obtain ⟨bC,bv,kv,rfl,aZ,bA,O,N,hk⟩:=Yx.1 hx
 obtain ⟨p1,c1,rfl,_⟩:=O.len
 obtain ⟨p2,c2,rfl,_⟩:=N.len
 obtain ⟨p3,c3,rfl,aY⟩:=hk.len
 obtain ⟨HN,HV,aK,aW,aV,HK,aL,U⟩:=Qqu hn hv hb O N hk HM G
 clear aC Z aA hx hn hv O N hk hb HM G
 have aO:=Qq (fun W (hW:Below w w W)=>aL.out (fun b=>S b∧b<w) _ _ _ ns vs W (aN.out.move (.of_below hW) Qzx) (HN.out.below hW) (HV.out.below hW) U.out hd aK.out)
 unfold sv at *
 go_enter func97,ntmps97
 go_upto_region 26 with fail
 generalize A:(w.alloc _).alloc _=W1
 have V:=eqB A (Zt _ _ _)
 have I:=eqH (b:=w.heap.size) A (Q5 _ _ _)
 have J:=eqH (b:=w.heap.size+1) A (Q6 _ _ _)
 obtain ⟨T,aX,aP⟩:=Qqo V I J
 have Y:=Z8 J
 obtain ⟨c0,c1,c2,c3,c4,c5,c6,c7,c8⟩:=row9 I
 clear A V I J
 go_wp2_with (go_at_call 146;refine (aO.out _ T.out).mono ?_;rintro e w7 ⟨k7,n7,s7,aH,aF,aD,aI,aG,aE,b7,rfl,aB,M⟩;have D:=kE (M) Y aP.out;obtain ⟨y0,y1,y2,y3,y4⟩:=row5 D;obtain ⟨f0,f1,f2,f3,f4⟩:=frz5 D;have aQ:=Qq D;clear D;have aM:=Qq aB;have aJ:=Qq M;clear aB M)
 show bodyPost _ _ _ _ _ (Zl w7 (w+1) k7 n7 (.string s7) (.slice aH aF aD) (.slice aI aG aE))
 refine Q7 (v:=.tuple #[.agg #[k7,n7,.string s7,.slice aH aF aD,.slice aI aG aE],.bool b7]) (by simp [results,results97,go_sem,Zd aQ.out]) rfl (X6.of_eq revF_mat (Jk T.out Qqj Y aM.out aJ.out))
theorem Lw (nm:Bs) (n:Int) (s:Bs) (names binds:List Bs) (kids:List Ex) (a z:Int) (d:Nat) (HM:∀ (S:Nat→Prop) (ce:List Value) (nv vv:Value) (ns:List Bs) (vs:List Val) (w:World),Yv S w ce (.mk 14 nm n s names binds kids a z)→Sl Zh S w nv ns→Sl Ze S w vv vs→ns.length≤vs.length→vs.length+(d+1)≤1000→(∀ v ∈ vs,Y3 v) →
  Calls prog 147 #[ce,nv,vv] w (X6 S w (opV (fun x=>Y1 d x ns vs) nm kids))):∀ (S:Nat→Prop) (ce:List Value) (nv vv:Value) (ns:List Bs) (vs:List Val) (w:World),Yv S w ce (.mk 14 nm n s names binds kids a z)→Sl Zh S w nv ns→Sl Ze S w vv vs→ns.length≤vs.length→vs.length+(d+1)≤1000→(∀ v ∈ vs,Y3 v) →
  Calls prog 97 #[ce,nv,vv] w (X6 S w (Y1 (d+1) (.mk 14 nm n s names binds kids a z) ns vs)):=by
 intro S ce nv vv ns vs w aC Z aA G hd hb
 have hx:Yv (fun b=>S b∧b<w) w ce (.mk 14 nm n s names binds kids a z):=aC.move (.refl _ _) (fun b hb h=>⟨h,hb⟩)
 have hn:=Z.up
 have hv:=aA.up
 obtain ⟨np,nc,rfl,_⟩:=hn.len
 obtain ⟨vp,vc,rfl,bB⟩:=hv.len
 have aN:=Qq hx
 obtain ⟨bC,bv,kv,rfl,aZ,bA,O,N,hk⟩:=Yx.1 hx
 obtain ⟨p1,c1,rfl,_⟩:=O.len
 obtain ⟨p2,c2,rfl,_⟩:=N.len
 obtain ⟨p3,c3,rfl,aY⟩:=hk.len
 obtain ⟨HN,HV,aK,aW,aV,HK,aL,U⟩:=Qqu hn hv hb O N hk HM G
 clear aC Z aA hx hn hv O N hk hb HM G
 have aO:=Qq (fun W (hW:Below w w W)=>aL.out (fun b=>S b∧b<w) _ _ _ ns vs W (aN.out.move (.of_below hW) Qzx) (HN.out.below hW) (HV.out.below hW) U.out hd aK.out)
 unfold sv at *
 go_enter func97,ntmps97
 go_upto_region 28 with fail
 generalize A:(w.alloc _).alloc _=W1
 have V:=eqB A (Zt _ _ _)
 have I:=eqH (b:=w.heap.size) A (Q5 _ _ _)
 have J:=eqH (b:=w.heap.size+1) A (Q6 _ _ _)
 obtain ⟨T,aX,aP⟩:=Qqo V I J
 have Y:=Z8 J
 obtain ⟨c0,c1,c2,c3,c4,c5,c6,c7,c8⟩:=row9 I
 clear A V I J
 go_wp2_with (go_at_call 147;refine (aO.out _ T.out).mono ?_;rintro e w7 ⟨k7,n7,s7,aH,aF,aD,aI,aG,aE,b7,rfl,aB,M⟩;have D:=kE (M) Y aP.out;obtain ⟨y0,y1,y2,y3,y4⟩:=row5 D;obtain ⟨f0,f1,f2,f3,f4⟩:=frz5 D;have aQ:=Qq D;clear D;have aM:=Qq aB;have aJ:=Qq M;clear aB M)
 show bodyPost _ _ _ _ _ (Zl w7 (w+1) k7 n7 (.string s7) (.slice aH aF aD) (.slice aI aG aE))
 refine Q7 (v:=.tuple #[.agg #[k7,n7,.string s7,.slice aH aF aD,.slice aI aG aE],.bool b7]) (by simp [results,results97,go_sem,Zd aQ.out]) rfl (X6.of_eq revF_op (Jk T.out Qqj Y aM.out aJ.out))
theorem O8 (S:Nat→Prop) (v:Value) (l:List Int) (w:World) (hs:Xc S w v l) (hi:Ub l):
  Calls prog 17 #[v,Qqd] w (Jv w (Gen.check (Yp l 0 13).toNat)):=by
 obtain ⟨h1,h2⟩:=Kp l 0 13 Qqj
 obtain ⟨z,A⟩:=eX (Yp l 0 13)
 rw [A] at h1 h2
 have h:z=0∨z=1∨z=2∨z=3∨z=4∨z=5∨z=6∨z=7∨z=8∨z=9∨z=10∨z=11∨z=12:=Qqj
 rcases h with h | h | h | h | h | h | h | h | h | h | h | h | h
 ·rw [A,h];exact Nh S v l w hs hi (by rw [A,h])
 ·rw [A,h];exact Nj S v l w hs hi (by rw [A,h])
 ·rw [A,h];exact N8 S v l w hs hi (by rw [A,h])
 ·rw [A,h];exact Wi S v l w hs hi (by rw [A,h])
 ·rw [A,h];exact Av S v l w hs hi (by rw [A,h])
 ·rw [A,h];exact C6 S v l w hs hi (by rw [A,h])
 ·rw [A,h];exact Af S v l w hs hi (by rw [A,h])
 ·rw [A,h];exact Qjy S v l w hs hi (by rw [A,h])
 ·rw [A,h];exact Cz S v l w hs hi (by rw [A,h])
 ·rw [A,h];exact Wp S v l w hs hi (by rw [A,h])
 ·rw [A,h];exact Tq S v l w hs hi (by rw [A,h])
 ·rw [A,h];exact Sh S v l w hs hi (by rw [A,h])
 rw [A,h];exact Sv S v l w hs hi (by rw [A,h])
end Go.Proofs.YtdpibdpbgokmoaaGreatDoor

import Derived.Test.YtdpibdpbgokmoaaGreatDoorC27
import Derived.Test.YtdpibdpbgokmoaaGreatDoorC22
set_option maxRecDepth 100000
set_option maxHeartbeats 400000000
namespace Go.Proofs.YtdpibdpbgokmoaaGreatDoor
open Go.RowKit Go.Shelf Go.Lib Tryz
def WithAt (u:Val) (f:Bs) (y R:Val):Prop:=∀ (S S1:Nat→Prop) (cv cy:List Value) (w:World),Z9 S w cv u→Z9 S1 w cy y →
 Calls prog 137 #[cv,sv f,cy] w fun e w'=>∃ cs',e=.returned (.tuple #[.agg cs'.toArray,.bool true])∧Z9 (fun b=>w≤b) w' cs' R∧Below w w w'
theorem ev_with (nm:Bs) (n:Int) (s:Bs) (names binds:List Bs) (x e1:Ex) (a z:Int) (env:List (Bs × Val)) (u y R:Val) (f1:Bs) (hf:names[0]?=some f1) (hx:EvO x env (some u)) (hy:EvO e1 env (some y)) (hk4:u.kind=4) (hw:WithAt u f1 y R):EvO (.mk 7 nm n s names binds [x,e1] a z) env (some R):=by
 have cX:=Qq (fun (S:Nat→Prop) cu W (hu:Z9 S W cu u)=>Hc 4 S u cu W hu hk4)
 have dC:Hid (WithAt u f1 y R):=Qq hw
 clear hk4 hw
 intro S0 S' cs p w bL dX cE dV
 have cU:=Qq dX
 clear dX
 have he:Xv (fun b=>S0 b∧b<w) w p env:=dV.move (.refl _ _) (fun b hb h=>⟨h,hb⟩)
 obtain ⟨nv,bv,kv,rfl,gF,fG,hn,hb,hk⟩:=Yx.1 cE
 have cH:=Yv.room cE
 obtain ⟨np,nc,rfl,_⟩:=hn.len
 obtain ⟨bp,bc,rfl,_⟩:=hb.len
 obtain ⟨kp,kc,rfl,fB⟩:=hk.len
 obtain ⟨_,_,dY,dZ⟩:=cH
 simp only [Qh,Qg,Zv,Qr] at dY
 obtain ⟨-,-,rfl⟩:=dY
 have gE:2≤kc:=dZ
 clear dZ
 obtain ⟨q,rfl⟩:=he.ptr
 obtain ⟨HE,HK,cV,eO⟩:=Qqp he hk hn hb
 obtain ⟨kl,bB⟩:=eX ([x,e1].length)
 rw [bB] at HK fB
 have bZ:=Qq bB
 clear cE he dV hn hb hk
 unfold sv
 rw [bB]
 clear bB
 go_enter func91,ntmps91
 go_upto_region 3 with fail
 generalize bE:((w.alloc _).alloc _).alloc _=w3
 have U:=eqB bE (Xm _ _ _ _)
 have h0:=eqH (b:=w.heap.size) bE (Zp _ _ _ _)
 have h1:=eqH (b:=w.heap.size+1) bE (Zo _ _ _ _)
 have h2:=eqH (b:=w.heap.size+1+1) bE (Zi _ _ _ _)
 have gH:w.heap.size+1+1<w3.heap.size:=Z8 h2
 have c0:=rA0 h0;have c1:=rA1 h0;have c2:=rA2 h0;have c3:=rA3 h0;have Y:=rA4 h0;have c5:=rA5 h0;have c6:=rA6 h0
 obtain ⟨H0,H1,H2,eK⟩:=Qqp h0 h1 h2 U
 have bR:=Qq (fun (k:Nat) e9 r9 (hke:[x,e1][k]?=some e9) (hev:EvO e9 env r9) W (V:Below w3 w3 W) (x9:Nat) (hxl:w≤x9) (hxW:x9<W)=>Kl w (w+1) k (fun b=>S0 b∧b≠w+1+1∧b≠x9) S' kp kc [x,e1] e9 (.pointer q) env r9 W
  (by rw [bZ.out];exact (Qk _ _ 6 _ _ _ (kB V h0)).trans rfl) (by rw [bZ.out];exact (HK.out.below U).below V) ((Qk _ _ 0 _ _ _ (kB V h1)).trans rfl) (fun b hb=>⟨bL b (Qqz U.size V.size),by have:=V.size;omega,Qqj⟩) (cU.out.below (U.thn V)) ((HE.out.move (.of_below U) Qzx).move (.of_below V) (fun b _ h=>⟨h.1,by have:=h.2;omega,by have:=h.2;omega⟩)) hke hev)
 have cT:Hid (∀ W,Below w3 w3 W→Calls prog 132 #[Qqd,Qqc w,Qqc (w+1)] W (Xy (fun b=>S0 b∧b≠w+1+1∧b≠w+1+1) W (some u))):=Qq (fun W hW=>bR.out 0 x (some u) rfl hx W hW (w+1+1) Qqj (Qqq hW.size))
 obtain ⟨kb,aJ,_,fC,_,_,_,_,_⟩:=HK.out.elem (i:=0) (x:=x) rfl
 subst fC
 have dW:kl=2:=bZ.out.symm
 subst dW
 have dQ:Sl Xp S' w (.slice (some ⟨kb,aJ+9,none⟩) 1 (kc - 1)) [e1]:=(HK.out.sub 1 1 (kc - 1) Qqk)
 have bP:=Qq (fun W (hW:Below w3 w3 W)=>Nq (w+1) (fun b=>S0 b∧b≠w+1+1) S' (some ⟨kb,aJ+9,none⟩) (kc - 1) [e1] (.pointer q) env (fun _=>some y) W ((dQ.below U).below hW) ((Qk _ _ 0 _ _ _ (kB hW h1)).trans rfl) (fun b hb=>⟨bL b (Qqz U.size hW.size),by have:=hW.size;omega⟩) (cU.out.below (U.thn hW)) ((HE.out.move (.of_below U) Qzx).move (.of_below hW) (fun b _ h=>⟨h.1,by have:=h.2;omega⟩)) (fun e he=>by obtain rfl:=Z5.1 he;exact hy))
 have fG:∀ W,(Instr.slice 44 (.slice (some ⟨kb,aJ,none⟩) 2 kc) (some (.int .i64 1)) none none).run prog W=.ok (.slice (some ⟨kb,aJ+9,none⟩) 1 (kc - 1)) W:=fun W=>by
  have h:=De 44 46 9 underlying44 sizeOf46 (some ⟨kb,aJ,none⟩) 2 kc 1 Qqj W
  rw [if_neg Qqj] at h
  simpa [Lv] using h
 obtain ⟨nb,bV,fF,cG,fA⟩:=(cV.out.below U).str hf
 subst fF
 rw [Nat.add_zero] at cG
 obtain ⟨nl,bG⟩:=eX (names.length)
 have fX:0<nl:=by rw [← bG];exact (Qj hf).1
 have fY:(0:Int)<(nl:Int):=Qqj
 rw [bG] at h0 Y H0
 have cR:=Qq (fun (o c:Nat) W=>(Sx (fun _=>True) (.slice (some ⟨nb,o,none⟩) 0 c) [] f1 W (Sl.empty _ _ _ _ _)).mono (R':=fun e w'=>e=.returned (.bool false)∧w'=W) (by
  rintro e w' ⟨rfl,rfl⟩
  exact ⟨rfl,rfl⟩))
 unfold sv at cR
 have HC:=Qq (fun W (h:Below w3 w3 W)=>Qe (kC h Y) (Qe (kC h c6) (kC h cG)))
 have eS:=Qq bL;have HM:=Qq X8
 have gG:w.heap.size<w3.heap.size:=Qqj
 clear h0 h1 h2 U bE HE HK bR hx hy hf fA dQ bG c1 c2 c3 Y c5 c6 cV eO bL cG
 go_upto_region 25 with (first
  | (go_at_call 131;refine (cX.out _ _ _ HU.out).mono ?_;rintro e w5 ⟨rfl,hb⟩;have eT:=Qq (Z9.move HU.out (.of_below hb) Qzx);have bX:=Qq (cN.out.thn hb);clear hb;clear cX)
  | (go_at_call 132;refine (cT.out _ (Qz _ _)).mono ?_;rintro e w4 ⟨cu,rfl,hu,hb⟩;obtain ⟨a3,dJ,a4,dK,aI,_⟩:=Z9.cells hu;simp only [vcs] at aI;subst aI;have HU:=Qq hu;have cN:=Qq ((Qz w3 w3).thn hb);clear hu hb;clear cT))
 generalize cC:World.alloc w5 _=w6
 have bN:=eqB cC (Zg _ _)
 have dT:=eqH (b:=w5.heap.size) cC (Qw _ _)
 obtain ⟨bY,cO,dE⟩:=Qqo (bX.out.thn bN) bN dT
 have cY:Hid (Z9 (fun b=>b<w5) w6 (vcs u a3 dJ a4 dK) u):=Qq (Z9.move (Z9.move eT.out (.refl _ _) (fun b hb _=>(hb:b<w5))) (.of_below bN) Qzx)
 obtain ⟨Y,c6,n0⟩:=HC.out w6 bY.out
 clear cC bN dT Y n0 c0
 go_upto_region 26 with (go_at_call 133;refine (bP.out _ bY.out).mono ?_;rintro e w7 ⟨p4,fV,fW,rfl,dP,fD,hb⟩;have cW:=Qq dP;have aY:=Qq hb;clear dP fD hb)
 have dR:=cW.out.sl (S':=fun _=>True) Qqk (fun _ _=>trivial) (fun _ _ _=>trivial)
 obtain ⟨yb,fZ,y3,fT,y4,fU,fH,gI,eB,d0,d1,d2,d3,d4⟩:=dR.val (i:=0) (x:=y) rfl
 subst fH
 simp only [Nat.zero_mul,Nat.add_zero] at d0 d1 d2 d3 d4
 have dH:=Qq (Z9.move eB (.refl _ _) (fun b hb _=>(hb:b<w7)))
 have cZ:=Qq (Z9.move cY.out (.of_below aY.out) Qzx)
 have cB:=Qq (kB aY.out dE.out)
 have eM:=Qq (bY.out.thn aY.out)
 have fJ:=Z8 cB.out
 have fI:w3.heap.size≤w5.heap.size:=bX.out.size
 clear dR eB cW cY dE bP c6
 go_loopw [100] (fun bI wr=>∃ k:Nat,k≤1∧bI=.int .i64 k∧Aside ((k=0∧w7=wr)∨(k=1∧Below w5 w5 wr∧∃ q3 Z q4 l4,wr.heap[w5.heap.size]?=some (.cells (Qqg R q3 Z q4 l4) 36 (0,0))∧Z9 (fun b=>w3≤b) wr (vcs R q3 Z q4 l4) R))) (fun bI _=>1 - (intOf bI).toNat)
 case atStart=>exact ⟨0,Q8 _,rfl,.inl ⟨rfl,rfl⟩⟩
 obtain ⟨k,gD,rfl,hA⟩:=hrel
 rcases hA.out with ⟨rfl,rfl⟩ | ⟨rfl,V,q3,Z,q4,l4,M,dS⟩
 ·clear hA
  go_upto_region 28 with fail
  generalize T:World.alloc w7 _=w8
  have O:=eqB T (Zg _ _)
  have cD:=eqH (b:=w7.heap.size) T (Qw _ _)
  obtain ⟨I,cP,eU⟩:=Qqo (eM.out.thn O) O cD
  have dF:=Qq (kE O fJ cB.out)
  have dA:=Qq (Z9.move cZ.out (.of_below O) Qzx)
  have dI:=Qq (Z9.move dH.out (.of_below O) Qzx)
  have gJ:=Z8 cD
  have eC:w5.heap.size<w8.heap.size:=Qqj
  have gB:=Qq (kB I.out H0.out)
  clear T O cD d0 d1 d2 d3 d4 cZ dH cB
  go_cut [13,14] from 101 to 132 (fun fQ fR wx=>R3 w8 R (.bool true) fQ fR wx)
  case first=>
   have HD:=Qq (show ∀ W,(fun W=>Below w8 w8 W) W→(Qzw W w5 u.kind u.n u.s (.slice a3 u.names.length dJ) (.slice a4 u.kids.length dK) ((Qzw W w7 y.kind y.n y.s (.slice y3 y.names.length fT) (.slice y4 y.kids.length fU) (Qqa W w 4 (Qqb nb bV nl nc)∧Qqa W nb bV f1):Prop)):Prop) from fun W h=>by
    have e1:=kB h dF.out
    have e2:=kB h eU.out
    have e3:=HC.out W (I.out.thn h)
    exact ⟨(Qk _ _ 0 _ _ _ e1).trans rfl,(Qk _ _ 1 _ _ _ e1).trans rfl,(Qk _ _ 2 _ _ _ e1).trans rfl,(Qk _ _ 3 _ _ _ e1).trans rfl,(Qk _ _ 4 _ _ _ e1).trans rfl,(Qk _ _ 0 _ _ _ e2).trans rfl,(Qk _ _ 1 _ _ _ e2).trans rfl,(Qk _ _ 2 _ _ _ e2).trans rfl,(Qk _ _ 3 _ _ _ e2).trans rfl,(Qk _ _ 4 _ _ _ e2).trans rfl,e3.1,e3.2.2⟩)
   have aO:=Qq (show ∀ W,Below w8 w8 W→(fun W=>Below w8 w8 W) W from fun W hb=>hb)
   refine wp_region_held_drew (S:=fun W=>Below w8 w8 W) Qqy (aO.out _ (Qz _ _).drew) (fun D=>?_)
   refine tkD (v:=?_) 0 (fun N A=>?_) ?_;rotate_left
   ·(obtain ⟨x0,x1,x2,x3,x4,z0,z1,z2,z3,z4,Y,n0⟩:=HD.out N A;go_simp;try with_reducible rfl)
   refine tkD (v:=?_) 1 (fun N A=>?_) ?_;rotate_left
   ·(obtain ⟨x0,x1,x2,x3,x4,z0,z1,z2,z3,z4,Y,n0⟩:=HD.out N A;go_simp;try with_reducible rfl)
   refine tkD (v:=?_) 2 (fun N A=>?_) ?_;rotate_left
   ·(obtain ⟨x0,x1,x2,x3,x4,z0,z1,z2,z3,z4,Y,n0⟩:=HD.out N A;go_simp;try with_reducible rfl)
   refine tkD (v:=?_) 3 (fun N A=>?_) ?_;rotate_left
   ·(obtain ⟨x0,x1,x2,x3,x4,z0,z1,z2,z3,z4,Y,n0⟩:=HD.out N A;go_simp;try with_reducible rfl)
   refine tkD (v:=?_) 4 (fun N A=>?_) ?_;rotate_left
   ·(obtain ⟨x0,x1,x2,x3,x4,z0,z1,z2,z3,z4,Y,n0⟩:=HD.out N A;go_simp;try with_reducible rfl)
   refine tkD (v:=?_) 5 (fun N A=>?_) ?_;rotate_left
   ·(obtain ⟨x0,x1,x2,x3,x4,z0,z1,z2,z3,z4,Y,n0⟩:=HD.out N A;go_simp;try with_reducible rfl)
   refine tkD (v:=?_) 6 (fun N A=>?_) ?_;rotate_left
   ·(obtain ⟨x0,x1,x2,x3,x4,z0,z1,z2,z3,z4,Y,n0⟩:=HD.out N A;go_simp;try with_reducible rfl)
   have aM:Hid (Below w8 w8 w8.drew):=Qq (Qz _ _).drew
   have fN:=aM.out.size
   generalize w8.drew=wd at D aM fN ⊢
   refine rsD [7,11] ?_
   refine rcD (fun K hK=>?_) ?_
   ·go_simp
    refine (dC.out _ _ _ _ wd (Z9.move dA.out (.of_below aM.out) Qzx) (Z9.move dI.out (.of_below aM.out) Qzx)).mono ?_
    rintro e wn ⟨eV,rfl,aR,hb⟩
    obtain ⟨q3,Z,q4,l4,aI,_⟩:=Z9.cells aR
    simp only [vcs] at aI
    subst aI
    have HV:Hid (Z9 (fun b=>wd≤b∧b<wn) wn (vcs R q3 Z q4 l4) R):=Qq (Z9.move aR (.refl _ _) (fun b hb h=>⟨h,hb⟩))
    clear aR
    have J:=Qq (aM.out.thn hb)
    have eD:=J.out.size
    clear hb
    try dsimp only
    refine hK.out _ _ (aO.out _ J.out) (fun D=>?_)
    clear hK K
    refine tkD (v:=?_) 8 (fun N A=>?_) ?_;rotate_left
    ·(obtain ⟨x0,x1,x2,x3,x4,z0,z1,z2,z3,z4,Y,n0⟩:=HD.out N A;go_simp;try with_reducible rfl)
    refine tkD (v:=?_) 9 (fun N A=>?_) ?_;rotate_left
    ·(obtain ⟨x0,x1,x2,x3,x4,z0,z1,z2,z3,z4,Y,n0⟩:=HD.out N A;go_simp;try with_reducible rfl)
    refine tkD (v:=?_) 10 (fun N A=>?_) ?_;rotate_left
    ·(obtain ⟨x0,x1,x2,x3,x4,z0,z1,z2,z3,z4,Y,n0⟩:=HD.out N A;go_simp;try with_reducible rfl)
    refine rdD 11 (fun K hK=>?_) Qo
    go_simp
    generalize T:World.alloc wn _=wb
    have O:=eqB T (Zg _ _)
    have I:=Qq (J.out.thn O)
    have fK:=J.out.size
    have fM:=I.out.size
    have aG:Hid (wb.heap[wn.heap.size]?=some (.cells zV 36 (0,0))):=Qq (by rw [← T];exact Qw _ _)
    clear T
    replace HV:=Qq (Z9.move HV.out (.of_below O) Qzx)
    clear O
    try dsimp only
    refine hK.out _ _ (aO.out _ I.out) (fun D=>?_)
    clear hK K
    have aP:=aG.out
    have fz:=fun j=>Qn _ _ j _ _ aP
    obtain ⟨f0,f1,f2,f3,f4⟩:=Qzj fz
    have rr:=fun j=>Qk _ _ j _ _ _ aP
    obtain ⟨r0,r1,r2,r3,r4⟩:=Qzj rr
    simp only [Qf,Qg,Qh] at r0 r1 r2 r3 r4
    clear fz rr
    refine rdD 12 (fun K hK=>?_) Qo
    go_simp
    have fL:=I.out.size
    have aD:Below w8 w8 (Qqm wb wn R q3 Z q4 l4):=Zc I.out Qqj
    have M:(Zl wb wn R.kind R.n R.s (.slice q3 R.names.length Z) (.slice q4 R.kids.length l4)).heap[wn.heap.size]?=some (.cells (Qqg R q3 Z q4 l4) 36 (0,0)):=Yd aG.out
    have aQ:∀ k,k≠wn.heap.size→(Zl wb wn R.kind R.n R.s (.slice q3 R.names.length Z) (.slice q4 R.kids.length l4)).heap[k]?=wb.heap[k]?:=fun k hk=>Zf hk
    unfold Zl at aD M aQ
    refine hK.out _ _ (aO.out _ aD) (fun D=>?_)
    refine tkD (v:=?_) 13 (fun N A=>?_) ?_;rotate_left
    ·(obtain ⟨x0,x1,x2,x3,x4,z0,z1,z2,z3,z4,Y,n0⟩:=HD.out N A;go_simp;try with_reducible rfl)
    refine wpAnyH_done Qqy ?_ _
    clear hK K D f0 f1 f2 f3 f4 r0 r1 r2 r3 r4 aP
    generalize World.setCell _ _ _=w9 at aD M aQ ⊢
    go_wp2_with fail
    go_meet
    exact ⟨wn.heap.size,q3,Z,q4,l4,rfl,rfl,M,Z9.move HV.out (fun b hb _=>aQ b (by have:=hb.1;have:=hb.2;omega)) (fun b _ hb=>⟨by have:=hb.1;omega,by have:=hb.1;have:=hb.2;omega⟩),aD,Qqj⟩
   refine rcD (fun K hK=>?_) ?_
   ·go_simp
    generalize T:World.alloc wd _=wb
    have O:=eqB T (Zg _ _)
    have I:=Qq (aM.out.thn O)
    have fK:=aM.out.size
    have fM:=I.out.size
    have bS:Hid (wb.heap[wd.heap.size]?=some (.cells zV 36 (0,0))):=Qq (by rw [← T];exact Qw _ _)
    clear T
    clear O
    try dsimp only
    refine hK.out _ _ (aO.out _ I.out) (fun D=>?_)
    clear hK K
    refine rdD 7 (fun K hK=>?_) ?_
    ·go_simp
     refine (dC.out _ _ _ _ wb (Z9.move dA.out (.of_below I.out) Qzx) (Z9.move dI.out (.of_below I.out) Qzx)).mono ?_
     rintro e wn ⟨eV,rfl,aR,hb⟩
     obtain ⟨q3,Z,q4,l4,aI,_⟩:=Z9.cells aR
     simp only [vcs] at aI
     subst aI
     have HV:Hid (Z9 (fun b=>wb≤b∧b<wn) wn (vcs R q3 Z q4 l4) R):=Qq (Z9.move aR (.refl _ _) (fun b hb h=>⟨h,hb⟩))
     clear aR
     have J:=Qq (I.out.thn hb)
     have eD:=J.out.size
     have aG:=Qq (kB hb bS.out)
     have gK:=Z8 bS.out
     clear hb
     try dsimp only
     refine hK.out _ _ (aO.out _ J.out) (fun D=>?_)
     clear hK K
     refine tkD (v:=?_) 8 (fun N A=>?_) ?_;rotate_left
     ·(obtain ⟨x0,x1,x2,x3,x4,z0,z1,z2,z3,z4,Y,n0⟩:=HD.out N A;go_simp;try with_reducible rfl)
     refine tkD (v:=?_) 9 (fun N A=>?_) ?_;rotate_left
     ·(obtain ⟨x0,x1,x2,x3,x4,z0,z1,z2,z3,z4,Y,n0⟩:=HD.out N A;go_simp;try with_reducible rfl)
     refine tkD (v:=?_) 10 (fun N A=>?_) ?_;rotate_left
     ·(obtain ⟨x0,x1,x2,x3,x4,z0,z1,z2,z3,z4,Y,n0⟩:=HD.out N A;go_simp;try with_reducible rfl)
     have aP:=aG.out
     have fz:=fun j=>Qn _ _ j _ _ aP
     obtain ⟨f0,f1,f2,f3,f4⟩:=Qzj fz
     have rr:=fun j=>Qk _ _ j _ _ _ aP
     obtain ⟨r0,r1,r2,r3,r4⟩:=Qzj rr
     simp only [Qf,Qg,Qh] at r0 r1 r2 r3 r4
     clear fz rr
     refine rdD 12 (fun K hK=>?_) Qo
     go_simp
     have fL:=J.out.size
     have aD:Below w8 w8 (Qqm wn wd R q3 Z q4 l4):=Zc J.out Qqj
     have M:(Zl wn wd R.kind R.n R.s (.slice q3 R.names.length Z) (.slice q4 R.kids.length l4)).heap[wd.heap.size]?=some (.cells (Qqg R q3 Z q4 l4) 36 (0,0)):=Yd aG.out
     have aQ:∀ k,k≠wd.heap.size→(Zl wn wd R.kind R.n R.s (.slice q3 R.names.length Z) (.slice q4 R.kids.length l4)).heap[k]?=wn.heap[k]?:=fun k hk=>Zf hk
     unfold Zl at aD M aQ
     refine hK.out _ _ (aO.out _ aD) (fun D=>?_)
     refine tkD (v:=?_) 13 (fun N A=>?_) ?_;rotate_left
     ·(obtain ⟨x0,x1,x2,x3,x4,z0,z1,z2,z3,z4,Y,n0⟩:=HD.out N A;go_simp;try with_reducible rfl)
     refine wpAnyH_done Qqy ?_ _
     clear hK K D f0 f1 f2 f3 f4 r0 r1 r2 r3 r4 aP
     generalize World.setCell _ _ _=w9 at aD M aQ ⊢
     go_wp2_with fail
     go_meet
     exact ⟨wd.heap.size,q3,Z,q4,l4,rfl,rfl,M,Z9.move HV.out (fun b hb _=>aQ b (by have:=hb.1;have:=hb.2;omega)) (fun b _ hb=>⟨by have:=hb.1;omega,by have:=hb.1;have:=hb.2;omega⟩),aD,Qqj⟩
    exact Qo
   exact Qo
  obtain ⟨G,q3,Z,q4,l4,rfl,rfl,hG,hV,hb,gC⟩:=hcut
  obtain ⟨w9,rfl⟩:∃ w9,w9=wc:=⟨_,rfl⟩
  obtain ⟨cQ,cA,eR⟩:=Qqo hb hV hG
  have eN:=Qq (I.out.thn hb)
  obtain ⟨Y,_,n0⟩:=HC.out w9 eN.out
  have M:=kE hb eC dF.out
  have dG:=Qq M
  clear hG hV hb
  go_upto_region 29 with fail
  go_quiet (first
   | (go_at_call 138;exact Calls.quiet_of_same (cR.out _ _ _))
   | (go_at_call 134;exact Calls.quiet_of_same ((HM.out _).mono fun _ _ h=>⟨h.1,h.2.symm⟩)))
  obtain ⟨fS,bH⟩:=eX (w9.drewN nq)
  have bA:Below w9 w9 fS:=by rw [← bH];exact Yq _ _
  rw [bH]
  have bT:=kB bA eR.out
  have aZ:=kB bA dG.out
  have dD:=Qq aZ;have bQ:=Qq bA
  obtain ⟨z0,z1,z2,z3,z4⟩:=row5 bT
  have fz:=fun j=>Qn _ _ j _ _ aZ
  obtain ⟨f0,f1,f2,f3,f4⟩:=Qzj fz
  clear fz
  obtain ⟨r0,r1,r2,r3,r4⟩:=row5 aZ
  clear bT aZ bA bH Y n0 M
  go_wp2_with fail
  go_roundw
  case measure=>simp [intOf]
  case rel=>
   refine ⟨1,Q9 1,by go_num,.inr ⟨rfl,Zc (((cO.out.thn aY.out).thn (cP.out.thn cQ.out)).thn bQ.out) (Q9 _),q3,Z,q4,l4,Yd dD.out,Z9.move (Z9.move cA.out (.of_below bQ.out) Qzx) (fun b hb _=>Zf (by have:=hb.1;omega)) (fun b _ hb=>by have:=hb.1;have:=I.out.size;show w3≤b;omega)⟩⟩
 clear hA
 obtain ⟨dG,cA,gA⟩:=Qqo M dS V
 have bF:Below w3 w3 wr:=bX.out.trans (V.mono fI)
 have bK:=kB bF H2.out
 have HR:=Qq bK;have eL:=Qq (eK.out.thn bF)
 obtain ⟨x0,x1,x2,x3,x4⟩:=row5 M
 have fz:=fun j=>Qn _ _ j _ _ bK
 obtain ⟨f0,f1,f2,f3,f4⟩:=Qzj fz
 clear fz
 obtain ⟨r0,r1,r2,r3,r4⟩:=row5 bK
 clear M dS V bK bF
 go_wp2_with fail
 show bodyPost _ _ _ _ _ (Qqm wr (w+1+1) R q3 Z q4 l4)
 refine Q7 (v:=.agg (Qqg R q3 Z q4 l4)) (by simp [results,results91,go_sem,Zd HR.out]) rfl ⟨_,rfl,?_,Zc eL.out Qqj⟩
 exact Z9.move cA.out (fun b hb _=>Zf Qqj) (fun b _ h=>eS.out b Qqj)
def letR (r0 r1:Option Val):Option Val:=match r0 with
 | some _=>r1
 | none=>none
theorem ev_let (nm:Bs) (n:Int) (s:Bs) (names binds:List Bs) (x y:Ex) (a z:Int) (env:List (Bs × Val)) (r0 r1:Option Val) (hx:EvO x env r0) (hy:∀ u,r0=some u→EvO y ((nm,u)::env) r1):EvO (.mk 11 nm n s names binds [x,y] a z) env (letR r0 r1):=by
 obtain ⟨R,hR⟩:=eX (letR r0 r1)
 rw [hR]
 intro S0 S' cs p w bO bT bS bQ
 have bK:=Qq bT
 clear bT
 have he:Xv (fun b=>S0 b∧b<w) w p env:=bQ.move (.refl _ _) (fun b hb h=>⟨h,hb⟩)
 obtain ⟨nv,bv,kv,rfl,dA,dL,hn,hb,hk⟩:=Yx.1 bS
 obtain ⟨np,nc,rfl,_⟩:=hn.len
 obtain ⟨bp,bc,rfl,_⟩:=hb.len
 obtain ⟨kp,kc,rfl,cX⟩:=hk.len
 obtain ⟨q,rfl⟩:=he.ptr
 obtain ⟨HE,HK,cA,bX⟩:=Qqp he hk hn hb
 obtain ⟨kl,V⟩:=eX ([x,y].length)
 rw [V] at HK cX
 have aX:=Qq V
 clear bS he bQ hn hb hk
 unfold sv
 rw [V]
 clear V
 go_enter func91,ntmps91
 go_upto_region 3 with fail
 generalize aK:((w.alloc _).alloc _).alloc _=w3
 have Y:=eqB aK (Xm _ _ _ _)
 have h0:=eqH (b:=w.heap.size) aK (Zp _ _ _ _)
 have h1:=eqH (b:=w.heap.size+1) aK (Zo _ _ _ _)
 have h2:=eqH (b:=w.heap.size+1+1) aK (Zi _ _ _ _)
 have dM:w.heap.size+1+1<w3.heap.size:=Z8 h2
 have c0:=rA0 h0;have c1:=rA1 h0;have c2:=rA2 h0;have c3:=rA3 h0;have c4:=rA4 h0;have c5:=rA5 h0;have c6:=rA6 h0
 obtain ⟨H0,H1,H2,M⟩:=Qqp h0 h1 h2 Y
 have aS:=Qq (fun (k:Nat) e9 r9 (hke:[x,y][k]?=some e9) (hev:EvO e9 env r9) W (hbw:Below w3 w3 W) (x9:Nat) (hxl:w≤x9) (hxW:x9<W)=>Kl w (w+1) k (fun b=>S0 b∧b≠w+1+1∧b≠x9) S' kp kc [x,y] e9 (.pointer q) env r9 W
  (by rw [aX.out];exact (Qk _ _ 6 _ _ _ (kB hbw h0)).trans rfl) (by rw [aX.out];exact (HK.out.below Y).below hbw) ((Qk _ _ 0 _ _ _ (kB hbw h1)).trans rfl) (fun b hb=>⟨bO b (Qqz Y.size hbw.size),by have:=hbw.size;omega,Qqj⟩) (bK.out.below (Y.thn hbw)) ((HE.out.move (.of_below Y) Qzx).move (.of_below hbw) (fun b _ h=>⟨h.1,by have:=h.2;omega,by have:=h.2;omega⟩)) hke hev)
 have aW:Hid (∀ W,Below w3 w3 W→Calls prog 132 #[Qqd,Qqc w,Qqc (w+1)] W (Xy (fun b=>S0 b∧b≠w+1+1∧b≠w+1+1) W r0)):=Qq (fun W hW=>aS.out 0 x r0 rfl hx W hW (w+1+1) Qqj (Qqq hW.size))
 obtain ⟨J,A,cs,cY,dN,_,_,bD,hc⟩:=HK.out.elem (i:=1) (x:=y) rfl
 subst cY
 obtain ⟨ek,cP,en,cQ,cM,cJ,cG,cN,cK,cH,cO,cL,cI,ea,ez,O⟩:=Yv.cells (show Yv S' w cs y from bD)
 subst O
 have d0:=hc 0 _ rfl
 have d1:=hc 1 _ rfl
 have d2:=hc 2 _ rfl
 have d3:=hc 3 _ rfl
 have d4:=hc 4 _ rfl
 have d5:=hc 5 _ rfl
 have d6:=hc 6 _ rfl
 have d7:=hc 7 _ rfl
 have d8:=hc 8 _ rfl
 simp only [show Xp.k=9 from rfl,Nat.add_zero,Nat.one_mul] at d0 d1 d2 d3 d4 d5 d6 d7 d8
 have cW:kl=2:=aX.out.symm
 subst cW
 obtain ⟨bL,bZ,bM,HY⟩:=Qqp bD dA bO hy
 have dK:w.heap.size<w3.heap.size:=Qqj
 clear h0 h1 h2 Y aK aS hx hy bD hc c2 c3 c4 c5 cA bX
 go_wp2_with fail
 clear c0 c1 c6
 have hD:∀ W,(fun W=>W.heap[w.heap.size]?=some (.cells #[.int .i64 11,nm,n,s,.slice np names.length nc,.slice bp binds.length bc,Qqb J A 2 kc,a,z] 46 (0,0))∧W.heap[w.heap.size+1]?=some (.cells #[.pointer q] 122 (0,0))∧Below w w W) W→Qqa W w 6 (Qqb J A 2 kc)∧Qqa W w 1 nm∧Qqa W (w+1) 0 (.pointer q)∧Qqa W J (A+9) ek∧Qqa W J (A+9+1) (.string cP)∧Qqa W J (A+9+2) en∧Qqa W J (A+9+3) (.string cQ)∧Qqa W J (A+9+4) (.slice cM cJ cG)∧Qqa W J (A+9+5) (.slice cN cK cH)∧Qqa W J (A+9+6) (.slice cO cL cI)∧Qqa W J (A+9+7) ea∧Qqa W J (A+9+8) ez:=fun W h=>by
  have hh:∀ {b j:Nat} {u:Value},w.cell? ⟨b,j,none⟩=some u→W.cell? ⟨b,j,none⟩=some u:=fun hc=>kC h.2.2 hc
  exact ⟨(Qk _ _ 6 _ _ _ h.1).trans rfl,(Qk _ _ 1 _ _ _ h.1).trans rfl,(Qk _ _ 0 _ _ _ h.2.1).trans rfl,hh d0,hh d1,hh d2,hh d3,hh d4,hh d5,hh d6,hh d7,hh d8⟩
 have HD:=Qq hD
 clear hD d0 d1 d2 d3 d4 d5 d6 d7 d8
 refine wp_region_held_drew (S:=fun W=>W.heap[w.heap.size]?=some (.cells #[.int .i64 11,nm,n,s,.slice np names.length nc,.slice bp binds.length bc,Qqb J A 2 kc,a,z] 46 (0,0))∧W.heap[w.heap.size+1]?=some (.cells #[.pointer q] 122 (0,0))∧Below w w W) Qqy ⟨H0.out,H1.out,M.out.drew⟩ (fun G=>?_)
 refine tkD (v:=?_) 0 (fun T D=>?_) ?_;rotate_left
 ·(obtain ⟨c6,c1,e0,d0,d1,d2,d3,d4,d5,d6,d7,d8⟩:=HD.out T D;go_simp;try with_reducible rfl)
 refine tkD (v:=?_) 1 (fun T D=>?_) ?_;rotate_left
 ·(obtain ⟨c6,c1,e0,d0,d1,d2,d3,d4,d5,d6,d7,d8⟩:=HD.out T D;go_simp;try with_reducible rfl)
 refine tkD (v:=?_) 2 (fun T D=>?_) ?_;rotate_left
 ·(obtain ⟨c6,c1,e0,d0,d1,d2,d3,d4,d5,d6,d7,d8⟩:=HD.out T D;go_simp;try with_reducible rfl)
 refine tkD (v:=?_) 3 (fun T D=>?_) ?_;rotate_left
 ·(obtain ⟨c6,c1,e0,d0,d1,d2,d3,d4,d5,d6,d7,d8⟩:=HD.out T D;go_simp;try with_reducible rfl)
 refine tkD (v:=?_) 4 (fun T D=>?_) ?_;rotate_left
 ·(obtain ⟨c6,c1,e0,d0,d1,d2,d3,d4,d5,d6,d7,d8⟩:=HD.out T D;go_simp;try with_reducible rfl)
 refine tkD (v:=?_) 5 (fun T D=>?_) ?_;rotate_left
 ·(obtain ⟨c6,c1,e0,d0,d1,d2,d3,d4,d5,d6,d7,d8⟩:=HD.out T D;go_simp;try with_reducible rfl)
 refine tkD (v:=?_) 6 (fun T D=>?_) ?_;rotate_left
 ·(obtain ⟨c6,c1,e0,d0,d1,d2,d3,d4,d5,d6,d7,d8⟩:=HD.out T D;go_simp;try with_reducible rfl)
 refine tkD (v:=?_) 7 (fun T D=>?_) ?_;rotate_left
 ·(obtain ⟨c6,c1,e0,d0,d1,d2,d3,d4,d5,d6,d7,d8⟩:=HD.out T D;go_simp;try with_reducible rfl)
 refine rdD 8 (fun K U=>?_) Qo
 go_simp
 cases r0 with
 | none=>
  obtain rfl:none=R:=hR
  refine (aW.out _ (Qz _ _).drew).mono ?_
  rintro e w5 ⟨rfl,hb⟩
  exact ⟨rfl,rfl,M.out.thn ((Qz _ _).drew.thn hb)⟩
 | some u=>
  obtain rfl:r1=R:=hR
  have cD:=Qq (HY.out u rfl)
  refine (aW.out _ (Qz _ _).drew).mono ?_
  rintro e w5 ⟨cu,rfl,hu,hb⟩
  obtain ⟨a3,cE,a4,cF,O,_⟩:=Z9.cells hu
  simp only [vcs] at O
  subst O
  have HU:=Qq hu
  have I:Hid (Below w3 w3 w5):=Qq ((Qz _ _).drew.thn hb)
  clear hu hb aW
  have aZ:(fun W=>W.heap[w.heap.size]?=some (.cells #[.int .i64 11,nm,n,s,.slice np names.length nc,.slice bp binds.length bc,Qqb J A 2 kc,a,z] 46 (0,0))∧W.heap[w.heap.size+1]?=some (.cells #[.pointer q] 122 (0,0))∧Below w w W) w5:=⟨kB I.out H0.out,kB I.out H1.out,M.out.thn I.out⟩
  try dsimp only
  refine U.out _ _ aZ (fun G=>?_)
  clear U K
  refine rdD 9 (fun K U=>?_) Qo
  go_simp
  refine U.out _ _ aZ (fun G=>?_)
  clear U K
  refine rdD 10 (fun K U=>?_) Qo
  go_simp
  generalize bC:World.alloc w5 _=w6
  have N:=eqB bC (Zg _ _)
  have bP:=eqH (b:=w5.heap.size) bC (Qw _ _)
  have dC:=I.out.size
  have dD:=N.size
  have bR:Xv (fun b=>S0 b∧b≠w+1+1∧b≠w+1+1) w6 (.pointer (some ⟨w5,0,none⟩)) ((nm,u)::env):=.cons _ q nm u a3 cE a4 cF env ⟨bM.out _ Qqj,Qqj,Qqj⟩ bP bZ.out (Z9.move HU.out (.of_below N) Qzx) (HE.out.move (.of_below (M.out.thn (I.out.thn N))) (fun b _ h=>⟨h.1,by have:=h.2;omega,by have:=h.2;omega⟩))
  have HC:=Qq (cD.out (fun b=>S0 b∧b≠w+1+1∧b≠w+1+1) S' _ _ w6 (fun b hb=>⟨bM.out b Qqj,Qqj,Qqj⟩) (bK.out.below (M.out.thn (I.out.thn N))) (Yv.move bL.out (.of_below (M.out.thn (I.out.thn N))) Qzx) bR)
  have aM:=Qq (I.out.thn N)
  have cC:=Qq (kB aM.out H2.out)
  have aN:=Qq (M.out.thn aM.out)
  have bA:(fun W=>W.heap[w.heap.size]?=some (.cells #[.int .i64 11,nm,n,s,.slice np names.length nc,.slice bp binds.length bc,Qqb J A 2 kc,a,z] 46 (0,0))∧W.heap[w.heap.size+1]?=some (.cells #[.pointer q] 122 (0,0))∧Below w w W) w6:=⟨kB aM.out H0.out,kB aM.out H1.out,aN.out⟩
  refine U.out _ _ bA (fun G=>?_)
  clear U K bC N bP bR dC dD HU bL aZ
  refine rdD 11 (fun K U=>?_) Qo
  go_simp
  cases r1 with
  | none=>
   refine HC.out.mono ?_
   rintro e w8 ⟨rfl,cT⟩
   exact ⟨rfl,rfl,aN.out.thn cT⟩
  | some r=>
   refine HC.out.mono ?_
   rintro e w4 ⟨cr,rfl,bE,Z⟩
   have aP:(fun W=>W.heap[w.heap.size]?=some (.cells #[.int .i64 11,nm,n,s,.slice np names.length nc,.slice bp binds.length bc,Qqb J A 2 kc,a,z] 46 (0,0))∧W.heap[w.heap.size+1]?=some (.cells #[.pointer q] 122 (0,0))∧Below w w W) w4:=⟨kB Z bA.1,kB Z bA.2.1,aN.out.thn Z⟩
   obtain ⟨q3,l3,q4,l4,O,_⟩:=Z9.cells bE
   simp only [vcs] at O
   subst O
   have hR:=kB Z cC.out
   have bW:=Qq (aN.out.thn Z)
   have cB:=Qq bE
   have HR:=Qq hR
   have fz:=fun j=>Qn _ _ j _ _ hR
   obtain ⟨f0,f1,f2,f3,f4⟩:=Qzj fz
   have rr:=fun j=>Qk _ _ j _ _ _ hR
   obtain ⟨r0,r1,r2,r3,r4⟩:=Qzj rr
   simp only [Qf,Qg,Qh] at r0 r1 r2 r3 r4
   clear fz rr bE Z hR
   try dsimp only
   refine U.out _ _ aP (fun G=>?_)
   clear U K
   refine rdD 12 (fun K U=>?_) Qo
   go_simp
   have bB:(fun W=>W.heap[w.heap.size]?=some (.cells #[.int .i64 11,nm,n,s,.slice np names.length nc,.slice bp binds.length bc,Qqb J A 2 kc,a,z] 46 (0,0))∧W.heap[w.heap.size+1]?=some (.cells #[.pointer q] 122 (0,0))∧Below w w W) (Qqm w4 (w+1+1) r q3 l3 q4 l4):=⟨(Zf Qqj).trans aP.1,(Zf Qqj).trans aP.2.1,Zc aP.2.2 Qqj⟩
   unfold Zl at bB
   refine U.out _ _ bB (fun G=>?_)
   refine wpAnyH_done Qqy ?_ _
   clear U K bB G
   go_wp2_with fail
   show bodyPost _ _ _ _ _ (Qqm w4 (w+1+1) r q3 l3 q4 l4)
   refine Q7 (v:=.agg (Qqg r q3 l3 q4 l4)) (by simp [results,results91,go_sem,Zd HR.out]) rfl ⟨_,rfl,?_,Zc bW.out Qqj⟩
   exact Z9.move cB.out (fun b hb _=>Zf (by have:=hb.2.1;omega)) (fun _ _ h=>h.1)
theorem C6 (S:Nat→Prop) (v:Value) (l:List Int) (w:World) (hs:Xc S w v l) (hi:Ub l) (hk:Yp l 0 13=5):
  Calls prog 17 #[v,Qqd] w (Jv w (Gen.check 5)):=by
 have HP:=Qq (fun W (hb:Below w w W)=>Yr S v l 0 13 W (hs.below hb) hi Qqj Qqj)
 rw [hk] at HP
 obtain ⟨p,cap,rfl,_⟩:=hs.len
 clear hs hi hk
 go_enter func17,ntmps17
 go_upto_region 8 with fail
 generalize Y:(((((((w.alloc _).alloc _).alloc _).alloc _).alloc _).alloc _).alloc _).alloc _=W8
 have aM:=eqB Y (Zu (Zu (Zu (Zu (Zu (Zu (Zu (Zg w _) _) _) _) _) _) _) _)
 have bW:W8=w.heap.size+8:=by rw [← Y];simp
 have r8:=eqH (b:=w.heap.size) Y (Zb (Zb (Zb (Zb (Zb (Zb (Zb (Y6 rfl _) _) _) _) _) _) _) _)
 have A:=((((Yu.row (show W8.heap[w.heap.size+1+1+1+1]?=some (.cells zQ 46 (0,0)) from by rw [← Y];exact Zb (Zb (Zb (Y6 Qqk _) _) _) _)).app (Yu.row (show W8.heap[w.heap.size+1]?=some (.cells #[.int .i64 3,.string ⟨#[97]⟩,Qqd,Qqe,Qqf,Qqf,Qqf,Qqd,Qqd] 46 (0,0)) from by rw [← Y];exact Zb (Zb (Zb (Zb (Zb (Zb (Y6 Qqk _) _) _) _) _) _) _))).app (Yu.row (show W8.heap[w.heap.size+1+1]?=some (.cells #[.int .i64 3,.string ⟨#[98]⟩,Qqd,Qqe,Qqf,Qqf,Qqf,Qqd,Qqd] 46 (0,0)) from by rw [← Y];exact Zb (Zb (Zb (Zb (Zb (Y6 Qqk _) _) _) _) _) _))).app (Yu.row (show W8.heap[w.heap.size+1+1+1]?=some (.cells #[.int .i64 3,.string ⟨#[99]⟩,Qqd,Qqe,Qqf,Qqf,Qqf,Qqd,Qqd] 46 (0,0)) from by rw [← Y];exact Zb (Zb (Zb (Zb (Y6 Qqk _) _) _) _) _)))
 have hG:=(Ua (Ua (Ua (Xa (show w<w.heap.size+1+1+1+1 by omega) (.int .i64 3) (.string ⟨#[100]⟩) (.int .i64 0) (.string ⟨#[]⟩) (.slice none 0 0) (.slice none 0 0) (.slice none 0 0) (.int .i64 0) (.int .i64 0)) (Xa (show w<w.heap.size+1 by omega) (.int .i64 3) (.string ⟨#[97]⟩) (.int .i64 0) (.string ⟨#[]⟩) (.slice none 0 0) (.slice none 0 0) (.slice none 0 0) (.int .i64 0) (.int .i64 0))) (Xa (show w<w.heap.size+1+1 by omega) (.int .i64 3) (.string ⟨#[98]⟩) (.int .i64 0) (.string ⟨#[]⟩) (.slice none 0 0) (.slice none 0 0) (.slice none 0 0) (.int .i64 0) (.int .i64 0))) (Xa (show w<w.heap.size+1+1+1 by omega) (.int .i64 3) (.string ⟨#[99]⟩) (.int .i64 0) (.string ⟨#[]⟩) (.slice none 0 0) (.slice none 0 0) (.slice none 0 0) (.int .i64 0) (.int .i64 0)))
 have aJ:=Qq aM;have Z:=Qq r8
 clear Y aM r8 bW
 go_upto_region 18 with (go_at_call 18;refine (HP.out _ aJ.out).mono ?_;rintro e w' ⟨rfl,rfl⟩)
 refine let_mvar% ?Lq1:=fun w':World=>(Qza w' (w+1+1+1+1) (.int .i64 3) (.string ⟨#[100]⟩) Qqd Qqe Qqf Qqf Qqf Qqd Qqd ((Qza w' (w+1) (.int .i64 3) (.string ⟨#[97]⟩) Qqd Qqe Qqf Qqf Qqf Qqd Qqd ((Qza w' (w+1+1) (.int .i64 3) (.string ⟨#[98]⟩) Qqd Qqe Qqf Qqf Qqf Qqd Qqd ((Qzf w' (w+1+1+1) (.int .i64 3) (.string ⟨#[99]⟩) Qqd Qqe Qqf Qqf Qqf Qqd Qqd:Prop)):Prop)):Prop)):Prop);?_
 have HS:=Qq (fun w' (h:Yu (Jc (w+1+1+1+1) (.int .i64 3) (.string ⟨#[100]⟩) (.int .i64 0) (.string ⟨#[]⟩) (.slice none 0 0) (.slice none 0 0) (.slice none 0 0) (.int .i64 0) (.int .i64 0)++Jc (w+1) (.int .i64 3) (.string ⟨#[97]⟩) (.int .i64 0) (.string ⟨#[]⟩) (.slice none 0 0) (.slice none 0 0) (.slice none 0 0) (.int .i64 0) (.int .i64 0)++Jc (w+1+1) (.int .i64 3) (.string ⟨#[98]⟩) (.int .i64 0) (.string ⟨#[]⟩) (.slice none 0 0) (.slice none 0 0) (.slice none 0 0) (.int .i64 0) (.int .i64 0)++Jc (w+1+1+1) (.int .i64 3) (.string ⟨#[99]⟩) (.int .i64 0) (.string ⟨#[]⟩) (.slice none 0 0) (.slice none 0 0) (.slice none 0 0) (.int .i64 0) (.int .i64 0)) w')=>(show ?Lq1 w' from Yu.spread h))
 have HG:=Qq hG
 have aK:=Qq (fun w' z0 z1 z2 z3 z4 z5 z6 z7 z8 (h:Yu _ w')=>HS.out _ (h.put9 HG.out z0 z1 z2 z3 z4 z5 z6 z7 z8))
 unfold put9 at aK
 have D:=aJ
 clear hG
 obtain ⟨aB,aC,aD,aE⟩:=Qqp True.intro True.intro True.intro True.intro
 go_region_held3 ?Lq1 (first | with_reducible exact HS.out _ A | with_reducible exact HS.out _ A.drew | with_reducible exact HS.out _ (A.alloc _) | with_reducible exact HS.out _ (A.alloc _).drew | with_reducible exact HS.out _ ((A.alloc _).alloc _) | with_reducible exact HS.out _ ((A.alloc _).alloc _).drew | with_reducible exact HS.out _ (((A.alloc _).alloc _).alloc _) | with_reducible exact aK.out _ _ _ _ _ _ _ _ _ _ A)
  (first
   | (have hn:=G.out;clear hn;(repeat (first
      | (have hn:=G.out;clear hn;have hk:=aD.out;clear aD hk;generalize aG:World.alloc _ (Obj.cells #[.int .i64 3,.string ⟨#[100]⟩,Qqd,Qqe,Qqf,Qqf,Qqf,Qqd,Qqd,bA,.string bE,bC,.string bG,.slice aS bK bQ,.slice aU bM bS,.slice aW bO bU,aY,bI,bB,.string bF,bD,.string bH,.slice aT bL bR,.slice aV bN bT,.slice aX bP bV,aZ,bJ] 46 _)=WK;have aA:=Vf aG;have aN:=Je aG;have aO:=Dw aG Z.out;have V:=A.later aA;clear A;have A:=V;clear V;have O:=Qq (Yh aA Z.out);clear Z;have Z:=O;clear O;have M:=Qq (D.out.thn aA);clear D;have D:=M;clear M;(try (have U:=Qq (T.out.move (.of_below aA) Qzx);clear T;have T:=U;clear U));(try (have U:=Qq (G.out.move (.of_below aA) Qzx);clear G;have G:=U;clear U));have N:=Qq aN;have aR:=Qq aO;clear aG aA aN aO)
      | fail));have hn:=N.out;clear hn;have hk:=aE.out;clear aE hk;obtain ⟨⟨f0,f1,f2,f3,f4,f5,f6,f7,f8⟩,y0,y1,y2,y3,y4,y5,y6,y7,y8⟩:=C5 Z.out;go_simp)
   | (have hn:=T.out;clear hn;have hk:=aC.out;go_at_call 63;refine (Vg w [61,61] _ _ _ _ _ Qqk (by exact (Yk 3 [99] 0 [] Qqk Qqk)) (by exact (Yk 3 [99] 0 [] Qqk Qqk)) (by exact Z8 Z.out)).mono ?_;rintro e W2 ⟨bB,bF,bD,bH,aT,bL,bR,aV,bN,bT,aX,bP,bV,aZ,bJ,rfl,aQ,J⟩;clear aC hk;(try (have aF:=Vm J;clear J;have J:=aF;clear aF));have V:=A.later J;clear A;have A:=V;clear V;have O:=Qq (Yh J Z.out);clear Z;have Z:=O;clear O;have M:=Qq (D.out.thn J);clear D;have D:=M;clear M;(try (have U:=Qq (Yh J N.out);clear N;have N:=U;clear U));(try (have U:=Qq (T.out.move (.of_below J) Qzx);clear T;have T:=U;clear U));have G:=Qq aQ;clear aQ J)
   | (have hk:=aB.out;go_at_call 63;refine (Vg w [60] _ _ _ _ _ Qqk (by exact (Yk 3 [97] 0 [] Qqk Qqk)) (by exact (Yk 3 [98] 0 [] Qqk Qqk)) (by exact Z8 Z.out)).mono ?_;rintro e W1 ⟨bA,bE,bC,bG,aS,bK,bQ,aU,bM,bS,aW,bO,bU,aY,bI,rfl,aP,I⟩;clear aB hk;(try (have aF:=Vm I;clear I;have I:=aF;clear aF));have V:=A.later I;clear A;have A:=V;clear V;have O:=Qq (Yh I Z.out);clear Z;have Z:=O;clear O;have M:=Qq (D.out.thn I);clear D;have D:=M;clear M;(try (have U:=Qq (Yh I N.out);clear N;have N:=U;clear U));(try (have U:=Qq (G.out.move (.of_below I) Qzx);clear G;have G:=U;clear U));have T:=Qq aP;clear aP I)
   | fail)
 all_goals
  go_wp2_with fail
  show bodyPost _ _ _ _ _ (put9 _ w (.int .i64 12) Qqe Qqd Qqe Qqf Qqf (Qqb _ 0 3 3) Qqd Qqd)
  exact Q7 (v:=.agg #[.int .i64 12,Qqe,Qqd,Qqe,Qqf,Qqf,Qqb _ 0 3 3,Qqd,Qqd]) (by simp [results,results17,go_sem,Xe Z.out]) rfl (U8 (Xz (nm:=[]) (s:=[]) Qqk Qqk (Sl.nil _ _ _) (Sl.nil _ _ _) (Y4 (xs:=[Gen.d,Gen.op [60] [Gen.a,Gen.b],Gen.op [61,61] [Gen.c,Gen.c]]) N.out aR.out (((Cs.one (r:=Xp) (Yk 3 [100] 0 [] Qqk Qqk)).app (Cs.one (r:=Xp) T.out)).app (Cs.one (r:=Xp) G.out)) rfl rfl Qqk)) D.out rfl)
end Go.Proofs.YtdpibdpbgokmoaaGreatDoor

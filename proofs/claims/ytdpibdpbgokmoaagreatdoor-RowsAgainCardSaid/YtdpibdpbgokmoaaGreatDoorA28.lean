import Derived.Test.YtdpibdpbgokmoaaGreatDoorA24
import Derived.Test.YtdpibdpbgokmoaaGreatDoorA27
set_option maxRecDepth 100000
set_option maxHeartbeats 400000000
namespace Go.Proofs.YtdpibdpbgokmoaaGreatDoor
open Go.RowKit Go.Shelf Go.Lib Tryz
theorem cs_str {S S':Nat->Prop} {w w':World} {css:List (List Value)} {xs:List Bs} (h:Cs Zh S w css xs):Cs Zh S' w' css xs:=⟨h.len,λi c x hc hx=>h.R i c x hc hx⟩
theorem Gl {E:TypeId} {S S':Nat->Prop} {B:Nat} {w w':World} {v:Value} {xs:List Bs} {css:List (List Value)} (h:Own Zh E S B w v xs css) (hA:∀ b,b<w.heap.size->v.ownBlock=some b->w'.heap[b]?=w.heap[b]?):Own Zh E S' B w' v xs css:=
 ⟨Jj h.row hA,cs_str h.cs⟩
theorem Wg {E E':TypeId} {r':Rd Val} {S0 S0':Nat->Prop} {W0 w w6:World} {v v' v1':Value} {n n':Nat} {xs:List Bs} {xs':List Val} (h:Mk Zh E S0 W0 w v n xs) (h':Mk r' E' S0' W0 w v' n' xs') (hne:E≠E') (hL:M8 W0 w w6 v' v1'):Mk Zh E S0 W0 w6 v n xs:=by
 obtain ⟨css,h1,h2,h3⟩:=h
 obtain ⟨A,g1,_,_⟩:=h'
 exact ⟨css,Gl h1 (λb hb hv=>hL.other b hb (λe=>Yl h1.row g1.row hne hv e.symm)),h2,h3.trans hL.below⟩
theorem Wx {E E':TypeId} {r:Rd Val} {r':Rd Bs} {S0 S0':Nat->Prop} {W0 w w6:World} {v v' v1':Value} {n n':Nat} {xs:List Val} {xs':List Bs} (h:Mk r E S0 W0 w v n xs) (h':Mk r' E' S0' W0 w v' n' xs') (hne:E≠E') (hL:M8 W0 w w6 v' v1') (hS:∀ b,S0 b->some b≠v'.ownBlock):Mk r E S0 W0 w6 v n xs:=by
 obtain ⟨css,h1,h2,h3⟩:=h
 obtain ⟨D,g1,_,_⟩:=h'
 refine ⟨css,h1.move (Q9 _) (λb hb A=>hL.other b hb (λe=>?_)),h2,h3.trans hL.below⟩
 rcases A with A | A
 ·exact hS b A e
 exact Yl h1.row g1.row hne A e.symm
theorem Zm {W:World} {R b j:Nat} {x0 x1 x2 x3 x4 u:Value} (h:b≠R) (hc:W.cell? ⟨b,j,none⟩=some u):(Zl W R x0 x1 x2 x3 x4).cell? ⟨b,j,none⟩=some u:=(World.cell?_of_block (Zf h)).trans hc
theorem sl_val1 {S:Nat->Prop} {w:World} {b:Nat} {c0 c1 c2 c3 c4:Value} {x:Val} (hb:w.heap[b]?=some (.cells #[c0,c1,c2,c3,c4] 36 (0,0))) (hS:S b) (hx:Z9 S w [c0,c1,c2,c3,c4] x):Sl Zc S w (.slice (some ⟨b,0,none⟩) 1 1) [x]:=
 Y4 hb hS (Cs.one (r:=Zc) hx) rfl rfl Ib
theorem Lg (d:Nat) (e:Ex) (he:Xu d e) (S:Nat->Prop) (ce:List Value) (nv vv:Value) (names:List Bs) (vals:List Val) (nm:Bs) (v:Val) (cv:List Value) (w:World) (hx0:Yx S w ce e) (hn0:Sl Zh S w nv names) (hv0:Sl Zc S w vv vals) (hlen:names.length<=vals.length) (hd:vals.length+(d+1)<=1000) (hb:∀ v ∈ vals,Y3 v) (hnm:nm.length<=1000000) (hvv:Z9 S w cv v) (hbv:Y3 v):
  Calls prog 145 #[ce,nv,vv,sv nm,cv] w (X7 S w (Y0 d e (names++[nm]) (vals++[v]))):=by
 have hx:Yx (λb=>S b/\b<w) w ce e:=hx0.move (.refl _ _) (λb hb h=>⟨h,hb⟩)
 have hn:=hn0.up
 have hv:=hv0.up
 have bV:Z9 (λb=>S b/\b<w) w cv v:=hvv.move (.refl _ _) (λb hb h=>⟨h,hb⟩)
 obtain ⟨np,nc,rfl,_⟩:=hn.len
 obtain ⟨vp,vc,rfl,_⟩:=hv.len
 obtain ⟨Y,U,Z,V,dO,_⟩:=Z9.cells bV
 have eS:=Qq bV
 simp only [Il] at dO
 subst dO
 obtain ⟨ek,cV,en,cW,cS,cP,cM,cT,cQ,cN,cU,cR,cO,ea,ez,eV⟩:=Yx.cells hx
 have HX:=Qq hx
 subst eV
 obtain ⟨HN,HV,HE,HB,eL⟩:=AO hn hv he hb hbv
 clear hx0 hn0 hv0 hvv hx hn hv bV he hb hbv
 obtain ⟨i0,j1,j2,j3,j4⟩:=Y8 (P:=prog) (t:=36) (z:=.agg zV) (n:=5) (b:=80) Ir
 obtain ⟨HJ,aO,aP,aQ⟩:=It j1 j2 j3 j4
 clear j1 j2 j3 j4
 obtain ⟨i9,j1,j2,j3,j4⟩:=Y8 (P:=prog) (t:=9) (z:=.string ⟨#[]⟩) (n:=1) (b:=16) Ir
 obtain ⟨HS,aU,aV,aW⟩:=It j1 j2 j3 j4
 clear j1 j2 j3 j4
 unfold sv
 go_enter func145,ntmps145
 go_upto_region 3 with fail
 generalize aJ:((w.alloc _).alloc _).alloc _=G
 have bS:=Iq aJ (Xt _ _ _ _)
 have dU:G=w.heap.size+3:=by rw [<- aJ];simp
 have dA:=Ik (b:=w.heap.size) aJ (Zp _ _ _ _)
 have dK:=Ik (b:=w.heap.size+1) aJ (Zo _ _ _ _)
 have dM:=Ik (b:=w.heap.size+1+1) aJ (Zi _ _ _ _)
 obtain ⟨aN,cE,cI,eT,cJ⟩:=AO bS dA dK dM dU
 have cY:Sl Zh (But (λ_=>True) (.slice none 0 0)) G (.slice np names.length nc) names:=(HN.o.mono (S':=But (λ_=>True) (.slice none 0 0)) (λb _ h=>⟨trivial,λe=>by cases e⟩)).below bS
 have cB:=Qq cY
 clear aJ bS dA dK dM cY dU
 go_upto_region 4 with (at_builtin;refine Xg (r:=Zh) Ih X5 rfl (.tmp 14) (.tmp 15) _ rfl 9 i9 (.string ⟨#[]⟩) 16 underlying33 HS.o aU.o aV.o aW.o rfl Ia (λ_=>True) G G (.slice none 0 0) [] [] rfl (Own.nil _ _ _ _ _) (.slice np names.length nc) names rfl cB.o names.length Ib Ia (Q9 _) ?_;intro pa ca cK wa dG dC;have bI:=Qq dG;have aR:=Qq dC;clear dG dC)
 rw [List.nil_append] at bI
 have aM:Below w w wa:=aN.o.n aR.o.below
 have dR:=aR.o.size
 have cZ:Sl Zc (But (λb=>S b/\b<w) (.slice none 0 0)) wa (.slice vp vals.length vc) vals:=(HV.o.mono (S':=But (λb=>S b/\b<w) (.slice none 0 0)) (λb _ h=>⟨h,λe=>by cases e⟩)).below aM
 have cC:=Qq cZ;have fB:=Qq aM
 clear cZ aM
 go_upto_region 5 with (at_builtin;refine Xg (r:=Zc) Ih Xd rfl (.tmp 17) (.tmp 18) _ rfl 36 i0 (.agg zV) 80 underlying34 HJ.o aO.o aP.o aQ.o rfl Ia (λb=>S b/\b<w) G wa (.slice none 0 0) [] [] rfl (Own.nil _ _ _ _ _) (.slice vp vals.length vc) vals rfl cC.o vals.length Ib Ia dR ?_;intro pb cb cL A dH dD;have bJ:=Qq dH;have aS:=Qq dD;clear dH dD)
 rw [List.nil_append] at bJ
 have fD:=aS.o.size
 have aG:Below G G A:=aR.o.below.trans aS.o.below
 have dE:Mk Zh 9 (λ_=>True) G A (.slice pa names.length ca) names.length names:=⟨cK,Gl bI.o (λb hb _=>aS.o.other b hb (λe=>by cases e)),rfl,aG⟩
 have dF:Mk Zc 36 (λb=>(S b/\b<w)\/A<=b) G A (.slice pb vals.length cb) vals.length vals:=⟨cL,bJ.o.weak (Q9 _) (λb _ h=>.inl h),rfl,aG⟩
 obtain ⟨aE,aT,cD⟩:=Im dE dF aG
 clear dE dF aG bI aR bJ aS cB cC
 have dB:=kB cD.o cE.o
 have dL:=kB cD.o cI.o
 have fF:=cJ.o
 obtain ⟨e0,e1,e2,e3,e4,e5,e6,e7,e8⟩:=AC dB
 obtain ⟨v0,v1,v2,v3,v4⟩:=If dL
 refine let_mvar% ?Lq1:=λw':World=>(BA w' w ek (.string cV) en (.string cW) (.slice cS cP cM) (.slice cT cQ cN) (.slice cU cR cO) ea ez ((BG w' (w+1) v.kind v.n v.s (.slice Y v.names.length U) (.slice Z v.kids.length V):Prop)):Prop);?_
 have aI:=Qq (λ(w':World) (h:Below G A w')=>(show ?Lq1 w' from ⟨kD h Ia e0,kD h Ia e1,kD h Ia e2,kD h Ia e3,kD h Ia e4,kD h Ia e5,kD h Ia e6,kD h Ia e7,kD h Ia e8,kD h Ia v0,kD h Ia v1,kD h Ia v2,kD h Ia v3,kD h Ia v4⟩))
 have eJ:=Qq (λ(w':World) (o:Obj) (h:?Lq1 w')=>(show ?Lq1 (w'.alloc o) from ⟨kC (Zg w' o) h.1,kC (Zg w' o) h.2.1,kC (Zg w' o) h.2.2.1,kC (Zg w' o) h.2.2.2.1,kC (Zg w' o) h.2.2.2.2.1,kC (Zg w' o) h.2.2.2.2.2.1,kC (Zg w' o) h.2.2.2.2.2.2.1,kC (Zg w' o) h.2.2.2.2.2.2.2.1,kC (Zg w' o) h.2.2.2.2.2.2.2.2.1,kC (Zg w' o) h.2.2.2.2.2.2.2.2.2.1,kC (Zg w' o) h.2.2.2.2.2.2.2.2.2.2.1,kC (Zg w' o) h.2.2.2.2.2.2.2.2.2.2.2.1,kC (Zg w' o) h.2.2.2.2.2.2.2.2.2.2.2.2.1,kC (Zg w' o) h.2.2.2.2.2.2.2.2.2.2.2.2.2⟩))
 have HP:∀ w' x0 x1 x2 x3 x4,?Lq1 w'->?Lq1 (Zl w' (w+1+1) x0 x1 x2 x3 x4):=λw' x0 x1 x2 x3 x4 h=>⟨Zm Ia h.1,Zm Ia h.2.1,Zm Ia h.2.2.1,Zm Ia h.2.2.2.1,Zm Ia h.2.2.2.2.1,Zm Ia h.2.2.2.2.2.1,Zm Ia h.2.2.2.2.2.2.1,Zm Ia h.2.2.2.2.2.2.2.1,Zm Ia h.2.2.2.2.2.2.2.2.1,Zm Ia h.2.2.2.2.2.2.2.2.2.1,Zm Ia h.2.2.2.2.2.2.2.2.2.2.1,Zm Ia h.2.2.2.2.2.2.2.2.2.2.2.1,Zm Ia h.2.2.2.2.2.2.2.2.2.2.2.2.1,Zm Ia h.2.2.2.2.2.2.2.2.2.2.2.2.2⟩
 unfold Zl at HP
 have eO:=Qq HP
 have eP:=Qq (aI.o A.drew (Qz _ _).drew)
 have eQ:=Qq (λo=>aI.o (A.alloc o).drew ((Zg A o).mono Ia).drew)
 have cH:=Qq (λo o'=>aI.o ((A.alloc o).alloc o').drew ((Zs A o o').mono Ia).drew)
 have bA:∀ g,(Value.slice pa names.length ca).ownBlock=some g->G.heap.size<=g/\g<A.heap.size:=λg e=>aE.o.lt g e
 have bB:∀ g,(Value.slice pb vals.length cb).ownBlock=some g->G.heap.size<=g/\g<A.heap.size:=λg e=>aT.o.lt g e
 have cG:=Qq bA;have fE:=Qq bB
 have bO:=Qq (λ(w':World) (b:Nat) (hb:w'.heap[b]?=some (Obj.cells #[nm] 9 (0,0))) (h:A<=b)=>As (S:=But (λ_=>True) (.slice pa names.length ca)) hb ⟨trivial,λe=>by have:=(bA b e.symm).2;omega⟩ hnm)
 have bP:=Qq (λ(w':World) (b:Nat) (hB:Below G G w') (hb:w'.heap[b]?=some (Obj.cells (Is v Y U Z V) 36 (0,0))) (h:A<=b)=>sl_val1 (S:=But (λb=>(S b/\b<w)\/A<=b) (.slice pb vals.length cb)) hb ⟨.inr h,λe=>by have:=(bB b e.symm).2;omega⟩ (eS.o.move (.f (aN.o.n hB)) (λc _ hc=>⟨.inl hc,λe=>by have h1:=(bB c e.symm).1;have h2:=hc.2;omega⟩)))
 have dJ:∀ b,(λb=>(S b/\b<w.heap.size)\/A.heap.size<=b) b->some b≠(Value.slice pa names.length ca).ownBlock:=λb hb e=>by
  have h1:=bA b e.symm
  rcases hb with h | h
  ·have h2:=h.2;omega
  omega
 have bL:=Qq dJ
 have dS:(36:TypeId)≠9:=Ih
 have bD:(9:TypeId)≠36:=Ih
 have dP:names.length+[nm].length=names.length+1:=rfl
 have dQ:vals.length+[v].length=vals.length+1:=rfl
 obtain ⟨bG,bH,bM,bN,fC⟩:=AO dP dQ dS bD hlen
 have bT:names.length+1<=1000000:=Ia
 have bU:vals.length+1<=1000000:=Ia
 have bE:=Qq bT;have bF:=Qq bU
 have eM:=Qq (λ(W:World) (nv' vv':Value) (hM1:Mk Zh 9 (λ_=>True) G W nv' (names.length+1) (names++[nm])) (hM2:Mk Zc 36 (λb=>(S b/\b<w)\/A<=b) G W vv' (vals.length+1) (vals++[v]))=>HE.o (λc=>(S c/\c<w)\/G<=c) (AW ek cV en cW cS cP cM cT cQ cN cU cR cO ea ez) nv' vv' (names++[nm]) (vals++[v]) W (HX.o.move (.f (aN.o.n hM1.below)) (λ_ _ h=>.inl h)) (by
   obtain ⟨css,h1,h2,h3⟩:=hM1
   exact (Gl (S':=λb=>G<=b) h1 (λ_ _ _=>rfl)).sl (by rw [h2];exact bT) (λb hb=>.inr hb) (λb _ hb=>.inr hb)) (by
   obtain ⟨css,h1,h2,h3⟩:=hM2
   exact h1.sl (by rw [h2];exact bU) (λb hb=>.inr hb) (λb _ hb=>by
    rcases hb with h | h
    ·exact .inl h
    exact .inr Ia)) (by rw [Ql,Ql];simp;omega) (by rw [Ql];simp;omega) (by
   intro u hu
   rcases Z4.1 hu with h | h
   ·exact HB.o u h
   simp only [Z3,Z2,or_false] at h
   subst h;exact eL.o))
 clear dB dL bA bB dJ dS bD dP dQ bT bU HP e0 e1 e2 e3 e4 e5 e6 e7 e8 v0 v1 v2 v3 v4
 have aX:=Qq (λ(w':World) (h:Below G G w')=>by
  have O:=kB h cE.o
  have aL:=kB h cI.o
  exact (show ?Lq1 w' from ⟨Qk _ _ 0 _ _ _ O,Qk _ _ 1 _ _ _ O,Qk _ _ 2 _ _ _ O,Qk _ _ 3 _ _ _ O,Qk _ _ 4 _ _ _ O,Qk _ _ 5 _ _ _ O,Qk _ _ 6 _ _ _ O,Qk _ _ 7 _ _ _ O,Qk _ _ 8 _ _ _ O,Qk _ _ 0 _ _ _ aL,Qk _ _ 1 _ _ _ aL,Qk _ _ 2 _ _ _ aL,Qk _ _ 3 _ _ _ aL,Qk _ _ 4 _ _ _ aL⟩))
 go_region_held3 ?Lq1 (first | with_reducible exact eP.o | with_reducible exact T | with_reducible exact eQ.o _ | with_reducible exact cH.o _ _ | with_reducible exact eJ.o _ _ T | with_reducible exact eO.o _ _ _ _ _ _ T)
  (first
   | (refine Vx (r:=Zh) Ih X5 Iy (.tmp 21) (.tmp 23) 33 Iy 9 i9 (.string ⟨#[]⟩) 16 underlying33 HS.o aU.o aV.o aW.o rfl Ia (λ_=>True) G (A.alloc (.cells #[nm] 9)).drew (.slice pa names.length ca) names.length names Iy (aE.o.grow (Zg A (.cells #[nm] 9)).drew) (.slice (some ⟨A,0,none⟩) 1 1) [nm] Iy (bO.o _ _ (Qw A _) Ia) (names.length+1) bG.o bE.o ?_;intro p5 c5 w5 aC D;have T:=aI.o w5 (((Zg A (.cells #[nm] 9)).mono Ia).drew.trans D.below);have M:=Wx (aT.o.grow (Zg A (.cells #[nm] 9)).drew) (aE.o.grow (Zg A (.cells #[nm] 9)).drew) bM.o D bL.o;obtain ⟨I,aA,cF⟩:=Im M aC D;have bW:A.heap.size<=w5.heap.size:=Qc ((Zg A (.cells #[nm] 9)).size) D.size;clear aC D M)
   | (refine Vx (r:=Zh) Ih X5 Iy (.tmp 21) (.tmp 23) 33 Iy 9 i9 (.string ⟨#[]⟩) 16 underlying33 HS.o aU.o aV.o aW.o rfl Ia (λ_=>True) G ((A.alloc (.cells #[nm] 9)).alloc (.cells (Is v Y U Z V) 36)).drew (.slice pa names.length ca) names.length names Iy (aE.o.grow (Zs A (.cells #[nm] 9) (.cells (Is v Y U Z V) 36)).drew) (.slice (some ⟨A,0,none⟩) 1 1) [nm] Iy (bO.o _ _ (Q5 A _ _) Ia) (names.length+1) bG.o bE.o ?_;intro p5 c5 w5 aC D;have T:=aI.o w5 (((Zs A (.cells #[nm] 9) (.cells (Is v Y U Z V) 36)).mono Ia).drew.trans D.below);have M:=Wx (aT.o.grow (Zs A (.cells #[nm] 9) (.cells (Is v Y U Z V) 36)).drew) (aE.o.grow (Zs A (.cells #[nm] 9) (.cells (Is v Y U Z V) 36)).drew) bM.o D bL.o;have bK:=Qq ((D.other (A+1) (by simp;try omega) (λe=>by have:=(cG.o _ e.symm).2;omega)).trans (Q6 A _ _));obtain ⟨I,aA,cF⟩:=Im M aC D;have bW:A.heap.size<=w5.heap.size:=Qc ((Zs A (.cells #[nm] 9) (.cells (Is v Y U Z V) 36)).size) D.size;clear aC D M)
   | (refine Vx (r:=Zh) Ih X5 Iy (.tmp 21) (.tmp 23) 33 Iy 9 i9 (.string ⟨#[]⟩) 16 underlying33 HS.o aU.o aV.o aW.o rfl Ia (λ_=>True) G ((A.alloc (.cells (Is v Y U Z V) 36)).alloc (.cells #[nm] 9)).drew (.slice pa names.length ca) names.length names Iy (aE.o.grow (Zs A (.cells (Is v Y U Z V) 36) (.cells #[nm] 9)).drew) (.slice (some ⟨A+1,0,none⟩) 1 1) [nm] Iy (bO.o _ _ (Q6 A _ _) Ia) (names.length+1) bG.o bE.o ?_;intro p5 c5 w5 aC D;have T:=aI.o w5 (((Zs A (.cells (Is v Y U Z V) 36) (.cells #[nm] 9)).mono Ia).drew.trans D.below);have M:=Wx (aT.o.grow (Zs A (.cells (Is v Y U Z V) 36) (.cells #[nm] 9)).drew) (aE.o.grow (Zs A (.cells (Is v Y U Z V) 36) (.cells #[nm] 9)).drew) bM.o D bL.o;have bK:=Qq ((D.other A (by simp;try omega) (λe=>by have:=(cG.o _ e.symm).2;omega)).trans (Q5 A _ _));obtain ⟨I,aA,cF⟩:=Im M aC D;have bW:A.heap.size<=w5.heap.size:=Qc ((Zs A (.cells (Is v Y U Z V) 36) (.cells #[nm] 9)).size) D.size;clear aC D M)
   | (refine Vx (r:=Zc) Ih Xd Iy (.tmp 25) (.tmp 27) 34 Iy 36 i0 (.agg zV) 80 underlying34 HJ.o aO.o aP.o aQ.o rfl Ia (λb=>(S b/\b<w)\/A<=b) G (w5.alloc (.cells (Is v Y U Z V) 36)) (.slice pb vals.length cb) vals.length vals Iy (I.o.grow (Zg w5 (.cells (Is v Y U Z V) 36))) (.slice (some ⟨w5,0,none⟩) 1 1) [v] Iy (bP.o _ _ (aA.o.grow (Zg w5 (.cells (Is v Y U Z V) 36))).below (Qw _ _) (bW)) (vals.length+1) bH.o bF.o ?_;intro p6 c6 w6 N aB;have J:=Wg (aA.o.grow (Zg w5 (.cells (Is v Y U Z V) 36))) (I.o.grow (Zg w5 (.cells (Is v Y U Z V) 36))) bN.o aB;have T:=aX.o w6 N.below;have aH:=Qq N;have aK:=Qq J;clear N aB J)
   | (refine Vx (r:=Zc) Ih Xd Iy (.tmp 25) (.tmp 27) 34 Iy 36 i0 (.agg zV) 80 underlying34 HJ.o aO.o aP.o aQ.o rfl Ia (λb=>(S b/\b<w)\/A<=b) G w5 (.slice pb vals.length cb) vals.length vals Iy (I.o) (.slice (some ⟨A+1,0,none⟩) 1 1) [v] Iy (bP.o _ _ (aA.o).below (bK.o) Ia) (vals.length+1) bH.o bF.o ?_;intro p6 c6 w6 N aB;have J:=Wg (aA.o) (I.o) bN.o aB;have T:=aX.o w6 N.below;have aH:=Qq N;have aK:=Qq J;clear N aB J)
   | (refine Vx (r:=Zc) Ih Xd Iy (.tmp 25) (.tmp 27) 34 Iy 36 i0 (.agg zV) 80 underlying34 HJ.o aO.o aP.o aQ.o rfl Ia (λb=>(S b/\b<w)\/A<=b) G w5 (.slice pb vals.length cb) vals.length vals Iy (I.o) (.slice (some ⟨A,0,none⟩) 1 1) [v] Iy (bP.o _ _ (aA.o).below (bK.o) (Q9 _)) (vals.length+1) bH.o bF.o ?_;intro p6 c6 w6 N aB;have J:=Wg (aA.o) (I.o) bN.o aB;have T:=aX.o w6 N.below;have aH:=Qq N;have aK:=Qq J;clear N aB J)
   | (go_at_call 97;refine (eM.o _ _ _ aK.o aH.o).mono ?_;rintro e w7 ⟨k7,n7,s7,eD,eB,dZ,eE,eC,eA,b7,rfl,dT,dN⟩;have aF:Below G G w7:=aH.o.below.trans (dN.mono aH.o.below.size);have T:=aX.o w7 aF;have bC:G.heap.size<=w6.heap.size:=aH.o.below.size;have aY:=kB aF eT.o;obtain ⟨y0,y1,y2,y3,y4⟩:=If aY;obtain ⟨f0,f1,f2,f3,f4⟩:=Ip aY;obtain ⟨eU,eR,eK,dI⟩:=It aY dT aF bC;clear dT dN aF aY bC))
 all_goals
  go_wp2_with fail
  show bodyPost _ _ _ _ _ (Zl w7 (w+1+1) k7 n7 (.string s7) (.slice eD eB dZ) (.slice eE eC eA))
  refine Q7 (v:=.tuple #[.agg #[k7,n7,.string s7,.slice eD eB dZ,.slice eE eC eA],.bool b7]) (by simp [results,results145,go_sem,Ze eU.o]) rfl (Dw Ia (aN.o.n eK.o) (eR.o.map λu h1=>h1.move (.refl _ _) (λc _ hc=>by
   have hz:=cJ.o
   rcases hc with (hc | hc) | hc
   ·exact .inl hc
   ·exact .inr Ia
   exact .inr (by have:=dI.o;have h':w6.heap.size<=c:=hc;omega))))
theorem Qzi (nm:Bs) (n:Int) (s:Bs) (names binds:List Bs) (kids:List Ex) (a z:Int) (d:Nat) (ih:∀ x ∈ kids,Xu d x) (h2:kids.length=2):∀ (S:Nat->Prop) (ce:List Value) (nv vv:Value) (ns:List Bs) (vs:List Val) (w:World),Yx S w ce (.mk 11 nm n s names binds kids a z)->Sl Zh S w nv ns->Sl Zc S w vv vs->ns.length<=vs.length->vs.length+(d+1)<=1000->(∀ v ∈ vs,Y3 v) ->
  Calls prog 97 #[ce,nv,vv] w (X7 S w (Y0 (d+1) (.mk 11 nm n s names binds kids a z) ns vs)):=by
 intro S ce nv vv ns vs w N cJ cL bI hd hb
 obtain ⟨r,hr⟩:=eX (Y0 (d+1) (.mk 11 nm n s names binds kids a z) ns vs)
 rw [hr]
 have HR:=Qq hr
 clear hr
 have hx:Yx (λb=>S b/\b<w) w ce (.mk 11 nm n s names binds kids a z):=N.move (.refl _ _) (λb hb h=>⟨h,hb⟩)
 have hn:=cJ.up
 have hv:=cL.up
 obtain ⟨np,nc,rfl,_⟩:=hn.len
 obtain ⟨vp,vc,rfl,fY⟩:=hv.len
 have fG:=Qq hx
 obtain ⟨gB,bv,kv,rfl,eT,fX,bR,bP,hk⟩:=Yy.1 hx
 obtain ⟨p1,c1,rfl,_⟩:=bR.len
 obtain ⟨p2,c2,rfl,_⟩:=bP.len
 obtain ⟨p3,c3,rfl,fW⟩:=hk.len
 obtain ⟨HN,HV,bK,fF,fC,HK,HI,aF⟩:=AV hn hv hb bR bP hk ih bI
 clear N cJ cL hx hn hv bR bP hk hb ih bI
 unfold sv at *
 rw [h2] at HK |-
 obtain ⟨x0,N⟩:∃ x,kids[0]?=some x:=⟨_,Qx Ia⟩
 obtain ⟨G,J,fL,fN,fM,fO,fH,fQ,fT,fI,fR,fU,fJ,fS,fV,fK,fP,cK,bG,aJ,aN,aO,aP,aQ,aR,aS,aT,aU,aV⟩:=HK.o.ex N
 subst cK
 simp only [Nat.zero_mul,Nat.add_zero] at aN aO aP aQ aR aS aT aU aV
 have dM:=Qq (λW (hW:Below w w W)=>HI.o x0 (Qy N) (λb=>S b/\b<w) _ _ _ ns vs W (aJ.move (.f hW) Ij) (HN.o.below hW) (HV.o.below hW) aF.o Ia bK.o)
 obtain ⟨fA,dN,fE⟩:=Im aJ N (Qy N)
 have dK:=Qq (Qe bG (Qe aN (Qe aO (Qe aP (Qe aQ (Qe aR (Qe aS (Qe aT (Qe aU aV)))))))))
 clear aJ N bG aN aO aP aQ aR aS aT aU aV
 obtain ⟨x1,aL⟩:∃ x,kids[1]?=some x:=⟨_,Qx Ia⟩
 obtain ⟨fZ,gA,eG,eI,eH,eJ,eC,eL,eO,eD,eM,eP,eE,eN,eQ,eF,eK,bJ,bH,aK,T,U,V,Y,Z,aA,aB,aC,aD⟩:=HK.o.ex aL
 simp only [Zv,Addr.mk.injEq,and_true] at bJ
 obtain ⟨rfl,rfl⟩:=bJ
 simp only [Nat.one_mul] at T U V Y Z aA aB aC aD
 have fD:=Qq (λW (hW:Below w w W)=>HI.o x1 (Qy aL) (λb=>S b/\b<w) _ _ _ ns vs W (aK.move (.f hW) Ij) (HN.o.below hW) (HV.o.below hW) aF.o Ia bK.o)
 obtain ⟨bZ,dO,dR⟩:=Im aK aL (Qy aL)
 have bT:=Qq (Qe bH (Qe T (Qe U (Qe V (Qe Y (Qe Z (Qe aA (Qe aB (Qe aC aD)))))))))
 clear aK aL bH T U V Y Z aA aB aC aD
 have bV:=Qq (HR.o.symm.trans (revF_let dN.o dO.o))
 go_enter func97,ntmps97
 go_upto_region 16 with fail
 generalize aW:(w.alloc _).alloc _=W1
 have cF:=Iq aW (Zs _ _ _)
 have cE:=Ik (b:=w.heap.size) aW (Q5 _ _ _)
 have bN:=Ik (b:=w.heap.size+1) aW (Q6 _ _ _)
 obtain ⟨A,bL,cA⟩:=Im cF cE bN
 have bQ:=Z8 bN
 clear aW cF cE bN
 have bF:=((Qq (Qz W1 W1)).o.block _ (Z8 bL.o)).trans bL.o
 have c6:=AK bF
 clear bF
 obtain ⟨M,q0,q1,q2,q3,q4,q5,q6,q7,q8⟩:=dK.o
 have aN:=kD A.o M q0;have aO:=kD A.o M q1;have aP:=kD A.o M q2;have aQ:=kD A.o M q3;have aR:=kD A.o M q4;have aS:=kD A.o M q5;have aT:=kD A.o M q6;have aU:=kD A.o M q7;have aV:=kD A.o M q8
 clear M q0 q1 q2 q3 q4 q5 q6 q7 q8
 go_upto_region 17 with (go_at_call 97;refine (dM.o _ A.o).mono ?_;rintro e w5 ⟨k5,n5,s5,bC,bA,aY,bD,bB,aZ,b5,rfl,cM,cG⟩;have bX:=Qq cM;have bU:=Qq cG;clear cM cG)
 generalize bM:w5.alloc _=W6
 have bO:=Iq bM (Zg _ _)
 have cD:=Ik (b:=w5.heap.size) bM (Qw _ _)
 obtain ⟨D,bE,bY⟩:=Im (bU.o.n bO) cD bO
 clear bM bO cD
 have fB:w.heap.size+1<W6.heap.size:=Ix D.o.size
 cases b5 with
 | false=>
  obtain ⟨v0,v1,v2,v3,v4⟩:=If bE.o
  have O:=kE D.o bQ cA.o
  obtain ⟨y0,y1,y2,y3,y4⟩:=If O
  obtain ⟨f0,f1,f2,f3,f4⟩:=Ip O
  have cB:=Qq O
  clear O
  go_wp2_with fail
  show bodyPost _ _ _ _ _ (Zl W6 (w+1) k5 n5 (.string s5) (.slice bC bA aY) (.slice bD bB aZ))
  refine Q7 (v:=.tuple #[.agg #[k5,n5,.string s5,.slice bC bA aY,.slice bD bB aZ],.bool false]) (by simp [results,results97,go_sem,Ze cB.o]) rfl (Vv Ia (A.o.n D.o) (by rw [bV.o,bX.o.2 rfl];rfl))
 | true=>
  obtain ⟨v,cQ,cO,cP⟩:=bX.o.1 rfl
  have dV:Hid (r=Y0 d x1 (ns++[nm]) (vs++[v])):=Qq (by rw [bV.o,cP];rfl)
  clear cP
  have hE:=Qq (λW (hW:Below W6 W6 W)=>Lg d x1 (HI.o x1 dR.o) (λc=>(S c/\c<w)\/W1<=c) _ _ _ ns vs nm v [k5,n5,.string s5,.slice bC bA aY,.slice bD bB aZ] W (bZ.o.move (.f (A.o.n (D.o.n hW))) (λ_ _ h=>.inl h)) ((HN.o.below (A.o.n (D.o.n hW))).mono (λ_ _ h=>.inl h)) ((HV.o.below (A.o.n (D.o.n hW))).mono (λ_ _ h=>.inl h)) aF.o Ia bK.o eT (cQ.move (.f (bY.o.n hW)) Ij) cO)
  unfold sv at hE
  clear cQ cO
  go_upto_region 19 with fail
  have aG:=kB D.o bL.o
  have c1:=AA aG;have c6:=AK aG
  clear aG
  obtain ⟨v0,v1,v2,v3,v4⟩:=If bE.o
  obtain ⟨M,q0,q1,q2,q3,q4,q5,q6,q7,q8⟩:=bT.o
  have T:=kD (A.o.n D.o) M q0;have U:=kD (A.o.n D.o) M q1;have V:=kD (A.o.n D.o) M q2;have Y:=kD (A.o.n D.o) M q3;have Z:=kD (A.o.n D.o) M q4;have aA:=kD (A.o.n D.o) M q5;have aB:=kD (A.o.n D.o) M q6;have aC:=kD (A.o.n D.o) M q7;have aD:=kD (A.o.n D.o) M q8
  clear M q0 q1 q2 q3 q4 q5 q6 q7 q8
  have I:G≠w.heap.size+1:=by have:=bT.o.1;omega
  have aE:w5≠w.heap.size+1:=Ix bU.o.size
  refine let_mvar% ?Lq1:=λw':World=>Ii w' w 1 nm/\Ii w' w 6 (Io G J 2 c3)/\Ii w' G (J+9) eG/\Ii w' G (J+9+1) (.string eI)/\Ii w' G (J+9+2) eH/\Ii w' G (J+9+3) (.string eJ)/\Ii w' G (J+9+4) (.slice eC eL eO)/\Ii w' G (J+9+5) (.slice eD eM eP)/\Ii w' G (J+9+6) (.slice eE eN eQ)/\Ii w' G (J+9+7) eF/\Ii w' G (J+9+8) eK/\BG w' w5 k5 n5 (.string s5) (.slice bC bA aY) (.slice bD bB aZ);?_
  have bW:=Qq (λ(w':World) (h:Below W6 W6 w')=>(show ?Lq1 w' from ⟨kC h c1,kC h c6,kC h T,kC h U,kC h V,kC h Y,kC h Z,kC h aA,kC h aB,kC h aC,kC h aD,kC h v0,kC h v1,kC h v2,kC h v3,kC h v4⟩))
  have HP:∀ w' x0 x1 x2 x3 x4,?Lq1 w'->?Lq1 (Zl w' (w+1) x0 x1 x2 x3 x4):=λw' x0 x1 x2 x3 x4 h=>⟨Zm Ia h.1,Zm Ia h.2.1,Zm I h.2.2.1,Zm I h.2.2.2.1,Zm I h.2.2.2.2.1,Zm I h.2.2.2.2.2.1,Zm I h.2.2.2.2.2.2.1,Zm I h.2.2.2.2.2.2.2.1,Zm I h.2.2.2.2.2.2.2.2.1,Zm I h.2.2.2.2.2.2.2.2.2.1,Zm I h.2.2.2.2.2.2.2.2.2.2.1,Zm aE h.2.2.2.2.2.2.2.2.2.2.2.1,Zm aE h.2.2.2.2.2.2.2.2.2.2.2.2.1,Zm aE h.2.2.2.2.2.2.2.2.2.2.2.2.2.1,Zm aE h.2.2.2.2.2.2.2.2.2.2.2.2.2.2.1,Zm aE h.2.2.2.2.2.2.2.2.2.2.2.2.2.2.2⟩
  unfold Zl at HP
  have dW:=Qq (bW.o W6.drew (Qz _ _).drew);have dU:=Qq HP
  clear HP I aE c1 c6 T U V Y Z aA aB aC aD v0 v1 v2 v3 v4
  go_region_held3 ?Lq1 (first | with_reducible exact dW.o | with_reducible exact cC | with_reducible exact dU.o _ _ _ _ _ _ cC)
   (first
    | (go_at_call 145;refine (hE.o _ (Qz _ _).drew).mono ?_;rintro e w7 ⟨k7,n7,s7,cZ,cT,cR,dB,cU,cS,b7,rfl,cN,cH⟩;have aI:=(Qz _ W6).drew.n cH;have cC:=bW.o w7 aI;have aH:=D.o.n aI;have aX:=kE (aH) bQ cA.o;obtain ⟨y0,y1,y2,y3,y4⟩:=If aX;obtain ⟨f0,f1,f2,f3,f4⟩:=Ip aX;have dZ:=Qq aX;clear aX;have dY:=Qq cN;have dL:=Qq aH;clear cN cH aH aI))
  all_goals
   go_wp2_with fail
   show bodyPost _ _ _ _ _ (Zl w7 (w+1) k7 n7 (.string s7) (.slice cZ cT cR) (.slice dB cU cS))
   refine Q7 (v:=.tuple #[.agg #[k7,n7,.string s7,.slice cZ cT cR,.slice dB cU cS],.bool b7]) (by simp [results,results97,go_sem,Ze dZ.o]) rfl (X7.of_eq dV.o (J4 A.o Ia bQ (dY.o.map λv h1=>h1.move (.refl _ _) (λc _ hc=>by
     rcases hc with hc | hc
     ·exact hc
     exact .inr (by have:=D.o.size;have h':W6.heap.size<=c:=hc;omega))) dL.o))
theorem reval_if (nm:Bs) (n:Int) (s:Bs) (names binds:List Bs) (kids:List Ex) (a z:Int) (d:Nat) (ih:∀ x ∈ kids,Xu d x) (h2:kids.length=3):∀ (S:Nat->Prop) (ce:List Value) (nv vv:Value) (ns:List Bs) (vs:List Val) (w:World),Yx S w ce (.mk 12 nm n s names binds kids a z)->Sl Zh S w nv ns->Sl Zc S w vv vs->ns.length<=vs.length->vs.length+(d+1)<=1000->(∀ v ∈ vs,Y3 v) ->
  Calls prog 97 #[ce,nv,vv] w (X7 S w (Y0 (d+1) (.mk 12 nm n s names binds kids a z) ns vs)):=by
 intro S ce nv vv ns vs w N dH dJ cB hd hb
 obtain ⟨r,hr⟩:=eX (Y0 (d+1) (.mk 12 nm n s names binds kids a z) ns vs)
 rw [hr]
 have HR:=Qq hr
 clear hr
 have hx:Yx (λb=>S b/\b<w) w ce (.mk 12 nm n s names binds kids a z):=N.move (.refl _ _) (λb hb h=>⟨h,hb⟩)
 have hn:=dH.up
 have hv:=dJ.up
 obtain ⟨np,nc,rfl,_⟩:=hn.len
 obtain ⟨vp,vc,rfl,hD⟩:=hv.len
 have fG:=Qq hx
 obtain ⟨hL,bv,kv,rfl,hB,hC,cY,cX,hk⟩:=Yy.1 hx
 obtain ⟨p1,c1,rfl,_⟩:=cY.len
 obtain ⟨p2,c2,rfl,_⟩:=cX.len
 obtain ⟨p3,c3,rfl,hA⟩:=hk.len
 obtain ⟨HN,HV,cP,fF,fB,HK,HI,U⟩:=AV hn hv hb cY cX hk ih cB
 clear N dH dJ hx hn hv cY cX hk hb ih cB
 unfold sv at *
 rw [h2] at HK |-
 obtain ⟨x0,N⟩:∃ x,kids[0]?=some x:=⟨_,Qx Ia⟩
 obtain ⟨hE,hI,fT,fZ,fW,gC,fH,gI,gR,fK,gL,gU,fN,gO,gX,fQ,gF,dI,bY,aI,Y,Z,aA,aB,aC,aD,aE,aF,aG⟩:=HK.o.ex N
 subst dI
 simp only [Nat.zero_mul,Nat.add_zero] at Y Z aA aB aC aD aE aF aG
 have dV:=Qq (λW (hW:Below w w W)=>HI.o x0 (Qy N) (λb=>S b/\b<w) _ _ _ ns vs W (aI.move (.f hW) Ij) (HN.o.below hW) (HV.o.below hW) U.o Ia cP.o)
 obtain ⟨eY,dY,fC⟩:=Im aI N (Qy N)
 have dR:=Qq (Qe bY (Qe Y (Qe Z (Qe aA (Qe aB (Qe aC (Qe aD (Qe aE (Qe aF aG)))))))))
 clear aI N bY Y Z aA aB aC aD aE aF aG
 obtain ⟨x1,aL⟩:∃ x,kids[1]?=some x:=⟨_,Qx Ia⟩
 obtain ⟨hF,hJ,fU,gA,fX,gD,fI,gJ,gS,fL,gM,gV,fO,gP,gY,fR,gG,cD,bZ,aJ,aV,aX,aZ,bB,bD,bF,bH,bJ,bL⟩:=HK.o.ex aL
 simp only [Zv,Addr.mk.injEq,and_true] at cD
 obtain ⟨rfl,rfl⟩:=cD
 simp only [Nat.one_mul] at aV aX aZ bB bD bF bH bJ bL
 have dW:=Qq (λW (hW:Below w w W)=>HI.o x1 (Qy aL) (λb=>S b/\b<w) _ _ _ ns vs W (aJ.move (.f hW) Ij) (HN.o.below hW) (HV.o.below hW) U.o Ia cP.o)
 obtain ⟨eZ,dZ,fD⟩:=Im aJ aL (Qy aL)
 have dS:=Qq (Qe bZ (Qe aV (Qe aX (Qe aZ (Qe bB (Qe bD (Qe bF (Qe bH (Qe bJ bL)))))))))
 clear aJ aL bZ aV aX aZ bB bD bF bH bJ bL
 obtain ⟨x2,aM⟩:∃ x,kids[2]?=some x:=⟨_,Qx Ia⟩
 obtain ⟨hH,hK,fV,gB,fY,gE,fJ,gK,gT,fM,gN,gW,fP,gQ,gZ,fS,gH,cE,cA,aK,aW,aY,bA,bC,bE,bG,bI,bK,bM⟩:=HK.o.ex aM
 simp only [Zv,Addr.mk.injEq,and_true] at cE
 obtain ⟨rfl,rfl⟩:=cE
 simp only [Nat.reduceMul] at aW aY bA bC bE bG bI bK bM
 have dX:=Qq (λW (hW:Below w w W)=>HI.o x2 (Qy aM) (λb=>S b/\b<w) _ _ _ ns vs W (aK.move (.f hW) Ij) (HN.o.below hW) (HV.o.below hW) U.o Ia cP.o)
 obtain ⟨fA,eA,fE⟩:=Im aK aM (Qy aM)
 have dT:=Qq (Qe cA (Qe aW (Qe aY (Qe bA (Qe bC (Qe bE (Qe bG (Qe bI (Qe bK bM)))))))))
 clear aK aM cA aW aY bA bC bE bG bI bK bM
 have cQ:=Qq (HR.o.symm.trans (revF_if dY.o dZ.o eA.o))
 go_enter func97,ntmps97
 go_upto_region 21 with fail
 generalize bN:(w.alloc _).alloc _=W1
 have dF:=Iq bN (Zs _ _ _)
 have dE:=Ik (b:=w.heap.size) bN (Q5 _ _ _)
 have cV:=Ik (b:=w.heap.size+1) bN (Q6 _ _ _)
 obtain ⟨A,aT,aU⟩:=Im dF dE cV
 have bO:=Z8 cV
 clear bN dF dE cV
 have bX:=((Qq (Qz W1 W1)).o.block _ (Z8 aT.o)).trans aT.o
 have c6:=AK bX
 clear bX
 obtain ⟨G,q0,q1,q2,q3,q4,q5,q6,q7,q8⟩:=dR.o
 have Y:=kD A.o G q0;have Z:=kD A.o G q1;have aA:=kD A.o G q2;have aB:=kD A.o G q3;have aC:=kD A.o G q4;have aD:=kD A.o G q5;have aE:=kD A.o G q6;have aF:=kD A.o G q7;have aG:=kD A.o G q8
 clear G q0 q1 q2 q3 q4 q5 q6 q7 q8
 go_upto_region 22 with (go_at_call 97;refine (dV.o _ A.o).mono ?_;rintro e w5 ⟨k5,n5,s5,bU,bS,bQ,bV,bT,bR,b5,rfl,dK,dG⟩;have cR:=Qq dK;have dU:=Qq dG;clear dK dG)
 generalize cU:w5.alloc _=W6
 have cW:=Iq cU (Zg _ _)
 have dD:=Ik (b:=w5.heap.size) cU (Qw _ _)
 obtain ⟨D,bW,eW⟩:=Im (dU.o.n cW) dD cW
 clear cU cW dD
 have cC:w.heap.size+1<W6.heap.size:=Ix D.o.size
 clear c6 Y Z aA aB aC aD aE aF aG
 obtain ⟨v0,v1,v2,v3,v4⟩:=If bW.o
 have eQ:b5=false\/(b5=true/\(k5 != 2)=true)\/(b5=true/\k5=2):=by
  cases b5 with
  | false=>exact .inl rfl
  | true=>
   by_cases h:k5=2
   ·exact .inr (.inr ⟨rfl,h⟩)
   exact .inr (.inl ⟨rfl,by simpa using h⟩)
 rcases eQ with rfl | ⟨rfl,hq⟩ | ⟨rfl,rfl⟩
 ·clear v0 v1 v2 v3 v4
  obtain ⟨v0,v1,v2,v3,v4⟩:=If bW.o
  have I:=kE D.o bO aU.o
  obtain ⟨y0,y1,y2,y3,y4⟩:=If I
  obtain ⟨f0,f1,f2,f3,f4⟩:=Ip I
  have V:=Qq I
  clear I
  go_wp2_with fail
  show bodyPost _ _ _ _ _ (Zl W6 (w+1) k5 n5 (.string s5) (.slice bU bS bQ) (.slice bV bT bR))
  refine Q7 (v:=.tuple #[.agg #[k5,n5,.string s5,.slice bU bS bQ,.slice bV bT bR],.bool false]) (by simp [results,results97,go_sem,Ze V.o]) rfl (Vv Ia (A.o.n D.o) (by rw [cQ.o,cR.o.2 rfl];rfl))
 ·have eD:Hid (r=none):=Qq (by
   obtain ⟨v,T,cZ,bP⟩:=cR.o.1 rfl
   rw [cQ.o,bP]
   show (if v.kind=2 then _ else none)=none
   rw [if_neg (by rw [T.head.1];simpa using hq)])
  have I:=kE D.o bO aU.o
  obtain ⟨y0,y1,y2,y3,y4⟩:=If I
  obtain ⟨f0,f1,f2,f3,f4⟩:=Ip I
  have V:=Qq I
  clear I
  go_wp2_with fail
  show bodyPost _ _ _ _ _ (Zl W6 (w+1) k5 n5 (.string s5) (.slice bU bS bQ) (.slice bV bT bR))
  refine Q7 (v:=.tuple #[.agg #[k5,n5,.string s5,.slice bU bS bQ,.slice bV bT bR],.bool false]) (by simp [results,results97,go_sem,Ze V.o]) rfl (Vv Ia (A.o.n D.o) eD.o)
 obtain ⟨v,T,cZ,bP⟩:=cR.o.1 rfl
 have dC:Hid (r=if n5=1 then Y0 d x1 ns vs else Y0 d x2 ns vs):=Qq (by
  rw [cQ.o,bP]
  show (if v.kind=2 then (if v.n=1 then _ else _) else none)=_
  rw [if_pos T.head.1,T.head.2.1])
 clear bP
 have eO:n5=0\/n5=1:=by
  obtain ⟨h1,h2,_⟩:=T.head
  rw [<- h2];exact cZ.bool h1
 clear T cZ
 have hq:((2:Int) != 2)=false:=rfl
 rcases eO with rfl | rfl
 focus
  have M:=kB D.o aT.o
  have c6:=AK M
  clear M
  obtain ⟨G,q0,q1,q2,q3,q4,q5,q6,q7,q8⟩:=dT.o
  have aW:=kD (A.o.n D.o) G q0;have aY:=kD (A.o.n D.o) G q1;have bA:=kD (A.o.n D.o) G q2;have bC:=kD (A.o.n D.o) G q3;have bE:=kD (A.o.n D.o) G q4;have bG:=kD (A.o.n D.o) G q5;have bI:=kD (A.o.n D.o) G q6;have bK:=kD (A.o.n D.o) G q7;have bM:=kD (A.o.n D.o) G q8
  clear G q0 q1 q2 q3 q4 q5 q6 q7 q8
  go_wp2_with (go_at_call 97;refine (dX.o _ (A.o.n D.o)).mono ?_;rintro e w7 ⟨k7,n7,s7,aR,aP,aN,aS,aQ,aO,b7,rfl,aH,O⟩;have J:=kE (D.o.n O) bO aU.o;obtain ⟨y0,y1,y2,y3,y4⟩:=If J;obtain ⟨f0,f1,f2,f3,f4⟩:=Ip J;have cT:=Qq J;clear J;have cS:=Qq aH;have cO:=Qq O;clear aH O)
  show bodyPost _ _ _ _ _ (Zl w7 (w+1) k7 n7 (.string s7) (.slice aR aP aN) (.slice aS aQ aO))
  refine Q7 (v:=.tuple #[.agg #[k7,n7,.string s7,.slice aR aP aN,.slice aS aQ aO],.bool b7]) (by simp [results,results97,go_sem,Ze cT.o]) rfl (X7.of_eq (dC.o.trans (if_neg Ih)) (J4 (A.o.n D.o) Ia cC cS.o cO.o))
 focus
  have M:=kB D.o aT.o
  have c6:=AK M
  clear M
  obtain ⟨G,q0,q1,q2,q3,q4,q5,q6,q7,q8⟩:=dS.o
  have aV:=kD (A.o.n D.o) G q0;have aX:=kD (A.o.n D.o) G q1;have aZ:=kD (A.o.n D.o) G q2;have bB:=kD (A.o.n D.o) G q3;have bD:=kD (A.o.n D.o) G q4;have bF:=kD (A.o.n D.o) G q5;have bH:=kD (A.o.n D.o) G q6;have bJ:=kD (A.o.n D.o) G q7;have bL:=kD (A.o.n D.o) G q8
  clear G q0 q1 q2 q3 q4 q5 q6 q7 q8
  go_wp2_with (go_at_call 97;refine (dW.o _ (A.o.n D.o)).mono ?_;rintro e w7 ⟨k7,n7,s7,aR,aP,aN,aS,aQ,aO,b7,rfl,aH,O⟩;have J:=kE (D.o.n O) bO aU.o;obtain ⟨y0,y1,y2,y3,y4⟩:=If J;obtain ⟨f0,f1,f2,f3,f4⟩:=Ip J;have cT:=Qq J;clear J;have cS:=Qq aH;have cO:=Qq O;clear aH O)
  show bodyPost _ _ _ _ _ (Zl w7 (w+1) k7 n7 (.string s7) (.slice aR aP aN) (.slice aS aQ aO))
  refine Q7 (v:=.tuple #[.agg #[k7,n7,.string s7,.slice aR aP aN,.slice aS aQ aO],.bool b7]) (by simp [results,results97,go_sem,Ze cT.o]) rfl (X7.of_eq (dC.o.trans (if_pos Ih)) (J4 (A.o.n D.o) Ia cC cS.o cO.o))
end Go.Proofs.YtdpibdpbgokmoaaGreatDoor

import Derived.Test.YtcljcblceodciaaGreatDoorU22
import Derived.Test.YtcljcblceodciaaGreatDoorU16
set_option maxRecDepth 100000
set_option maxHeartbeats 400000000
namespace Go.Proofs.YtcljcblceodciaaGreatDoor
open Go.RowKit Go.Shelf Go.Lib Tryz
theorem cs_str {S S':Nat->Prop} {w w':World} {css:List (List Value)} {xs:List Bs} (h:Cs Zh S w css xs):Cs Zh S' w' css xs:=⟨h.len,fun i c x hc hx=>h.R i c x hc hx⟩
theorem Fx {E:TypeId} {S S':Nat->Prop} {B:Nat} {w w':World} {v:Value} {xs:List Bs} {css:List (List Value)} (h:Own Zh E S B w v xs css) (hA:∀ b,b<w.heap.size->v.ownBlock=some b->w'.heap[b]?=w.heap[b]?):Own Zh E S' B w' v xs css:=
 ⟨U7 h.row hA,cs_str h.cs⟩
theorem Px {E E':TypeId} {r':Rd Val} {S0 S0':Nat->Prop} {W0 w w6:World} {v v' v1':Value} {n n':Nat} {xs:List Bs} {xs':List Val} (h:Mk Zh E S0 W0 w v n xs) (h':Mk r' E' S0' W0 w v' n' xs') (hne:E≠E') (hL:Hg W0 w w6 v' v1'):Mk Zh E S0 W0 w6 v n xs:=by
 obtain ⟨css,h1,h2,h3⟩:=h
 obtain ⟨A,g1,_,_⟩:=h'
 exact ⟨css,Fx h1 (fun b hb hv=>hL.other b hb (fun e=>Yh h1.row g1.row hne hv e.symm)),h2,h3.trans hL.below⟩
theorem Ou {E E':TypeId} {r:Rd Val} {r':Rd Bs} {S0 S0':Nat->Prop} {W0 w w6:World} {v v' v1':Value} {n n':Nat} {xs:List Val} {xs':List Bs} (h:Mk r E S0 W0 w v n xs) (h':Mk r' E' S0' W0 w v' n' xs') (hne:E≠E') (hL:Hg W0 w w6 v' v1') (hS:∀ b,S0 b->some b≠v'.ownBlock):Mk r E S0 W0 w6 v n xs:=by
 obtain ⟨css,h1,h2,h3⟩:=h
 obtain ⟨D,g1,_,_⟩:=h'
 refine ⟨css,h1.move (Q9 _) (fun b hb A=>hL.other b hb (fun e=>?_)),h2,h3.trans hL.below⟩
 rcases A with A | A
 ·exact hS b A e
 exact Yh h1.row g1.row hne A e.symm
theorem Zn {W:World} {R b j:Nat} {x0 x1 x2 x3 x4 u:Value} (h:b≠R) (hc:W.cell? ⟨b,j,none⟩=some u):(Zi W R x0 x1 x2 x3 x4).cell? ⟨b,j,none⟩=some u:=(World.cell?_of_block (Zf h)).trans hc
theorem sl_val1 {S:Nat->Prop} {w:World} {b:Nat} {c0 c1 c2 c3 c4:Value} {x:Val} (hb:w.heap[b]?=some (.cells #[c0,c1,c2,c3,c4] 36 (0,0))) (hS:S b) (hx:Z9 S w [c0,c1,c2,c3,c4] x):Sl Zd S w (.slice (some ⟨b,0,none⟩) 1 1) [x]:=
 Y2 hb hS (Cs.one (r:=Zd) hx) rfl rfl Ca
theorem Ev (d:Nat) (e:Ex) (he:Xl d e) (S:Nat->Prop) (ce:List Value) (nv vv:Value) (names:List Bs) (vals:List Val) (nm:Bs) (v:Val) (cv:List Value) (w:World) (hx0:Yx S w ce e) (hn0:Sl Zh S w nv names) (hv0:Sl Zd S w vv vals) (hlen:names.length<=vals.length) (hd:vals.length+(d+1)<=1000) (hb:∀ v ∈ vals,Y0 v) (hnm:nm.length<=1000000) (hvv:Z9 S w cv v) (hbv:Y0 v):
  Calls prog 152 #[ce,nv,vv,sv nm,cv] w (Vj S w):=by
 have hx:Yx (fun b=>S b/\b<w) w ce e:=hx0.move (.refl _ _) (fun b hb h=>⟨h,hb⟩)
 have hn:=hn0.up
 have hv:=hv0.up
 have bW:Z9 (fun b=>S b/\b<w) w cv v:=hvv.move (.refl _ _) (fun b hb h=>⟨h,hb⟩)
 obtain ⟨np,nc,rfl,_⟩:=hn.len
 obtain ⟨vp,vc,rfl,_⟩:=hv.len
 obtain ⟨Y,U,Z,V,dO,_⟩:=Z9.cells bW
 have eS:=Qq bW
 simp only [vcs] at dO
 subst dO
 obtain ⟨ek,cW,en,cX,cT,cQ,cN,cU,cR,cO,cV,cS,cP,ea,ez,eV⟩:=Yx.cells hx
 have HX:=Qq hx
 subst eV
 obtain ⟨HN,HV,HE,HB,eL⟩:=Qjk hn hv he hb hbv
 clear hx0 hn0 hv0 hvv hx hn hv bW he hb hbv
 obtain ⟨i0,j1,j2,j3,j4⟩:=Y7 (P:=prog) (t:=36) (z:=.agg zV) (n:=5) (b:=80) Cd
 obtain ⟨HJ,aO,aP,aQ⟩:=Qjz j1 j2 j3 j4
 clear j1 j2 j3 j4
 obtain ⟨i9,j1,j2,j3,j4⟩:=Y7 (P:=prog) (t:=9) (z:=.string ⟨#[]⟩) (n:=1) (b:=16) Cd
 obtain ⟨HS,aU,aV,aW⟩:=Qjz j1 j2 j3 j4
 clear j1 j2 j3 j4
 unfold sv
 go_enter func152,ntmps152
 go_upto_region 3 with fail
 generalize aJ:((w.alloc _).alloc _).alloc _=G
 have bT:=eqB aJ (Xm _ _ _ _)
 have dU:G=w.heap.size+3:=by rw [<- aJ];simp
 have dA:=eqH (b:=w.heap.size) aJ (Zp _ _ _ _)
 have dK:=eqH (b:=w.heap.size+1) aJ (Zo _ _ _ _)
 have dM:=eqH (b:=w.heap.size+1+1) aJ (Zl _ _ _ _)
 obtain ⟨aN,cF,cJ,eT,cK⟩:=Qjk bT dA dK dM dU
 have cY:Sl Zh (But (fun _=>True) (.slice none 0 0)) G (.slice np names.length nc) names:=(HN.out.mono (S':=But (fun _=>True) (.slice none 0 0)) (fun b _ h=>⟨trivial,fun e=>by cases e⟩)).below bT
 have cC:=Qq cY
 clear aJ bT dA dK dM cY dU
 go_upto_region 4 with (at_builtin;refine Yr (r:=Zh) Cc Xw rfl (.tmp 14) (.tmp 15) _ rfl 9 i9 (.string ⟨#[]⟩) 16 underlying33 HS.out aU.out aV.out aW.out rfl C7 (fun _=>True) G G (.slice none 0 0) [] [] rfl (Own.nil _ _ _ _ _) (.slice np names.length nc) names rfl cC.out names.length Ca C7 (Q9 _) ?_;intro pa ca cL wa dG dC;have bI:=Qq dG;have aR:=Qq dC;clear dG dC)
 rw [List.nil_append] at bI
 have aM:Below w w wa:=aN.out.thn aR.out.below
 have dR:=aR.out.size
 have cZ:Sl Zd (But (fun b=>S b/\b<w) (.slice none 0 0)) wa (.slice vp vals.length vc) vals:=(HV.out.mono (S':=But (fun b=>S b/\b<w) (.slice none 0 0)) (fun b _ h=>⟨h,fun e=>by cases e⟩)).below aM
 have cD:=Qq cZ;have fB:=Qq aM
 clear cZ aM
 go_upto_region 5 with (at_builtin;refine Yr (r:=Zd) Cc Xx rfl (.tmp 17) (.tmp 18) _ rfl 36 i0 (.agg zV) 80 underlying34 HJ.out aO.out aP.out aQ.out rfl C7 (fun b=>S b/\b<w) G wa (.slice none 0 0) [] [] rfl (Own.nil _ _ _ _ _) (.slice vp vals.length vc) vals rfl cD.out vals.length Ca C7 dR ?_;intro pb cb cM A dH dD;have bJ:=Qq dH;have aS:=Qq dD;clear dH dD)
 rw [List.nil_append] at bJ
 have fD:=aS.out.size
 have aG:Below G G A:=aR.out.below.trans aS.out.below
 have dE:Mk Zh 9 (fun _=>True) G A (.slice pa names.length ca) names.length names:=⟨cL,Fx bI.out (fun b hb _=>aS.out.other b hb (fun e=>by cases e)),rfl,aG⟩
 have dF:Mk Zd 36 (fun b=>(S b/\b<w)\/A<=b) G A (.slice pb vals.length cb) vals.length vals:=⟨cM,bJ.out.weak (Q9 _) (fun b _ h=>.inl h),rfl,aG⟩
 obtain ⟨aE,aT,cE⟩:=Qjq dE dF aG
 clear dE dF aG bI aR bJ aS cC cD
 have dB:=kB cE.out cF.out
 have dL:=kB cE.out cJ.out
 have fF:=cK.out
 obtain ⟨e0,e1,e2,e3,e4,e5,e6,e7,e8⟩:=row9 dB
 obtain ⟨v0,v1,v2,v3,v4⟩:=row5 dL
 refine let_mvar% ?Lq1:=fun w':World=>(Qjh w' w ek (.string cW) en (.string cX) (.slice cT cQ cN) (.slice cU cR cO) (.slice cV cS cP) ea ez ((Qjn w' (w+1) v.kind v.n v.s (.slice Y v.names.length U) (.slice Z v.kids.length V):Prop)):Prop);?_
 have aI:=Qq (fun (w':World) (h:Below G A w')=>(show ?Lq1 w' from ⟨kD h C7 e0,kD h C7 e1,kD h C7 e2,kD h C7 e3,kD h C7 e4,kD h C7 e5,kD h C7 e6,kD h C7 e7,kD h C7 e8,kD h C7 v0,kD h C7 v1,kD h C7 v2,kD h C7 v3,kD h C7 v4⟩))
 have eJ:=Qq (fun (w':World) (o:Obj) (h:?Lq1 w')=>(show ?Lq1 (w'.alloc o) from ⟨kC (Zg w' o) h.1,kC (Zg w' o) h.2.1,kC (Zg w' o) h.2.2.1,kC (Zg w' o) h.2.2.2.1,kC (Zg w' o) h.2.2.2.2.1,kC (Zg w' o) h.2.2.2.2.2.1,kC (Zg w' o) h.2.2.2.2.2.2.1,kC (Zg w' o) h.2.2.2.2.2.2.2.1,kC (Zg w' o) h.2.2.2.2.2.2.2.2.1,kC (Zg w' o) h.2.2.2.2.2.2.2.2.2.1,kC (Zg w' o) h.2.2.2.2.2.2.2.2.2.2.1,kC (Zg w' o) h.2.2.2.2.2.2.2.2.2.2.2.1,kC (Zg w' o) h.2.2.2.2.2.2.2.2.2.2.2.2.1,kC (Zg w' o) h.2.2.2.2.2.2.2.2.2.2.2.2.2⟩))
 have HP:∀ w' x0 x1 x2 x3 x4,?Lq1 w'->?Lq1 (Zi w' (w+1+1) x0 x1 x2 x3 x4):=fun w' x0 x1 x2 x3 x4 h=>⟨Zn C7 h.1,Zn C7 h.2.1,Zn C7 h.2.2.1,Zn C7 h.2.2.2.1,Zn C7 h.2.2.2.2.1,Zn C7 h.2.2.2.2.2.1,Zn C7 h.2.2.2.2.2.2.1,Zn C7 h.2.2.2.2.2.2.2.1,Zn C7 h.2.2.2.2.2.2.2.2.1,Zn C7 h.2.2.2.2.2.2.2.2.2.1,Zn C7 h.2.2.2.2.2.2.2.2.2.2.1,Zn C7 h.2.2.2.2.2.2.2.2.2.2.2.1,Zn C7 h.2.2.2.2.2.2.2.2.2.2.2.2.1,Zn C7 h.2.2.2.2.2.2.2.2.2.2.2.2.2⟩
 unfold Zi at HP
 have eO:=Qq HP
 have eP:=Qq (aI.out A.drew (Qz _ _).drew)
 have eQ:=Qq (fun o=>aI.out (A.alloc o).drew ((Zg A o).mono C7).drew)
 have cI:=Qq (fun o o'=>aI.out ((A.alloc o).alloc o').drew ((Zu A o o').mono C7).drew)
 have bA:∀ g,(Value.slice pa names.length ca).ownBlock=some g->G.heap.size<=g/\g<A.heap.size:=fun g e=>aE.out.lt g e
 have bB:∀ g,(Value.slice pb vals.length cb).ownBlock=some g->G.heap.size<=g/\g<A.heap.size:=fun g e=>aT.out.lt g e
 have cH:=Qq bA;have fE:=Qq bB
 have bO:=Qq (fun (w':World) (b:Nat) (hb:w'.heap[b]?=some (Obj.cells #[nm] 9 (0,0))) (h:A<=b)=>Sp (S:=But (fun _=>True) (.slice pa names.length ca)) hb ⟨trivial,fun e=>by have:=(bA b e.symm).2;omega⟩ hnm)
 have bP:=Qq (fun (w':World) (b:Nat) (hB:Below G G w') (hb:w'.heap[b]?=some (Obj.cells (Cn v Y U Z V) 36 (0,0))) (h:A<=b)=>sl_val1 (S:=But (fun b=>(S b/\b<w)\/A<=b) (.slice pb vals.length cb)) hb ⟨.inr h,fun e=>by have:=(bB b e.symm).2;omega⟩ (eS.out.move (.of_below (aN.out.thn hB)) (fun c _ hc=>⟨.inl hc,fun e=>by have h1:=(bB c e.symm).1;have h2:=hc.2;omega⟩)))
 have dJ:∀ b,(fun b=>(S b/\b<w.heap.size)\/A.heap.size<=b) b->some b≠(Value.slice pa names.length ca).ownBlock:=fun b hb e=>by
  have h1:=bA b e.symm
  rcases hb with h | h
  ·have h2:=h.2;omega
  omega
 have bL:=Qq dJ
 have dS:(36:TypeId)≠9:=Cc
 have bD:(9:TypeId)≠36:=Cc
 have dP:names.length+[nm].length=names.length+1:=rfl
 have dQ:vals.length+[v].length=vals.length+1:=rfl
 obtain ⟨bG,bH,bM,bN,fC⟩:=Qjk dP dQ dS bD hlen
 have bU:names.length+1<=1000000:=C7
 have bV:vals.length+1<=1000000:=C7
 have bE:=Qq bU;have bF:=Qq bV
 have eM:=Qq (fun (W:World) (nv' vv':Value) (hM1:Mk Zh 9 (fun _=>True) G W nv' (names.length+1) (names++[nm])) (hM2:Mk Zd 36 (fun b=>(S b/\b<w)\/A<=b) G W vv' (vals.length+1) (vals++[v]))=>HE.out (fun c=>(S c/\c<w)\/G<=c) (Cp ek cW en cX cT cQ cN cU cR cO cV cS cP ea ez) nv' vv' (names++[nm]) (vals++[v]) W (HX.out.move (.of_below (aN.out.thn hM1.below)) (fun _ _ h=>.inl h)) (by
   obtain ⟨css,h1,h2,h3⟩:=hM1
   exact (Fx (S':=fun b=>G<=b) h1 (fun _ _ _=>rfl)).sl (by rw [h2];exact bU) (fun b hb=>.inr hb) (fun b _ hb=>.inr hb)) (by
   obtain ⟨css,h1,h2,h3⟩:=hM2
   exact h1.sl (by rw [h2];exact bV) (fun b hb=>.inr hb) (fun b _ hb=>by
    rcases hb with h | h
    ·exact .inl h
    exact .inr C7)) (by rw [Ql,Ql];simp;omega) (by rw [Ql];simp;omega) (by
   intro u hu
   rcases Z4.1 hu with h | h
   ·exact HB.out u h
   simp only [Z3,Z2,or_false] at h
   subst h;exact eL.out))
 clear dB dL bA bB dJ dS bD dP dQ bU bV HP e0 e1 e2 e3 e4 e5 e6 e7 e8 v0 v1 v2 v3 v4
 have aX:=Qq (fun (w':World) (h:Below G G w')=>by
  have O:=kB h cF.out
  have aL:=kB h cJ.out
  exact (show ?Lq1 w' from ⟨Qk _ _ 0 _ _ _ O,Qk _ _ 1 _ _ _ O,Qk _ _ 2 _ _ _ O,Qk _ _ 3 _ _ _ O,Qk _ _ 4 _ _ _ O,Qk _ _ 5 _ _ _ O,Qk _ _ 6 _ _ _ O,Qk _ _ 7 _ _ _ O,Qk _ _ 8 _ _ _ O,Qk _ _ 0 _ _ _ aL,Qk _ _ 1 _ _ _ aL,Qk _ _ 2 _ _ _ aL,Qk _ _ 3 _ _ _ aL,Qk _ _ 4 _ _ _ aL⟩))
 go_region_held3 ?Lq1 (first | with_reducible exact eP.out | with_reducible exact T | with_reducible exact eQ.out _ | with_reducible exact cI.out _ _ | with_reducible exact eJ.out _ _ T | with_reducible exact eO.out _ _ _ _ _ _ T)
  (first
   | (refine Xs (r:=Zh) Cc Xw Cb (.tmp 21) (.tmp 23) 33 Cb 9 i9 (.string ⟨#[]⟩) 16 underlying33 HS.out aU.out aV.out aW.out rfl C7 (fun _=>True) G (A.alloc (.cells #[nm] 9)).drew (.slice pa names.length ca) names.length names Cb (aE.out.grow (Zg A (.cells #[nm] 9)).drew) (.slice (some ⟨A,0,none⟩) 1 1) [nm] Cb (bO.out _ _ (Qw A _) C7) (names.length+1) bG.out bE.out ?_;intro p5 c5 w5 aC D;have T:=aI.out w5 (((Zg A (.cells #[nm] 9)).mono C7).drew.trans D.below);have M:=Ou (aT.out.grow (Zg A (.cells #[nm] 9)).drew) (aE.out.grow (Zg A (.cells #[nm] 9)).drew) bM.out D bL.out;obtain ⟨I,aA,cG⟩:=Qjq M aC D;have bX:A.heap.size<=w5.heap.size:=Qc ((Zg A (.cells #[nm] 9)).size) D.size;clear aC D M)
   | (refine Xs (r:=Zh) Cc Xw Cb (.tmp 21) (.tmp 23) 33 Cb 9 i9 (.string ⟨#[]⟩) 16 underlying33 HS.out aU.out aV.out aW.out rfl C7 (fun _=>True) G ((A.alloc (.cells #[nm] 9)).alloc (.cells (Cn v Y U Z V) 36)).drew (.slice pa names.length ca) names.length names Cb (aE.out.grow (Zu A (.cells #[nm] 9) (.cells (Cn v Y U Z V) 36)).drew) (.slice (some ⟨A,0,none⟩) 1 1) [nm] Cb (bO.out _ _ (Q5 A _ _) C7) (names.length+1) bG.out bE.out ?_;intro p5 c5 w5 aC D;have T:=aI.out w5 (((Zu A (.cells #[nm] 9) (.cells (Cn v Y U Z V) 36)).mono C7).drew.trans D.below);have M:=Ou (aT.out.grow (Zu A (.cells #[nm] 9) (.cells (Cn v Y U Z V) 36)).drew) (aE.out.grow (Zu A (.cells #[nm] 9) (.cells (Cn v Y U Z V) 36)).drew) bM.out D bL.out;have bK:=Qq ((D.other (A+1) (by simp;try omega) (fun e=>by have:=(cH.out _ e.symm).2;omega)).trans (Q6 A _ _));obtain ⟨I,aA,cG⟩:=Qjq M aC D;have bX:A.heap.size<=w5.heap.size:=Qc ((Zu A (.cells #[nm] 9) (.cells (Cn v Y U Z V) 36)).size) D.size;clear aC D M)
   | (refine Xs (r:=Zh) Cc Xw Cb (.tmp 21) (.tmp 23) 33 Cb 9 i9 (.string ⟨#[]⟩) 16 underlying33 HS.out aU.out aV.out aW.out rfl C7 (fun _=>True) G ((A.alloc (.cells (Cn v Y U Z V) 36)).alloc (.cells #[nm] 9)).drew (.slice pa names.length ca) names.length names Cb (aE.out.grow (Zu A (.cells (Cn v Y U Z V) 36) (.cells #[nm] 9)).drew) (.slice (some ⟨A+1,0,none⟩) 1 1) [nm] Cb (bO.out _ _ (Q6 A _ _) C7) (names.length+1) bG.out bE.out ?_;intro p5 c5 w5 aC D;have T:=aI.out w5 (((Zu A (.cells (Cn v Y U Z V) 36) (.cells #[nm] 9)).mono C7).drew.trans D.below);have M:=Ou (aT.out.grow (Zu A (.cells (Cn v Y U Z V) 36) (.cells #[nm] 9)).drew) (aE.out.grow (Zu A (.cells (Cn v Y U Z V) 36) (.cells #[nm] 9)).drew) bM.out D bL.out;have bK:=Qq ((D.other A (by simp;try omega) (fun e=>by have:=(cH.out _ e.symm).2;omega)).trans (Q5 A _ _));obtain ⟨I,aA,cG⟩:=Qjq M aC D;have bX:A.heap.size<=w5.heap.size:=Qc ((Zu A (.cells (Cn v Y U Z V) 36) (.cells #[nm] 9)).size) D.size;clear aC D M)
   | (refine Xs (r:=Zd) Cc Xx Cb (.tmp 25) (.tmp 27) 34 Cb 36 i0 (.agg zV) 80 underlying34 HJ.out aO.out aP.out aQ.out rfl C7 (fun b=>(S b/\b<w)\/A<=b) G (w5.alloc (.cells (Cn v Y U Z V) 36)) (.slice pb vals.length cb) vals.length vals Cb (I.out.grow (Zg w5 (.cells (Cn v Y U Z V) 36))) (.slice (some ⟨w5,0,none⟩) 1 1) [v] Cb (bP.out _ _ (aA.out.grow (Zg w5 (.cells (Cn v Y U Z V) 36))).below (Qw _ _) (bX)) (vals.length+1) bH.out bF.out ?_;intro p6 c6 w6 N aB;have J:=Px (aA.out.grow (Zg w5 (.cells (Cn v Y U Z V) 36))) (I.out.grow (Zg w5 (.cells (Cn v Y U Z V) 36))) bN.out aB;have T:=aX.out w6 N.below;have aH:=Qq N;have aK:=Qq J;clear N aB J)
   | (refine Xs (r:=Zd) Cc Xx Cb (.tmp 25) (.tmp 27) 34 Cb 36 i0 (.agg zV) 80 underlying34 HJ.out aO.out aP.out aQ.out rfl C7 (fun b=>(S b/\b<w)\/A<=b) G w5 (.slice pb vals.length cb) vals.length vals Cb (I.out) (.slice (some ⟨A+1,0,none⟩) 1 1) [v] Cb (bP.out _ _ (aA.out).below (bK.out) C7) (vals.length+1) bH.out bF.out ?_;intro p6 c6 w6 N aB;have J:=Px (aA.out) (I.out) bN.out aB;have T:=aX.out w6 N.below;have aH:=Qq N;have aK:=Qq J;clear N aB J)
   | (refine Xs (r:=Zd) Cc Xx Cb (.tmp 25) (.tmp 27) 34 Cb 36 i0 (.agg zV) 80 underlying34 HJ.out aO.out aP.out aQ.out rfl C7 (fun b=>(S b/\b<w)\/A<=b) G w5 (.slice pb vals.length cb) vals.length vals Cb (I.out) (.slice (some ⟨A,0,none⟩) 1 1) [v] Cb (bP.out _ _ (aA.out).below (bK.out) (Q9 _)) (vals.length+1) bH.out bF.out ?_;intro p6 c6 w6 N aB;have J:=Px (aA.out) (I.out) bN.out aB;have T:=aX.out w6 N.below;have aH:=Qq N;have aK:=Qq J;clear N aB J)
   | (go_at_call 109;refine (eM.out _ _ _ aK.out aH.out).mono ?_;rintro e w7 ⟨k7,n7,s7,eD,eB,dZ,eE,eC,eA,b7,rfl,dT,dN⟩;have aF:Below G G w7:=aH.out.below.trans (dN.mono aH.out.below.size);have T:=aX.out w7 aF;have bC:G.heap.size<=w6.heap.size:=aH.out.below.size;have aY:=kB aF eT.out;obtain ⟨y0,y1,y2,y3,y4⟩:=row5 aY;obtain ⟨f0,f1,f2,f3,f4⟩:=frz5 aY;obtain ⟨eU,eR,eK,dI⟩:=Qjz aY dT aF bC;clear dT dN aF aY bC))
 all_goals
  go_wp2_with fail
  show bodyPost _ _ _ _ _ (Zi w7 (w+1+1) k7 n7 (.string s7) (.slice eD eB dZ) (.slice eE eC eA))
  refine Q7 (v:=.tuple #[.agg #[k7,n7,.string s7,.slice eD eB dZ,.slice eE eC eA],.bool b7]) (by simp [results,results152,go_sem,Ze eU.out]) rfl (Ka C7 (aN.out.thn eK.out) (fun hb=>by
   obtain ⟨u,h1,h2⟩:=eR.out hb
   refine ⟨u,h1.move (.refl _ _) (fun c _ hc=>?_),h2⟩
   have hz:=cK.out
   rcases hc with (hc | hc) | hc
   ·exact .inl hc
   ·exact .inr C7
   exact .inr (by have:=dI.out;have h':w6.heap.size<=c:=hc;omega)))
theorem Z9.head {S:Nat->Prop} {w:World} {k n:Int} {s:ByteArray} {p3:Option Addr} {n3 k3:Nat} {p4:Option Addr} {n4 k4:Nat} {v:Val} (h:Z9 S w [k,n,.string s,.slice p3 n3 k3,.slice p4 n4 k4] v):v.kind=k/\v.n=n/\v.kids.length=n4:=by
 obtain ⟨a,b,c,d,e,_⟩:=Z9.cells h
 simp only [vcs,List.cons.injEq,Value.int.injEq,Qr,true_and,and_true] at e
 obtain ⟨h1,h2,_,_,h5⟩:=e
 exact ⟨h1.symm,h2.symm,h5.2.1.symm⟩
theorem C0 (nm:Bs) (n:Int) (s:Bs) (names binds:List Bs) (kids:List Ex) (a z:Int) (d:Nat) (ih:∀ x ∈ kids,Xl d x) (h2:kids.length=2):∀ (S:Nat->Prop) (ce:List Value) (nv vv:Value) (ns:List Bs) (vs:List Val) (w:World),Yx S w ce (.mk 11 nm n s names binds kids a z)->Sl Zh S w nv ns->Sl Zd S w vv vs->ns.length<=vs.length->vs.length+(d+1)<=1000->(∀ v ∈ vs,Y0 v) ->
  Calls prog 109 #[ce,nv,vv] w (Vj S w):=by
 intro S ce nv vv ns vs w N cH cJ bI hd hb
 have hx:Yx (fun b=>S b/\b<w) w ce (.mk 11 nm n s names binds kids a z):=N.move (.refl _ _) (fun b hb h=>⟨h,hb⟩)
 have hn:=cH.up
 have hv:=cJ.up
 obtain ⟨np,nc,rfl,_⟩:=hn.len
 obtain ⟨vp,vc,rfl,fS⟩:=hv.len
 have fA:=Qq hx
 obtain ⟨fV,bv,kv,rfl,eP,fR,bR,bP,hk⟩:=Yy.1 hx
 obtain ⟨p1,c1,rfl,_⟩:=bR.len
 obtain ⟨p2,c2,rfl,_⟩:=bP.len
 obtain ⟨p3,c3,rfl,fQ⟩:=hk.len
 obtain ⟨HN,HV,bK,eZ,eW,HK,HI,aF⟩:=Qjy hn hv hb bR bP hk ih bI
 clear N cH cJ hx hn hv bR bP hk hb ih bI
 unfold sv at *
 rw [h2] at HK |-
 obtain ⟨x0,N⟩:∃ x,kids[0]?=some x:=⟨_,Qx C7⟩
 obtain ⟨G,J,fF,fH,fG,fI,fB,fK,fN,fC,fL,fO,fD,fM,fP,fE,fJ,cI,bG,aJ,aM,aN,aO,aP,aQ,aR,aS,aT,aU⟩:=HK.out.ex N
 subst cI
 simp only [Nat.zero_mul,Nat.add_zero] at aM aN aO aP aQ aR aS aT aU
 have dJ:=Qq (fun W (hW:Below w w W)=>HI.out x0 (Qy N) (fun b=>S b/\b<w) _ _ _ ns vs W (aJ.move (.of_below hW) Qje) (HN.out.below hW) (HV.out.below hW) aF.out C7 bK.out)
 have eU:=Qq aJ;have eY:=Qq (Qy N)
 have dH:=Qq (Qe bG (Qe aM (Qe aN (Qe aO (Qe aP (Qe aQ (Qe aR (Qe aS (Qe aT aU)))))))))
 clear aJ N bG aM aN aO aP aQ aR aS aT aU
 obtain ⟨x1,aX⟩:∃ x,kids[1]?=some x:=⟨_,Qx C7⟩
 obtain ⟨fT,fU,eC,eE,eD,eF,dY,eH,eK,dZ,eI,eL,eA,eJ,eM,eB,eG,bJ,bH,aK,T,U,V,Y,Z,aA,aB,aC,aD⟩:=HK.out.ex aX
 simp only [Zv,Addr.mk.injEq,and_true] at bJ
 obtain ⟨rfl,rfl⟩:=bJ
 simp only [Nat.one_mul] at T U V Y Z aA aB aC aD
 have eX:=Qq (fun W (hW:Below w w W)=>HI.out x1 (Qy aX) (fun b=>S b/\b<w) _ _ _ ns vs W (aK.move (.of_below hW) Qje) (HN.out.below hW) (HV.out.below hW) aF.out C7 bK.out)
 have bX:=Qq aK;have dM:=Qq (Qy aX)
 have bT:=Qq (Qe bH (Qe T (Qe U (Qe V (Qe Y (Qe Z (Qe aA (Qe aB (Qe aC aD)))))))))
 clear aK aX bH T U V Y Z aA aB aC aD
 go_enter func109,ntmps109
 go_upto_region 16 with fail
 generalize aV:(w.alloc _).alloc _=W1
 have cD:=eqB aV (Zu _ _ _)
 have cC:=eqH (b:=w.heap.size) aV (Q5 _ _ _)
 have bN:=eqH (b:=w.heap.size+1) aV (Q6 _ _ _)
 obtain ⟨A,bL,bY⟩:=Qjq cD cC bN
 have bQ:=Z8 bN
 clear aV cD cC bN
 have bF:=((Qq (Qz W1 W1)).out.block _ (Z8 bL.out)).trans bL.out
 have c6:=rA6 bF
 clear bF
 obtain ⟨M,q0,q1,q2,q3,q4,q5,q6,q7,q8⟩:=dH.out
 have aM:=kD A.out M q0;have aN:=kD A.out M q1;have aO:=kD A.out M q2;have aP:=kD A.out M q3;have aQ:=kD A.out M q4;have aR:=kD A.out M q5;have aS:=kD A.out M q6;have aT:=kD A.out M q7;have aU:=kD A.out M q8
 clear M q0 q1 q2 q3 q4 q5 q6 q7 q8
 go_upto_region 17 with (go_at_call 109;refine (dJ.out _ A.out).mono ?_;rintro e w5 ⟨k5,n5,s5,bC,bA,aY,bD,bB,aZ,b5,rfl,cK,cE⟩;have dS:=Qq cK;have bU:=Qq cE;clear cK cE)
 generalize bM:w5.alloc _=W6
 have bO:=eqB bM (Zg _ _)
 have cB:=eqH (b:=w5.heap.size) bM (Qw _ _)
 obtain ⟨D,bE,bW⟩:=Qjq (bU.out.thn bO) cB bO
 clear bM bO cB
 have eV:w.heap.size+1<W6.heap.size:=C8 D.out.size
 cases b5 with
 | false=>
  obtain ⟨v0,v1,v2,v3,v4⟩:=row5 bE.out
  have O:=kE D.out bQ bY.out
  obtain ⟨y0,y1,y2,y3,y4⟩:=row5 O
  obtain ⟨f0,f1,f2,f3,f4⟩:=frz5 O
  have bZ:=Qq O
  clear O
  go_wp2_with fail
  show bodyPost _ _ _ _ _ (Zi W6 (w+1) k5 n5 (.string s5) (.slice bC bA aY) (.slice bD bB aZ))
  refine Q7 (v:=.tuple #[.agg #[k5,n5,.string s5,.slice bC bA aY,.slice bD bB aZ],.bool false]) (by simp [results,results109,go_sem,Ze bZ.out]) rfl (Xr C7 (A.out.thn D.out))
 | true=>
  obtain ⟨v,cN,cM⟩:=dS.out rfl
  have hE:=Qq (fun W (hW:Below W6 W6 W)=>Ev d x1 (HI.out x1 dM.out) (fun c=>(S c/\c<w)\/W1<=c) _ _ _ ns vs nm v [k5,n5,.string s5,.slice bC bA aY,.slice bD bB aZ] W (bX.out.move (.of_below (A.out.thn (D.out.thn hW))) (fun _ _ h=>.inl h)) ((HN.out.below (A.out.thn (D.out.thn hW))).mono (fun _ _ h=>.inl h)) ((HV.out.below (A.out.thn (D.out.thn hW))).mono (fun _ _ h=>.inl h)) aF.out C7 bK.out eP (cN.move (.of_below (bW.out.thn hW)) Qje) cM)
  unfold sv at hE
  clear cN cM
  go_upto_region 19 with fail
  have aG:=kB D.out bL.out
  have c1:=rA1 aG;have c6:=rA6 aG
  clear aG
  obtain ⟨v0,v1,v2,v3,v4⟩:=row5 bE.out
  obtain ⟨M,q0,q1,q2,q3,q4,q5,q6,q7,q8⟩:=bT.out
  have T:=kD (A.out.thn D.out) M q0;have U:=kD (A.out.thn D.out) M q1;have V:=kD (A.out.thn D.out) M q2;have Y:=kD (A.out.thn D.out) M q3;have Z:=kD (A.out.thn D.out) M q4;have aA:=kD (A.out.thn D.out) M q5;have aB:=kD (A.out.thn D.out) M q6;have aC:=kD (A.out.thn D.out) M q7;have aD:=kD (A.out.thn D.out) M q8
  clear M q0 q1 q2 q3 q4 q5 q6 q7 q8
  have I:G≠w.heap.size+1:=by have:=bT.out.1;omega
  have aE:w5≠w.heap.size+1:=C8 bU.out.size
  refine let_mvar% ?Lq1:=fun w':World=>Cf w' w 1 nm/\Cf w' w 6 (Cg G J 2 c3)/\Cf w' G (J+9) eC/\Cf w' G (J+9+1) (.string eE)/\Cf w' G (J+9+2) eD/\Cf w' G (J+9+3) (.string eF)/\Cf w' G (J+9+4) (.slice dY eH eK)/\Cf w' G (J+9+5) (.slice dZ eI eL)/\Cf w' G (J+9+6) (.slice eA eJ eM)/\Cf w' G (J+9+7) eB/\Cf w' G (J+9+8) eG/\Qjn w' w5 k5 n5 (.string s5) (.slice bC bA aY) (.slice bD bB aZ);?_
  have bV:=Qq (fun (w':World) (h:Below W6 W6 w')=>(show ?Lq1 w' from ⟨kC h c1,kC h c6,kC h T,kC h U,kC h V,kC h Y,kC h Z,kC h aA,kC h aB,kC h aC,kC h aD,kC h v0,kC h v1,kC h v2,kC h v3,kC h v4⟩))
  have HP:∀ w' x0 x1 x2 x3 x4,?Lq1 w'->?Lq1 (Zi w' (w+1) x0 x1 x2 x3 x4):=fun w' x0 x1 x2 x3 x4 h=>⟨Zn C7 h.1,Zn C7 h.2.1,Zn I h.2.2.1,Zn I h.2.2.2.1,Zn I h.2.2.2.2.1,Zn I h.2.2.2.2.2.1,Zn I h.2.2.2.2.2.2.1,Zn I h.2.2.2.2.2.2.2.1,Zn I h.2.2.2.2.2.2.2.2.1,Zn I h.2.2.2.2.2.2.2.2.2.1,Zn I h.2.2.2.2.2.2.2.2.2.2.1,Zn aE h.2.2.2.2.2.2.2.2.2.2.2.1,Zn aE h.2.2.2.2.2.2.2.2.2.2.2.2.1,Zn aE h.2.2.2.2.2.2.2.2.2.2.2.2.2.1,Zn aE h.2.2.2.2.2.2.2.2.2.2.2.2.2.2.1,Zn aE h.2.2.2.2.2.2.2.2.2.2.2.2.2.2.2⟩
  unfold Zi at HP
  have dQ:=Qq (bV.out W6.drew (Qz _ _).drew);have dP:=Qq HP
  clear HP I aE c1 c6 T U V Y Z aA aB aC aD v0 v1 v2 v3 v4
  go_region_held3 ?Lq1 (first | with_reducible exact dQ.out | with_reducible exact cA | with_reducible exact dP.out _ _ _ _ _ _ cA)
   (first
    | (go_at_call 152;refine (hE.out _ (Qz _ _).drew).mono ?_;rintro e w7 ⟨k7,n7,s7,cW,cQ,cO,cY,cR,cP,b7,rfl,cL,cF⟩;have aI:=(Qz _ W6).drew.thn cF;have cA:=bV.out w7 aI;have aH:=D.out.thn aI;have aW:=kE (aH) bQ bY.out;obtain ⟨y0,y1,y2,y3,y4⟩:=row5 aW;obtain ⟨f0,f1,f2,f3,f4⟩:=frz5 aW;have dU:=Qq aW;clear aW;have dT:=Qq cL;have dI:=Qq aH;clear cL cF aH aI))
  all_goals
   go_wp2_with fail
   show bodyPost _ _ _ _ _ (Zi w7 (w+1) k7 n7 (.string s7) (.slice cW cQ cO) (.slice cY cR cP))
   refine Q7 (v:=.tuple #[.agg #[k7,n7,.string s7,.slice cW cQ cO,.slice cY cR cP],.bool b7]) (by simp [results,results109,go_sem,Ze dU.out]) rfl (Ui A.out C7 bQ (fun hb=>by
     obtain ⟨v,h1,h2⟩:=dT.out hb
     refine ⟨v,h1.move (.refl _ _) (fun c _ hc=>?_),h2⟩
     rcases hc with hc | hc
     ·exact hc
     exact .inr (by have:=D.out.size;have h':W6.heap.size<=c:=hc;omega)) dI.out)
theorem reval_if (nm:Bs) (n:Int) (s:Bs) (names binds:List Bs) (kids:List Ex) (a z:Int) (d:Nat) (ih:∀ x ∈ kids,Xl d x) (h2:kids.length=3):∀ (S:Nat->Prop) (ce:List Value) (nv vv:Value) (ns:List Bs) (vs:List Val) (w:World),Yx S w ce (.mk 12 nm n s names binds kids a z)->Sl Zh S w nv ns->Sl Zd S w vv vs->ns.length<=vs.length->vs.length+(d+1)<=1000->(∀ v ∈ vs,Y0 v) ->
  Calls prog 109 #[ce,nv,vv] w (Vj S w):=by
 intro S ce nv vv ns vs w O dB dD bZ hd hb
 have hx:Yx (fun b=>S b/\b<w) w ce (.mk 12 nm n s names binds kids a z):=O.move (.refl _ _) (fun b hb h=>⟨h,hb⟩)
 have hn:=dB.up
 have hv:=dD.up
 obtain ⟨np,nc,rfl,_⟩:=hn.len
 obtain ⟨vp,vc,rfl,gU⟩:=hv.len
 have eX:=Qq hx
 obtain ⟨hB,bv,kv,rfl,gS,gT,cU,cT,hk⟩:=Yy.1 hx
 obtain ⟨p1,c1,rfl,_⟩:=cU.len
 obtain ⟨p2,c2,rfl,_⟩:=cT.len
 obtain ⟨p3,c3,rfl,gR⟩:=hk.len
 obtain ⟨HN,HV,cN,eW,eS,HK,HI,T⟩:=Qjy hn hv hb cU cT hk ih bZ
 clear O dB dD hx hn hv cU cT hk hb ih bZ
 unfold sv at *
 rw [h2] at HK |-
 obtain ⟨x0,O⟩:∃ x,kids[0]?=some x:=⟨_,Qx C7⟩
 obtain ⟨gV,gY,fK,fQ,fN,fT,eY,fZ,gI,fB,gC,gL,fE,gF,gO,fH,fW,dC,bW,aH,V,Y,Z,aA,aB,aC,aD,aE,aF⟩:=HK.out.ex O
 subst dC
 simp only [Nat.zero_mul,Nat.add_zero] at V Y Z aA aB aC aD aE aF
 have dR:=Qq (fun W (hW:Below w w W)=>HI.out x0 (Qy O) (fun b=>S b/\b<w) _ _ _ ns vs W (aH.move (.of_below hW) Qje) (HN.out.below hW) (HV.out.below hW) T.out C7 cN.out)
 have eP:=Qq aH;have eT:=Qq (Qy O)
 have dN:=Qq (Qe bW (Qe V (Qe Y (Qe Z (Qe aA (Qe aB (Qe aC (Qe aD (Qe aE aF)))))))))
 clear aH O bW V Y Z aA aB aC aD aE aF
 obtain ⟨x1,bM⟩:∃ x,kids[1]?=some x:=⟨_,Qx C7⟩
 obtain ⟨gW,gZ,fL,fR,fO,fU,eZ,gA,gJ,fC,gD,gM,fF,gG,gP,fI,fX,cB,bX,aI,aS,aU,aW,aY,bA,bC,bE,bG,bI⟩:=HK.out.ex bM
 simp only [Zv,Addr.mk.injEq,and_true] at cB
 obtain ⟨rfl,rfl⟩:=cB
 simp only [Nat.one_mul] at aS aU aW aY bA bC bE bG bI
 have dS:=Qq (fun W (hW:Below w w W)=>HI.out x1 (Qy bM) (fun b=>S b/\b<w) _ _ _ ns vs W (aI.move (.of_below hW) Qje) (HN.out.below hW) (HV.out.below hW) T.out C7 cN.out)
 have eQ:=Qq aI;have eU:=Qq (Qy bM)
 have dO:=Qq (Qe bX (Qe aS (Qe aU (Qe aW (Qe aY (Qe bA (Qe bC (Qe bE (Qe bG bI)))))))))
 clear aI bM bX aS aU aW aY bA bC bE bG bI
 obtain ⟨x2,bN⟩:∃ x,kids[2]?=some x:=⟨_,Qx C7⟩
 obtain ⟨gX,hA,fM,fS,fP,fV,fA,gB,gK,fD,gE,gN,fG,gH,gQ,fJ,fY,cC,bY,aJ,aT,aV,aX,aZ,bB,bD,bF,bH,bJ⟩:=HK.out.ex bN
 simp only [Zv,Addr.mk.injEq,and_true] at cC
 obtain ⟨rfl,rfl⟩:=cC
 simp only [Nat.reduceMul] at aT aV aX aZ bB bD bF bH bJ
 have dT:=Qq (fun W (hW:Below w w W)=>HI.out x2 (Qy bN) (fun b=>S b/\b<w) _ _ _ ns vs W (aJ.move (.of_below hW) Qje) (HN.out.below hW) (HV.out.below hW) T.out C7 cN.out)
 have eR:=Qq aJ;have eV:=Qq (Qy bN)
 have dP:=Qq (Qe bY (Qe aT (Qe aV (Qe aX (Qe aZ (Qe bB (Qe bD (Qe bF (Qe bH bJ)))))))))
 clear aJ bN bY aT aV aX aZ bB bD bF bH bJ
 go_enter func109,ntmps109
 go_upto_region 21 with fail
 generalize bK:(w.alloc _).alloc _=W1
 have cZ:=eqB bK (Zu _ _ _)
 have cY:=eqH (b:=w.heap.size) bK (Q5 _ _ _)
 have cR:=eqH (b:=w.heap.size+1) bK (Q6 _ _ _)
 obtain ⟨A,aQ,aR⟩:=Qjq cZ cY cR
 have bL:=Z8 cR
 clear bK cZ cY cR
 have bV:=((Qq (Qz W1 W1)).out.block _ (Z8 aQ.out)).trans aQ.out
 have c6:=rA6 bV
 clear bV
 obtain ⟨G,q0,q1,q2,q3,q4,q5,q6,q7,q8⟩:=dN.out
 have V:=kD A.out G q0;have Y:=kD A.out G q1;have Z:=kD A.out G q2;have aA:=kD A.out G q3;have aB:=kD A.out G q4;have aC:=kD A.out G q5;have aD:=kD A.out G q6;have aE:=kD A.out G q7;have aF:=kD A.out G q8
 clear G q0 q1 q2 q3 q4 q5 q6 q7 q8
 go_upto_region 22 with (go_at_call 109;refine (dR.out _ A.out).mono ?_;rintro e w5 ⟨k5,n5,s5,bS,bQ,bO,bT,bR,bP,b5,rfl,dE,dA⟩;have dX:=Qq dE;have dQ:=Qq dA;clear dE dA)
 generalize cQ:w5.alloc _=W6
 have cS:=eqB cQ (Zg _ _)
 have cX:=eqH (b:=w5.heap.size) cQ (Qw _ _)
 obtain ⟨D,bU,eO⟩:=Qjq (dQ.out.thn cS) cX cS
 clear cQ cS cX
 have cA:w.heap.size+1<W6.heap.size:=C8 D.out.size
 clear c6 V Y Z aA aB aC aD aE aF
 obtain ⟨v0,v1,v2,v3,v4⟩:=row5 bU.out
 have eI:b5=false\/(b5=true/\(k5 != 2)=true)\/(b5=true/\k5=2):=by
  cases b5 with
  | false=>exact .inl rfl
  | true=>
   by_cases h:k5=2
   ·exact .inr (.inr ⟨rfl,h⟩)
   exact .inr (.inl ⟨rfl,by simpa using h⟩)
 rcases eI with rfl | ⟨rfl,hq⟩ | ⟨rfl,rfl⟩
 ·clear v0 v1 v2 v3 v4
  obtain ⟨v0,v1,v2,v3,v4⟩:=row5 bU.out
  have I:=kE D.out bL aR.out
  obtain ⟨y0,y1,y2,y3,y4⟩:=row5 I
  obtain ⟨f0,f1,f2,f3,f4⟩:=frz5 I
  have U:=Qq I
  clear I
  go_wp2_with fail
  show bodyPost _ _ _ _ _ (Zi W6 (w+1) k5 n5 (.string s5) (.slice bS bQ bO) (.slice bT bR bP))
  refine Q7 (v:=.tuple #[.agg #[k5,n5,.string s5,.slice bS bQ bO,.slice bT bR bP],.bool false]) (by simp [results,results109,go_sem,Ze U.out]) rfl (Xr C7 (A.out.thn D.out))
 ·skip
  have I:=kE D.out bL aR.out
  obtain ⟨y0,y1,y2,y3,y4⟩:=row5 I
  obtain ⟨f0,f1,f2,f3,f4⟩:=frz5 I
  have U:=Qq I
  clear I
  go_wp2_with fail
  show bodyPost _ _ _ _ _ (Zi W6 (w+1) k5 n5 (.string s5) (.slice bS bQ bO) (.slice bT bR bP))
  refine Q7 (v:=.tuple #[.agg #[k5,n5,.string s5,.slice bS bQ bO,.slice bT bR bP],.bool false]) (by simp [results,results109,go_sem,Ze U.out]) rfl (Xr C7 (A.out.thn D.out))
 obtain ⟨v,dG,dF⟩:=dX.out rfl
 have eH:n5=0\/n5=1:=by
  obtain ⟨h1,h2,_⟩:=dG.head
  rw [<- h2];exact dF.bool h1
 clear dG dF
 have hq:((2:Int) != 2)=false:=rfl
 rcases eH with rfl | rfl
 focus
  have M:=kB D.out aQ.out
  have c6:=rA6 M
  clear M
  obtain ⟨G,q0,q1,q2,q3,q4,q5,q6,q7,q8⟩:=dP.out
  have aT:=kD (A.out.thn D.out) G q0;have aV:=kD (A.out.thn D.out) G q1;have aX:=kD (A.out.thn D.out) G q2;have aZ:=kD (A.out.thn D.out) G q3;have bB:=kD (A.out.thn D.out) G q4;have bD:=kD (A.out.thn D.out) G q5;have bF:=kD (A.out.thn D.out) G q6;have bH:=kD (A.out.thn D.out) G q7;have bJ:=kD (A.out.thn D.out) G q8
  clear G q0 q1 q2 q3 q4 q5 q6 q7 q8
  go_wp2_with (go_at_call 109;refine (dT.out _ (A.out.thn D.out)).mono ?_;rintro e w7 ⟨k7,n7,s7,aO,aM,aK,aP,aN,aL,b7,rfl,aG,N⟩;have J:=kE (D.out.thn N) bL aR.out;obtain ⟨y0,y1,y2,y3,y4⟩:=row5 J;obtain ⟨f0,f1,f2,f3,f4⟩:=frz5 J;have cP:=Qq J;clear J;have cO:=Qq aG;have cM:=Qq N;clear aG N)
  show bodyPost _ _ _ _ _ (Zi w7 (w+1) k7 n7 (.string s7) (.slice aO aM aK) (.slice aP aN aL))
  refine Q7 (v:=.tuple #[.agg #[k7,n7,.string s7,.slice aO aM aK,.slice aP aN aL],.bool b7]) (by simp [results,results109,go_sem,Ze cP.out]) rfl (Ui (A.out.thn D.out) C7 cA cO.out cM.out)
 focus
  have M:=kB D.out aQ.out
  have c6:=rA6 M
  clear M
  obtain ⟨G,q0,q1,q2,q3,q4,q5,q6,q7,q8⟩:=dO.out
  have aS:=kD (A.out.thn D.out) G q0;have aU:=kD (A.out.thn D.out) G q1;have aW:=kD (A.out.thn D.out) G q2;have aY:=kD (A.out.thn D.out) G q3;have bA:=kD (A.out.thn D.out) G q4;have bC:=kD (A.out.thn D.out) G q5;have bE:=kD (A.out.thn D.out) G q6;have bG:=kD (A.out.thn D.out) G q7;have bI:=kD (A.out.thn D.out) G q8
  clear G q0 q1 q2 q3 q4 q5 q6 q7 q8
  go_wp2_with (go_at_call 109;refine (dS.out _ (A.out.thn D.out)).mono ?_;rintro e w7 ⟨k7,n7,s7,aO,aM,aK,aP,aN,aL,b7,rfl,aG,N⟩;have J:=kE (D.out.thn N) bL aR.out;obtain ⟨y0,y1,y2,y3,y4⟩:=row5 J;obtain ⟨f0,f1,f2,f3,f4⟩:=frz5 J;have cP:=Qq J;clear J;have cO:=Qq aG;have cM:=Qq N;clear aG N)
  show bodyPost _ _ _ _ _ (Zi w7 (w+1) k7 n7 (.string s7) (.slice aO aM aK) (.slice aP aN aL))
  refine Q7 (v:=.tuple #[.agg #[k7,n7,.string s7,.slice aO aM aK,.slice aP aN aL],.bool b7]) (by simp [results,results109,go_sem,Ze cP.out]) rfl (Ui (A.out.thn D.out) C7 cA cO.out cM.out)
end Go.Proofs.YtcljcblceodciaaGreatDoor

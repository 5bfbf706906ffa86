import Derived.Test.YtdpibdpbgokmoaaGreatDoorC27
import Derived.Test.YtdpibdpbgokmoaaGreatDoorC18
set_option maxRecDepth 100000
set_option maxHeartbeats 400000000
namespace Go.Proofs.YtdpibdpbgokmoaaGreatDoor
open Go.RowKit Go.Shelf Go.Lib Tryz
theorem cs_str {S S':Nat→Prop} {w w':World} {css:List (List Value)} {xs:List Bs} (h:Cs Zh S w css xs):Cs Zh S' w' css xs:=⟨h.len,fun i c x hc hx=>h.R i c x hc hx⟩
theorem Gj {E:TypeId} {S S':Nat→Prop} {B:Nat} {w w':World} {v:Value} {xs:List Bs} {css:List (List Value)} (h:Own Zh E S B w v xs css) (hA:∀ b,b<w.heap.size→v.ownBlock=some b→w'.heap[b]?=w.heap[b]?):Own Zh E S' B w' v xs css:=
 ⟨Uh h.row hA,cs_str h.cs⟩
theorem St {E E':TypeId} {r':Rd Val} {S0 S0':Nat→Prop} {W0 w w6:World} {v v' v1':Value} {n n':Nat} {xs:List Bs} {xs':List Val} (h:Mk Zh E S0 W0 w v n xs) (h':Mk r' E' S0' W0 w v' n' xs') (hne:E≠E') (hL:Lx W0 w w6 v' v1'):Mk Zh E S0 W0 w6 v n xs:=by
 obtain ⟨css,h1,h2,h3⟩:=h
 obtain ⟨A,g1,_,_⟩:=h'
 exact ⟨css,Gj h1 (fun b hb hv=>hL.other b hb (fun e=>Ym h1.row g1.row hne hv e.symm)),h2,h3.trans hL.below⟩
theorem T3 {E E':TypeId} {r:Rd Val} {r':Rd Bs} {S0 S0':Nat→Prop} {W0 w w6:World} {v v' v1':Value} {n n':Nat} {xs:List Val} {xs':List Bs} (h:Mk r E S0 W0 w v n xs) (h':Mk r' E' S0' W0 w v' n' xs') (hne:E≠E') (hL:Lx W0 w w6 v' v1') (hS:∀ b,S0 b→some b≠v'.ownBlock):Mk r E S0 W0 w6 v n xs:=by
 obtain ⟨css,h1,h2,h3⟩:=h
 obtain ⟨D,g1,_,_⟩:=h'
 refine ⟨css,h1.move (Q9 _) (fun b hb A=>hL.other b hb (fun e=>?_)),h2,h3.trans hL.below⟩
 rcases A with A | A
 ·exact hS b A e
 exact Ym h1.row g1.row hne A e.symm
theorem Zm {W:World} {R b j:Nat} {x0 x1 x2 x3 x4 u:Value} (h:b≠R) (hc:W.cell? ⟨b,j,none⟩=some u):(Zl W R x0 x1 x2 x3 x4).cell? ⟨b,j,none⟩=some u:=(World.cell?_of_block (Zf h)).trans hc
theorem sl_val1 {S:Nat→Prop} {w:World} {b:Nat} {c0 c1 c2 c3 c4:Value} {x:Val} (hb:w.heap[b]?=some (.cells #[c0,c1,c2,c3,c4] 36 (0,0))) (hS:S b) (hx:Z9 S w [c0,c1,c2,c3,c4] x):Sl Ze S w (.slice (some ⟨b,0,none⟩) 1 1) [x]:=
 Y4 hb hS (Cs.one (r:=Ze) hx) rfl rfl Qqk
theorem En (d:Nat) (e:Ex) (he:Xn d e) (S:Nat→Prop) (ce:List Value) (nv vv:Value) (names:List Bs) (vals:List Val) (nm:Bs) (v:Val) (cv:List Value) (w:World) (hx0:Yv S w ce e) (hn0:Sl Zh S w nv names) (hv0:Sl Ze S w vv vals) (hlen:names.length≤vals.length) (hd:vals.length+(d+1)≤1000) (hb:∀ v ∈ vals,Y3 v) (hnm:nm.length≤1000000) (hvv:Z9 S w cv v) (hbv:Y3 v):
  Calls prog 145 #[ce,nv,vv,sv nm,cv] w (X6 S w (Y1 d e (names++[nm]) (vals++[v]))):=by
 have hx:Yv (fun b=>S b∧b<w) w ce e:=hx0.move (.refl _ _) (fun b hb h=>⟨h,hb⟩)
 have hn:=hn0.up
 have hv:=hv0.up
 have bV:Z9 (fun b=>S b∧b<w) w cv v:=hvv.move (.refl _ _) (fun b hb h=>⟨h,hb⟩)
 obtain ⟨np,nc,rfl,_⟩:=hn.len
 obtain ⟨vp,vc,rfl,_⟩:=hv.len
 obtain ⟨Y,U,Z,V,dO,_⟩:=Z9.cells bV
 have eS:=Qq bV
 simp only [vcs] at dO
 subst dO
 obtain ⟨ek,cV,en,cW,cS,cP,cM,cT,cQ,cN,cU,cR,cO,ea,ez,eV⟩:=Yv.cells hx
 have HX:=Qq hx
 subst eV
 obtain ⟨HN,HV,HE,HB,eL⟩:=Qqr hn hv he hb hbv
 clear hx0 hn0 hv0 hvv hx hn hv bV he hb hbv
 obtain ⟨i0,j1,j2,j3,j4⟩:=Y9 (P:=prog) (t:=36) (z:=.agg zV) (n:=5) (b:=80) Qqy
 obtain ⟨HJ,aO,aP,aQ⟩:=Qqp j1 j2 j3 j4
 clear j1 j2 j3 j4
 obtain ⟨i9,j1,j2,j3,j4⟩:=Y9 (P:=prog) (t:=9) (z:=.string ⟨#[]⟩) (n:=1) (b:=16) Qqy
 obtain ⟨HS,aU,aV,aW⟩:=Qqp j1 j2 j3 j4
 clear j1 j2 j3 j4
 unfold sv
 go_enter func145,ntmps145
 go_upto_region 3 with fail
 generalize aJ:((w.alloc _).alloc _).alloc _=G
 have bS:=eqB aJ (Xm _ _ _ _)
 have dU:G=w.heap.size+3:=by rw [← aJ];simp
 have dA:=eqH (b:=w.heap.size) aJ (Zp _ _ _ _)
 have dK:=eqH (b:=w.heap.size+1) aJ (Zo _ _ _ _)
 have dM:=eqH (b:=w.heap.size+1+1) aJ (Zi _ _ _ _)
 obtain ⟨aN,cE,cI,eT,cJ⟩:=Qqr bS dA dK dM dU
 have cY:Sl Zh (But (fun _=>True) (.slice none 0 0)) G (.slice np names.length nc) names:=(HN.out.mono (S':=But (fun _=>True) (.slice none 0 0)) (fun b _ h=>⟨trivial,fun e=>by cases e⟩)).below bS
 have cB:=Qq cY
 clear aJ bS dA dK dM cY dU
 go_upto_region 4 with (at_builtin;refine Xj (r:=Zh) Qqx Xx rfl (.tmp 14) (.tmp 15) _ rfl 9 i9 (.string ⟨#[]⟩) 16 underlying33 HS.out aU.out aV.out aW.out rfl Qqj (fun _=>True) G G (.slice none 0 0) [] [] rfl (Own.nil _ _ _ _ _) (.slice np names.length nc) names rfl cB.out names.length Qqk Qqj (Q9 _) ?_;intro pa ca cK wa dG dC;have bI:=Qq dG;have aR:=Qq dC;clear dG dC)
 rw [List.nil_append] at bI
 have aM:Below w w wa:=aN.out.thn aR.out.below
 have dR:=aR.out.size
 have cZ:Sl Ze (But (fun b=>S b∧b<w) (.slice none 0 0)) wa (.slice vp vals.length vc) vals:=(HV.out.mono (S':=But (fun b=>S b∧b<w) (.slice none 0 0)) (fun b _ h=>⟨h,fun e=>by cases e⟩)).below aM
 have cC:=Qq cZ;have fB:=Qq aM
 clear cZ aM
 go_upto_region 5 with (at_builtin;refine Xj (r:=Ze) Qqx Xw rfl (.tmp 17) (.tmp 18) _ rfl 36 i0 (.agg zV) 80 underlying34 HJ.out aO.out aP.out aQ.out rfl Qqj (fun b=>S b∧b<w) G wa (.slice none 0 0) [] [] rfl (Own.nil _ _ _ _ _) (.slice vp vals.length vc) vals rfl cC.out vals.length Qqk Qqj dR ?_;intro pb cb cL A dH dD;have bJ:=Qq dH;have aS:=Qq dD;clear dH dD)
 rw [List.nil_append] at bJ
 have fD:=aS.out.size
 have aG:Below G G A:=aR.out.below.trans aS.out.below
 have dE:Mk Zh 9 (fun _=>True) G A (.slice pa names.length ca) names.length names:=⟨cK,Gj bI.out (fun b hb _=>aS.out.other b hb (fun e=>by cases e)),rfl,aG⟩
 have dF:Mk Ze 36 (fun b=>(S b∧b<w)∨A≤b) G A (.slice pb vals.length cb) vals.length vals:=⟨cL,bJ.out.weak (Q9 _) (fun b _ h=>.inl h),rfl,aG⟩
 obtain ⟨aE,aT,cD⟩:=Qqo dE dF aG
 clear dE dF aG bI aR bJ aS cB cC
 have dB:=kB cD.out cE.out
 have dL:=kB cD.out cI.out
 have fF:=cJ.out
 obtain ⟨e0,e1,e2,e3,e4,e5,e6,e7,e8⟩:=row9 dB
 obtain ⟨v0,v1,v2,v3,v4⟩:=row5 dL
 refine let_mvar% ?Lq1:=fun w':World=>(Qza w' w ek (.string cV) en (.string cW) (.slice cS cP cM) (.slice cT cQ cN) (.slice cU cR cO) ea ez ((Qze w' (w+1) v.kind v.n v.s (.slice Y v.names.length U) (.slice Z v.kids.length V):Prop)):Prop);?_
 have aI:=Qq (fun (w':World) (h:Below G A w')=>(show ?Lq1 w' from ⟨kD h Qqj e0,kD h Qqj e1,kD h Qqj e2,kD h Qqj e3,kD h Qqj e4,kD h Qqj e5,kD h Qqj e6,kD h Qqj e7,kD h Qqj e8,kD h Qqj v0,kD h Qqj v1,kD h Qqj v2,kD h Qqj v3,kD h Qqj v4⟩))
 have eJ:=Qq (fun (w':World) (o:Obj) (h:?Lq1 w')=>(show ?Lq1 (w'.alloc o) from ⟨kC (Zg w' o) h.1,kC (Zg w' o) h.2.1,kC (Zg w' o) h.2.2.1,kC (Zg w' o) h.2.2.2.1,kC (Zg w' o) h.2.2.2.2.1,kC (Zg w' o) h.2.2.2.2.2.1,kC (Zg w' o) h.2.2.2.2.2.2.1,kC (Zg w' o) h.2.2.2.2.2.2.2.1,kC (Zg w' o) h.2.2.2.2.2.2.2.2.1,kC (Zg w' o) h.2.2.2.2.2.2.2.2.2.1,kC (Zg w' o) h.2.2.2.2.2.2.2.2.2.2.1,kC (Zg w' o) h.2.2.2.2.2.2.2.2.2.2.2.1,kC (Zg w' o) h.2.2.2.2.2.2.2.2.2.2.2.2.1,kC (Zg w' o) h.2.2.2.2.2.2.2.2.2.2.2.2.2⟩))
 have HP:∀ w' x0 x1 x2 x3 x4,?Lq1 w'→?Lq1 (Zl w' (w+1+1) x0 x1 x2 x3 x4):=fun w' x0 x1 x2 x3 x4 h=>⟨Zm Qqj h.1,Zm Qqj h.2.1,Zm Qqj h.2.2.1,Zm Qqj h.2.2.2.1,Zm Qqj h.2.2.2.2.1,Zm Qqj h.2.2.2.2.2.1,Zm Qqj h.2.2.2.2.2.2.1,Zm Qqj h.2.2.2.2.2.2.2.1,Zm Qqj h.2.2.2.2.2.2.2.2.1,Zm Qqj h.2.2.2.2.2.2.2.2.2.1,Zm Qqj h.2.2.2.2.2.2.2.2.2.2.1,Zm Qqj h.2.2.2.2.2.2.2.2.2.2.2.1,Zm Qqj h.2.2.2.2.2.2.2.2.2.2.2.2.1,Zm Qqj h.2.2.2.2.2.2.2.2.2.2.2.2.2⟩
 unfold Zl at HP
 have eO:=Qq HP
 have eP:=Qq (aI.out A.drew (Qz _ _).drew)
 have eQ:=Qq (fun o=>aI.out (A.alloc o).drew ((Zg A o).mono Qqj).drew)
 have cH:=Qq (fun o o'=>aI.out ((A.alloc o).alloc o').drew ((Zt A o o').mono Qqj).drew)
 have bA:∀ g,(Value.slice pa names.length ca).ownBlock=some g→G.heap.size≤g∧g<A.heap.size:=fun g e=>aE.out.lt g e
 have bB:∀ g,(Value.slice pb vals.length cb).ownBlock=some g→G.heap.size≤g∧g<A.heap.size:=fun g e=>aT.out.lt g e
 have cG:=Qq bA;have fE:=Qq bB
 have bO:=Qq (fun (w':World) (b:Nat) (hb:w'.heap[b]?=some (Obj.cells #[nm] 9 (0,0))) (h:A≤b)=>Tb (S:=But (fun _=>True) (.slice pa names.length ca)) hb ⟨trivial,fun e=>by have:=(bA b e.symm).2;omega⟩ hnm)
 have bP:=Qq (fun (w':World) (b:Nat) (hB:Below G G w') (hb:w'.heap[b]?=some (Obj.cells (Qqg v Y U Z V) 36 (0,0))) (h:A≤b)=>sl_val1 (S:=But (fun b=>(S b∧b<w)∨A≤b) (.slice pb vals.length cb)) hb ⟨.inr h,fun e=>by have:=(bB b e.symm).2;omega⟩ (eS.out.move (.of_below (aN.out.thn hB)) (fun c _ hc=>⟨.inl hc,fun e=>by have h1:=(bB c e.symm).1;have h2:=hc.2;omega⟩)))
 have dJ:∀ b,(fun b=>(S b∧b<w.heap.size)∨A.heap.size≤b) b→some b≠(Value.slice pa names.length ca).ownBlock:=fun b hb e=>by
  have h1:=bA b e.symm
  rcases hb with h | h
  ·have h2:=h.2;omega
  omega
 have bL:=Qq dJ
 have dS:(36:TypeId)≠9:=Qqx
 have bD:(9:TypeId)≠36:=Qqx
 have dP:names.length+[nm].length=names.length+1:=rfl
 have dQ:vals.length+[v].length=vals.length+1:=rfl
 obtain ⟨bG,bH,bM,bN,fC⟩:=Qqr dP dQ dS bD hlen
 have bT:names.length+1≤1000000:=Qqj
 have bU:vals.length+1≤1000000:=Qqj
 have bE:=Qq bT;have bF:=Qq bU
 have eM:=Qq (fun (W:World) (nv' vv':Value) (hM1:Mk Zh 9 (fun _=>True) G W nv' (names.length+1) (names++[nm])) (hM2:Mk Ze 36 (fun b=>(S b∧b<w)∨A≤b) G W vv' (vals.length+1) (vals++[v]))=>HE.out (fun c=>(S c∧c<w)∨G≤c) (Qqi ek cV en cW cS cP cM cT cQ cN cU cR cO ea ez) nv' vv' (names++[nm]) (vals++[v]) W (HX.out.move (.of_below (aN.out.thn hM1.below)) (fun _ _ h=>.inl h)) (by
   obtain ⟨css,h1,h2,h3⟩:=hM1
   exact (Gj (S':=fun b=>G≤b) h1 (fun _ _ _=>rfl)).sl (by rw [h2];exact bT) (fun b hb=>.inr hb) (fun b _ hb=>.inr hb)) (by
   obtain ⟨css,h1,h2,h3⟩:=hM2
   exact h1.sl (by rw [h2];exact bU) (fun b hb=>.inr hb) (fun b _ hb=>by
    rcases hb with h | h
    ·exact .inl h
    exact .inr Qqj)) (by rw [Ql,Ql];simp;omega) (by rw [Ql];simp;omega) (by
   intro u hu
   rcases Z4.1 hu with h | h
   ·exact HB.out u h
   simp only [Z3,Z2,or_false] at h
   subst h;exact eL.out))
 clear dB dL bA bB dJ dS bD dP dQ bT bU HP e0 e1 e2 e3 e4 e5 e6 e7 e8 v0 v1 v2 v3 v4
 have aX:=Qq (fun (w':World) (h:Below G G w')=>by
  have O:=kB h cE.out
  have aL:=kB h cI.out
  exact (show ?Lq1 w' from ⟨Qk _ _ 0 _ _ _ O,Qk _ _ 1 _ _ _ O,Qk _ _ 2 _ _ _ O,Qk _ _ 3 _ _ _ O,Qk _ _ 4 _ _ _ O,Qk _ _ 5 _ _ _ O,Qk _ _ 6 _ _ _ O,Qk _ _ 7 _ _ _ O,Qk _ _ 8 _ _ _ O,Qk _ _ 0 _ _ _ aL,Qk _ _ 1 _ _ _ aL,Qk _ _ 2 _ _ _ aL,Qk _ _ 3 _ _ _ aL,Qk _ _ 4 _ _ _ aL⟩))
 go_region_held3 ?Lq1 (first | with_reducible exact eP.out | with_reducible exact T | with_reducible exact eQ.out _ | with_reducible exact cH.out _ _ | with_reducible exact eJ.out _ _ T | with_reducible exact eO.out _ _ _ _ _ _ T)
  (first
   | (refine Vk (r:=Zh) Qqx Xx Qqv (.tmp 21) (.tmp 23) 33 Qqv 9 i9 (.string ⟨#[]⟩) 16 underlying33 HS.out aU.out aV.out aW.out rfl Qqj (fun _=>True) G (A.alloc (.cells #[nm] 9)).drew (.slice pa names.length ca) names.length names Qqv (aE.out.grow (Zg A (.cells #[nm] 9)).drew) (.slice (some ⟨A,0,none⟩) 1 1) [nm] Qqv (bO.out _ _ (Qw A _) Qqj) (names.length+1) bG.out bE.out ?_;intro p5 c5 w5 aC D;have T:=aI.out w5 (((Zg A (.cells #[nm] 9)).mono Qqj).drew.trans D.below);have M:=T3 (aT.out.grow (Zg A (.cells #[nm] 9)).drew) (aE.out.grow (Zg A (.cells #[nm] 9)).drew) bM.out D bL.out;obtain ⟨I,aA,cF⟩:=Qqo M aC D;have bW:A.heap.size≤w5.heap.size:=Qc ((Zg A (.cells #[nm] 9)).size) D.size;clear aC D M)
   | (refine Vk (r:=Zh) Qqx Xx Qqv (.tmp 21) (.tmp 23) 33 Qqv 9 i9 (.string ⟨#[]⟩) 16 underlying33 HS.out aU.out aV.out aW.out rfl Qqj (fun _=>True) G ((A.alloc (.cells #[nm] 9)).alloc (.cells (Qqg v Y U Z V) 36)).drew (.slice pa names.length ca) names.length names Qqv (aE.out.grow (Zt A (.cells #[nm] 9) (.cells (Qqg v Y U Z V) 36)).drew) (.slice (some ⟨A,0,none⟩) 1 1) [nm] Qqv (bO.out _ _ (Q5 A _ _) Qqj) (names.length+1) bG.out bE.out ?_;intro p5 c5 w5 aC D;have T:=aI.out w5 (((Zt A (.cells #[nm] 9) (.cells (Qqg v Y U Z V) 36)).mono Qqj).drew.trans D.below);have M:=T3 (aT.out.grow (Zt A (.cells #[nm] 9) (.cells (Qqg v Y U Z V) 36)).drew) (aE.out.grow (Zt A (.cells #[nm] 9) (.cells (Qqg v Y U Z V) 36)).drew) bM.out D bL.out;have bK:=Qq ((D.other (A+1) (by simp;try omega) (fun e=>by have:=(cG.out _ e.symm).2;omega)).trans (Q6 A _ _));obtain ⟨I,aA,cF⟩:=Qqo M aC D;have bW:A.heap.size≤w5.heap.size:=Qc ((Zt A (.cells #[nm] 9) (.cells (Qqg v Y U Z V) 36)).size) D.size;clear aC D M)
   | (refine Vk (r:=Zh) Qqx Xx Qqv (.tmp 21) (.tmp 23) 33 Qqv 9 i9 (.string ⟨#[]⟩) 16 underlying33 HS.out aU.out aV.out aW.out rfl Qqj (fun _=>True) G ((A.alloc (.cells (Qqg v Y U Z V) 36)).alloc (.cells #[nm] 9)).drew (.slice pa names.length ca) names.length names Qqv (aE.out.grow (Zt A (.cells (Qqg v Y U Z V) 36) (.cells #[nm] 9)).drew) (.slice (some ⟨A+1,0,none⟩) 1 1) [nm] Qqv (bO.out _ _ (Q6 A _ _) Qqj) (names.length+1) bG.out bE.out ?_;intro p5 c5 w5 aC D;have T:=aI.out w5 (((Zt A (.cells (Qqg v Y U Z V) 36) (.cells #[nm] 9)).mono Qqj).drew.trans D.below);have M:=T3 (aT.out.grow (Zt A (.cells (Qqg v Y U Z V) 36) (.cells #[nm] 9)).drew) (aE.out.grow (Zt A (.cells (Qqg v Y U Z V) 36) (.cells #[nm] 9)).drew) bM.out D bL.out;have bK:=Qq ((D.other A (by simp;try omega) (fun e=>by have:=(cG.out _ e.symm).2;omega)).trans (Q5 A _ _));obtain ⟨I,aA,cF⟩:=Qqo M aC D;have bW:A.heap.size≤w5.heap.size:=Qc ((Zt A (.cells (Qqg v Y U Z V) 36) (.cells #[nm] 9)).size) D.size;clear aC D M)
   | (refine Vk (r:=Ze) Qqx Xw Qqv (.tmp 25) (.tmp 27) 34 Qqv 36 i0 (.agg zV) 80 underlying34 HJ.out aO.out aP.out aQ.out rfl Qqj (fun b=>(S b∧b<w)∨A≤b) G (w5.alloc (.cells (Qqg v Y U Z V) 36)) (.slice pb vals.length cb) vals.length vals Qqv (I.out.grow (Zg w5 (.cells (Qqg v Y U Z V) 36))) (.slice (some ⟨w5,0,none⟩) 1 1) [v] Qqv (bP.out _ _ (aA.out.grow (Zg w5 (.cells (Qqg v Y U Z V) 36))).below (Qw _ _) (bW)) (vals.length+1) bH.out bF.out ?_;intro p6 c6 w6 N aB;have J:=St (aA.out.grow (Zg w5 (.cells (Qqg v Y U Z V) 36))) (I.out.grow (Zg w5 (.cells (Qqg v Y U Z V) 36))) bN.out aB;have T:=aX.out w6 N.below;have aH:=Qq N;have aK:=Qq J;clear N aB J)
   | (refine Vk (r:=Ze) Qqx Xw Qqv (.tmp 25) (.tmp 27) 34 Qqv 36 i0 (.agg zV) 80 underlying34 HJ.out aO.out aP.out aQ.out rfl Qqj (fun b=>(S b∧b<w)∨A≤b) G w5 (.slice pb vals.length cb) vals.length vals Qqv (I.out) (.slice (some ⟨A+1,0,none⟩) 1 1) [v] Qqv (bP.out _ _ (aA.out).below (bK.out) Qqj) (vals.length+1) bH.out bF.out ?_;intro p6 c6 w6 N aB;have J:=St (aA.out) (I.out) bN.out aB;have T:=aX.out w6 N.below;have aH:=Qq N;have aK:=Qq J;clear N aB J)
   | (refine Vk (r:=Ze) Qqx Xw Qqv (.tmp 25) (.tmp 27) 34 Qqv 36 i0 (.agg zV) 80 underlying34 HJ.out aO.out aP.out aQ.out rfl Qqj (fun b=>(S b∧b<w)∨A≤b) G w5 (.slice pb vals.length cb) vals.length vals Qqv (I.out) (.slice (some ⟨A,0,none⟩) 1 1) [v] Qqv (bP.out _ _ (aA.out).below (bK.out) (Q9 _)) (vals.length+1) bH.out bF.out ?_;intro p6 c6 w6 N aB;have J:=St (aA.out) (I.out) bN.out aB;have T:=aX.out w6 N.below;have aH:=Qq N;have aK:=Qq J;clear N aB J)
   | (go_at_call 97;refine (eM.out _ _ _ aK.out aH.out).mono ?_;rintro e w7 ⟨k7,n7,s7,eD,eB,dZ,eE,eC,eA,b7,rfl,dT,dN⟩;have aF:Below G G w7:=aH.out.below.trans (dN.mono aH.out.below.size);have T:=aX.out w7 aF;have bC:G.heap.size≤w6.heap.size:=aH.out.below.size;have aY:=kB aF eT.out;obtain ⟨y0,y1,y2,y3,y4⟩:=row5 aY;obtain ⟨f0,f1,f2,f3,f4⟩:=frz5 aY;obtain ⟨eU,eR,eK,dI⟩:=Qqp aY dT aF bC;clear dT dN aF aY bC))
 all_goals
  go_wp2_with fail
  show bodyPost _ _ _ _ _ (Zl w7 (w+1+1) k7 n7 (.string s7) (.slice eD eB dZ) (.slice eE eC eA))
  refine Q7 (v:=.tuple #[.agg #[k7,n7,.string s7,.slice eD eB dZ,.slice eE eC eA],.bool b7]) (by simp [results,results145,go_sem,Zd eU.out]) rfl (Kg Qqj (aN.out.thn eK.out) (eR.out.map fun u h1=>h1.move (.refl _ _) (fun c _ hc=>by
   have hz:=cJ.out
   rcases hc with (hc | hc) | hc
   ·exact .inl hc
   ·exact .inr Qqj
   exact .inr (by have:=dI.out;have h':w6.heap.size≤c:=hc;omega))))
theorem Cy (nm:Bs) (n:Int) (s:Bs) (names binds:List Bs) (kids:List Ex) (a z:Int) (d:Nat) (ih:∀ x ∈ kids,Xn d x) (h2:kids.length=2):∀ (S:Nat→Prop) (ce:List Value) (nv vv:Value) (ns:List Bs) (vs:List Val) (w:World),Yv S w ce (.mk 11 nm n s names binds kids a z)→Sl Zh S w nv ns→Sl Ze S w vv vs→ns.length≤vs.length→vs.length+(d+1)≤1000→(∀ v ∈ vs,Y3 v) →
  Calls prog 97 #[ce,nv,vv] w (X6 S w (Y1 (d+1) (.mk 11 nm n s names binds kids a z) ns vs)):=by
 intro S ce nv vv ns vs w N cJ cL bI hd hb
 obtain ⟨r,hr⟩:=eX (Y1 (d+1) (.mk 11 nm n s names binds kids a z) ns vs)
 rw [hr]
 have HR:=Qq hr
 clear hr
 have hx:Yv (fun b=>S b∧b<w) w ce (.mk 11 nm n s names binds kids a z):=N.move (.refl _ _) (fun b hb h=>⟨h,hb⟩)
 have hn:=cJ.up
 have hv:=cL.up
 obtain ⟨np,nc,rfl,_⟩:=hn.len
 obtain ⟨vp,vc,rfl,fY⟩:=hv.len
 have fG:=Qq hx
 obtain ⟨gB,bv,kv,rfl,eT,fX,bR,bP,hk⟩:=Yx.1 hx
 obtain ⟨p1,c1,rfl,_⟩:=bR.len
 obtain ⟨p2,c2,rfl,_⟩:=bP.len
 obtain ⟨p3,c3,rfl,fW⟩:=hk.len
 obtain ⟨HN,HV,bK,fF,fC,HK,HI,aF⟩:=Qqu hn hv hb bR bP hk ih bI
 clear N cJ cL hx hn hv bR bP hk hb ih bI
 unfold sv at *
 rw [h2] at HK ⊢
 obtain ⟨x0,N⟩:∃ x,kids[0]?=some x:=⟨_,Qx Qqj⟩
 obtain ⟨G,J,fL,fN,fM,fO,fH,fQ,fT,fI,fR,fU,fJ,fS,fV,fK,fP,cK,bG,aJ,aN,aO,aP,aQ,aR,aS,aT,aU,aV⟩:=HK.out.ex N
 subst cK
 simp only [Nat.zero_mul,Nat.add_zero] at aN aO aP aQ aR aS aT aU aV
 have dM:=Qq (fun W (hW:Below w w W)=>HI.out x0 (Qy N) (fun b=>S b∧b<w) _ _ _ ns vs W (aJ.move (.of_below hW) Qzx) (HN.out.below hW) (HV.out.below hW) aF.out Qqj bK.out)
 obtain ⟨fA,dN,fE⟩:=Qqo aJ N (Qy N)
 have dK:=Qq (Qe bG (Qe aN (Qe aO (Qe aP (Qe aQ (Qe aR (Qe aS (Qe aT (Qe aU aV)))))))))
 clear aJ N bG aN aO aP aQ aR aS aT aU aV
 obtain ⟨x1,aL⟩:∃ x,kids[1]?=some x:=⟨_,Qx Qqj⟩
 obtain ⟨fZ,gA,eG,eI,eH,eJ,eC,eL,eO,eD,eM,eP,eE,eN,eQ,eF,eK,bJ,bH,aK,T,U,V,Y,Z,aA,aB,aC,aD⟩:=HK.out.ex aL
 simp only [Zv,Addr.mk.injEq,and_true] at bJ
 obtain ⟨rfl,rfl⟩:=bJ
 simp only [Nat.one_mul] at T U V Y Z aA aB aC aD
 have fD:=Qq (fun W (hW:Below w w W)=>HI.out x1 (Qy aL) (fun b=>S b∧b<w) _ _ _ ns vs W (aK.move (.of_below hW) Qzx) (HN.out.below hW) (HV.out.below hW) aF.out Qqj bK.out)
 obtain ⟨bZ,dO,dR⟩:=Qqo aK aL (Qy aL)
 have bT:=Qq (Qe bH (Qe T (Qe U (Qe V (Qe Y (Qe Z (Qe aA (Qe aB (Qe aC aD)))))))))
 clear aK aL bH T U V Y Z aA aB aC aD
 have bV:=Qq (HR.out.symm.trans (revF_let dN.out dO.out))
 go_enter func97,ntmps97
 go_upto_region 16 with fail
 generalize aW:(w.alloc _).alloc _=W1
 have cF:=eqB aW (Zt _ _ _)
 have cE:=eqH (b:=w.heap.size) aW (Q5 _ _ _)
 have bN:=eqH (b:=w.heap.size+1) aW (Q6 _ _ _)
 obtain ⟨A,bL,cA⟩:=Qqo cF cE bN
 have bQ:=Z8 bN
 clear aW cF cE bN
 have bF:=((Qq (Qz W1 W1)).out.block _ (Z8 bL.out)).trans bL.out
 have c6:=rA6 bF
 clear bF
 obtain ⟨M,q0,q1,q2,q3,q4,q5,q6,q7,q8⟩:=dK.out
 have aN:=kD A.out M q0;have aO:=kD A.out M q1;have aP:=kD A.out M q2;have aQ:=kD A.out M q3;have aR:=kD A.out M q4;have aS:=kD A.out M q5;have aT:=kD A.out M q6;have aU:=kD A.out M q7;have aV:=kD A.out M q8
 clear M q0 q1 q2 q3 q4 q5 q6 q7 q8
 go_upto_region 17 with (go_at_call 97;refine (dM.out _ A.out).mono ?_;rintro e w5 ⟨k5,n5,s5,bC,bA,aY,bD,bB,aZ,b5,rfl,cM,cG⟩;have bX:=Qq cM;have bU:=Qq cG;clear cM cG)
 generalize bM:w5.alloc _=W6
 have bO:=eqB bM (Zg _ _)
 have cD:=eqH (b:=w5.heap.size) bM (Qw _ _)
 obtain ⟨D,bE,bY⟩:=Qqo (bU.out.thn bO) cD bO
 clear bM bO cD
 have fB:w.heap.size+1<W6.heap.size:=Qqq D.out.size
 cases b5 with
 | false=>
  obtain ⟨v0,v1,v2,v3,v4⟩:=row5 bE.out
  have O:=kE D.out bQ cA.out
  obtain ⟨y0,y1,y2,y3,y4⟩:=row5 O
  obtain ⟨f0,f1,f2,f3,f4⟩:=frz5 O
  have cB:=Qq O
  clear O
  go_wp2_with fail
  show bodyPost _ _ _ _ _ (Zl W6 (w+1) k5 n5 (.string s5) (.slice bC bA aY) (.slice bD bB aZ))
  refine Q7 (v:=.tuple #[.agg #[k5,n5,.string s5,.slice bC bA aY,.slice bD bB aZ],.bool false]) (by simp [results,results97,go_sem,Zd cB.out]) rfl (Vz Qqj (A.out.thn D.out) (by rw [bV.out,bX.out.2 rfl];rfl))
 | true=>
  obtain ⟨v,cQ,cO,cP⟩:=bX.out.1 rfl
  have dV:Hid (r=Y1 d x1 (ns++[nm]) (vs++[v])):=Qq (by rw [bV.out,cP];rfl)
  clear cP
  have hE:=Qq (fun W (hW:Below W6 W6 W)=>En d x1 (HI.out x1 dR.out) (fun c=>(S c∧c<w)∨W1≤c) _ _ _ ns vs nm v [k5,n5,.string s5,.slice bC bA aY,.slice bD bB aZ] W (bZ.out.move (.of_below (A.out.thn (D.out.thn hW))) (fun _ _ h=>.inl h)) ((HN.out.below (A.out.thn (D.out.thn hW))).mono (fun _ _ h=>.inl h)) ((HV.out.below (A.out.thn (D.out.thn hW))).mono (fun _ _ h=>.inl h)) aF.out Qqj bK.out eT (cQ.move (.of_below (bY.out.thn hW)) Qzx) cO)
  unfold sv at hE
  clear cQ cO
  go_upto_region 19 with fail
  have aG:=kB D.out bL.out
  have c1:=rA1 aG;have c6:=rA6 aG
  clear aG
  obtain ⟨v0,v1,v2,v3,v4⟩:=row5 bE.out
  obtain ⟨M,q0,q1,q2,q3,q4,q5,q6,q7,q8⟩:=bT.out
  have T:=kD (A.out.thn D.out) M q0;have U:=kD (A.out.thn D.out) M q1;have V:=kD (A.out.thn D.out) M q2;have Y:=kD (A.out.thn D.out) M q3;have Z:=kD (A.out.thn D.out) M q4;have aA:=kD (A.out.thn D.out) M q5;have aB:=kD (A.out.thn D.out) M q6;have aC:=kD (A.out.thn D.out) M q7;have aD:=kD (A.out.thn D.out) M q8
  clear M q0 q1 q2 q3 q4 q5 q6 q7 q8
  have I:G≠w.heap.size+1:=by have:=bT.out.1;omega
  have aE:w5≠w.heap.size+1:=Qqq bU.out.size
  refine let_mvar% ?Lq1:=fun w':World=>Qqa w' w 1 nm∧Qqa w' w 6 (Qqb G J 2 c3)∧Qqa w' G (J+9) eG∧Qqa w' G (J+9+1) (.string eI)∧Qqa w' G (J+9+2) eH∧Qqa w' G (J+9+3) (.string eJ)∧Qqa w' G (J+9+4) (.slice eC eL eO)∧Qqa w' G (J+9+5) (.slice eD eM eP)∧Qqa w' G (J+9+6) (.slice eE eN eQ)∧Qqa w' G (J+9+7) eF∧Qqa w' G (J+9+8) eK∧Qze w' w5 k5 n5 (.string s5) (.slice bC bA aY) (.slice bD bB aZ);?_
  have bW:=Qq (fun (w':World) (h:Below W6 W6 w')=>(show ?Lq1 w' from ⟨kC h c1,kC h c6,kC h T,kC h U,kC h V,kC h Y,kC h Z,kC h aA,kC h aB,kC h aC,kC h aD,kC h v0,kC h v1,kC h v2,kC h v3,kC h v4⟩))
  have HP:∀ w' x0 x1 x2 x3 x4,?Lq1 w'→?Lq1 (Zl w' (w+1) x0 x1 x2 x3 x4):=fun w' x0 x1 x2 x3 x4 h=>⟨Zm Qqj h.1,Zm Qqj h.2.1,Zm I h.2.2.1,Zm I h.2.2.2.1,Zm I h.2.2.2.2.1,Zm I h.2.2.2.2.2.1,Zm I h.2.2.2.2.2.2.1,Zm I h.2.2.2.2.2.2.2.1,Zm I h.2.2.2.2.2.2.2.2.1,Zm I h.2.2.2.2.2.2.2.2.2.1,Zm I h.2.2.2.2.2.2.2.2.2.2.1,Zm aE h.2.2.2.2.2.2.2.2.2.2.2.1,Zm aE h.2.2.2.2.2.2.2.2.2.2.2.2.1,Zm aE h.2.2.2.2.2.2.2.2.2.2.2.2.2.1,Zm aE h.2.2.2.2.2.2.2.2.2.2.2.2.2.2.1,Zm aE h.2.2.2.2.2.2.2.2.2.2.2.2.2.2.2⟩
  unfold Zl at HP
  have dW:=Qq (bW.out W6.drew (Qz _ _).drew);have dU:=Qq HP
  clear HP I aE c1 c6 T U V Y Z aA aB aC aD v0 v1 v2 v3 v4
  go_region_held3 ?Lq1 (first | with_reducible exact dW.out | with_reducible exact cC | with_reducible exact dU.out _ _ _ _ _ _ cC)
   (first
    | (go_at_call 145;refine (hE.out _ (Qz _ _).drew).mono ?_;rintro e w7 ⟨k7,n7,s7,cZ,cT,cR,dB,cU,cS,b7,rfl,cN,cH⟩;have aI:=(Qz _ W6).drew.thn cH;have cC:=bW.out w7 aI;have aH:=D.out.thn aI;have aX:=kE (aH) bQ cA.out;obtain ⟨y0,y1,y2,y3,y4⟩:=row5 aX;obtain ⟨f0,f1,f2,f3,f4⟩:=frz5 aX;have dZ:=Qq aX;clear aX;have dY:=Qq cN;have dL:=Qq aH;clear cN cH aH aI))
  all_goals
   go_wp2_with fail
   show bodyPost _ _ _ _ _ (Zl w7 (w+1) k7 n7 (.string s7) (.slice cZ cT cR) (.slice dB cU cS))
   refine Q7 (v:=.tuple #[.agg #[k7,n7,.string s7,.slice cZ cT cR,.slice dB cU cS],.bool b7]) (by simp [results,results97,go_sem,Zd dZ.out]) rfl (X6.of_eq dV.out (Jk A.out Qqj bQ (dY.out.map fun v h1=>h1.move (.refl _ _) (fun c _ hc=>by
     rcases hc with hc | hc
     ·exact hc
     exact .inr (by have:=D.out.size;have h':W6.heap.size≤c:=hc;omega))) dL.out))
theorem reval_if (nm:Bs) (n:Int) (s:Bs) (names binds:List Bs) (kids:List Ex) (a z:Int) (d:Nat) (ih:∀ x ∈ kids,Xn d x) (h2:kids.length=3):∀ (S:Nat→Prop) (ce:List Value) (nv vv:Value) (ns:List Bs) (vs:List Val) (w:World),Yv S w ce (.mk 12 nm n s names binds kids a z)→Sl Zh S w nv ns→Sl Ze S w vv vs→ns.length≤vs.length→vs.length+(d+1)≤1000→(∀ v ∈ vs,Y3 v) →
  Calls prog 97 #[ce,nv,vv] w (X6 S w (Y1 (d+1) (.mk 12 nm n s names binds kids a z) ns vs)):=by
 intro S ce nv vv ns vs w N dH dJ cB hd hb
 obtain ⟨r,hr⟩:=eX (Y1 (d+1) (.mk 12 nm n s names binds kids a z) ns vs)
 rw [hr]
 have HR:=Qq hr
 clear hr
 have hx:Yv (fun b=>S b∧b<w) w ce (.mk 12 nm n s names binds kids a z):=N.move (.refl _ _) (fun b hb h=>⟨h,hb⟩)
 have hn:=dH.up
 have hv:=dJ.up
 obtain ⟨np,nc,rfl,_⟩:=hn.len
 obtain ⟨vp,vc,rfl,hD⟩:=hv.len
 have fG:=Qq hx
 obtain ⟨hL,bv,kv,rfl,hB,hC,cY,cX,hk⟩:=Yx.1 hx
 obtain ⟨p1,c1,rfl,_⟩:=cY.len
 obtain ⟨p2,c2,rfl,_⟩:=cX.len
 obtain ⟨p3,c3,rfl,hA⟩:=hk.len
 obtain ⟨HN,HV,cP,fF,fB,HK,HI,U⟩:=Qqu hn hv hb cY cX hk ih cB
 clear N dH dJ hx hn hv cY cX hk hb ih cB
 unfold sv at *
 rw [h2] at HK ⊢
 obtain ⟨x0,N⟩:∃ x,kids[0]?=some x:=⟨_,Qx Qqj⟩
 obtain ⟨hE,hI,fT,fZ,fW,gC,fH,gI,gR,fK,gL,gU,fN,gO,gX,fQ,gF,dI,bY,aI,Y,Z,aA,aB,aC,aD,aE,aF,aG⟩:=HK.out.ex N
 subst dI
 simp only [Nat.zero_mul,Nat.add_zero] at Y Z aA aB aC aD aE aF aG
 have dV:=Qq (fun W (hW:Below w w W)=>HI.out x0 (Qy N) (fun b=>S b∧b<w) _ _ _ ns vs W (aI.move (.of_below hW) Qzx) (HN.out.below hW) (HV.out.below hW) U.out Qqj cP.out)
 obtain ⟨eY,dY,fC⟩:=Qqo aI N (Qy N)
 have dR:=Qq (Qe bY (Qe Y (Qe Z (Qe aA (Qe aB (Qe aC (Qe aD (Qe aE (Qe aF aG)))))))))
 clear aI N bY Y Z aA aB aC aD aE aF aG
 obtain ⟨x1,aL⟩:∃ x,kids[1]?=some x:=⟨_,Qx Qqj⟩
 obtain ⟨hF,hJ,fU,gA,fX,gD,fI,gJ,gS,fL,gM,gV,fO,gP,gY,fR,gG,cD,bZ,aJ,aV,aX,aZ,bB,bD,bF,bH,bJ,bL⟩:=HK.out.ex aL
 simp only [Zv,Addr.mk.injEq,and_true] at cD
 obtain ⟨rfl,rfl⟩:=cD
 simp only [Nat.one_mul] at aV aX aZ bB bD bF bH bJ bL
 have dW:=Qq (fun W (hW:Below w w W)=>HI.out x1 (Qy aL) (fun b=>S b∧b<w) _ _ _ ns vs W (aJ.move (.of_below hW) Qzx) (HN.out.below hW) (HV.out.below hW) U.out Qqj cP.out)
 obtain ⟨eZ,dZ,fD⟩:=Qqo aJ aL (Qy aL)
 have dS:=Qq (Qe bZ (Qe aV (Qe aX (Qe aZ (Qe bB (Qe bD (Qe bF (Qe bH (Qe bJ bL)))))))))
 clear aJ aL bZ aV aX aZ bB bD bF bH bJ bL
 obtain ⟨x2,aM⟩:∃ x,kids[2]?=some x:=⟨_,Qx Qqj⟩
 obtain ⟨hH,hK,fV,gB,fY,gE,fJ,gK,gT,fM,gN,gW,fP,gQ,gZ,fS,gH,cE,cA,aK,aW,aY,bA,bC,bE,bG,bI,bK,bM⟩:=HK.out.ex aM
 simp only [Zv,Addr.mk.injEq,and_true] at cE
 obtain ⟨rfl,rfl⟩:=cE
 simp only [Nat.reduceMul] at aW aY bA bC bE bG bI bK bM
 have dX:=Qq (fun W (hW:Below w w W)=>HI.out x2 (Qy aM) (fun b=>S b∧b<w) _ _ _ ns vs W (aK.move (.of_below hW) Qzx) (HN.out.below hW) (HV.out.below hW) U.out Qqj cP.out)
 obtain ⟨fA,eA,fE⟩:=Qqo aK aM (Qy aM)
 have dT:=Qq (Qe cA (Qe aW (Qe aY (Qe bA (Qe bC (Qe bE (Qe bG (Qe bI (Qe bK bM)))))))))
 clear aK aM cA aW aY bA bC bE bG bI bK bM
 have cQ:=Qq (HR.out.symm.trans (revF_if dY.out dZ.out eA.out))
 go_enter func97,ntmps97
 go_upto_region 21 with fail
 generalize bN:(w.alloc _).alloc _=W1
 have dF:=eqB bN (Zt _ _ _)
 have dE:=eqH (b:=w.heap.size) bN (Q5 _ _ _)
 have cV:=eqH (b:=w.heap.size+1) bN (Q6 _ _ _)
 obtain ⟨A,aT,aU⟩:=Qqo dF dE cV
 have bO:=Z8 cV
 clear bN dF dE cV
 have bX:=((Qq (Qz W1 W1)).out.block _ (Z8 aT.out)).trans aT.out
 have c6:=rA6 bX
 clear bX
 obtain ⟨G,q0,q1,q2,q3,q4,q5,q6,q7,q8⟩:=dR.out
 have Y:=kD A.out G q0;have Z:=kD A.out G q1;have aA:=kD A.out G q2;have aB:=kD A.out G q3;have aC:=kD A.out G q4;have aD:=kD A.out G q5;have aE:=kD A.out G q6;have aF:=kD A.out G q7;have aG:=kD A.out G q8
 clear G q0 q1 q2 q3 q4 q5 q6 q7 q8
 go_upto_region 22 with (go_at_call 97;refine (dV.out _ A.out).mono ?_;rintro e w5 ⟨k5,n5,s5,bU,bS,bQ,bV,bT,bR,b5,rfl,dK,dG⟩;have cR:=Qq dK;have dU:=Qq dG;clear dK dG)
 generalize cU:w5.alloc _=W6
 have cW:=eqB cU (Zg _ _)
 have dD:=eqH (b:=w5.heap.size) cU (Qw _ _)
 obtain ⟨D,bW,eW⟩:=Qqo (dU.out.thn cW) dD cW
 clear cU cW dD
 have cC:w.heap.size+1<W6.heap.size:=Qqq D.out.size
 clear c6 Y Z aA aB aC aD aE aF aG
 obtain ⟨v0,v1,v2,v3,v4⟩:=row5 bW.out
 have eQ:b5=false∨(b5=true∧(k5 != 2)=true)∨(b5=true∧k5=2):=by
  cases b5 with
  | false=>exact .inl rfl
  | true=>
   by_cases h:k5=2
   ·exact .inr (.inr ⟨rfl,h⟩)
   exact .inr (.inl ⟨rfl,by simpa using h⟩)
 rcases eQ with rfl | ⟨rfl,hq⟩ | ⟨rfl,rfl⟩
 ·clear v0 v1 v2 v3 v4
  obtain ⟨v0,v1,v2,v3,v4⟩:=row5 bW.out
  have I:=kE D.out bO aU.out
  obtain ⟨y0,y1,y2,y3,y4⟩:=row5 I
  obtain ⟨f0,f1,f2,f3,f4⟩:=frz5 I
  have V:=Qq I
  clear I
  go_wp2_with fail
  show bodyPost _ _ _ _ _ (Zl W6 (w+1) k5 n5 (.string s5) (.slice bU bS bQ) (.slice bV bT bR))
  refine Q7 (v:=.tuple #[.agg #[k5,n5,.string s5,.slice bU bS bQ,.slice bV bT bR],.bool false]) (by simp [results,results97,go_sem,Zd V.out]) rfl (Vz Qqj (A.out.thn D.out) (by rw [cQ.out,cR.out.2 rfl];rfl))
 ·have eD:Hid (r=none):=Qq (by
   obtain ⟨v,T,cZ,bP⟩:=cR.out.1 rfl
   rw [cQ.out,bP]
   show (if v.kind=2 then _ else none)=none
   rw [if_neg (by rw [T.head.1];simpa using hq)])
  have I:=kE D.out bO aU.out
  obtain ⟨y0,y1,y2,y3,y4⟩:=row5 I
  obtain ⟨f0,f1,f2,f3,f4⟩:=frz5 I
  have V:=Qq I
  clear I
  go_wp2_with fail
  show bodyPost _ _ _ _ _ (Zl W6 (w+1) k5 n5 (.string s5) (.slice bU bS bQ) (.slice bV bT bR))
  refine Q7 (v:=.tuple #[.agg #[k5,n5,.string s5,.slice bU bS bQ,.slice bV bT bR],.bool false]) (by simp [results,results97,go_sem,Zd V.out]) rfl (Vz Qqj (A.out.thn D.out) eD.out)
 obtain ⟨v,T,cZ,bP⟩:=cR.out.1 rfl
 have dC:Hid (r=if n5=1 then Y1 d x1 ns vs else Y1 d x2 ns vs):=Qq (by
  rw [cQ.out,bP]
  show (if v.kind=2 then (if v.n=1 then _ else _) else none)=_
  rw [if_pos T.head.1,T.head.2.1])
 clear bP
 have eO:n5=0∨n5=1:=by
  obtain ⟨h1,h2,_⟩:=T.head
  rw [← h2];exact cZ.bool h1
 clear T cZ
 have hq:((2:Int) != 2)=false:=rfl
 rcases eO with rfl | rfl
 focus
  have M:=kB D.out aT.out
  have c6:=rA6 M
  clear M
  obtain ⟨G,q0,q1,q2,q3,q4,q5,q6,q7,q8⟩:=dT.out
  have aW:=kD (A.out.thn D.out) G q0;have aY:=kD (A.out.thn D.out) G q1;have bA:=kD (A.out.thn D.out) G q2;have bC:=kD (A.out.thn D.out) G q3;have bE:=kD (A.out.thn D.out) G q4;have bG:=kD (A.out.thn D.out) G q5;have bI:=kD (A.out.thn D.out) G q6;have bK:=kD (A.out.thn D.out) G q7;have bM:=kD (A.out.thn D.out) G q8
  clear G q0 q1 q2 q3 q4 q5 q6 q7 q8
  go_wp2_with (go_at_call 97;refine (dX.out _ (A.out.thn D.out)).mono ?_;rintro e w7 ⟨k7,n7,s7,aR,aP,aN,aS,aQ,aO,b7,rfl,aH,O⟩;have J:=kE (D.out.thn O) bO aU.out;obtain ⟨y0,y1,y2,y3,y4⟩:=row5 J;obtain ⟨f0,f1,f2,f3,f4⟩:=frz5 J;have cT:=Qq J;clear J;have cS:=Qq aH;have cO:=Qq O;clear aH O)
  show bodyPost _ _ _ _ _ (Zl w7 (w+1) k7 n7 (.string s7) (.slice aR aP aN) (.slice aS aQ aO))
  refine Q7 (v:=.tuple #[.agg #[k7,n7,.string s7,.slice aR aP aN,.slice aS aQ aO],.bool b7]) (by simp [results,results97,go_sem,Zd cT.out]) rfl (X6.of_eq (dC.out.trans (if_neg Qqx)) (Jk (A.out.thn D.out) Qqj cC cS.out cO.out))
 focus
  have M:=kB D.out aT.out
  have c6:=rA6 M
  clear M
  obtain ⟨G,q0,q1,q2,q3,q4,q5,q6,q7,q8⟩:=dS.out
  have aV:=kD (A.out.thn D.out) G q0;have aX:=kD (A.out.thn D.out) G q1;have aZ:=kD (A.out.thn D.out) G q2;have bB:=kD (A.out.thn D.out) G q3;have bD:=kD (A.out.thn D.out) G q4;have bF:=kD (A.out.thn D.out) G q5;have bH:=kD (A.out.thn D.out) G q6;have bJ:=kD (A.out.thn D.out) G q7;have bL:=kD (A.out.thn D.out) G q8
  clear G q0 q1 q2 q3 q4 q5 q6 q7 q8
  go_wp2_with (go_at_call 97;refine (dW.out _ (A.out.thn D.out)).mono ?_;rintro e w7 ⟨k7,n7,s7,aR,aP,aN,aS,aQ,aO,b7,rfl,aH,O⟩;have J:=kE (D.out.thn O) bO aU.out;obtain ⟨y0,y1,y2,y3,y4⟩:=row5 J;obtain ⟨f0,f1,f2,f3,f4⟩:=frz5 J;have cT:=Qq J;clear J;have cS:=Qq aH;have cO:=Qq O;clear aH O)
  show bodyPost _ _ _ _ _ (Zl w7 (w+1) k7 n7 (.string s7) (.slice aR aP aN) (.slice aS aQ aO))
  refine Q7 (v:=.tuple #[.agg #[k7,n7,.string s7,.slice aR aP aN,.slice aS aQ aO],.bool b7]) (by simp [results,results97,go_sem,Zd cT.out]) rfl (X6.of_eq (dC.out.trans (if_pos Qqx)) (Jk (A.out.thn D.out) Qqj cC cS.out cO.out))
end Go.Proofs.YtdpibdpbgokmoaaGreatDoor

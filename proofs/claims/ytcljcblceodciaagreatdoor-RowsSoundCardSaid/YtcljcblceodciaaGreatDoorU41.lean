import Derived.Test.YtcljcblceodciaaGreatDoorU35
set_option maxRecDepth 100000
set_option maxHeartbeats 400000000
namespace Go.Proofs.YtcljcblceodciaaGreatDoor
open Go.RowKit Go.Shelf Go.Lib Tryz
theorem Cv:Jl.P1:=by
 intro _ _ _ l w _ _ _ _ _ _ _ _ _ _ aA _ n _ HL _ _ _ _ _ O _ Y _ aC aE _ _ _ _ wr _ _ _ _ _ _ _ _ _ _ _ _ _ _ _ _ _ _ _ k _ J aB U
 have aQ:k<l.length:=by rw [O.out];exact U
 have aJ:(0:Int)<=(k:Int):=C7
 have aK:(k:Int)<(n:Int):=C7
 obtain ⟨r,hr⟩:∃ r,l[k]?=some r:=⟨_,Qx (by rw [O.out];assumption)⟩
 obtain ⟨lb,I,aR,aD,D,_,_,⟨rv,V,_,N⟩,M⟩:=HL.out.elem hr
 subst aD;subst V
 obtain ⟨q,qc,G,aG⟩:=N.len
 obtain ⟨m,hm⟩:=eX (r.rows.length)
 rw [hm] at G aG
 subst G
 obtain ⟨aN,HM,aM⟩:=Qjq N hm (aA.out r (Qy hr))
 have Z:=Qq (fun W (h:Below w w W)=>Qe (show W.cell? ⟨lb,I+k*2,none⟩=some (.string ⟨r.table.toArray⟩) from kD h D (M 0 _ rfl)) (show W.cell? ⟨lb,I+k*2+1,none⟩=some (.slice q m qc) from kD h D (M 1 _ rfl)))
 have aL:lb<w.heap.size:=D
 clear hr M N hm D
 obtain ⟨e0,e1⟩:=Z.out wr aB.out
 by_cases hbig:256<m
 ·have hq:(256:Int)<(m:Int):=C7
  have A:=kE J.out aE aC.out
  obtain ⟨y0,y1,y2,y3,y4,y5,y6,y7,y8,y9,aS,aT⟩:=row12 A
  obtain ⟨f0,f1,f2,f3,f4,f5,f6,f7,f8,f9,aO,aP⟩:=frz12 A
  have T:=Qq A
  clear A
  go_wp2_with fail
  show bodyPost _ _ _ _ _ (Yd wr (w+1) (.int .i64 4) r.table Ci Ci Cl Cm Cm Ci Ci Cl Cm Cm)
  refine Q7 (v:=.agg #[.int .i64 4,r.table,Ci,Ci,Cl,Cm,Cm,Ci,Ci,Cl,Cm,Cm]) (by simp [results,results11,go_sem,Y8 T.out]) rfl ⟨⟨_,_,_,_,_,_,_,_,_,_,_,_,rfl⟩,(Y1 (Y.out.thn J.out) C7)⟩
 have hq:¬ (256:Int)<(m:Int):=C7
 go_wp2_with fail
 go_roundw
 case measure=>simp [intOf];omega
 case rel=>exact ⟨k+1,C7,by go_num,J.out⟩
theorem Td:Jl.P2:=by
 intro _ _ s l w up uc _ _ tc _ _ _ HU cL cG cJ n _ HL _ _ _ HT HN aZ W1 aM cO cP cX _ _ _ _ _ _ _ _ _ _ _ _ _ _ _ _ _ _ _ _ _ _ _ k cV N G _ _ _ _ _ wr _ _ _ _ _ _ _ _ _ _ _ _ _ _ _ _ _ _ _ _ _ _ _ _ _ _ _ _ _ _ _ _ _ _ _ _ _ _ _ _ _ _ _ _ _ _ _ _ _ _ _ i _ cD _ bR
 have eG:i<l.length:=by rw [aZ.out];exact bR
 have dU:(0:Int)<=(i:Int):=C7
 have dW:(i:Int)<(n:Int):=C7
 obtain ⟨r,hr⟩:∃ r,l[i]?=some r:=⟨_,Qx (by rw [aZ.out];assumption)⟩
 obtain ⟨lb,J,eI,cW,aQ,_,_,⟨rv,bT,_,aR⟩,bS⟩:=HL.out.elem hr
 subst cW;subst bT
 obtain ⟨q,qc,aJ,cZ⟩:=aR.len
 obtain ⟨m,hm⟩:=eX (r.rows.length)
 rw [hm] at aJ cZ
 subst aJ
 obtain ⟨cI,HM,cH⟩:=Qjq aR hm (cG.out r (Qy hr))
 have bB:=hT2 (o:=J+i*2) (x0:=.string ⟨r.table.toArray⟩) aQ bS
 have dY:lb<w.heap.size:=aQ
 clear hr bS aR hm aQ
 obtain ⟨t,ht⟩:∃ t,s.tables[i]?=some t:=⟨_,Qx (by rw [HN.out];assumption)⟩
 obtain ⟨tb,V,eB,dE,aS,_,_,aP,bU⟩:=HT.out.elem ht
 subst dE
 obtain ⟨cU,cT,dH,dG,dP,dO,k9,dQ,n9,dR,dL,dI,cQ,dM,dJ,cR,dN,dK,cS,a9,z9,bP,dD,bO,bQ,aI,bN⟩:=Zt aP
 simp only [tcs] at bP
 subst bP
 obtain ⟨cM,bC,eC⟩:=Qjq aP (cL.out t (Qy ht)) aI
 have cK:=hT13 (o:=V+i*13) aS bU
 have dZ:tb<w.heap.size:=aS
 clear ht aP bU dD bO bQ aI bN aS
 go_upto_region 13 with fail
 go_loopw [8,9] (fun t8 _ wr=>∃ k:Nat,k<=m/\t8=.int .i64 k/\Aside (Below W1 W1 wr)) (fun t8 _ _=>m - (intOf t8).toNat)
 case atStart=>exact ⟨0,Q8 _,rfl,cD.out⟩
 obtain ⟨k,cV,rfl,bJ⟩:=hrel
 have N:=Qq (show Below W1 W1 wr from bJ)
 have G:=Qq (aM.out.thn N.out)
 clear bJ
 obtain ⟨e0,e1⟩:=bB.out wr G.out
 by_cases hlt3:k<m
 ·have eH:k<r.rows.length:=by rw [HM.out];exact hlt3
  have dV:(0:Int)<=(k:Int):=C7
  have dX:(k:Int)<(m:Int):=C7
  obtain ⟨x,hx⟩:∃ x,r.rows[k]?=some x:=⟨_,Qx (by rw [HM.out];assumption)⟩
  obtain ⟨xb,A,aA,Y,aB,Z,dA,D,bV,d0,d1,d2,d3,d4⟩:=cI.out.val hx
  subst dA
  have eA:xb<w.heap.size:=D
  have cN:=Qq bV;have bA:=Qq (cH.out x (Qy hx))
  have aY:=Qq (fun W (h:Below w w W)=>(Qe (show W.cell? ⟨xb,A+k*5,none⟩=some (.int .i64 x.kind) from kD h D d0) (Qe (show W.cell? ⟨xb,A+k*5+1,none⟩=some (.int .i64 x.n) from kD h D d1) (Qe (show W.cell? ⟨xb,A+k*5+2,none⟩=some (.string ⟨x.s.toArray⟩) from kD h D d2) (Qe (show W.cell? ⟨xb,A+k*5+3,none⟩=some (.slice aA x.names.length Y) from kD h D d3) (show W.cell? ⟨xb,A+k*5+4,none⟩=some (.slice aB x.kids.length Z) from kD h D d4))))))
  clear hx bV D d0 d1 d2 d3 d4
  obtain ⟨x0,x1,x2,x3,x4⟩:=aY.out wr G.out
  obtain ⟨g0,g1,g2,g3,g4,g5,g6,g7,g8,g9,bG,bH,bI⟩:=cK.out wr G.out
  have aH:=kB N.out cO.out
  obtain ⟨c0,c1⟩:=row2 aH
  clear aH
  refine let_mvar% ?Lq1:=fun w':World=>Cf w' w 0 (.slice up s.sums.length uc)/\Cf w' w 1 (Cg tb V n tc)/\Cf w' lb (J+i*2+1) (Cg xb A m qc)/\Qjl w' xb (A+k*5) x.kind x.n x.s (.slice aA x.names.length Y) (.slice aB x.kids.length Z) ((Qjs w' tb (V+i*13) t.name (.slice cU t.columns.length cT) (.slice dH t.key.length dG) (.slice dP t.refs.length dO) k9 (.string dQ) n9 (.string dR) (.slice dL dI cQ) (.slice dM dJ cR) (.slice dN dK cS) a9 z9:Prop));?_
  have M:=Qq (fun (w':World) (h:Below wr wr w')=>(show ?Lq1 w' from ⟨kC h c0,kC h c1,kC h e1,kC h x0,kC h x1,kC h x2,kC h x3,kC h x4,kC h g0,kC h g1,kC h g2,kC h g3,kC h g4,kC h g5,kC h g6,kC h g7,kC h g8,kC h g9,kC h bG,kC h bH,kC h bI⟩))
  have aE:=Qq (M.out wr.drew (Qz _ _).drew)
  obtain ⟨bb,bM⟩:=rhasRow s.sums cJ.out t bC.out x bA.out
  have O:=Qq (fun W r3 m3 r4 m4 (hW:Below wr wr W) (aF:X5 (fun _=>True) W [.int .i64 5,Cl,Ci,.slice r3 t.columns.length m3,.slice r4 t.columns.length m4] (M4 t))=>rhasGood s.sums x (M4 t) bb bA.out.good bM _ _ _ _ _ _ W (HU.out.below (G.out.thn hW)) (cN.out.move (.of_below (G.out.thn hW)) Qje) aF)
  have aG:=Qq (fun W (hW:Below wr wr W)=>We _ t _ W (Zm.frame cM.out (.of_below (G.out.thn hW))) bC.out.cols)
  unfold vcs at O
  clear bM
  go_upto_region 15 with fail
  clear c0 c1 e1 x0 x1 x2 x3 x4 g0 g1 g2 g3 g4 g5 g6 g7 g8 g9 bG bH bI
  go_region_held3 ?Lq1 (first | with_reducible exact aE.out | with_reducible exact aO) (first
    | (go_at_call 47;refine (aG.out _ (Qz _ _).drew).mono ?_;rintro e w6 ⟨r3,m3,r4,m4,rfl,aF,bK⟩;have T:Below wr wr w6:=(Qz _ _).drew.thn bK;have aO:=M.out w6 T;have aK:=aF.move (S':=fun _=>True) (.refl _ _) (fun _ _ _=>trivial);have bD:=Qq aK;have aN:=Qq T;clear aF bK T aK)
    | (go_at_call 46;refine (O.out _ _ _ _ _ aN.out bD.out).mono ?_;rintro e w7 ⟨rfl,bL⟩;have U:=aN.out.thn bL;have aO:=M.out w7 U;have cC:=Qq U;clear bL U))
  have aD:=Qq (N.out.thn cC.out);have bE:=Qq (aM.out.thn aD.out)
  clear M aE O aG bD aN
  cases bb with
  | true=>
   go_wp2_with fail
   go_roundw
   case measure=>simp [intOf];omega
   case rel=>exact ⟨k+1,C7,by go_num,aD.out⟩
  | false=>
   obtain ⟨e0,e1⟩:=bB.out w7 bE.out
   obtain ⟨x0,x1,x2,x3,x4⟩:=aY.out w7 bE.out
   refine let_mvar% ?Lq2:=fun w':World=>Cf w' lb (J+i*2) r.table/\Cf w' lb (J+i*2+1) (Cg xb A m qc)/\Qjr w' xb (A+k*5) x.kind x.n x.s (.slice aA x.names.length Y) (.slice aB x.kids.length Z);?_
   have M:=Qq (fun (w':World) (h:Below w7 w7 w')=>(show ?Lq2 w' from ⟨kC h e0,kC h e1,kC h x0,kC h x1,kC h x2,kC h x3,kC h x4⟩))
   have HP:∀ z0 z1 z2 z3 z4 z5 z6 z7 z8 z9 bW bX,?Lq2 (Yd w7 (w+1) z0 z1 z2 z3 z4 z5 z6 z7 z8 z9 bW bX).drew:=fun z0 z1 z2 z3 z4 z5 z6 z7 z8 z9 bW bX=>⟨Zr C7 e0,Zr C7 e1,Zr C7 x0,Zr C7 x1,Zr C7 x2,Zr C7 x3,Zr C7 x4⟩
   unfold Yd at HP
   have cF:=Qq HP
   clear HP
   have aE:=Qq (M.out w7.drew (Qz _ _).drew)
   have I:=kE aD.out cX cP.out
   obtain ⟨y0,y1,y2,y3,y4,y5,y6,y7,y8,y9,eJ,eK⟩:=row12 I
   obtain ⟨f0,f1,f2,f3,f4,f5,f6,f7,f8,f9,eD,eE⟩:=frz12 I
   have bF:=Qq I
   clear I
   go_upto_region 17 with fail
   clear e0 e1 x0 x1 x2 x3 x4
   go_region_held3 ?Lq2 (first | with_reducible exact aE.out | with_reducible exact aO | with_reducible exact cF.out _ _ _ _ _ _ _ _ _ _ _ _) (fail)
   all_goals
    go_wp2_with fail
    show bodyPost _ _ _ _ _ (Yd w7 (w+1) (.int .i64 9) r.table x.kind x.n x.s (.slice aA x.names.length Y) (.slice aB x.kids.length Z) Ci Ci Cl Cm Cm).drew
    refine Q7 (v:=.agg #[.int .i64 9,r.table,x.kind,x.n,x.s,.slice aA x.names.length Y,.slice aB x.kids.length Z,Ci,Ci,Cl,Cm,Cm]) (by simp [results,results11,go_sem,Y8 bF.out]) rfl ⟨⟨_,_,_,_,_,_,_,_,_,_,_,_,rfl⟩,(Y1 (aM.out.thn aD.out) C7).drew⟩
 have eF:k=m:=C7
 have hq:¬ (k:Int)<(m:Int):=C7
 go_wp2_with fail
 go_roundw
 case measure=>simp [intOf];omega
 case rel=>exact ⟨i+1,C7,by go_num,N.out⟩
end Go.Proofs.YtcljcblceodciaaGreatDoor

import Derived.Test.YtdpibdpbgokmoaaGreatDoorC43
set_option maxRecDepth 100000
set_option maxHeartbeats 400000000
namespace Go.Proofs.YtdpibdpbgokmoaaGreatDoor
open Go.RowKit Go.Shelf Go.Lib Tryz
theorem Wt:Ka.P1:=by
 intro _ _ s l w _ _ _ _ _ _ _ _ _ _ _ aH _ n _ HL _ _ _ HN Y _ aC _ aL aN _ _ aE _ _ _ wr _ _ _ _ _ _ _ _ _ _ _ _ _ _ _ _ _ _ _ k _ G O aK I
 have aY:k<l.length:=by rw [Y.out];exact I
 have aR:(0:Int)≤(k:Int):=Qqj
 have aS:(k:Int)<(n:Int):=Qqj
 obtain ⟨r,hr⟩:∃ r,l[k]?=some r:=⟨_,Qx (by rw [Y.out];assumption)⟩
 obtain ⟨lb,N,aZ,aM,D,_,_,⟨rv,aA,J,V⟩,U⟩:=HL.out.elem hr
 subst aM;subst aA
 obtain ⟨q,qc,M,aP⟩:=V.len
 obtain ⟨m,hm⟩:=eX (r.rows.length)
 rw [hm] at M aP
 subst M
 obtain ⟨aV,HM,aU,T,aI⟩:=Qqr V hm (aH.out r (Qy hr)) hr J
 have aF:=Qq (fun W (h:Below w w W)=>Qe (show W.cell? ⟨lb,N+k*2,none⟩=some (.string ⟨r.table.toArray⟩) from kD h D (U 0 _ rfl)) (show W.cell? ⟨lb,N+k*2+1,none⟩=some (.slice q m qc) from kD h D (U 1 _ rfl)))
 have aT:lb<w.heap.size:=D
 clear hr U V hm D J
 obtain ⟨e0,e1⟩:=aF.out wr aK.out
 by_cases hbig:256<m
 ·have hq:(256:Int)<(m:Int):=Qqj
  have aG:=Qq (Ni (c:=0) aE.out G.out Qqx T.out (by rw [HN.out];exact I) (show cfR s l 0 k=⟨4,[],Val.zero,Val.zero⟩ from by rw [cfR_0 T.out];unfold Ej;rw [if_pos (by rw [HM.out];exact hbig)]) Qqx)
  have A:=kE O.out aN aL.out
  obtain ⟨y0,y1,y2,y3,y4,y5,y6,y7,y8,y9,bA,bB⟩:=row12 A
  obtain ⟨f0,f1,f2,f3,f4,f5,f6,f7,f8,f9,aW,aX⟩:=frz12 A
  have Z:=Qq A
  clear A
  go_wp2_with fail
  show bodyPost _ _ _ _ _ (Yb wr (w+1) (.int .i64 4) r.table Qqd Qqd Qqe Qqf Qqf Qqd Qqd Qqe Qqf Qqf)
  have aD:Below w w (Yb wr (w+1) (.int .i64 4) r.table Qqd Qqd Qqe Qqf Qqf Qqd Qqd Qqe Qqf Qqf):=(Yy (aC.out.thn O.out) Qqj)
  exact Q7 (v:=.agg #[.int .i64 4,r.table,Qqd,Qqd,Qqe,Qqf,Qqf,Qqd,Qqd,Qqe,Qqf,Qqf]) (by simp [results,results10,go_sem,Ya Z.out]) rfl (D7 (c1:=[.int .i64 0,.int .i64 0,.string ⟨#[]⟩,.slice none 0 0,.slice none 0 0]) (c2:=[.int .i64 0,.int .i64 0,.string ⟨#[]⟩,.slice none 0 0,.slice none 0 0]) aG.out (Yw _ _) (Yw _ _) aI.out aD)
 have hq:¬ (256:Int)<(m:Int):=Qqj
 have aJ:=Qq (Kv (c:=0) G.out (show (cfR s l 0 k).code=0 from by rw [cfR_0 T.out];unfold Ej;rw [if_neg (by rw [HM.out];exact hbig)];rfl))
 go_wp2_with fail
 go_roundw
 case measure=>simp [intOf];omega
 case rel=>exact ⟨k+1,Qqj,by go_num,aJ.out,O.out⟩
theorem Ah:Ka.P2:=by
 intro _ _ s l w _ up uc _ _ tc _ _ _ HU dD cX dB n _ HL _ _ HT HN bJ W1 aQ dH dI dR _ _ cR _ _ _ _ _ _ _ _ _ _ _ _ _ _ _ _ _ _ _ _ _ _ k dO V G _ _ _ _ _ _ wr _ _ _ _ _ _ _ _ _ _ _ _ _ _ _ _ _ _ _ _ _ _ _ _ _ _ _ _ _ _ _ _ _ _ _ _ _ _ _ _ _ _ _ _ _ _ _ _ _ _ _ i _ aJ cS _ aL
 have eW:i<l.length:=by rw [bJ.out];exact aL
 have eL:(0:Int)≤(i:Int):=Qqj
 have eN:(i:Int)<(n:Int):=Qqj
 obtain ⟨r,hr⟩:∃ r,l[i]?=some r:=⟨_,Qx (by rw [bJ.out];assumption)⟩
 obtain ⟨lb,T,eZ,dQ,aY,_,_,⟨rv,cE,aN,aZ⟩,cD⟩:=HL.out.elem hr
 subst dQ;subst cE
 obtain ⟨q,qc,aO,dT⟩:=aZ.len
 obtain ⟨m,hm⟩:=eX (r.rows.length)
 rw [hm] at aO dT
 subst aO
 obtain ⟨dA,HM,cZ,aS,cY⟩:=Qqr aZ hm (cX.out r (Qy hr)) hr aN
 have bL:=hT2 (o:=T+i*2) (x0:=.string ⟨r.table.toArray⟩) aY cD
 have eP:lb<w.heap.size:=aY
 clear hr cD aZ hm aY aN
 obtain ⟨t,ht⟩:∃ t,s.tables[i]?=some t:=⟨_,Qx (by rw [HN.out];assumption)⟩
 obtain ⟨tb,aC,eS,dW,bA,_,_,aV,cF⟩:=HT.out.elem ht
 subst dW
 obtain ⟨dN,dM,dY,dX,eG,eF,k9,eH,n9,eI,eC,dZ,dJ,eD,eA,dK,eE,eB,dL,a9,z9,cB,dV,cA,cC,aM,bZ⟩:=Yj aV
 simp only [tcs] at cB
 subst cB
 obtain ⟨dE,bN,eT,bM⟩:=Qqp aV (dD.out t (Qy ht)) aM ht
 have dC:=hT13 (o:=aC+i*13) bA cF
 have eQ:tb<w.heap.size:=bA
 clear ht aV cF dV cA cC aM bZ bA
 go_upto_region 13 with fail
 go_loopw [8,9] (fun t8 _ wr=>∃ k:Nat,k≤m∧t8=.int .i64 k∧Aside (∀ y ∈ r.rows.take k,D9 s.sums t y=true)∧Aside (Below W1 W1 wr)) (fun t8 _ _=>m - (intOf t8).toNat)
 case atStart=>exact ⟨0,Q8 _,rfl,(by intro y hy;simp at hy),cS.out⟩
 obtain ⟨k,dO,rfl,Z,bW⟩:=hrel
 have aT:=Qq (show ∀ y ∈ r.rows.take k,D9 s.sums t y=true from Z)
 clear Z
 have V:=Qq (show Below W1 W1 wr from bW)
 have G:=Qq (aQ.out.thn V.out)
 clear bW
 obtain ⟨e0,e1⟩:=bL.out wr G.out
 by_cases hlt3:k<m
 ·have eY:k<r.rows.length:=by rw [HM.out];exact hlt3
  have eM:(0:Int)≤(k:Int):=Qqj
  have eO:(k:Int)<(m:Int):=Qqj
  obtain ⟨x,hx⟩:∃ x,r.rows[k]?=some x:=⟨_,Qx (by rw [HM.out];assumption)⟩
  obtain ⟨xb,A,M,I,N,J,dU,D,cG,d0,d1,d2,d3,d4⟩:=dA.out.val hx
  subst dU
  have eR:xb<w.heap.size:=D
  obtain ⟨bP,bK,bR⟩:=Qqo cG (cZ.out x (Qy hx)) hx
  have bI:=Qq (fun W (h:Below w w W)=>(Qe (show W.cell? ⟨xb,A+k*5,none⟩=some (.int .i64 x.kind) from kD h D d0) (Qe (show W.cell? ⟨xb,A+k*5+1,none⟩=some (.int .i64 x.n) from kD h D d1) (Qe (show W.cell? ⟨xb,A+k*5+2,none⟩=some (.string ⟨x.s.toArray⟩) from kD h D d2) (Qe (show W.cell? ⟨xb,A+k*5+3,none⟩=some (.slice M x.names.length I) from kD h D d3) (show W.cell? ⟨xb,A+k*5+4,none⟩=some (.slice N x.kids.length J) from kD h D d4))))))
  clear hx cG D d0 d1 d2 d3 d4
  obtain ⟨x0,x1,x2,x3,x4⟩:=bI.out wr G.out
  obtain ⟨g0,g1,g2,g3,g4,g5,g6,g7,g8,g9,bT,bU,bV⟩:=dC.out wr G.out
  have aK:=kB V.out dH.out
  obtain ⟨c0,c1⟩:=row2 aK
  clear aK
  refine let_mvar% ?Lq1:=fun w':World=>Qqa w' w 0 (.slice up s.sums.length uc)∧Qqa w' w 1 (Qqb tb aC n tc)∧Qqa w' lb (T+i*2+1) (Qqb xb A m qc)∧Qzc w' xb (A+k*5) x.kind x.n x.s (.slice M x.names.length I) (.slice N x.kids.length J) ((Qzi w' tb (aC+i*13) t.name (.slice dN t.columns.length dM) (.slice dY t.key.length dX) (.slice eG t.refs.length eF) k9 (.string eH) n9 (.string eI) (.slice eC dZ dJ) (.slice eD eA dK) (.slice eE eB dL) a9 z9:Prop));?_
  have U:=Qq (fun (w':World) (h:Below wr wr w')=>(show ?Lq1 w' from ⟨kC h c0,kC h c1,kC h e1,kC h x0,kC h x1,kC h x2,kC h x3,kC h x4,kC h g0,kC h g1,kC h g2,kC h g3,kC h g4,kC h g5,kC h g6,kC h g7,kC h g8,kC h g9,kC h bT,kC h bU,kC h bV⟩))
  have aF:=Qq (U.out wr.drew (Qz _ _).drew)
  obtain ⟨bb,aX⟩:=eX (D9 s.sums t x)
  have aW:=rhasRow s.sums dB.out t bN.out x bK.out
  rw [aX] at aW
  have bH:=Qq aX
  clear aX
  have Y:=Qq (fun W r3 m3 r4 m4 (hW:Below wr wr W) (aG:Xf (fun _=>True) W [.int .i64 5,Qqe,Qqd,.slice r3 t.columns.length m3,.slice r4 t.columns.length m4] (N9 t))=>rhasGood s.sums x (N9 t) bb bK.out.good aW _ _ _ _ _ _ W (HU.out.below (G.out.thn hW)) (bP.out.move (.of_below (G.out.thn hW)) Qzx) aG)
  have aI:=Qq (fun W (hW:Below wr wr W)=>C7 _ t _ W (Zn.frame dE.out (.of_below (G.out.thn hW))) bN.out.cols)
  unfold vcs at Y
  clear aW
  go_upto_region 15 with fail
  clear c0 c1 e1 x0 x1 x2 x3 x4 g0 g1 g2 g3 g4 g5 g6 g7 g8 g9 bT bU bV
  go_region_held3 ?Lq1 (first | with_reducible exact aF.out | with_reducible exact aU) (first
    | (go_at_call 40;refine (aI.out _ (Qz _ _).drew).mono ?_;rintro e w6 ⟨r3,m3,r4,m4,rfl,aG,bX⟩;have aA:Below wr wr w6:=(Qz _ _).drew.thn bX;have aU:=U.out w6 aA;have aP:=aG.move (S':=fun _=>True) (.refl _ _) (fun _ _ _=>trivial);have bO:=Qq aP;have aR:=Qq aA;clear aG bX aA aP)
    | (go_at_call 39;refine (Y.out _ _ _ _ _ aR.out bO.out).mono ?_;rintro e w7 ⟨rfl,bY⟩;have aB:=aR.out.thn bY;have aU:=U.out w7 aB;have cQ:=Qq aB;clear bY aB))
  have aE:=Qq (V.out.thn cQ.out);have bQ:=Qq (aQ.out.thn aE.out)
  clear U aF Y aI bO aR
  cases bb with
  | true=>
   have dF:=Qq (Bx (p:=D9 s.sums t) bR.out bH.out aT.out)
   go_wp2_with fail
   go_roundw
   case measure=>simp [intOf];omega
   case rel=>exact ⟨k+1,Qqj,by go_num,dF.out,aE.out⟩
  | false=>
   have cW:=Qq (Ni (c:=1) cR.out aJ.out Qqx aS.out (by rw [HN.out];exact aL) (show cfR s l 1 i=⟨9,[],x,Val.zero⟩ from by rw [cfR_1 aS.out bM.out];exact Hr bR.out bH.out aT.out) Qqx)
   obtain ⟨e0,e1⟩:=bL.out w7 bQ.out
   obtain ⟨x0,x1,x2,x3,x4⟩:=bI.out w7 bQ.out
   refine let_mvar% ?Lq2:=fun w':World=>Qqa w' lb (T+i*2) r.table∧Qqa w' lb (T+i*2+1) (Qqb xb A m qc)∧Qzh w' xb (A+k*5) x.kind x.n x.s (.slice M x.names.length I) (.slice N x.kids.length J);?_
   have U:=Qq (fun (w':World) (h:Below w7 w7 w')=>(show ?Lq2 w' from ⟨kC h e0,kC h e1,kC h x0,kC h x1,kC h x2,kC h x3,kC h x4⟩))
   have HP:∀ z0 z1 z2 z3 z4 z5 z6 z7 z8 z9 cH cI,?Lq2 (Yb w7 (w+1) z0 z1 z2 z3 z4 z5 z6 z7 z8 z9 cH cI).drew:=fun z0 z1 z2 z3 z4 z5 z6 z7 z8 z9 cH cI=>⟨Zr Qqj e0,Zr Qqj e1,Zr Qqj x0,Zr Qqj x1,Zr Qqj x2,Zr Qqj x3,Zr Qqj x4⟩
   unfold Yb at HP
   have cV:=Qq HP
   clear HP
   have aF:=Qq (U.out w7.drew (Qz _ _).drew)
   have O:=kE aE.out dR dI.out
   obtain ⟨y0,y1,y2,y3,y4,y5,y6,y7,y8,y9,fA,fB⟩:=row12 O
   obtain ⟨f0,f1,f2,f3,f4,f5,f6,f7,f8,f9,eU,eV⟩:=frz12 O
   have bS:=Qq O
   clear O
   go_upto_region 17 with fail
   clear e0 e1 x0 x1 x2 x3 x4
   go_region_held3 ?Lq2 (first | with_reducible exact aF.out | with_reducible exact aU | with_reducible exact cV.out _ _ _ _ _ _ _ _ _ _ _ _) (fail)
   all_goals
    go_wp2_with fail
    show bodyPost _ _ _ _ _ (Yb w7 (w+1) (.int .i64 9) r.table x.kind x.n x.s (.slice M x.names.length I) (.slice N x.kids.length J) Qqd Qqd Qqe Qqf Qqf).drew
    have bG:Below w w (Yb w7 (w+1) (.int .i64 9) r.table x.kind x.n x.s (.slice M x.names.length I) (.slice N x.kids.length J) Qqd Qqd Qqe Qqf Qqf).drew:=(Yy (aQ.out.thn aE.out) Qqj).drew
    exact Q7 (v:=.agg #[.int .i64 9,r.table,x.kind,x.n,x.s,.slice M x.names.length I,.slice N x.kids.length J,Qqd,Qqd,Qqe,Qqf,Qqf]) (by simp [results,results10,go_sem,Ya bS.out]) rfl (D7 (c1:=[.int .i64 x.kind,.int .i64 x.n,.string ⟨x.s.toArray⟩,.slice M x.names.length I,.slice N x.kids.length J]) (c2:=[.int .i64 0,.int .i64 0,.string ⟨#[]⟩,.slice none 0 0,.slice none 0 0]) cW.out (Z9.move bP.out (.of_below bG) (fun _ _ h=>h.2)) (Yw _ _) cY.out bG)
 have dP:k=m:=Qqj
 have dG:=Qq (Kv (c:=1) aJ.out (show (cfR s l 1 i).code=0 from by rw [cfR_1 aS.out bM.out];exact Gh (by rw [HM.out,← dP];exact aT.out)))
 have hq:¬ (k:Int)<(m:Int):=Qqj
 go_wp2_with fail
 go_roundw
 case measure=>simp [intOf];omega
 case rel=>exact ⟨i+1,Qqj,by go_num,dG.out,V.out⟩
end Go.Proofs.YtdpibdpbgokmoaaGreatDoor

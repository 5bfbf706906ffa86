import Derived.Test.YtdpibdpbgokmoaaGreatDoorA41
set_option maxRecDepth 100000
set_option maxHeartbeats 400000000
namespace Go.Proofs.YtdpibdpbgokmoaaGreatDoor
open Go.RowKit Go.Shelf Go.Lib Tryz
theorem Qqs:Kf.P1:=by
 intro _ _ s l w _ _ _ _ _ _ _ _ _ _ _ aH _ n _ HL _ _ _ HN Y _ aC _ aL aN _ _ aE _ _ _ wr _ _ _ _ _ _ _ _ _ _ _ _ _ _ _ _ _ _ _ k _ G O aK I
 have aY:k<l.length:=by rw [Y.o];exact I
 have aR:(0:Int)<=(k:Int):=Ia
 have aS:(k:Int)<(n:Int):=Ia
 obtain ⟨r,hr⟩:∃ r,l[k]?=some r:=⟨_,Qx (by rw [Y.o];assumption)⟩
 obtain ⟨lb,N,aZ,aM,D,_,_,⟨rv,aA,J,V⟩,U⟩:=HL.o.elem hr
 subst aM;subst aA
 obtain ⟨q,qc,M,aP⟩:=V.len
 obtain ⟨m,hm⟩:=eX (r.rows.length)
 rw [hm] at M aP
 subst M
 obtain ⟨aV,HM,aU,T,aI⟩:=AO V hm (aH.o r (Qy hr)) hr J
 have aF:=Qq (λW (h:Below w w W)=>Qe (show W.cell? ⟨lb,N+k*2,none⟩=some (.string ⟨r.table.toArray⟩) from kD h D (U 0 _ rfl)) (show W.cell? ⟨lb,N+k*2+1,none⟩=some (.slice q m qc) from kD h D (U 1 _ rfl)))
 have aT:lb<w.heap.size:=D
 clear hr U V hm D J
 obtain ⟨e0,e1⟩:=aF.o wr aK.o
 by_cases hbig:256<m
 ·have hq:(256:Int)<(m:Int):=Ia
  have aG:=Qq (Pg (c:=0) aE.o G.o Ih T.o (by rw [HN.o];exact I) (show cfR s l 0 k=⟨4,[],Val.zero,Val.zero⟩ from by rw [cfR_0 T.o];unfold G7;rw [if_pos (by rw [HM.o];exact hbig)]) Ih)
  have A:=kE O.o aN aL.o
  obtain ⟨y0,y1,y2,y3,y4,y5,y6,y7,y8,y9,bA,bB⟩:=AT A
  obtain ⟨f0,f1,f2,f3,f4,f5,f6,f7,f8,f9,aW,aX⟩:=AS A
  have Z:=Qq A
  clear A
  go_wp2_with fail
  show bodyPost _ _ _ _ _ (Y9 wr (w+1) (.int .i64 4) r.table Ic Ic Ig Ie Ie Ic Ic Ig Ie Ie)
  have aD:Below w w (Y9 wr (w+1) (.int .i64 4) r.table Ic Ic Ig Ie Ie Ic Ic Ig Ie Ie):=(Y1 (aC.o.n O.o) Ia)
  exact Q7 (v:=.agg #[.int .i64 4,r.table,Ic,Ic,Ig,Ie,Ie,Ic,Ic,Ig,Ie,Ie]) (by simp [results,results10,go_sem,Ya Z.o]) rfl (Fu (c1:=[.int .i64 0,.int .i64 0,.string ⟨#[]⟩,.slice none 0 0,.slice none 0 0]) (c2:=[.int .i64 0,.int .i64 0,.string ⟨#[]⟩,.slice none 0 0,.slice none 0 0]) aG.o (Y2 _ _) (Y2 _ _) aI.o aD)
 have hq:¬ (256:Int)<(m:Int):=Ia
 have aJ:=Qq (Kg (c:=0) G.o (show (cfR s l 0 k).code=0 from by rw [cfR_0 T.o];unfold G7;rw [if_neg (by rw [HM.o];exact hbig)];rfl))
 go_wp2_with fail
 go_roundw
 case measure=>simp [intOf];omega
 case rel=>exact ⟨k+1,Ia,by go_num,aJ.o,O.o⟩
theorem Qzc:Kf.P2:=by
 intro _ _ s l w _ up uc _ _ tc _ _ _ HU dD cX dB n _ HL _ _ HT HN bJ W1 aQ dH dI dR _ _ cR _ _ _ _ _ _ _ _ _ _ _ _ _ _ _ _ _ _ _ _ _ _ k dO V G _ _ _ _ _ _ wr _ _ _ _ _ _ _ _ _ _ _ _ _ _ _ _ _ _ _ _ _ _ _ _ _ _ _ _ _ _ _ _ _ _ _ _ _ _ _ _ _ _ _ _ _ _ _ _ _ _ _ i _ aJ cS _ aL
 have eW:i<l.length:=by rw [bJ.o];exact aL
 have eL:(0:Int)<=(i:Int):=Ia
 have eN:(i:Int)<(n:Int):=Ia
 obtain ⟨r,hr⟩:∃ r,l[i]?=some r:=⟨_,Qx (by rw [bJ.o];assumption)⟩
 obtain ⟨lb,T,eZ,dQ,aY,_,_,⟨rv,cE,aN,aZ⟩,cD⟩:=HL.o.elem hr
 subst dQ;subst cE
 obtain ⟨q,qc,aO,dT⟩:=aZ.len
 obtain ⟨m,hm⟩:=eX (r.rows.length)
 rw [hm] at aO dT
 subst aO
 obtain ⟨dA,HM,cZ,aS,cY⟩:=AO aZ hm (cX.o r (Qy hr)) hr aN
 have bL:=hT2 (o:=T+i*2) (x0:=.string ⟨r.table.toArray⟩) aY cD
 have eP:lb<w.heap.size:=aY
 clear hr cD aZ hm aY aN
 obtain ⟨t,ht⟩:∃ t,s.tables[i]?=some t:=⟨_,Qx (by rw [HN.o];assumption)⟩
 obtain ⟨tb,aC,eS,dW,bA,_,_,aV,cF⟩:=HT.o.elem ht
 subst dW
 obtain ⟨dN,dM,dY,dX,eG,eF,k9,eH,n9,eI,eC,dZ,dJ,eD,eA,dK,eE,eB,dL,a9,z9,cB,dV,cA,cC,aM,bZ⟩:=Yq aV
 simp only [AL] at cB
 subst cB
 obtain ⟨dE,bN,eT,bM⟩:=It aV (dD.o t (Qy ht)) aM ht
 have dC:=hT13 (o:=aC+i*13) bA cF
 have eQ:tb<w.heap.size:=bA
 clear ht aV cF dV cA cC aM bZ bA
 go_upto_region 13 with fail
 go_loopw [8,9] (λt8 _ wr=>∃ k:Nat,k<=m/\t8=.int .i64 k/\Aside (∀ y ∈ r.rows.take k,De s.sums t y=true)/\Aside (Below W1 W1 wr)) (λt8 _ _=>m - (intOf t8).toNat)
 case atStart=>exact ⟨0,Q8 _,rfl,(by intro y hy;simp at hy),cS.o⟩
 obtain ⟨k,dO,rfl,Z,bW⟩:=hrel
 have aT:=Qq (show ∀ y ∈ r.rows.take k,De s.sums t y=true from Z)
 clear Z
 have V:=Qq (show Below W1 W1 wr from bW)
 have G:=Qq (aQ.o.n V.o)
 clear bW
 obtain ⟨e0,e1⟩:=bL.o wr G.o
 by_cases hlt3:k<m
 ·have eY:k<r.rows.length:=by rw [HM.o];exact hlt3
  have eM:(0:Int)<=(k:Int):=Ia
  have eO:(k:Int)<(m:Int):=Ia
  obtain ⟨x,hx⟩:∃ x,r.rows[k]?=some x:=⟨_,Qx (by rw [HM.o];assumption)⟩
  obtain ⟨xb,A,M,I,N,J,dU,D,cG,d0,d1,d2,d3,d4⟩:=dA.o.val hx
  subst dU
  have eR:xb<w.heap.size:=D
  obtain ⟨bP,bK,bR⟩:=Im cG (cZ.o x (Qy hx)) hx
  have bI:=Qq (λW (h:Below w w W)=>(Qe (show W.cell? ⟨xb,A+k*5,none⟩=some (.int .i64 x.kind) from kD h D d0) (Qe (show W.cell? ⟨xb,A+k*5+1,none⟩=some (.int .i64 x.n) from kD h D d1) (Qe (show W.cell? ⟨xb,A+k*5+2,none⟩=some (.string ⟨x.s.toArray⟩) from kD h D d2) (Qe (show W.cell? ⟨xb,A+k*5+3,none⟩=some (.slice M x.names.length I) from kD h D d3) (show W.cell? ⟨xb,A+k*5+4,none⟩=some (.slice N x.kids.length J) from kD h D d4))))))
  clear hx cG D d0 d1 d2 d3 d4
  obtain ⟨x0,x1,x2,x3,x4⟩:=bI.o wr G.o
  obtain ⟨g0,g1,g2,g3,g4,g5,g6,g7,g8,g9,bT,bU,bV⟩:=dC.o wr G.o
  have aK:=kB V.o dH.o
  obtain ⟨c0,c1⟩:=AF aK
  clear aK
  refine let_mvar% ?Lq1:=λw':World=>Ii w' w 0 (.slice up s.sums.length uc)/\Ii w' w 1 (Io tb aC n tc)/\Ii w' lb (T+i*2+1) (Io xb A m qc)/\BF w' xb (A+k*5) x.kind x.n x.s (.slice M x.names.length I) (.slice N x.kids.length J) ((BU w' tb (aC+i*13) t.name (.slice dN t.columns.length dM) (.slice dY t.key.length dX) (.slice eG t.refs.length eF) k9 (.string eH) n9 (.string eI) (.slice eC dZ dJ) (.slice eD eA dK) (.slice eE eB dL) a9 z9:Prop));?_
  have U:=Qq (λ(w':World) (h:Below wr wr w')=>(show ?Lq1 w' from ⟨kC h c0,kC h c1,kC h e1,kC h x0,kC h x1,kC h x2,kC h x3,kC h x4,kC h g0,kC h g1,kC h g2,kC h g3,kC h g4,kC h g5,kC h g6,kC h g7,kC h g8,kC h g9,kC h bT,kC h bU,kC h bV⟩))
  have aF:=Qq (U.o wr.drew (Qz _ _).drew)
  obtain ⟨bb,aX⟩:=eX (De s.sums t x)
  have aW:=rhasRow s.sums dB.o t bN.o x bK.o
  rw [aX] at aW
  have bH:=Qq aX
  clear aX
  have Y:=Qq (λW r3 m3 r4 m4 (hW:Below wr wr W) (aG:Xl (λ_=>True) W [.int .i64 5,Ig,Ic,.slice r3 t.columns.length m3,.slice r4 t.columns.length m4] (Ov t))=>rhasGood s.sums x (Ov t) bb bK.o.good aW _ _ _ _ _ _ W (HU.o.below (G.o.n hW)) (bP.o.move (.f (G.o.n hW)) Ij) aG)
  have aI:=Qq (λW (hW:Below wr wr W)=>Qqr _ t _ W (Zn.frame dE.o (.f (G.o.n hW))) bN.o.cols)
  unfold Il at Y
  clear aW
  go_upto_region 15 with fail
  clear c0 c1 e1 x0 x1 x2 x3 x4 g0 g1 g2 g3 g4 g5 g6 g7 g8 g9 bT bU bV
  go_region_held3 ?Lq1 (first | with_reducible exact aF.o | with_reducible exact aU) (first
    | (go_at_call 40;refine (aI.o _ (Qz _ _).drew).mono ?_;rintro e w6 ⟨r3,m3,r4,m4,rfl,aG,bX⟩;have aA:Below wr wr w6:=(Qz _ _).drew.n bX;have aU:=U.o w6 aA;have aP:=aG.move (S':=λ_=>True) (.refl _ _) (λ_ _ _=>trivial);have bO:=Qq aP;have aR:=Qq aA;clear aG bX aA aP)
    | (go_at_call 39;refine (Y.o _ _ _ _ _ aR.o bO.o).mono ?_;rintro e w7 ⟨rfl,bY⟩;have aB:=aR.o.n bY;have aU:=U.o w7 aB;have cQ:=Qq aB;clear bY aB))
  have aE:=Qq (V.o.n cQ.o);have bQ:=Qq (aQ.o.n aE.o)
  clear U aF Y aI bO aR
  cases bb with
  | true=>
   have dF:=Qq (Bo (p:=De s.sums t) bR.o bH.o aT.o)
   go_wp2_with fail
   go_roundw
   case measure=>simp [intOf];omega
   case rel=>exact ⟨k+1,Ia,by go_num,dF.o,aE.o⟩
  | false=>
   have cW:=Qq (Pg (c:=1) cR.o aJ.o Ih aS.o (by rw [HN.o];exact aL) (show cfR s l 1 i=⟨9,[],x,Val.zero⟩ from by rw [cfR_1 aS.o bM.o];exact He bR.o bH.o aT.o) Ih)
   obtain ⟨e0,e1⟩:=bL.o w7 bQ.o
   obtain ⟨x0,x1,x2,x3,x4⟩:=bI.o w7 bQ.o
   refine let_mvar% ?Lq2:=λw':World=>Ii w' lb (T+i*2) r.table/\Ii w' lb (T+i*2+1) (Io xb A m qc)/\BD w' xb (A+k*5) x.kind x.n x.s (.slice M x.names.length I) (.slice N x.kids.length J);?_
   have U:=Qq (λ(w':World) (h:Below w7 w7 w')=>(show ?Lq2 w' from ⟨kC h e0,kC h e1,kC h x0,kC h x1,kC h x2,kC h x3,kC h x4⟩))
   have HP:∀ z0 z1 z2 z3 z4 z5 z6 z7 z8 z9 cH cI,?Lq2 (Y9 w7 (w+1) z0 z1 z2 z3 z4 z5 z6 z7 z8 z9 cH cI).drew:=λz0 z1 z2 z3 z4 z5 z6 z7 z8 z9 cH cI=>⟨Zr Ia e0,Zr Ia e1,Zr Ia x0,Zr Ia x1,Zr Ia x2,Zr Ia x3,Zr Ia x4⟩
   unfold Y9 at HP
   have cV:=Qq HP
   clear HP
   have aF:=Qq (U.o w7.drew (Qz _ _).drew)
   have O:=kE aE.o dR dI.o
   obtain ⟨y0,y1,y2,y3,y4,y5,y6,y7,y8,y9,fA,fB⟩:=AT O
   obtain ⟨f0,f1,f2,f3,f4,f5,f6,f7,f8,f9,eU,eV⟩:=AS O
   have bS:=Qq O
   clear O
   go_upto_region 17 with fail
   clear e0 e1 x0 x1 x2 x3 x4
   go_region_held3 ?Lq2 (first | with_reducible exact aF.o | with_reducible exact aU | with_reducible exact cV.o _ _ _ _ _ _ _ _ _ _ _ _) (fail)
   all_goals
    go_wp2_with fail
    show bodyPost _ _ _ _ _ (Y9 w7 (w+1) (.int .i64 9) r.table x.kind x.n x.s (.slice M x.names.length I) (.slice N x.kids.length J) Ic Ic Ig Ie Ie).drew
    have bG:Below w w (Y9 w7 (w+1) (.int .i64 9) r.table x.kind x.n x.s (.slice M x.names.length I) (.slice N x.kids.length J) Ic Ic Ig Ie Ie).drew:=(Y1 (aQ.o.n aE.o) Ia).drew
    exact Q7 (v:=.agg #[.int .i64 9,r.table,x.kind,x.n,x.s,.slice M x.names.length I,.slice N x.kids.length J,Ic,Ic,Ig,Ie,Ie]) (by simp [results,results10,go_sem,Ya bS.o]) rfl (Fu (c1:=[.int .i64 x.kind,.int .i64 x.n,.string ⟨x.s.toArray⟩,.slice M x.names.length I,.slice N x.kids.length J]) (c2:=[.int .i64 0,.int .i64 0,.string ⟨#[]⟩,.slice none 0 0,.slice none 0 0]) cW.o (Z9.move bP.o (.f bG) (λ_ _ h=>h.2)) (Y2 _ _) cY.o bG)
 have dP:k=m:=Ia
 have dG:=Qq (Kg (c:=1) aJ.o (show (cfR s l 1 i).code=0 from by rw [cfR_1 aS.o bM.o];exact Bi (by rw [HM.o,<- dP];exact aT.o)))
 have hq:¬ (k:Int)<(m:Int):=Ia
 go_wp2_with fail
 go_roundw
 case measure=>simp [intOf];omega
 case rel=>exact ⟨i+1,Ia,by go_num,dG.o,V.o⟩
end Go.Proofs.YtdpibdpbgokmoaaGreatDoor

import Derived.Test.YtdpibdpbgokmoaaGreatDoorA41
set_option maxRecDepth 100000
set_option maxHeartbeats 400000000
namespace Go.Proofs.YtdpibdpbgokmoaaGreatDoor
open Go.RowKit Go.Shelf Go.Lib Tryz
theorem Cw:Kf.P3:=by
 intro _ _ s l w _ _ _ _ _ tc _ _ _ _ fC eZ _ n _ HL _ _ HT HN dB W1 aL fE fF fM _ _ eT _ _ _ _ _ _ _ _ _ _ _ _ _ _ _ _ _ _ _ _ _ _ k fJ aO dJ _ _ _ _ _ _ _ _ _ _ _ _ _ _ _ _ _ _ _ _ _ _ _ _ _ _ _ _ _ _ _ _ _ _ _ _ _ _ _ _ _ _ _ _ _ _ _ _ _ _ _ _ _ _ _ _ _ _ _ _ _ _ _ _ _ _ _ wr _ _ _ _ _ _ _ _ _ _ _ _ _ _ _ _ _ _ _ _ _ _ _ _ _ _ _ _ _ _ _ _ _ _ _ _ _ _ _ _ _ _ _ _ _ _ _ _ _ _ _ _ _ _ _ _ _ _ _ _ _ _ _ _ _ _ _ _ _ _ _ _ _ _ _ _ _ _ _ _ _ _ _ i _ aS eU _ aW
 have gM:i<l.length:=by rw [dB.o];exact aW
 have fV:(0:Int)<=(i:Int):=Ia
 have fY:(i:Int)<(n:Int):=Ia
 obtain ⟨r,hr⟩:∃ r,l[i]?=some r:=⟨_,Qx (by rw [dB.o];assumption)⟩
 obtain ⟨lb,aD,gP,fL,bS,_,_,⟨rv,eH,aY,bT⟩,eG⟩:=HL.o.elem hr
 subst fL;subst eH
 obtain ⟨q,qc,aZ,fO⟩:=bT.len
 obtain ⟨m,hm⟩:=eX (r.rows.length)
 rw [hm] at aZ fO
 subst aZ
 obtain ⟨dD,HM,dC,bF,fA⟩:=AO bT hm (eZ.o r (Qy hr)) hr aY
 have bE:=hT2 (o:=aD+i*2) (x0:=.string ⟨r.table.toArray⟩) bS eG
 have gB:lb<w.heap.size:=bS
 clear hr eG bT hm bS aY
 obtain ⟨t,ht⟩:∃ t,s.tables[i]?=some t:=⟨_,Qx (by rw [HN.o];assumption)⟩
 obtain ⟨tb,aJ,gE,fR,bU,_,_,bP,eI⟩:=HT.o.elem ht
 subst fR
 obtain ⟨bO,bN,bW,bV,cE,cD,k9,cF,n9,cG,cA,bX,bK,cB,bY,bL,cC,bZ,bM,a9,z9,eA,fQ,dZ,eE,aX,dY⟩:=Yq bP
 simp only [AL] at eA
 subst eA
 obtain ⟨dE,dG,gI,dF⟩:=It bP (fC.o t (Qy ht)) aX ht
 have fB:=hT13 (o:=aJ+i*13) bU eI
 have gC:tb<w.heap.size:=bU
 clear ht bP eI fQ dZ eE aX dY bU
 go_upto_region 22 with fail
 go_loopw [11,12,13] (λcH _ _ wr=>∃ k:Nat,k<=m/\cH=.int .i64 k/\Aside (Ke (Js t) r.rows=Ke (Js t) (r.rows.drop k))/\Aside (Below W1 W1 wr)) (λcH _ _ _=>m - (intOf cH).toNat)
 case atStart=>exact ⟨0,Q8 _,rfl,(by rw [List.drop_zero];exact rfl),eU.o⟩
 obtain ⟨k,fJ,rfl,aF,dW⟩:=hrel
 have bH:=Qq (show Ke (Js t) r.rows=Ke (Js t) (r.rows.drop k) from aF)
 clear aF
 have aO:=Qq (show Below W1 W1 wr from dW)
 have dJ:=Qq (aL.o.n aO.o)
 clear dW
 obtain ⟨e0,e1⟩:=bE.o wr dJ.o
 by_cases hlt3:k<m
 ·have gO:k<r.rows.length:=by rw [HM.o];exact hlt3
  have fX:(0:Int)<=(k:Int):=Ia
  have gA:(k:Int)<(m:Int):=Ia
  obtain ⟨x,hx⟩:∃ x,r.rows[k]?=some x:=⟨_,Qx (by rw [HM.o];assumption)⟩
  obtain ⟨J,A,aA,Y,aB,Z,fP,D,eK,d0,d1,d2,d3,d4⟩:=dD.o.val hx
  subst fP
  have gD:J<w.heap.size:=D
  obtain ⟨dI,gH,dL⟩:=Im eK (dC.o x (Qy hx)) hx
  have cY:=Qq (λW (h:Below w w W)=>(Qe (show W.cell? ⟨J,A+k*5,none⟩=some (.int .i64 x.kind) from kD h D d0) (Qe (show W.cell? ⟨J,A+k*5+1,none⟩=some (.int .i64 x.n) from kD h D d1) (Qe (show W.cell? ⟨J,A+k*5+2,none⟩=some (.string ⟨x.s.toArray⟩) from kD h D d2) (Qe (show W.cell? ⟨J,A+k*5+3,none⟩=some (.slice aA x.names.length Y) from kD h D d3) (show W.cell? ⟨J,A+k*5+4,none⟩=some (.slice aB x.kids.length Z) from kD h D d4))))))
  clear hx eK D d0 d1 d2 d3 d4
  go_upto_region 25 with fail
  clear e0 e1
  go_loopw [12,13] (λcI _ wr=>∃ j:Nat,j<=m/\cI=.int .i64 j/\Aside ((r.rows.drop (k+1)).find? (λu=>Iu eqv (Js t x) (Js t u))=(r.rows.drop j).find? (λu=>Iu eqv (Js t x) (Js t u)))/\Aside (Below W1 W1 wr)) (λcI _ _=>m - (intOf cI).toNat)
  case atStart=>exact ⟨k+1,Ia,by go_num,rfl,aO.o⟩
  obtain ⟨j,gL,rfl,aE,dV⟩:=hrel
  have bG:=Qq (show (r.rows.drop (k+1)).find? (λu=>Iu eqv (Js t x) (Js t u))=(r.rows.drop j).find? (λu=>Iu eqv (Js t x) (Js t u)) from aE)
  clear aE
  have aN:=Qq (show Below W1 W1 wr from dV)
  have I:=Qq (aL.o.n aN.o)
  clear dV
  obtain ⟨e0,e1⟩:=bE.o wr I.o
  by_cases hlt4:j<m
  ·have gN:j<r.rows.length:=by rw [HM.o];exact hlt4
   have fW:(0:Int)<=(j:Int):=Ia
   have fZ:(j:Int)<(m:Int):=Ia
   obtain ⟨u,hu⟩:∃ x,r.rows[j]?=some x:=⟨_,Qx (by rw [HM.o];assumption)⟩
   obtain ⟨yb,gF,U,O,V,T,eF,G,eJ,d0,d1,d2,d3,d4⟩:=dD.o.val hu
   simp only [Zv,Addr.mk.injEq,and_true] at eF
   obtain ⟨rfl,rfl⟩:=eF
   obtain ⟨dH,gG,dK⟩:=Im eJ (dC.o u (Qy hu)) hu
   have cX:=Qq (λW (h:Below w w W)=>(Qe (show W.cell? ⟨J,A+j*5,none⟩=some (.int .i64 u.kind) from kD h G d0) (Qe (show W.cell? ⟨J,A+j*5+1,none⟩=some (.int .i64 u.n) from kD h G d1) (Qe (show W.cell? ⟨J,A+j*5+2,none⟩=some (.string ⟨u.s.toArray⟩) from kD h G d2) (Qe (show W.cell? ⟨J,A+j*5+3,none⟩=some (.slice U u.names.length O) from kD h G d3) (show W.cell? ⟨J,A+j*5+4,none⟩=some (.slice V u.kids.length T) from kD h G d4))))))
   clear hu eJ G d0 d1 d2 d3 d4
   obtain ⟨x0,x1,x2,x3,x4⟩:=cY.o wr I.o
   obtain ⟨u0,u1,u2,u3,u4⟩:=cX.o wr I.o
   obtain ⟨g0,g1,g2,g3,g4,g5,g6,g7,g8,g9,dS,dT,dU⟩:=fB.o wr I.o
   have aV:=kB aN.o fE.o
   have c1:=AA aV
   clear aV
   refine let_mvar% ?Lq1:=λw':World=>Ii w' w 1 (Io tb aJ n tc)/\Ii w' lb (aD+i*2+1) (Io J A m qc)/\BF w' J (A+k*5) x.kind x.n x.s (.slice aA x.names.length Y) (.slice aB x.kids.length Z) ((BF w' J (A+j*5) u.kind u.n u.s (.slice U u.names.length O) (.slice V u.kids.length T) ((BU w' tb (aJ+i*13) t.name (.slice bO t.columns.length bN) (.slice bW t.key.length bV) (.slice cE t.refs.length cD) k9 (.string cF) n9 (.string cG) (.slice cA bX bK) (.slice cB bY bL) (.slice cC bZ bM) a9 z9:Prop)):Prop));?_
   have N:=Qq (λ(w':World) (h:Below wr wr w')=>(show ?Lq1 w' from ⟨kC h c1,kC h e1,kC h x0,kC h x1,kC h x2,kC h x3,kC h x4,kC h u0,kC h u1,kC h u2,kC h u3,kC h u4,kC h g0,kC h g1,kC h g2,kC h g3,kC h g4,kC h g5,kC h g6,kC h g7,kC h g8,kC h g9,kC h dS,kC h dT,kC h dU⟩))
   have aP:=Qq (N.o wr.drew (Qz _ _).drew)
   have bD:=Qq (λW (hW:Below wr wr W)=>(B6 _ _ t x (AR t bO bN bW bV cE cD k9 cF n9 cG cA bX bK cB bY bL cC bZ bM a9 z9) _ W (Zn.frame dE.o (.f (I.o.n hW))) (dI.o.move (.f (I.o.n hW)) Ij) dG.o.key).mono (R':=λe w2=>∃ p n c,e=.returned (.slice p n c)/\Sl Zc (λ_=>True) w2 (.slice p n c) ((keyOf t.key x).getD [])/\Below W W w2) (by
    rintro e w2 ⟨p,c,rfl,h3,h4⟩
    exact ⟨p,_,c,rfl,h3.mono (λ_ _ _=>trivial),h4⟩))
   unfold Il at bD
   have bC:=Qq (λW (hW:Below wr wr W)=>(B6 _ _ t u (AR t bO bN bW bV cE cD k9 cF n9 cG cA bX bK cB bY bL cC bZ bM a9 z9) _ W (Zn.frame dE.o (.f (I.o.n hW))) (dH.o.move (.f (I.o.n hW)) Ij) dG.o.key).mono (R':=λe w2=>∃ p n c,e=.returned (.slice p n c)/\Sl Zc (λ_=>True) w2 (.slice p n c) ((keyOf t.key u).getD [])/\Below W W w2) (by
    rintro e w2 ⟨p,c,rfl,h3,h4⟩
    exact ⟨p,_,c,rfl,h3.mono (λ_ _ _=>trivial),h4⟩))
   unfold Il at bC
   have M:=Qq (λW p n c q n' c' (h1:Sl Zc (λ_=>True) W (.slice p n c) ((keyOf t.key x).getD [])) (h2:Sl Zc (λ_=>True) W (.slice q n' c') ((keyOf t.key u).getD []))=>N8 _ _ _ _ _ _ W h1 h2)
   obtain ⟨bb,bR⟩:=eX (Iu eqv ((keyOf t.key x).getD []) ((keyOf t.key u).getD []))
   rw [bR] at M
   have cW:=Qq (show Iu eqv (Js t x) (Js t u)=bb from bR)
   clear bR
   go_upto_region 27 with fail
   clear c1 e1 x0 x1 x2 x3 x4 u0 u1 u2 u3 u4 g0 g1 g2 g3 g4 g5 g6 g7 g8 g9 dS dT dU
   go_region_held3 ?Lq1 (first | with_reducible exact aP.o | with_reducible exact aQ) (first
     | (go_at_call 42;refine (bC.o _ bA.o).mono ?_;rintro e w7 ⟨p7,m7,c7,rfl,eD,bQ⟩;have aR:=Qq (cZ.o.below bQ);have aH:=bA.o.n bQ;have aQ:=N.o w7 aH;have dA:=Qq eD;have cV:=Qq aH;clear eD bQ aH)
     | (go_at_call 42;refine (bD.o _ (Qz _ _).drew).mono ?_;rintro e w6 ⟨p6,m6,c6,rfl,eC,dX⟩;have aG:Below wr wr w6:=(Qz _ _).drew.n dX;have aQ:=N.o w6 aG;have cZ:=Qq eC;have bA:=Qq aG;clear eC dX aG)
     | (go_at_call 41;refine (M.o _ _ _ _ _ _ _ aR.o dA.o).mono ?_;rintro e w8 ⟨rfl,eB⟩;have aI:=cV.o.n eB.bl;have aQ:=N.o w8 aI;have eS:=Qq aI;clear eB aI))
   have aM:=Qq (aN.o.n eS.o);have bJ:=Qq (aL.o.n aM.o)
   clear N aP bD bC M cZ aR dA bA cV
   cases bb with
   | false=>
    have bI:=Qq (bG.o.trans (Qzm (q:=λu=>Iu eqv (Js t x) (Js t u)) dK.o cW.o))
    go_wp2_with fail
    go_roundw
    case measure=>simp [intOf];omega
    case rel=>exact ⟨j+1,Ia,by go_num,bI.o,aM.o⟩
   | true=>
    have eY:=Qq (Pg (c:=2) eT.o aS.o Ih bF.o (by rw [HN.o];exact aW) (show cfR s l 2 i=⟨11,[],x,u⟩ from by rw [cfR_2 bF.o dF.o,bH.o];exact keyR_hit dL.o (bG.o.trans (find_at (q:=λu=>Iu eqv (Js t x) (Js t u)) dK.o cW.o))) Ih)
    obtain ⟨e0,e1⟩:=bE.o w8 bJ.o
    obtain ⟨x0,x1,x2,x3,x4⟩:=cY.o w8 bJ.o
    obtain ⟨u0,u1,u2,u3,u4⟩:=cX.o w8 bJ.o
    refine let_mvar% ?Lq2:=λw':World=>Ii w' lb (aD+i*2) r.table/\Ii w' lb (aD+i*2+1) (Io J A m qc)/\BF w' J (A+k*5) x.kind x.n x.s (.slice aA x.names.length Y) (.slice aB x.kids.length Z) ((BD w' J (A+j*5) u.kind u.n u.s (.slice U u.names.length O) (.slice V u.kids.length T):Prop));?_
    have N:=Qq (λ(w':World) (h:Below w8 w8 w')=>(show ?Lq2 w' from ⟨kC h e0,kC h e1,kC h x0,kC h x1,kC h x2,kC h x3,kC h x4,kC h u0,kC h u1,kC h u2,kC h u3,kC h u4⟩))
    have HP:∀ z0 z1 z2 z3 z4 z5 z6 z7 z8 z9 eL eM,?Lq2 (Y9 w8 (w+1) z0 z1 z2 z3 z4 z5 z6 z7 z8 z9 eL eM).drew:=λz0 z1 z2 z3 z4 z5 z6 z7 z8 z9 eL eM=>⟨Zr Ia e0,Zr Ia e1,Zr Ia x0,Zr Ia x1,Zr Ia x2,Zr Ia x3,Zr Ia x4,Zr Ia u0,Zr Ia u1,Zr Ia u2,Zr Ia u3,Zr Ia u4⟩
    unfold Y9 at HP
    have eW:=Qq HP
    clear HP
    have aP:=Qq (N.o w8.drew (Qz _ _).drew)
    have aC:=kE aM.o fM fF.o
    obtain ⟨y0,y1,y2,y3,y4,y5,y6,y7,y8,y9,gQ,gR⟩:=AT aC
    obtain ⟨f0,f1,f2,f3,f4,f5,f6,f7,f8,f9,gJ,gK⟩:=AS aC
    have dM:=Qq aC
    clear aC
    go_upto_region 29 with fail
    clear e0 e1 x0 x1 x2 x3 x4 u0 u1 u2 u3 u4
    go_region_held3 ?Lq2 (first | with_reducible exact aP.o | with_reducible exact aQ | with_reducible exact eW.o _ _ _ _ _ _ _ _ _ _ _ _) (fail)
    all_goals
     go_wp2_with fail
     show bodyPost _ _ _ _ _ (Y9 w8 (w+1) (.int .i64 11) r.table x.kind x.n x.s (.slice aA x.names.length Y) (.slice aB x.kids.length Z) u.kind u.n u.s (.slice U u.names.length O) (.slice V u.kids.length T)).drew
     have bB:Below w w (Y9 w8 (w+1) (.int .i64 11) r.table x.kind x.n x.s (.slice aA x.names.length Y) (.slice aB x.kids.length Z) u.kind u.n u.s (.slice U u.names.length O) (.slice V u.kids.length T)).drew:=(Y1 (aL.o.n aM.o) Ia).drew
     exact Q7 (v:=.agg (AU (.int .i64 11) r.table x aA Y aB Z u U O V T)) (by simp [results,results10,go_sem,Ya dM.o]) rfl (Fu (c1:=[.int .i64 x.kind,.int .i64 x.n,.string ⟨x.s.toArray⟩,.slice aA x.names.length Y,.slice aB x.kids.length Z]) (c2:=[.int .i64 u.kind,.int .i64 u.n,.string ⟨u.s.toArray⟩,.slice U u.names.length O,.slice V u.kids.length T]) eY.o (Z9.move dI.o (.f bB) (λ_ _ h=>h.2)) (Z9.move dH.o (.f bB) (λ_ _ h=>h.2)) fA.o bB)
  have fI:j=m:=Ia
  have bI:=Qq (bH.o.trans (C5 dL.o (by rw [bG.o,fI,<- HM.o,List.drop_length];rfl)))
  have hq:¬ (j:Int)<(m:Int):=Ia
  go_wp2_with fail
  go_roundw
  case measure=>simp [intOf];omega
  case rel=>exact ⟨k+1,Ia,by go_num,bI.o,aN.o⟩
 have fK:k=m:=Ia
 have fD:=Qq (Kg (c:=2) aS.o (show (cfR s l 2 i).code=0 from by rw [cfR_2 bF.o dF.o,bH.o,fK,<- HM.o,List.drop_length];rfl))
 have hq:¬ (k:Int)<(m:Int):=Ia
 go_wp2_with fail
 go_roundw
 case measure=>simp [intOf];omega
 case rel=>exact ⟨i+1,Ia,by go_num,fD.o,aO.o⟩
end Go.Proofs.YtdpibdpbgokmoaaGreatDoor

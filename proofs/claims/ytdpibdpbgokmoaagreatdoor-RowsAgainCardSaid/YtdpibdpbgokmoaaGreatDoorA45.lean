import Derived.Test.YtdpibdpbgokmoaaGreatDoorA41
set_option maxRecDepth 100000
set_option maxHeartbeats 400000000
namespace Go.Proofs.YtdpibdpbgokmoaaGreatDoor
open Go.RowKit Go.Shelf Go.Lib Tryz
theorem Qji:Kf.P5:=by
 intro _ _ s l w _ _ _ _ _ tc _ _ _ _ dL dG _ n _ HL _ _ HT HN bE W1 aN dQ dR dV _ _ dA _ _ _ _ _ _ _ _ _ _ _ _ _ _ _ _ _ _ _ _ _ _ k dS V U _ _ _ _ _ _ _ _ _ _ _ _ _ _ _ _ _ _ _ _ _ _ _ _ _ _ _ _ _ _ _ _ _ _ _ _ _ _ _ _ _ _ _ _ _ _ _ _ _ _ _ _ _ _ _ _ _ _ _ _ _ _ _ _ _ _ _ _ _ _ _ _ _ _ _ _ _ _ _ _ _ _ _ _ _ _ _ _ _ _ _ _ _ _ _ _ _ _ _ _ _ _ _ _ _ _ _ _ _ _ _ _ _ _ _ _ _ _ _ _ _ _ _ _ _ _ _ _ _ _ _ _ _ _ _ _ _ _ _ _ _ _ _ _ _ _ _ _ _ _ _ _ _ _ _ _ _ _ _ _ _ _ _ _ _ _ _ _ _ _ _ _ _ _ _ _ _ _ _ _ _ _ _ _ _ _ _ _ _ _ _ _ _ _ _ _ _ _ _ _ _ _ _ _ _ _ _ _ _ _ _ _ _ _ _ _ _ _ _ _ _ _ _ _ _ _ _ _ _ _ _ _ _ _ _ _ _ _ _ _ _ _ _ _ _ _ _ _ _ _ _ _ _ _ _ _ _ _ _ _ _ _ _ wr _ _ _ _ _ _ _ _ _ _ _ _ _ _ _ _ _ _ _ _ _ _ _ _ _ _ _ _ _ _ _ _ _ _ _ _ _ _ _ _ _ _ _ _ _ _ _ _ i _ aH dB _ aJ
 have eN:i<l.length:=by rw [bE.o];exact aJ
 have eC:(0:Int)<=(i:Int):=Ia
 have eE:(i:Int)<(n:Int):=Ia
 obtain ⟨r,hr⟩:∃ r,l[i]?=some r:=⟨_,Qx (by rw [bE.o];assumption)⟩
 obtain ⟨lb,T,eP,dU,aT,_,_,⟨rv,cB,aL,aU⟩,cA⟩:=HL.o.elem hr
 subst dU;subst cB
 obtain ⟨q,qc,aM,dX⟩:=aU.len
 obtain ⟨m,hm⟩:=eX (r.rows.length)
 rw [hm] at aM dX
 subst aM
 obtain ⟨dJ,HM,dI,aP,dH⟩:=AO aU hm (dG.o r (Qy hr)) hr aL
 have bF:=hT2 (o:=T+i*2) (x0:=.string ⟨r.table.toArray⟩) aT cA
 have eG:lb<w.heap.size:=aT
 clear hr cA aU hm aT aL
 obtain ⟨t,ht⟩:∃ t,s.tables[i]?=some t:=⟨_,Qx (by rw [HN.o];assumption)⟩
 obtain ⟨tb,aB,eJ,eA,aV,_,_,aR,cC⟩:=HT.o.elem ht
 subst eA
 obtain ⟨bP,bO,cF,cE,cN,cM,k9,cO,n9,cP,cJ,cG,bL,cK,cH,bM,cL,cI,bN,a9,z9,bY,dZ,bX,bZ,aK,bW⟩:=Yq aR
 simp only [AL] at bY
 subst bY
 obtain ⟨dM,dO,eK,bG⟩:=It aR (dL.o t (Qy ht)) aK ht
 have dK:=hT13 (o:=aB+i*13) aV cC
 have eH:tb<w.heap.size:=aV
 clear ht aR cC dZ bX bZ aK bW aV
 go_upto_region 47 with fail
 go_loopw [22,23] (λt22 _ wr=>∃ k:Nat,k<=m/\t22=.int .i64 k/\Aside (∀ y ∈ r.rows.take k,Vl 8 t y=true)/\Aside (Below W1 W1 wr)) (λt22 _ _=>m - (intOf t22).toNat)
 case atStart=>exact ⟨0,Q8 _,rfl,(by intro y hy;simp at hy),dB.o⟩
 obtain ⟨k,dS,rfl,Z,bT⟩:=hrel
 have aQ:=Qq (show ∀ y ∈ r.rows.take k,Vl 8 t y=true from Z)
 clear Z
 have V:=Qq (show Below W1 W1 wr from bT)
 have U:=Qq (aN.o.n V.o)
 clear bT
 obtain ⟨e0,e1⟩:=bF.o wr U.o
 by_cases hlt3:k<m
 ·have eO:k<r.rows.length:=by rw [HM.o];exact hlt3
  have eD:(0:Int)<=(k:Int):=Ia
  have eF:(k:Int)<(m:Int):=Ia
  obtain ⟨x,hx⟩:∃ x,r.rows[k]?=some x:=⟨_,Qx (by rw [HM.o];assumption)⟩
  obtain ⟨xb,A,J,G,M,I,dY,D,cD,d0,d1,d2,d3,d4⟩:=dJ.o.val hx
  subst dY
  have eI:xb<w.heap.size:=D
  obtain ⟨bH,aO,bJ⟩:=Im cD (dI.o x (Qy hx)) hx
  have bD:=Qq (λW (h:Below w w W)=>(Qe (show W.cell? ⟨xb,A+k*5,none⟩=some (.int .i64 x.kind) from kD h D d0) (Qe (show W.cell? ⟨xb,A+k*5+1,none⟩=some (.int .i64 x.n) from kD h D d1) (Qe (show W.cell? ⟨xb,A+k*5+2,none⟩=some (.string ⟨x.s.toArray⟩) from kD h D d2) (Qe (show W.cell? ⟨xb,A+k*5+3,none⟩=some (.slice J x.names.length G) from kD h D d3) (show W.cell? ⟨xb,A+k*5+4,none⟩=some (.slice M x.kids.length I) from kD h D d4))))))
  clear hx cD D d0 d1 d2 d3 d4
  obtain ⟨x0,x1,x2,x3,x4⟩:=bD.o wr U.o
  obtain ⟨g0,g1,g2,g3,g4,g5,g6,g7,g8,g9,bQ,bR,bS⟩:=dK.o wr U.o
  have aI:=kB V.o dQ.o
  have c1:=AA aI
  clear aI
  refine let_mvar% ?Lq1:=λw':World=>Ii w' w 1 (Io tb aB n tc)/\Ii w' lb (T+i*2+1) (Io xb A m qc)/\BF w' xb (A+k*5) x.kind x.n x.s (.slice J x.names.length G) (.slice M x.kids.length I) ((BU w' tb (aB+i*13) t.name (.slice bP t.columns.length bO) (.slice cF t.key.length cE) (.slice cN t.refs.length cM) k9 (.string cO) n9 (.string cP) (.slice cJ cG bL) (.slice cK cH bM) (.slice cL cI bN) a9 z9:Prop));?_
  have Y:=Qq (λ(w':World) (h:Below wr wr w')=>(show ?Lq1 w' from ⟨kC h c1,kC h e1,kC h x0,kC h x1,kC h x2,kC h x3,kC h x4,kC h g0,kC h g1,kC h g2,kC h g3,kC h g4,kC h g5,kC h g6,kC h g7,kC h g8,kC h g9,kC h bQ,kC h bR,kC h bS⟩))
  have aF:=Qq (Y.o wr.drew (Qz _ _).drew)
  have N:=(λW (hW:Below wr wr W)=>rsat_any _ _ 8 t x (AR t bP bO cF cE cN cM k9 cO n9 cP cJ cG bL cK cH bM cL cI bN a9 z9) _ W dO.o.check (Zn.frame dM.o (.f (U.o.n hW))) (bH.o.move (.f (U.o.n hW)) Ij) aO.o.good.lens.1 (Ix aO.o.few) (λv hv=>(aO.o.good.boolOk).kids v hv))
  obtain ⟨bb,aS⟩:=eX (Vl 8 t x)
  simp only [aS] at N
  unfold Il at N
  have aG:=Qq N;have bC:=Qq aS
  clear N aS
  go_upto_region 49 with fail
  clear c1 e1 x0 x1 x2 x3 x4 g0 g1 g2 g3 g4 g5 g6 g7 g8 g9 bQ bR bS
  go_region_held3 ?Lq1 (first | with_reducible exact aF.o | with_reducible exact bU) (first
    | (go_at_call 45;refine (aG.o _ (Qz _ _).drew).mono ?_;rintro e w6 ⟨rfl,bV⟩;have aA:Below wr wr w6:=(Qz _ _).drew.n bV;have bU:=Y.o w6 aA;have cZ:=Qq aA;clear bV aA))
  have aE:=Qq (V.o.n cZ.o);have bI:=Qq (aN.o.n aE.o)
  clear Y aF aG
  cases bb with
  | true=>
   have dN:=Qq (Bo (p:=Vl 8 t) bJ.o bC.o aQ.o)
   go_wp2_with fail
   go_roundw
   case measure=>simp [intOf];omega
   case rel=>exact ⟨k+1,Ia,by go_num,dN.o,aE.o⟩
  | false=>
   have dF:=Qq (Pg (c:=4) dA.o aH.o Ih aP.o (by rw [HN.o];exact aJ) (show cfR s l 4 i=⟨13,[],x,Val.zero⟩ from by rw [cfR_4 aP.o bG.o];exact He bJ.o bC.o aQ.o) Ih)
   obtain ⟨e0,e1⟩:=bF.o w6 bI.o
   obtain ⟨x0,x1,x2,x3,x4⟩:=bD.o w6 bI.o
   refine let_mvar% ?Lq2:=λw':World=>Ii w' lb (T+i*2) r.table/\Ii w' lb (T+i*2+1) (Io xb A m qc)/\BD w' xb (A+k*5) x.kind x.n x.s (.slice J x.names.length G) (.slice M x.kids.length I);?_
   have Y:=Qq (λ(w':World) (h:Below w6 w6 w')=>(show ?Lq2 w' from ⟨kC h e0,kC h e1,kC h x0,kC h x1,kC h x2,kC h x3,kC h x4⟩))
   have HP:∀ z0 z1 z2 z3 z4 z5 z6 z7 z8 z9 cQ cR,?Lq2 (Y9 w6 (w+1) z0 z1 z2 z3 z4 z5 z6 z7 z8 z9 cQ cR).drew:=λz0 z1 z2 z3 z4 z5 z6 z7 z8 z9 cQ cR=>⟨Zr Ia e0,Zr Ia e1,Zr Ia x0,Zr Ia x1,Zr Ia x2,Zr Ia x3,Zr Ia x4⟩
   unfold Y9 at HP
   have dE:=Qq HP
   clear HP
   have aF:=Qq (Y.o w6.drew (Qz _ _).drew)
   have O:=kE aE.o dV dR.o
   obtain ⟨y0,y1,y2,y3,y4,y5,y6,y7,y8,y9,eQ,eR⟩:=AT O
   obtain ⟨f0,f1,f2,f3,f4,f5,f6,f7,f8,f9,eL,eM⟩:=AS O
   have bK:=Qq O
   clear O
   go_upto_region 51 with fail
   clear e0 e1 x0 x1 x2 x3 x4
   go_region_held3 ?Lq2 (first | with_reducible exact aF.o | with_reducible exact bU | with_reducible exact dE.o _ _ _ _ _ _ _ _ _ _ _ _) (fail)
   all_goals
    go_wp2_with fail
    show bodyPost _ _ _ _ _ (Y9 w6 (w+1) (.int .i64 13) r.table x.kind x.n x.s (.slice J x.names.length G) (.slice M x.kids.length I) Ic Ic Ig Ie Ie).drew
    have bB:Below w w (Y9 w6 (w+1) (.int .i64 13) r.table x.kind x.n x.s (.slice J x.names.length G) (.slice M x.kids.length I) Ic Ic Ig Ie Ie).drew:=(Y1 (aN.o.n aE.o) Ia).drew
    exact Q7 (v:=.agg #[.int .i64 13,r.table,x.kind,x.n,x.s,.slice J x.names.length G,.slice M x.kids.length I,Ic,Ic,Ig,Ie,Ie]) (by simp [results,results10,go_sem,Ya bK.o]) rfl (Fu (c1:=[.int .i64 x.kind,.int .i64 x.n,.string ⟨x.s.toArray⟩,.slice J x.names.length G,.slice M x.kids.length I]) (c2:=[.int .i64 0,.int .i64 0,.string ⟨#[]⟩,.slice none 0 0,.slice none 0 0]) dF.o (Z9.move bH.o (.f bB) (λ_ _ h=>h.2)) (Y2 _ _) dH.o bB)
 have dT:k=m:=Ia
 have dP:=Qq (Kg (c:=4) aH.o (show (cfR s l 4 i).code=0 from by rw [cfR_4 aP.o bG.o];exact Bi (by rw [HM.o,<- dT];exact aQ.o)))
 have hq:¬ (k:Int)<(m:Int):=Ia
 go_wp2_with fail
 go_roundw
 case measure=>simp [intOf];omega
 case rel=>exact ⟨i+1,Ia,by go_num,dP.o,V.o⟩
end Go.Proofs.YtdpibdpbgokmoaaGreatDoor

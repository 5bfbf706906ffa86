import Derived.Test.YtdpibdpbgokmoaaGreatDoorC43
set_option maxRecDepth 100000
set_option maxHeartbeats 400000000
namespace Go.Proofs.YtdpibdpbgokmoaaGreatDoor
open Go.RowKit Go.Shelf Go.Lib Tryz
theorem Qjg:Ka.P5:=by
 intro _ _ s l w _ _ _ _ _ tc _ _ _ _ dL dG _ n _ HL _ _ HT HN bE W1 aN dQ dR dV _ _ dA _ _ _ _ _ _ _ _ _ _ _ _ _ _ _ _ _ _ _ _ _ _ k dS V U _ _ _ _ _ _ _ _ _ _ _ _ _ _ _ _ _ _ _ _ _ _ _ _ _ _ _ _ _ _ _ _ _ _ _ _ _ _ _ _ _ _ _ _ _ _ _ _ _ _ _ _ _ _ _ _ _ _ _ _ _ _ _ _ _ _ _ _ _ _ _ _ _ _ _ _ _ _ _ _ _ _ _ _ _ _ _ _ _ _ _ _ _ _ _ _ _ _ _ _ _ _ _ _ _ _ _ _ _ _ _ _ _ _ _ _ _ _ _ _ _ _ _ _ _ _ _ _ _ _ _ _ _ _ _ _ _ _ _ _ _ _ _ _ _ _ _ _ _ _ _ _ _ _ _ _ _ _ _ _ _ _ _ _ _ _ _ _ _ _ _ _ _ _ _ _ _ _ _ _ _ _ _ _ _ _ _ _ _ _ _ _ _ _ _ _ _ _ _ _ _ _ _ _ _ _ _ _ _ _ _ _ _ _ _ _ _ _ _ _ _ _ _ _ _ _ _ _ _ _ _ _ _ _ _ _ _ _ _ _ _ _ _ _ _ _ _ _ _ _ _ _ _ _ _ _ _ _ _ _ _ _ _ wr _ _ _ _ _ _ _ _ _ _ _ _ _ _ _ _ _ _ _ _ _ _ _ _ _ _ _ _ _ _ _ _ _ _ _ _ _ _ _ _ _ _ _ _ _ _ _ _ i _ aH dB _ aJ
 have eN:i<l.length:=by rw [bE.out];exact aJ
 have eC:(0:Int)≤(i:Int):=Qqj
 have eE:(i:Int)<(n:Int):=Qqj
 obtain ⟨r,hr⟩:∃ r,l[i]?=some r:=⟨_,Qx (by rw [bE.out];assumption)⟩
 obtain ⟨lb,T,eP,dU,aT,_,_,⟨rv,cB,aL,aU⟩,cA⟩:=HL.out.elem hr
 subst dU;subst cB
 obtain ⟨q,qc,aM,dX⟩:=aU.len
 obtain ⟨m,hm⟩:=eX (r.rows.length)
 rw [hm] at aM dX
 subst aM
 obtain ⟨dJ,HM,dI,aP,dH⟩:=Qqr aU hm (dG.out r (Qy hr)) hr aL
 have bF:=hT2 (o:=T+i*2) (x0:=.string ⟨r.table.toArray⟩) aT cA
 have eG:lb<w.heap.size:=aT
 clear hr cA aU hm aT aL
 obtain ⟨t,ht⟩:∃ t,s.tables[i]?=some t:=⟨_,Qx (by rw [HN.out];assumption)⟩
 obtain ⟨tb,aB,eJ,eA,aV,_,_,aR,cC⟩:=HT.out.elem ht
 subst eA
 obtain ⟨bP,bO,cF,cE,cN,cM,k9,cO,n9,cP,cJ,cG,bL,cK,cH,bM,cL,cI,bN,a9,z9,bY,dZ,bX,bZ,aK,bW⟩:=Yj aR
 simp only [tcs] at bY
 subst bY
 obtain ⟨dM,dO,eK,bG⟩:=Qqp aR (dL.out t (Qy ht)) aK ht
 have dK:=hT13 (o:=aB+i*13) aV cC
 have eH:tb<w.heap.size:=aV
 clear ht aR cC dZ bX bZ aK bW aV
 go_upto_region 47 with fail
 go_loopw [22,23] (fun t22 _ wr=>∃ k:Nat,k≤m∧t22=.int .i64 k∧Aside (∀ y ∈ r.rows.take k,Vt 8 t y=true)∧Aside (Below W1 W1 wr)) (fun t22 _ _=>m - (intOf t22).toNat)
 case atStart=>exact ⟨0,Q8 _,rfl,(by intro y hy;simp at hy),dB.out⟩
 obtain ⟨k,dS,rfl,Z,bT⟩:=hrel
 have aQ:=Qq (show ∀ y ∈ r.rows.take k,Vt 8 t y=true from Z)
 clear Z
 have V:=Qq (show Below W1 W1 wr from bT)
 have U:=Qq (aN.out.thn V.out)
 clear bT
 obtain ⟨e0,e1⟩:=bF.out wr U.out
 by_cases hlt3:k<m
 ·have eO:k<r.rows.length:=by rw [HM.out];exact hlt3
  have eD:(0:Int)≤(k:Int):=Qqj
  have eF:(k:Int)<(m:Int):=Qqj
  obtain ⟨x,hx⟩:∃ x,r.rows[k]?=some x:=⟨_,Qx (by rw [HM.out];assumption)⟩
  obtain ⟨xb,A,J,G,M,I,dY,D,cD,d0,d1,d2,d3,d4⟩:=dJ.out.val hx
  subst dY
  have eI:xb<w.heap.size:=D
  obtain ⟨bH,aO,bJ⟩:=Qqo cD (dI.out x (Qy hx)) hx
  have bD:=Qq (fun W (h:Below w w W)=>(Qe (show W.cell? ⟨xb,A+k*5,none⟩=some (.int .i64 x.kind) from kD h D d0) (Qe (show W.cell? ⟨xb,A+k*5+1,none⟩=some (.int .i64 x.n) from kD h D d1) (Qe (show W.cell? ⟨xb,A+k*5+2,none⟩=some (.string ⟨x.s.toArray⟩) from kD h D d2) (Qe (show W.cell? ⟨xb,A+k*5+3,none⟩=some (.slice J x.names.length G) from kD h D d3) (show W.cell? ⟨xb,A+k*5+4,none⟩=some (.slice M x.kids.length I) from kD h D d4))))))
  clear hx cD D d0 d1 d2 d3 d4
  obtain ⟨x0,x1,x2,x3,x4⟩:=bD.out wr U.out
  obtain ⟨g0,g1,g2,g3,g4,g5,g6,g7,g8,g9,bQ,bR,bS⟩:=dK.out wr U.out
  have aI:=kB V.out dQ.out
  have c1:=rA1 aI
  clear aI
  refine let_mvar% ?Lq1:=fun w':World=>Qqa w' w 1 (Qqb tb aB n tc)∧Qqa w' lb (T+i*2+1) (Qqb xb A m qc)∧Qzc w' xb (A+k*5) x.kind x.n x.s (.slice J x.names.length G) (.slice M x.kids.length I) ((Qzi w' tb (aB+i*13) t.name (.slice bP t.columns.length bO) (.slice cF t.key.length cE) (.slice cN t.refs.length cM) k9 (.string cO) n9 (.string cP) (.slice cJ cG bL) (.slice cK cH bM) (.slice cL cI bN) a9 z9:Prop));?_
  have Y:=Qq (fun (w':World) (h:Below wr wr w')=>(show ?Lq1 w' from ⟨kC h c1,kC h e1,kC h x0,kC h x1,kC h x2,kC h x3,kC h x4,kC h g0,kC h g1,kC h g2,kC h g3,kC h g4,kC h g5,kC h g6,kC h g7,kC h g8,kC h g9,kC h bQ,kC h bR,kC h bS⟩))
  have aF:=Qq (Y.out wr.drew (Qz _ _).drew)
  have N:=(fun W (hW:Below wr wr W)=>rsat_any _ _ 8 t x (Qqh t bP bO cF cE cN cM k9 cO n9 cP cJ cG bL cK cH bM cL cI bN a9 z9) _ W dO.out.check (Zn.frame dM.out (.of_below (U.out.thn hW))) (bH.out.move (.of_below (U.out.thn hW)) Qzx) aO.out.good.lens.1 (Qqq aO.out.few) (fun v hv=>(aO.out.good.boolOk).kids v hv))
  obtain ⟨bb,aS⟩:=eX (Vt 8 t x)
  simp only [aS] at N
  unfold vcs at N
  have aG:=Qq N;have bC:=Qq aS
  clear N aS
  go_upto_region 49 with fail
  clear c1 e1 x0 x1 x2 x3 x4 g0 g1 g2 g3 g4 g5 g6 g7 g8 g9 bQ bR bS
  go_region_held3 ?Lq1 (first | with_reducible exact aF.out | with_reducible exact bU) (first
    | (go_at_call 45;refine (aG.out _ (Qz _ _).drew).mono ?_;rintro e w6 ⟨rfl,bV⟩;have aA:Below wr wr w6:=(Qz _ _).drew.thn bV;have bU:=Y.out w6 aA;have cZ:=Qq aA;clear bV aA))
  have aE:=Qq (V.out.thn cZ.out);have bI:=Qq (aN.out.thn aE.out)
  clear Y aF aG
  cases bb with
  | true=>
   have dN:=Qq (Bx (p:=Vt 8 t) bJ.out bC.out aQ.out)
   go_wp2_with fail
   go_roundw
   case measure=>simp [intOf];omega
   case rel=>exact ⟨k+1,Qqj,by go_num,dN.out,aE.out⟩
  | false=>
   have dF:=Qq (Ni (c:=4) dA.out aH.out Qqx aP.out (by rw [HN.out];exact aJ) (show cfR s l 4 i=⟨13,[],x,Val.zero⟩ from by rw [cfR_4 aP.out bG.out];exact Hr bJ.out bC.out aQ.out) Qqx)
   obtain ⟨e0,e1⟩:=bF.out w6 bI.out
   obtain ⟨x0,x1,x2,x3,x4⟩:=bD.out w6 bI.out
   refine let_mvar% ?Lq2:=fun w':World=>Qqa w' lb (T+i*2) r.table∧Qqa w' lb (T+i*2+1) (Qqb xb A m qc)∧Qzh w' xb (A+k*5) x.kind x.n x.s (.slice J x.names.length G) (.slice M x.kids.length I);?_
   have Y:=Qq (fun (w':World) (h:Below w6 w6 w')=>(show ?Lq2 w' from ⟨kC h e0,kC h e1,kC h x0,kC h x1,kC h x2,kC h x3,kC h x4⟩))
   have HP:∀ z0 z1 z2 z3 z4 z5 z6 z7 z8 z9 cQ cR,?Lq2 (Yb w6 (w+1) z0 z1 z2 z3 z4 z5 z6 z7 z8 z9 cQ cR).drew:=fun z0 z1 z2 z3 z4 z5 z6 z7 z8 z9 cQ cR=>⟨Zr Qqj e0,Zr Qqj e1,Zr Qqj x0,Zr Qqj x1,Zr Qqj x2,Zr Qqj x3,Zr Qqj x4⟩
   unfold Yb at HP
   have dE:=Qq HP
   clear HP
   have aF:=Qq (Y.out w6.drew (Qz _ _).drew)
   have O:=kE aE.out dV dR.out
   obtain ⟨y0,y1,y2,y3,y4,y5,y6,y7,y8,y9,eQ,eR⟩:=row12 O
   obtain ⟨f0,f1,f2,f3,f4,f5,f6,f7,f8,f9,eL,eM⟩:=frz12 O
   have bK:=Qq O
   clear O
   go_upto_region 51 with fail
   clear e0 e1 x0 x1 x2 x3 x4
   go_region_held3 ?Lq2 (first | with_reducible exact aF.out | with_reducible exact bU | with_reducible exact dE.out _ _ _ _ _ _ _ _ _ _ _ _) (fail)
   all_goals
    go_wp2_with fail
    show bodyPost _ _ _ _ _ (Yb w6 (w+1) (.int .i64 13) r.table x.kind x.n x.s (.slice J x.names.length G) (.slice M x.kids.length I) Qqd Qqd Qqe Qqf Qqf).drew
    have bB:Below w w (Yb w6 (w+1) (.int .i64 13) r.table x.kind x.n x.s (.slice J x.names.length G) (.slice M x.kids.length I) Qqd Qqd Qqe Qqf Qqf).drew:=(Yy (aN.out.thn aE.out) Qqj).drew
    exact Q7 (v:=.agg #[.int .i64 13,r.table,x.kind,x.n,x.s,.slice J x.names.length G,.slice M x.kids.length I,Qqd,Qqd,Qqe,Qqf,Qqf]) (by simp [results,results10,go_sem,Ya bK.out]) rfl (D7 (c1:=[.int .i64 x.kind,.int .i64 x.n,.string ⟨x.s.toArray⟩,.slice J x.names.length G,.slice M x.kids.length I]) (c2:=[.int .i64 0,.int .i64 0,.string ⟨#[]⟩,.slice none 0 0,.slice none 0 0]) dF.out (Z9.move bH.out (.of_below bB) (fun _ _ h=>h.2)) (Yw _ _) dH.out bB)
 have dT:k=m:=Qqj
 have dP:=Qq (Kv (c:=4) aH.out (show (cfR s l 4 i).code=0 from by rw [cfR_4 aP.out bG.out];exact Gh (by rw [HM.out,← dT];exact aQ.out)))
 have hq:¬ (k:Int)<(m:Int):=Qqj
 go_wp2_with fail
 go_roundw
 case measure=>simp [intOf];omega
 case rel=>exact ⟨i+1,Qqj,by go_num,dP.out,V.out⟩
end Go.Proofs.YtdpibdpbgokmoaaGreatDoor

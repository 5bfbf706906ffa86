import Derived.Test.YtlanplhphiikjaaGreatDoorE33
set_option maxRecDepth 100000
set_option maxHeartbeats 400000000
namespace Go.Proofs.YtlanplhphiikjaaGreatDoor
open Go.RowKit Go.Shelf Go.Lib Tryz
theorem Qzj:Kt.P3:=by
 intro _ _ s l w _ _ _ _ _ tc _ _ _ _ fD fA _ n _ HL _ _ HT HN dC W1 aM fF fG fN _ _ eU _ _ _ _ _ _ _ _ _ _ _ _ _ _ _ _ _ _ _ _ _ _ k fK aP dK _ _ _ _ _ _ _ _ _ _ _ _ _ _ _ _ _ _ _ _ _ _ _ _ _ _ _ _ _ _ _ _ _ _ _ _ _ _ _ _ _ _ _ _ _ _ _ _ _ _ _ _ _ _ _ _ _ _ _ _ _ _ _ _ _ _ _ wr _ _ _ _ _ _ _ _ _ _ _ _ _ _ _ _ _ _ _ _ _ _ _ _ _ _ _ _ _ _ _ _ _ _ _ _ _ _ _ _ _ _ _ _ _ _ _ _ _ _ _ _ _ _ _ _ _ _ _ _ _ _ _ _ _ _ _ _ _ _ _ _ _ _ _ _ _ _ _ _ _ _ _ i _ aT eV _ aX
 have gN:i<l.length:=by rw [dC.out];exact aX
 have fW:(0:Int)<=(i:Int):=Qvu
 have fZ:(i:Int)<(n:Int):=Qvu
 obtain ⟨r,hr⟩:∃ r,l[i]?=some r:=⟨_,Qx (by rw [dC.out];assumption)⟩
 obtain ⟨lb,aE,gQ,fM,bT,_,_,⟨rv,eI,aZ,bU⟩,eH⟩:=HL.out.elem hr
 subst fM;subst eI
 obtain ⟨q,qc,bA,fP⟩:=bU.len
 obtain ⟨m,hm⟩:=eX (r.rows.length)
 rw [hm] at bA fP
 subst bA
 obtain ⟨dE,HM,dD,bG,fB⟩:=Qxp bU hm (fA.out r (Qy hr)) hr aZ
 have bF:=hT2 (o:=aE+i*2) (x0:=.string ⟨r.table.toArray⟩) bT eH
 have gC:lb<w.heap.size:=bT
 clear hr eH bU hm bT aZ
 obtain ⟨t,ht⟩:∃ t,s.tables[i]?=some t:=⟨_,Qx (by rw [HN.out];assumption)⟩
 obtain ⟨tb,aK,gF,fS,bV,_,_,bQ,eJ⟩:=HT.out.elem ht
 subst fS
 obtain ⟨bP,bO,bX,bW,cF,cE,k9,cG,n9,cH,cB,bY,bL,cC,bZ,bM,cD,cA,bN,a9,z9,eB,fR,eA,eF,aY,dZ⟩:=Yj bQ
 simp only [tcs] at eB
 subst eB
 obtain ⟨dF,dH,gJ,dG⟩:=Qxo bQ (fD.out t (Qy ht)) aY ht
 have fC:=hT13 (o:=aK+i*13) bV eJ
 have gD:tb<w.heap.size:=bV
 clear ht bQ eJ fR eA eF aY dZ bV
 go_upto_region 22 with fail
 go_loopw [11,12,13] (fun cI _ _ wr=>∃ k:Nat,k<=m/\cI=.int .i64 k/\Aside (Ey (K9 t) r.rows=Ey (K9 t) (r.rows.drop k))/\Aside (Below W1 W1 wr)) (fun cI _ _ _=>m - (intOf cI).toNat)
 case atStart=>exact ⟨0,Q8 _,rfl,(by rw [List.drop_zero];exact rfl),eV.out⟩
 obtain ⟨k,fK,rfl,aG,dX⟩:=hrel
 have bI:=Qq (show Ey (K9 t) r.rows=Ey (K9 t) (r.rows.drop k) from aG)
 clear aG
 have aP:=Qq (show Below W1 W1 wr from dX)
 have dK:=Qq (aM.out.thn aP.out)
 clear dX
 obtain ⟨e0,e1⟩:=bF.out wr dK.out
 by_cases hlt3:k<m
 ·have gP:k<r.rows.length:=by rw [HM.out];exact hlt3
  have fY:(0:Int)<=(k:Int):=Qvu
  have gB:(k:Int)<(m:Int):=Qvu
  obtain ⟨x,hx⟩:∃ x,r.rows[k]?=some x:=⟨_,Qx (by rw [HM.out];assumption)⟩
  obtain ⟨M,A,aB,Z,aC,aA,fQ,D,eL,d0,d1,d2,d3,d4⟩:=dE.out.val hx
  subst fQ
  have gE:M<w.heap.size:=D
  obtain ⟨dJ,gI,dM⟩:=Qxn eL (dD.out x (Qy hx)) hx
  have cZ:=Qq (fun W (h:Below w w W)=>(Qe (show W.cell? ⟨M,A+k*5,none⟩=some (.int .i64 x.kind) from kD h D d0) (Qe (show W.cell? ⟨M,A+k*5+1,none⟩=some (.int .i64 x.n) from kD h D d1) (Qe (show W.cell? ⟨M,A+k*5+2,none⟩=some (.string ⟨x.s.toArray⟩) from kD h D d2) (Qe (show W.cell? ⟨M,A+k*5+3,none⟩=some (.slice aB x.names.length Z) from kD h D d3) (show W.cell? ⟨M,A+k*5+4,none⟩=some (.slice aC x.kids.length aA) from kD h D d4))))))
  clear hx eL D d0 d1 d2 d3 d4
  go_upto_region 25 with fail
  clear e0 e1
  go_loopw [12,13] (fun cJ _ wr=>∃ j:Nat,j<=m/\cJ=.int .i64 j/\Aside ((r.rows.drop (k+1)).find? (fun u=>eqL eqv (K9 t x) (K9 t u))=(r.rows.drop j).find? (fun u=>eqL eqv (K9 t x) (K9 t u)))/\Aside (Below W1 W1 wr)) (fun cJ _ _=>m - (intOf cJ).toNat)
  case atStart=>exact ⟨k+1,Qvu,by go_num,rfl,aP.out⟩
  obtain ⟨j,gM,rfl,aF,dW⟩:=hrel
  have bH:=Qq (show (r.rows.drop (k+1)).find? (fun u=>eqL eqv (K9 t x) (K9 t u))=(r.rows.drop j).find? (fun u=>eqL eqv (K9 t x) (K9 t u)) from aF)
  clear aF
  have aO:=Qq (show Below W1 W1 wr from dW)
  have J:=Qq (aM.out.thn aO.out)
  clear dW
  obtain ⟨e0,e1⟩:=bF.out wr J.out
  by_cases hlt4:j<m
  ·have gO:j<r.rows.length:=by rw [HM.out];exact hlt4
   have fX:(0:Int)<=(j:Int):=Qvu
   have gA:(j:Int)<(m:Int):=Qvu
   obtain ⟨u,hu⟩:∃ x,r.rows[j]?=some x:=⟨_,Qx (by rw [HM.out];assumption)⟩
   obtain ⟨yb,gG,V,T,Y,U,eG,I,eK,d0,d1,d2,d3,d4⟩:=dE.out.val hu
   simp only [Zv,Addr.mk.injEq,and_true] at eG
   obtain ⟨rfl,rfl⟩:=eG
   obtain ⟨dI,gH,dL⟩:=Qxn eK (dD.out u (Qy hu)) hu
   have cY:=Qq (fun W (h:Below w w W)=>(Qe (show W.cell? ⟨M,A+j*5,none⟩=some (.int .i64 u.kind) from kD h I d0) (Qe (show W.cell? ⟨M,A+j*5+1,none⟩=some (.int .i64 u.n) from kD h I d1) (Qe (show W.cell? ⟨M,A+j*5+2,none⟩=some (.string ⟨u.s.toArray⟩) from kD h I d2) (Qe (show W.cell? ⟨M,A+j*5+3,none⟩=some (.slice V u.names.length T) from kD h I d3) (show W.cell? ⟨M,A+j*5+4,none⟩=some (.slice Y u.kids.length U) from kD h I d4))))))
   clear hu eK I d0 d1 d2 d3 d4
   obtain ⟨x0,x1,x2,x3,x4⟩:=cZ.out wr J.out
   obtain ⟨u0,u1,u2,u3,u4⟩:=cY.out wr J.out
   obtain ⟨g0,g1,g2,g3,g4,g5,g6,g7,g8,g9,dT,dU,dV⟩:=fC.out wr J.out
   have aW:=kB aO.out fF.out
   have c1:=rA1 aW
   clear aW
   refine let_mvar% ?Lq1:=fun w':World=>Qxw w' w 1 (Qxa tb aK n tc)/\Qxw w' lb (aE+i*2+1) (Qxa M A m qc)/\Qyb w' M (A+k*5) x.kind x.n x.s (.slice aB x.names.length Z) (.slice aC x.kids.length aA) ((Qyb w' M (A+j*5) u.kind u.n u.s (.slice V u.names.length T) (.slice Y u.kids.length U) ((Qyh w' tb (aK+i*13) t.name (.slice bP t.columns.length bO) (.slice bX t.key.length bW) (.slice cF t.refs.length cE) k9 (.string cG) n9 (.string cH) (.slice cB bY bL) (.slice cC bZ bM) (.slice cD cA bN) a9 z9:Prop)):Prop));?_
   have O:=Qq (fun (w':World) (h:Below wr wr w')=>(show ?Lq1 w' from ⟨kC h c1,kC h e1,kC h x0,kC h x1,kC h x2,kC h x3,kC h x4,kC h u0,kC h u1,kC h u2,kC h u3,kC h u4,kC h g0,kC h g1,kC h g2,kC h g3,kC h g4,kC h g5,kC h g6,kC h g7,kC h g8,kC h g9,kC h dT,kC h dU,kC h dV⟩))
   have aQ:=Qq (O.out wr.drew (Qz _ _).drew)
   have bE:=Qq (fun W (hW:Below wr wr W)=>(Bk _ _ t x (Qxg t bP bO bX bW cF cE k9 cG n9 cH cB bY bL cC bZ bM cD cA bN a9 z9) _ W (Zl.frame dF.out (.of_below (J.out.thn hW))) (dJ.out.move (.of_below (J.out.thn hW)) Qyv) dH.out.key).mono (R':=fun e w2=>∃ p n c,e=.returned (.slice p n c)/\Sl Zc (fun _=>True) w2 (.slice p n c) ((keyOf t.key x).getD [])/\Below W W w2) (by
    rintro e w2 ⟨p,c,rfl,h3,h4⟩
    exact ⟨p,_,c,rfl,h3.mono (fun _ _ _=>trivial),h4⟩))
   unfold vcs at bE
   have bD:=Qq (fun W (hW:Below wr wr W)=>(Bk _ _ t u (Qxg t bP bO bX bW cF cE k9 cG n9 cH cB bY bL cC bZ bM cD cA bN a9 z9) _ W (Zl.frame dF.out (.of_below (J.out.thn hW))) (dI.out.move (.of_below (J.out.thn hW)) Qyv) dH.out.key).mono (R':=fun e w2=>∃ p n c,e=.returned (.slice p n c)/\Sl Zc (fun _=>True) w2 (.slice p n c) ((keyOf t.key u).getD [])/\Below W W w2) (by
    rintro e w2 ⟨p,c,rfl,h3,h4⟩
    exact ⟨p,_,c,rfl,h3.mono (fun _ _ _=>trivial),h4⟩))
   unfold vcs at bD
   have N:=Qq (fun W p n c q n' c' (h1:Sl Zc (fun _=>True) W (.slice p n c) ((keyOf t.key x).getD [])) (h2:Sl Zc (fun _=>True) W (.slice q n' c') ((keyOf t.key u).getD []))=>Bh _ _ _ _ _ _ W h1 h2)
   obtain ⟨bb,bS⟩:=eX (eqL eqv ((keyOf t.key x).getD []) ((keyOf t.key u).getD []))
   rw [bS] at N
   have cX:=Qq (show eqL eqv (K9 t x) (K9 t u)=bb from bS)
   clear bS
   go_upto_region 27 with fail
   clear c1 e1 x0 x1 x2 x3 x4 u0 u1 u2 u3 u4 g0 g1 g2 g3 g4 g5 g6 g7 g8 g9 dT dU dV
   go_region_held3 ?Lq1 (first | with_reducible exact aQ.out | with_reducible exact aR) (first
     | (go_at_call 81;refine (bD.out _ bB.out).mono ?_;rintro e w7 ⟨p7,m7,c7,rfl,eE,bR⟩;have aS:=Qq (dA.out.below bR);have aI:=bB.out.thn bR;have aR:=O.out w7 aI;have dB:=Qq eE;have cW:=Qq aI;clear eE bR aI)
     | (go_at_call 81;refine (bE.out _ (Qz _ _).drew).mono ?_;rintro e w6 ⟨p6,m6,c6,rfl,eD,dY⟩;have aH:Below wr wr w6:=(Qz _ _).drew.thn dY;have aR:=O.out w6 aH;have dA:=Qq eD;have bB:=Qq aH;clear eD dY aH)
     | (go_at_call 40;refine (N.out _ _ _ _ _ _ _ aS.out dB.out).mono ?_;rintro e w8 ⟨rfl,eC⟩;have aJ:=cW.out.thn eC.bl;have aR:=O.out w8 aJ;have eT:=Qq aJ;clear eC aJ))
   have aN:=Qq (aO.out.thn eT.out);have bK:=Qq (aM.out.thn aN.out)
   clear O aQ bE bD N dA aS dB bB cW
   cases bb with
   | false=>
    have bJ:=Qq (bH.out.trans (Qju (q:=fun u=>eqL eqv (K9 t x) (K9 t u)) dL.out cX.out))
    go_wp2_with fail
    go_roundw
    case measure=>simp [intOf];omega
    case rel=>exact ⟨j+1,Qvu,by go_num,bJ.out,aN.out⟩
   | true=>
    have eZ:=Qq (Si (c:=2) eU.out aT.out Qxv bG.out (by rw [HN.out];exact aX) (show cfR s l 2 i=⟨11,[],x,u⟩ from by rw [cfR_2 bG.out dG.out,bI.out];exact keyR_hit dM.out (bH.out.trans (find_at (q:=fun u=>eqL eqv (K9 t x) (K9 t u)) dL.out cX.out))) Qxv)
    obtain ⟨e0,e1⟩:=bF.out w8 bK.out
    obtain ⟨x0,x1,x2,x3,x4⟩:=cZ.out w8 bK.out
    obtain ⟨u0,u1,u2,u3,u4⟩:=cY.out w8 bK.out
    refine let_mvar% ?Lq2:=fun w':World=>Qxw w' lb (aE+i*2) r.table/\Qxw w' lb (aE+i*2+1) (Qxa M A m qc)/\Qyb w' M (A+k*5) x.kind x.n x.s (.slice aB x.names.length Z) (.slice aC x.kids.length aA) ((Qyg w' M (A+j*5) u.kind u.n u.s (.slice V u.names.length T) (.slice Y u.kids.length U):Prop));?_
    have O:=Qq (fun (w':World) (h:Below w8 w8 w')=>(show ?Lq2 w' from ⟨kC h e0,kC h e1,kC h x0,kC h x1,kC h x2,kC h x3,kC h x4,kC h u0,kC h u1,kC h u2,kC h u3,kC h u4⟩))
    have HP:∀ z0 z1 z2 z3 z4 z5 z6 z7 z8 z9 eM eN,?Lq2 (Y9 w8 (w+1) z0 z1 z2 z3 z4 z5 z6 z7 z8 z9 eM eN).drew:=fun z0 z1 z2 z3 z4 z5 z6 z7 z8 z9 eM eN=>⟨Zo Qvu e0,Zo Qvu e1,Zo Qvu x0,Zo Qvu x1,Zo Qvu x2,Zo Qvu x3,Zo Qvu x4,Zo Qvu u0,Zo Qvu u1,Zo Qvu u2,Zo Qvu u3,Zo Qvu u4⟩
    unfold Y9 at HP
    have eY:=Qq HP
    clear HP
    have aQ:=Qq (O.out w8.drew (Qz _ _).drew)
    have aD:=kE aN.out fN fG.out
    obtain ⟨y0,y1,y2,y3,y4,y5,y6,y7,y8,y9,gR,gS⟩:=row12 aD
    obtain ⟨f0,f1,f2,f3,f4,f5,f6,f7,f8,f9,gK,gL⟩:=frz12 aD
    have dN:=Qq aD
    clear aD
    go_upto_region 29 with fail
    clear e0 e1 x0 x1 x2 x3 x4 u0 u1 u2 u3 u4
    go_region_held3 ?Lq2 (first | with_reducible exact aQ.out | with_reducible exact aR | with_reducible exact eY.out _ _ _ _ _ _ _ _ _ _ _ _) (fail)
    all_goals
     go_wp2_with fail
     show bodyPost _ _ _ _ _ (Y9 w8 (w+1) (.int .i64 11) r.table x.kind x.n x.s (.slice aB x.names.length Z) (.slice aC x.kids.length aA) u.kind u.n u.s (.slice V u.names.length T) (.slice Y u.kids.length U)).drew
     have bC:Below w w (Y9 w8 (w+1) (.int .i64 11) r.table x.kind x.n x.s (.slice aB x.names.length Z) (.slice aC x.kids.length aA) u.kind u.n u.s (.slice V u.names.length T) (.slice Y u.kids.length U)).drew:=(Yv (aM.out.thn aN.out) Qvu).drew
     exact Q7 (v:=.agg (Qxi (.int .i64 11) r.table x aB Z aC aA u V T Y U)) (by simp [results,results77,go_sem,Ya dN.out]) rfl (Ga (c1:=[.int .i64 x.kind,.int .i64 x.n,.string ⟨x.s.toArray⟩,.slice aB x.names.length Z,.slice aC x.kids.length aA]) (c2:=[.int .i64 u.kind,.int .i64 u.n,.string ⟨u.s.toArray⟩,.slice V u.names.length T,.slice Y u.kids.length U]) eZ.out (Za.move dJ.out (.of_below bC) (fun _ _ h=>h.2)) (Za.move dI.out (.of_below bC) (fun _ _ h=>h.2)) fB.out bC)
  have fJ:j=m:=Qvu
  have bJ:=Qq (bI.out.trans (Qke dM.out (by rw [bH.out,fJ,<- HM.out,List.drop_length];rfl)))
  have hq:¬ (j:Int)<(m:Int):=Qvu
  go_wp2_with fail
  go_roundw
  case measure=>simp [intOf];omega
  case rel=>exact ⟨k+1,Qvu,by go_num,bJ.out,aO.out⟩
 have fL:k=m:=Qvu
 have fE:=Qq (Kn (c:=2) aT.out (show (cfR s l 2 i).code=0 from by rw [cfR_2 bG.out dG.out,bI.out,fL,<- HM.out,List.drop_length];rfl))
 have hq:¬ (k:Int)<(m:Int):=Qvu
 go_wp2_with fail
 go_roundw
 case measure=>simp [intOf];omega
 case rel=>exact ⟨i+1,Qvu,by go_num,fE.out,aP.out⟩
end Go.Proofs.YtlanplhphiikjaaGreatDoor

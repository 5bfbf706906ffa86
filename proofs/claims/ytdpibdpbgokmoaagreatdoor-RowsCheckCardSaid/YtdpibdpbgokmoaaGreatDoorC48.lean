import Derived.Test.YtdpibdpbgokmoaaGreatDoorC43
set_option maxRecDepth 100000
set_option maxHeartbeats 400000000
namespace Go.Proofs.YtdpibdpbgokmoaaGreatDoor
open Go.RowKit Go.Shelf Go.Lib Tryz
theorem Cj:Ka.P3:=by
 intro _ _ s l w _ _ _ _ _ tc _ _ _ _ fC eZ _ n _ HL _ _ HT HN dB W1 aL fE fF fM _ _ eT _ _ _ _ _ _ _ _ _ _ _ _ _ _ _ _ _ _ _ _ _ _ k fJ aO dJ _ _ _ _ _ _ _ _ _ _ _ _ _ _ _ _ _ _ _ _ _ _ _ _ _ _ _ _ _ _ _ _ _ _ _ _ _ _ _ _ _ _ _ _ _ _ _ _ _ _ _ _ _ _ _ _ _ _ _ _ _ _ _ _ _ _ _ wr _ _ _ _ _ _ _ _ _ _ _ _ _ _ _ _ _ _ _ _ _ _ _ _ _ _ _ _ _ _ _ _ _ _ _ _ _ _ _ _ _ _ _ _ _ _ _ _ _ _ _ _ _ _ _ _ _ _ _ _ _ _ _ _ _ _ _ _ _ _ _ _ _ _ _ _ _ _ _ _ _ _ _ i _ aS eU _ aW
 have gM:i<l.length:=by rw [dB.out];exact aW
 have fV:(0:Int)≤(i:Int):=Qqj
 have fY:(i:Int)<(n:Int):=Qqj
 obtain ⟨r,hr⟩:∃ r,l[i]?=some r:=⟨_,Qx (by rw [dB.out];assumption)⟩
 obtain ⟨lb,aD,gP,fL,bS,_,_,⟨rv,eH,aY,bT⟩,eG⟩:=HL.out.elem hr
 subst fL;subst eH
 obtain ⟨q,qc,aZ,fO⟩:=bT.len
 obtain ⟨m,hm⟩:=eX (r.rows.length)
 rw [hm] at aZ fO
 subst aZ
 obtain ⟨dD,HM,dC,bF,fA⟩:=Qqr bT hm (eZ.out r (Qy hr)) hr aY
 have bE:=hT2 (o:=aD+i*2) (x0:=.string ⟨r.table.toArray⟩) bS eG
 have gB:lb<w.heap.size:=bS
 clear hr eG bT hm bS aY
 obtain ⟨t,ht⟩:∃ t,s.tables[i]?=some t:=⟨_,Qx (by rw [HN.out];assumption)⟩
 obtain ⟨tb,aJ,gE,fR,bU,_,_,bP,eI⟩:=HT.out.elem ht
 subst fR
 obtain ⟨bO,bN,bW,bV,cE,cD,k9,cF,n9,cG,cA,bX,bK,cB,bY,bL,cC,bZ,bM,a9,z9,eA,fQ,dZ,eE,aX,dY⟩:=Yj bP
 simp only [tcs] at eA
 subst eA
 obtain ⟨dE,dG,gI,dF⟩:=Qqp bP (fC.out t (Qy ht)) aX ht
 have fB:=hT13 (o:=aJ+i*13) bU eI
 have gC:tb<w.heap.size:=bU
 clear ht bP eI fQ dZ eE aX dY bU
 go_upto_region 22 with fail
 go_loopw [11,12,13] (fun cH _ _ wr=>∃ k:Nat,k≤m∧cH=.int .i64 k∧Aside (Ju (Jb t) r.rows=Ju (Jb t) (r.rows.drop k))∧Aside (Below W1 W1 wr)) (fun cH _ _ _=>m - (intOf cH).toNat)
 case atStart=>exact ⟨0,Q8 _,rfl,(by rw [List.drop_zero];exact rfl),eU.out⟩
 obtain ⟨k,fJ,rfl,aF,dW⟩:=hrel
 have bH:=Qq (show Ju (Jb t) r.rows=Ju (Jb t) (r.rows.drop k) from aF)
 clear aF
 have aO:=Qq (show Below W1 W1 wr from dW)
 have dJ:=Qq (aL.out.thn aO.out)
 clear dW
 obtain ⟨e0,e1⟩:=bE.out wr dJ.out
 by_cases hlt3:k<m
 ·have gO:k<r.rows.length:=by rw [HM.out];exact hlt3
  have fX:(0:Int)≤(k:Int):=Qqj
  have gA:(k:Int)<(m:Int):=Qqj
  obtain ⟨x,hx⟩:∃ x,r.rows[k]?=some x:=⟨_,Qx (by rw [HM.out];assumption)⟩
  obtain ⟨J,A,aA,Y,aB,Z,fP,D,eK,d0,d1,d2,d3,d4⟩:=dD.out.val hx
  subst fP
  have gD:J<w.heap.size:=D
  obtain ⟨dI,gH,dL⟩:=Qqo eK (dC.out x (Qy hx)) hx
  have cY:=Qq (fun W (h:Below w w W)=>(Qe (show W.cell? ⟨J,A+k*5,none⟩=some (.int .i64 x.kind) from kD h D d0) (Qe (show W.cell? ⟨J,A+k*5+1,none⟩=some (.int .i64 x.n) from kD h D d1) (Qe (show W.cell? ⟨J,A+k*5+2,none⟩=some (.string ⟨x.s.toArray⟩) from kD h D d2) (Qe (show W.cell? ⟨J,A+k*5+3,none⟩=some (.slice aA x.names.length Y) from kD h D d3) (show W.cell? ⟨J,A+k*5+4,none⟩=some (.slice aB x.kids.length Z) from kD h D d4))))))
  clear hx eK D d0 d1 d2 d3 d4
  go_upto_region 25 with fail
  clear e0 e1
  go_loopw [12,13] (fun cI _ wr=>∃ j:Nat,j≤m∧cI=.int .i64 j∧Aside ((r.rows.drop (k+1)).find? (fun u=>eqL eqv (Jb t x) (Jb t u))=(r.rows.drop j).find? (fun u=>eqL eqv (Jb t x) (Jb t u)))∧Aside (Below W1 W1 wr)) (fun cI _ _=>m - (intOf cI).toNat)
  case atStart=>exact ⟨k+1,Qqj,by go_num,rfl,aO.out⟩
  obtain ⟨j,gL,rfl,aE,dV⟩:=hrel
  have bG:=Qq (show (r.rows.drop (k+1)).find? (fun u=>eqL eqv (Jb t x) (Jb t u))=(r.rows.drop j).find? (fun u=>eqL eqv (Jb t x) (Jb t u)) from aE)
  clear aE
  have aN:=Qq (show Below W1 W1 wr from dV)
  have I:=Qq (aL.out.thn aN.out)
  clear dV
  obtain ⟨e0,e1⟩:=bE.out wr I.out
  by_cases hlt4:j<m
  ·have gN:j<r.rows.length:=by rw [HM.out];exact hlt4
   have fW:(0:Int)≤(j:Int):=Qqj
   have fZ:(j:Int)<(m:Int):=Qqj
   obtain ⟨u,hu⟩:∃ x,r.rows[j]?=some x:=⟨_,Qx (by rw [HM.out];assumption)⟩
   obtain ⟨yb,gF,U,O,V,T,eF,G,eJ,d0,d1,d2,d3,d4⟩:=dD.out.val hu
   simp only [Zv,Addr.mk.injEq,and_true] at eF
   obtain ⟨rfl,rfl⟩:=eF
   obtain ⟨dH,gG,dK⟩:=Qqo eJ (dC.out u (Qy hu)) hu
   have cX:=Qq (fun W (h:Below w w W)=>(Qe (show W.cell? ⟨J,A+j*5,none⟩=some (.int .i64 u.kind) from kD h G d0) (Qe (show W.cell? ⟨J,A+j*5+1,none⟩=some (.int .i64 u.n) from kD h G d1) (Qe (show W.cell? ⟨J,A+j*5+2,none⟩=some (.string ⟨u.s.toArray⟩) from kD h G d2) (Qe (show W.cell? ⟨J,A+j*5+3,none⟩=some (.slice U u.names.length O) from kD h G d3) (show W.cell? ⟨J,A+j*5+4,none⟩=some (.slice V u.kids.length T) from kD h G d4))))))
   clear hu eJ G d0 d1 d2 d3 d4
   obtain ⟨x0,x1,x2,x3,x4⟩:=cY.out wr I.out
   obtain ⟨u0,u1,u2,u3,u4⟩:=cX.out wr I.out
   obtain ⟨g0,g1,g2,g3,g4,g5,g6,g7,g8,g9,dS,dT,dU⟩:=fB.out wr I.out
   have aV:=kB aN.out fE.out
   have c1:=rA1 aV
   clear aV
   refine let_mvar% ?Lq1:=fun w':World=>Qqa w' w 1 (Qqb tb aJ n tc)∧Qqa w' lb (aD+i*2+1) (Qqb J A m qc)∧Qzc w' J (A+k*5) x.kind x.n x.s (.slice aA x.names.length Y) (.slice aB x.kids.length Z) ((Qzc w' J (A+j*5) u.kind u.n u.s (.slice U u.names.length O) (.slice V u.kids.length T) ((Qzi w' tb (aJ+i*13) t.name (.slice bO t.columns.length bN) (.slice bW t.key.length bV) (.slice cE t.refs.length cD) k9 (.string cF) n9 (.string cG) (.slice cA bX bK) (.slice cB bY bL) (.slice cC bZ bM) a9 z9:Prop)):Prop));?_
   have N:=Qq (fun (w':World) (h:Below wr wr w')=>(show ?Lq1 w' from ⟨kC h c1,kC h e1,kC h x0,kC h x1,kC h x2,kC h x3,kC h x4,kC h u0,kC h u1,kC h u2,kC h u3,kC h u4,kC h g0,kC h g1,kC h g2,kC h g3,kC h g4,kC h g5,kC h g6,kC h g7,kC h g8,kC h g9,kC h dS,kC h dT,kC h dU⟩))
   have aP:=Qq (N.out wr.drew (Qz _ _).drew)
   have bD:=Qq (fun W (hW:Below wr wr W)=>(Fh _ _ t x (Qqh t bO bN bW bV cE cD k9 cF n9 cG cA bX bK cB bY bL cC bZ bM a9 z9) _ W (Zn.frame dE.out (.of_below (I.out.thn hW))) (dI.out.move (.of_below (I.out.thn hW)) Qzx) dG.out.key).mono (R':=fun e w2=>∃ p n c,e=.returned (.slice p n c)∧Sl Ze (fun _=>True) w2 (.slice p n c) ((keyOf t.key x).getD [])∧Below W W w2) (by
    rintro e w2 ⟨p,c,rfl,h3,h4⟩
    exact ⟨p,_,c,rfl,h3.mono (fun _ _ _=>trivial),h4⟩))
   unfold vcs at bD
   have bC:=Qq (fun W (hW:Below wr wr W)=>(Fh _ _ t u (Qqh t bO bN bW bV cE cD k9 cF n9 cG cA bX bK cB bY bL cC bZ bM a9 z9) _ W (Zn.frame dE.out (.of_below (I.out.thn hW))) (dH.out.move (.of_below (I.out.thn hW)) Qzx) dG.out.key).mono (R':=fun e w2=>∃ p n c,e=.returned (.slice p n c)∧Sl Ze (fun _=>True) w2 (.slice p n c) ((keyOf t.key u).getD [])∧Below W W w2) (by
    rintro e w2 ⟨p,c,rfl,h3,h4⟩
    exact ⟨p,_,c,rfl,h3.mono (fun _ _ _=>trivial),h4⟩))
   unfold vcs at bC
   have M:=Qq (fun W p n c q n' c' (h1:Sl Ze (fun _=>True) W (.slice p n c) ((keyOf t.key x).getD [])) (h2:Sl Ze (fun _=>True) W (.slice q n' c') ((keyOf t.key u).getD []))=>Ll _ _ _ _ _ _ W h1 h2)
   obtain ⟨bb,bR⟩:=eX (eqL eqv ((keyOf t.key x).getD []) ((keyOf t.key u).getD []))
   rw [bR] at M
   have cW:=Qq (show eqL eqv (Jb t x) (Jb t u)=bb from bR)
   clear bR
   go_upto_region 27 with fail
   clear c1 e1 x0 x1 x2 x3 x4 u0 u1 u2 u3 u4 g0 g1 g2 g3 g4 g5 g6 g7 g8 g9 dS dT dU
   go_region_held3 ?Lq1 (first | with_reducible exact aP.out | with_reducible exact aQ) (first
     | (go_at_call 42;refine (bC.out _ bA.out).mono ?_;rintro e w7 ⟨p7,m7,c7,rfl,eD,bQ⟩;have aR:=Qq (cZ.out.below bQ);have aH:=bA.out.thn bQ;have aQ:=N.out w7 aH;have dA:=Qq eD;have cV:=Qq aH;clear eD bQ aH)
     | (go_at_call 42;refine (bD.out _ (Qz _ _).drew).mono ?_;rintro e w6 ⟨p6,m6,c6,rfl,eC,dX⟩;have aG:Below wr wr w6:=(Qz _ _).drew.thn dX;have aQ:=N.out w6 aG;have cZ:=Qq eC;have bA:=Qq aG;clear eC dX aG)
     | (go_at_call 41;refine (M.out _ _ _ _ _ _ _ aR.out dA.out).mono ?_;rintro e w8 ⟨rfl,eB⟩;have aI:=cV.out.thn eB.bl;have aQ:=N.out w8 aI;have eS:=Qq aI;clear eB aI))
   have aM:=Qq (aN.out.thn eS.out);have bJ:=Qq (aL.out.thn aM.out)
   clear N aP bD bC M cZ aR dA bA cV
   cases bb with
   | false=>
    have bI:=Qq (bG.out.trans (Qjk (q:=fun u=>eqL eqv (Jb t x) (Jb t u)) dK.out cW.out))
    go_wp2_with fail
    go_roundw
    case measure=>simp [intOf];omega
    case rel=>exact ⟨j+1,Qqj,by go_num,bI.out,aM.out⟩
   | true=>
    have eY:=Qq (Ni (c:=2) eT.out aS.out Qqx bF.out (by rw [HN.out];exact aW) (show cfR s l 2 i=⟨11,[],x,u⟩ from by rw [cfR_2 bF.out dF.out,bH.out];exact keyR_hit dL.out (bG.out.trans (find_at (q:=fun u=>eqL eqv (Jb t x) (Jb t u)) dK.out cW.out))) Qqx)
    obtain ⟨e0,e1⟩:=bE.out w8 bJ.out
    obtain ⟨x0,x1,x2,x3,x4⟩:=cY.out w8 bJ.out
    obtain ⟨u0,u1,u2,u3,u4⟩:=cX.out w8 bJ.out
    refine let_mvar% ?Lq2:=fun w':World=>Qqa w' lb (aD+i*2) r.table∧Qqa w' lb (aD+i*2+1) (Qqb J A m qc)∧Qzc w' J (A+k*5) x.kind x.n x.s (.slice aA x.names.length Y) (.slice aB x.kids.length Z) ((Qzh w' J (A+j*5) u.kind u.n u.s (.slice U u.names.length O) (.slice V u.kids.length T):Prop));?_
    have N:=Qq (fun (w':World) (h:Below w8 w8 w')=>(show ?Lq2 w' from ⟨kC h e0,kC h e1,kC h x0,kC h x1,kC h x2,kC h x3,kC h x4,kC h u0,kC h u1,kC h u2,kC h u3,kC h u4⟩))
    have HP:∀ z0 z1 z2 z3 z4 z5 z6 z7 z8 z9 eL eM,?Lq2 (Yb w8 (w+1) z0 z1 z2 z3 z4 z5 z6 z7 z8 z9 eL eM).drew:=fun z0 z1 z2 z3 z4 z5 z6 z7 z8 z9 eL eM=>⟨Zr Qqj e0,Zr Qqj e1,Zr Qqj x0,Zr Qqj x1,Zr Qqj x2,Zr Qqj x3,Zr Qqj x4,Zr Qqj u0,Zr Qqj u1,Zr Qqj u2,Zr Qqj u3,Zr Qqj u4⟩
    unfold Yb at HP
    have eW:=Qq HP
    clear HP
    have aP:=Qq (N.out w8.drew (Qz _ _).drew)
    have aC:=kE aM.out fM fF.out
    obtain ⟨y0,y1,y2,y3,y4,y5,y6,y7,y8,y9,gQ,gR⟩:=row12 aC
    obtain ⟨f0,f1,f2,f3,f4,f5,f6,f7,f8,f9,gJ,gK⟩:=frz12 aC
    have dM:=Qq aC
    clear aC
    go_upto_region 29 with fail
    clear e0 e1 x0 x1 x2 x3 x4 u0 u1 u2 u3 u4
    go_region_held3 ?Lq2 (first | with_reducible exact aP.out | with_reducible exact aQ | with_reducible exact eW.out _ _ _ _ _ _ _ _ _ _ _ _) (fail)
    all_goals
     go_wp2_with fail
     show bodyPost _ _ _ _ _ (Yb w8 (w+1) (.int .i64 11) r.table x.kind x.n x.s (.slice aA x.names.length Y) (.slice aB x.kids.length Z) u.kind u.n u.s (.slice U u.names.length O) (.slice V u.kids.length T)).drew
     have bB:Below w w (Yb w8 (w+1) (.int .i64 11) r.table x.kind x.n x.s (.slice aA x.names.length Y) (.slice aB x.kids.length Z) u.kind u.n u.s (.slice U u.names.length O) (.slice V u.kids.length T)).drew:=(Yy (aL.out.thn aM.out) Qqj).drew
     exact Q7 (v:=.agg (Qql (.int .i64 11) r.table x aA Y aB Z u U O V T)) (by simp [results,results10,go_sem,Ya dM.out]) rfl (D7 (c1:=[.int .i64 x.kind,.int .i64 x.n,.string ⟨x.s.toArray⟩,.slice aA x.names.length Y,.slice aB x.kids.length Z]) (c2:=[.int .i64 u.kind,.int .i64 u.n,.string ⟨u.s.toArray⟩,.slice U u.names.length O,.slice V u.kids.length T]) eY.out (Z9.move dI.out (.of_below bB) (fun _ _ h=>h.2)) (Z9.move dH.out (.of_below bB) (fun _ _ h=>h.2)) fA.out bB)
  have fI:j=m:=Qqj
  have bI:=Qq (bH.out.trans (Cv dL.out (by rw [bG.out,fI,← HM.out,List.drop_length];rfl)))
  have hq:¬ (j:Int)<(m:Int):=Qqj
  go_wp2_with fail
  go_roundw
  case measure=>simp [intOf];omega
  case rel=>exact ⟨k+1,Qqj,by go_num,bI.out,aN.out⟩
 have fK:k=m:=Qqj
 have fD:=Qq (Kv (c:=2) aS.out (show (cfR s l 2 i).code=0 from by rw [cfR_2 bF.out dF.out,bH.out,fK,← HM.out,List.drop_length];rfl))
 have hq:¬ (k:Int)<(m:Int):=Qqj
 go_wp2_with fail
 go_roundw
 case measure=>simp [intOf];omega
 case rel=>exact ⟨i+1,Qqj,by go_num,fD.out,aO.out⟩
end Go.Proofs.YtdpibdpbgokmoaaGreatDoor

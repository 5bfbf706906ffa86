import Derived.Test.YtcljcblceodciaaGreatDoorU35
set_option maxRecDepth 100000
set_option maxHeartbeats 400000000
namespace Go.Proofs.YtcljcblceodciaaGreatDoor
open Go.RowKit Go.Shelf Go.Lib Tryz
theorem Ar:Jl.P3:=by
 intro _ _ s l w _ _ _ _ tc _ _ _ _ eF eD _ n _ HL _ _ _ HT HN cO W1 aI eI eJ eO _ _ _ _ _ _ _ _ _ _ _ _ _ _ _ _ _ _ _ _ _ _ _ k eM aL cT _ _ _ _ _ _ _ _ _ _ _ _ _ _ _ _ _ _ _ _ _ _ _ _ _ _ _ _ _ _ _ _ _ _ _ _ _ _ _ _ _ _ _ _ _ _ _ _ _ _ _ _ _ _ _ _ _ _ _ _ _ _ _ _ _ wr _ _ _ _ _ _ _ _ _ _ _ _ _ _ _ _ _ _ _ _ _ _ _ _ _ _ _ _ _ _ _ _ _ _ _ _ _ _ _ _ _ _ _ _ _ _ _ _ _ _ _ _ _ _ _ _ _ _ _ _ _ _ _ _ _ _ _ _ _ _ _ _ _ _ _ _ _ _ _ _ _ _ _ i _ eA _ dO
 have fV:i<l.length:=by rw [cO.out];exact dO
 have fC:(0:Int)<=(i:Int):=C7
 have fF:(i:Int)<(n:Int):=C7
 obtain ⟨r,hr⟩:∃ r,l[i]?=some r:=⟨_,Qx (by rw [cO.out];assumption)⟩
 obtain ⟨lb,T,fY,eN,bH,_,_,⟨rv,dR,_,bI⟩,dQ⟩:=HL.out.elem hr
 subst eN;subst dR
 obtain ⟨q,qc,aU,eQ⟩:=bI.len
 obtain ⟨m,hm⟩:=eX (r.rows.length)
 rw [hm] at aU eQ
 subst aU
 obtain ⟨cQ,HM,cP⟩:=Qjq bI hm (eD.out r (Qy hr))
 have aY:=hT2 (o:=T+i*2) (x0:=.string ⟨r.table.toArray⟩) bH dQ
 have fI:lb<w.heap.size:=bH
 clear hr dQ bI hm bH
 obtain ⟨t,ht⟩:∃ t,s.tables[i]?=some t:=⟨_,Qx (by rw [HN.out];assumption)⟩
 obtain ⟨tb,Z,fL,eV,bJ,_,_,bF,dS⟩:=HT.out.elem ht
 subst eV
 obtain ⟨bE,bD,bL,bK,bT,bS,k9,bU,n9,bV,bP,bM,bA,bQ,bN,bB,bR,bO,bC,a9,z9,dJ,eU,dI,dN,aT,dH⟩:=Zt bF
 simp only [tcs] at dJ
 subst dJ
 obtain ⟨cR,cS,fP⟩:=Qjq bF (eF.out t (Qy ht)) aT
 have eE:=hT13 (o:=Z+i*13) bJ dS
 have fJ:tb<w.heap.size:=bJ
 clear ht bF dS eU dI dN aT dH bJ
 go_upto_region 22 with fail
 go_loopw [11,12,13] (fun bW _ _ wr=>∃ k:Nat,k<=m/\bW=.int .i64 k/\Aside (Below W1 W1 wr)) (fun bW _ _ _=>m - (intOf bW).toNat)
 case atStart=>exact ⟨0,Q8 _,rfl,eA.out⟩
 obtain ⟨k,eM,rfl,dE⟩:=hrel
 have aL:=Qq (show Below W1 W1 wr from dE)
 have cT:=Qq (aI.out.thn aL.out)
 clear dE
 obtain ⟨e0,e1⟩:=aY.out wr cT.out
 by_cases hlt3:k<m
 ·have fX:k<r.rows.length:=by rw [HM.out];exact hlt3
  have fE:(0:Int)<=(k:Int):=C7
  have fH:(k:Int)<(m:Int):=C7
  obtain ⟨x,hx⟩:∃ x,r.rows[k]?=some x:=⟨_,Qx (by rw [HM.out];assumption)⟩
  obtain ⟨J,A,aG,aE,aH,aF,eR,D,dU,d0,d1,d2,d3,d4⟩:=cQ.out.val hx
  subst eR
  have fK:J<w.heap.size:=D
  have eH:=Qq dU;have fO:=Qq (cP.out x (Qy hx))
  have cL:=Qq (fun W (h:Below w w W)=>(Qe (show W.cell? ⟨J,A+k*5,none⟩=some (.int .i64 x.kind) from kD h D d0) (Qe (show W.cell? ⟨J,A+k*5+1,none⟩=some (.int .i64 x.n) from kD h D d1) (Qe (show W.cell? ⟨J,A+k*5+2,none⟩=some (.string ⟨x.s.toArray⟩) from kD h D d2) (Qe (show W.cell? ⟨J,A+k*5+3,none⟩=some (.slice aG x.names.length aE) from kD h D d3) (show W.cell? ⟨J,A+k*5+4,none⟩=some (.slice aH x.kids.length aF) from kD h D d4))))))
  clear hx dU D d0 d1 d2 d3 d4
  go_upto_region 25 with fail
  clear e0 e1
  go_loopw [12,13] (fun bX _ wr=>∃ j:Nat,j<=m/\bX=.int .i64 j/\Aside (Below W1 W1 wr)) (fun bX _ _=>m - (intOf bX).toNat)
  case atStart=>exact ⟨k+1,C7,by go_num,aL.out⟩
  obtain ⟨j,fT,rfl,dD⟩:=hrel
  have aK:=Qq (show Below W1 W1 wr from dD)
  have I:=Qq (aI.out.thn aK.out)
  clear dD
  obtain ⟨e0,e1⟩:=aY.out wr I.out
  by_cases hlt4:j<m
  ·have fW:j<r.rows.length:=by rw [HM.out];exact hlt4
   have fD:(0:Int)<=(j:Int):=C7
   have fG:(j:Int)<(m:Int):=C7
   obtain ⟨u,hu⟩:∃ x,r.rows[j]?=some x:=⟨_,Qx (by rw [HM.out];assumption)⟩
   obtain ⟨yb,fM,aC,aA,aD,aB,dP,G,dT,d0,d1,d2,d3,d4⟩:=cQ.out.val hu
   simp only [Zv,Addr.mk.injEq,and_true] at dP
   obtain ⟨rfl,rfl⟩:=dP
   have eG:=Qq dT;have fN:=Qq (cP.out u (Qy hu))
   have cK:=Qq (fun W (h:Below w w W)=>(Qe (show W.cell? ⟨J,A+j*5,none⟩=some (.int .i64 u.kind) from kD h G d0) (Qe (show W.cell? ⟨J,A+j*5+1,none⟩=some (.int .i64 u.n) from kD h G d1) (Qe (show W.cell? ⟨J,A+j*5+2,none⟩=some (.string ⟨u.s.toArray⟩) from kD h G d2) (Qe (show W.cell? ⟨J,A+j*5+3,none⟩=some (.slice aC u.names.length aA) from kD h G d3) (show W.cell? ⟨J,A+j*5+4,none⟩=some (.slice aD u.kids.length aB) from kD h G d4))))))
   clear hu dT G d0 d1 d2 d3 d4
   obtain ⟨x0,x1,x2,x3,x4⟩:=cL.out wr I.out
   obtain ⟨u0,u1,u2,u3,u4⟩:=cK.out wr I.out
   obtain ⟨g0,g1,g2,g3,g4,g5,g6,g7,g8,g9,dA,dB,dC⟩:=eE.out wr I.out
   have aS:=kB aK.out eI.out
   have c1:=rA1 aS
   clear aS
   refine let_mvar% ?Lq1:=fun w':World=>Cf w' w 1 (Cg tb Z n tc)/\Cf w' lb (T+i*2+1) (Cg J A m qc)/\Qjl w' J (A+k*5) x.kind x.n x.s (.slice aG x.names.length aE) (.slice aH x.kids.length aF) ((Qjl w' J (A+j*5) u.kind u.n u.s (.slice aC u.names.length aA) (.slice aD u.kids.length aB) ((Qjs w' tb (Z+i*13) t.name (.slice bE t.columns.length bD) (.slice bL t.key.length bK) (.slice bT t.refs.length bS) k9 (.string bU) n9 (.string bV) (.slice bP bM bA) (.slice bQ bN bB) (.slice bR bO bC) a9 z9:Prop)):Prop));?_
   have N:=Qq (fun (w':World) (h:Below wr wr w')=>(show ?Lq1 w' from ⟨kC h c1,kC h e1,kC h x0,kC h x1,kC h x2,kC h x3,kC h x4,kC h u0,kC h u1,kC h u2,kC h u3,kC h u4,kC h g0,kC h g1,kC h g2,kC h g3,kC h g4,kC h g5,kC h g6,kC h g7,kC h g8,kC h g9,kC h dA,kC h dB,kC h dC⟩))
   have aM:=Qq (N.out wr.drew (Qz _ _).drew)
   have aX:=Qq (fun W (hW:Below wr wr W)=>(Dt _ _ t x (Co t bE bD bL bK bT bS k9 bU n9 bV bP bM bA bQ bN bB bR bO bC a9 z9) _ W (Zm.frame cR.out (.of_below (I.out.thn hW))) (eH.out.move (.of_below (I.out.thn hW)) Qje) cS.out.key).mono (R':=fun e w2=>∃ p n c,e=.returned (.slice p n c)/\Sl Zd (fun _=>True) w2 (.slice p n c) ((keyOf t.key x).getD [])/\Below W W w2) (by
    rintro e w2 ⟨p,c,rfl,h3,h4⟩
    exact ⟨p,_,c,rfl,h3.mono (fun _ _ _=>trivial),h4⟩))
   unfold vcs at aX
   have aW:=Qq (fun W (hW:Below wr wr W)=>(Dt _ _ t u (Co t bE bD bL bK bT bS k9 bU n9 bV bP bM bA bQ bN bB bR bO bC a9 z9) _ W (Zm.frame cR.out (.of_below (I.out.thn hW))) (eG.out.move (.of_below (I.out.thn hW)) Qje) cS.out.key).mono (R':=fun e w2=>∃ p n c,e=.returned (.slice p n c)/\Sl Zd (fun _=>True) w2 (.slice p n c) ((keyOf t.key u).getD [])/\Below W W w2) (by
    rintro e w2 ⟨p,c,rfl,h3,h4⟩
    exact ⟨p,_,c,rfl,h3.mono (fun _ _ _=>trivial),h4⟩))
   unfold vcs at aW
   have M:=Qq (fun W p n c q n' c' (h1:Sl Zd (fun _=>True) W (.slice p n c) ((keyOf t.key x).getD [])) (h2:Sl Zd (fun _=>True) W (.slice q n' c') ((keyOf t.key u).getD []))=>G7 _ _ _ _ _ _ W h1 h2)
   obtain ⟨bb,dG⟩:=eX (eqL eqv ((keyOf t.key x).getD []) ((keyOf t.key u).getD []))
   rw [dG] at M
   clear dG
   go_upto_region 27 with fail
   clear c1 e1 x0 x1 x2 x3 x4 u0 u1 u2 u3 u4 g0 g1 g2 g3 g4 g5 g6 g7 g8 g9 dA dB dC
   go_region_held3 ?Lq1 (first | with_reducible exact aM.out | with_reducible exact aN) (first
     | (go_at_call 48;refine (aW.out _ aV.out).mono ?_;rintro e w7 ⟨p7,m7,c7,rfl,dM,bG⟩;have aP:=Qq (cM.out.below bG);have V:=aV.out.thn bG;have aN:=N.out w7 V;have cN:=Qq dM;have cJ:=Qq V;clear dM bG V)
     | (go_at_call 48;refine (aX.out _ (Qz _ _).drew).mono ?_;rintro e w6 ⟨p6,m6,c6,rfl,dL,dF⟩;have U:Below wr wr w6:=(Qz _ _).drew.thn dF;have aN:=N.out w6 U;have cM:=Qq dL;have aV:=Qq U;clear dL dF U)
     | (go_at_call 21;refine (M.out _ _ _ _ _ _ _ aP.out cN.out).mono ?_;rintro e w8 ⟨rfl,dK⟩;have Y:=cJ.out.thn dK.bl;have aN:=N.out w8 Y;have dZ:=Qq Y;clear dK Y))
   have aJ:=Qq (aK.out.thn dZ.out);have aZ:=Qq (aI.out.thn aJ.out)
   clear N aM aX aW M cM aP cN aV cJ
   cases bb with
   | false=>
    go_wp2_with fail
    go_roundw
    case measure=>simp [intOf];omega
    case rel=>exact ⟨j+1,C7,by go_num,aJ.out⟩
   | true=>
    obtain ⟨e0,e1⟩:=aY.out w8 aZ.out
    obtain ⟨x0,x1,x2,x3,x4⟩:=cL.out w8 aZ.out
    obtain ⟨u0,u1,u2,u3,u4⟩:=cK.out w8 aZ.out
    refine let_mvar% ?Lq2:=fun w':World=>Cf w' lb (T+i*2) r.table/\Cf w' lb (T+i*2+1) (Cg J A m qc)/\Qjl w' J (A+k*5) x.kind x.n x.s (.slice aG x.names.length aE) (.slice aH x.kids.length aF) ((Qjr w' J (A+j*5) u.kind u.n u.s (.slice aC u.names.length aA) (.slice aD u.kids.length aB):Prop));?_
    have N:=Qq (fun (w':World) (h:Below w8 w8 w')=>(show ?Lq2 w' from ⟨kC h e0,kC h e1,kC h x0,kC h x1,kC h x2,kC h x3,kC h x4,kC h u0,kC h u1,kC h u2,kC h u3,kC h u4⟩))
    have HP:∀ z0 z1 z2 z3 z4 z5 z6 z7 z8 z9 dV dW,?Lq2 (Yd w8 (w+1) z0 z1 z2 z3 z4 z5 z6 z7 z8 z9 dV dW).drew:=fun z0 z1 z2 z3 z4 z5 z6 z7 z8 z9 dV dW=>⟨Zr C7 e0,Zr C7 e1,Zr C7 x0,Zr C7 x1,Zr C7 x2,Zr C7 x3,Zr C7 x4,Zr C7 u0,Zr C7 u1,Zr C7 u2,Zr C7 u3,Zr C7 u4⟩
    unfold Yd at HP
    have eC:=Qq HP
    clear HP
    have aM:=Qq (N.out w8.drew (Qz _ _).drew)
    have O:=kE aJ.out eO eJ.out
    obtain ⟨y0,y1,y2,y3,y4,y5,y6,y7,y8,y9,fZ,gA⟩:=row12 O
    obtain ⟨f0,f1,f2,f3,f4,f5,f6,f7,f8,f9,fQ,fR⟩:=frz12 O
    have cU:=Qq O
    clear O
    go_upto_region 29 with fail
    clear e0 e1 x0 x1 x2 x3 x4 u0 u1 u2 u3 u4
    go_region_held3 ?Lq2 (first | with_reducible exact aM.out | with_reducible exact aN | with_reducible exact eC.out _ _ _ _ _ _ _ _ _ _ _ _) (fail)
    all_goals
     go_wp2_with fail
     show bodyPost _ _ _ _ _ (Yd w8 (w+1) (.int .i64 11) r.table x.kind x.n x.s (.slice aG x.names.length aE) (.slice aH x.kids.length aF) u.kind u.n u.s (.slice aC u.names.length aA) (.slice aD u.kids.length aB)).drew
     refine Q7 (v:=.agg (Cr (.int .i64 11) r.table x aG aE aH aF u aC aA aD aB)) (by simp [results,results11,go_sem,Y8 cU.out]) rfl ⟨⟨_,_,_,_,_,_,_,_,_,_,_,_,rfl⟩,(Y1 (aI.out.thn aJ.out) C7).drew⟩
  have fS:j=m:=C7
  have hq:¬ (j:Int)<(m:Int):=C7
  go_wp2_with fail
  go_roundw
  case measure=>simp [intOf];omega
  case rel=>exact ⟨k+1,C7,by go_num,aK.out⟩
 have fU:k=m:=C7
 have hq:¬ (k:Int)<(m:Int):=C7
 go_wp2_with fail
 go_roundw
 case measure=>simp [intOf];omega
 case rel=>exact ⟨i+1,C7,by go_num,aL.out⟩
end Go.Proofs.YtcljcblceodciaaGreatDoor

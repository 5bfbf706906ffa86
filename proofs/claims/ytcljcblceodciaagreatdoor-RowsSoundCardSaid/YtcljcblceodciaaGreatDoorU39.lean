import Derived.Test.YtcljcblceodciaaGreatDoorU35
set_option maxRecDepth 100000
set_option maxHeartbeats 400000000
namespace Go.Proofs.YtcljcblceodciaaGreatDoor
open Go.RowKit Go.Shelf Go.Lib Tryz
theorem Wy:Jl.P5:=by
 intro _ _ s l w _ _ _ _ tc _ _ _ _ cS cO _ n _ HL _ _ _ HT HN aU W1 aI cW cX dA _ _ _ _ _ _ _ _ _ _ _ _ _ _ _ _ _ _ _ _ _ _ _ k cY M J _ _ _ _ _ _ _ _ _ _ _ _ _ _ _ _ _ _ _ _ _ _ _ _ _ _ _ _ _ _ _ _ _ _ _ _ _ _ _ _ _ _ _ _ _ _ _ _ _ _ _ _ _ _ _ _ _ _ _ _ _ _ _ _ _ _ _ _ _ _ _ _ _ _ _ _ _ _ _ _ _ _ _ _ _ _ _ _ _ _ _ _ _ _ _ _ _ _ _ _ _ _ _ _ _ _ _ _ _ _ _ _ _ _ _ _ _ _ _ _ _ _ _ _ _ _ _ _ _ _ _ _ _ _ _ _ _ _ _ _ _ _ _ _ _ _ _ _ _ _ _ _ _ _ _ _ _ _ _ _ _ _ _ _ _ _ _ _ _ _ _ _ _ _ _ _ _ _ _ _ _ _ _ _ _ _ _ _ _ _ _ _ _ _ _ _ _ _ _ _ _ _ _ _ _ _ _ _ _ _ _ _ _ _ _ _ _ _ _ _ _ _ _ _ _ _ _ _ _ _ _ _ _ _ _ _ _ _ _ _ _ _ _ _ _ _ _ _ _ _ _ _ _ _ _ _ _ _ _ wr _ _ _ _ _ _ _ _ _ _ _ _ _ _ _ _ _ _ _ _ _ _ _ _ _ _ _ _ _ _ _ _ _ _ _ _ _ _ _ _ _ _ _ _ _ _ _ _ i _ cL _ bN
 have dW:i<l.length:=by rw [aU.out];exact bN
 have dK:(0:Int)<=(i:Int):=C7
 have dM:(i:Int)<(n:Int):=C7
 obtain ⟨r,hr⟩:∃ r,l[i]?=some r:=⟨_,Qx (by rw [aU.out];assumption)⟩
 obtain ⟨lb,I,dY,cZ,aL,_,_,⟨rv,bP,_,aM⟩,bO⟩:=HL.out.elem hr
 subst cZ;subst bP
 obtain ⟨q,qc,aH,dC⟩:=aM.len
 obtain ⟨m,hm⟩:=eX (r.rows.length)
 rw [hm] at aH dC
 subst aH
 obtain ⟨cQ,HM,cP⟩:=Qjq aM hm (cO.out r (Qy hr))
 have aV:=hT2 (o:=I+i*2) (x0:=.string ⟨r.table.toArray⟩) aL bO
 have dO:lb<w.heap.size:=aL
 clear hr bO aM hm aL
 obtain ⟨t,ht⟩:∃ t,s.tables[i]?=some t:=⟨_,Qx (by rw [HN.out];assumption)⟩
 obtain ⟨tb,U,dR,dH,aN,_,_,aK,bQ⟩:=HT.out.elem ht
 subst dH
 obtain ⟨bC,bB,bT,bS,cB,cA,k9,cC,n9,cD,bX,bU,aY,bY,bV,aZ,bZ,bW,bA,a9,z9,bL,dG,bK,bM,aG,bJ⟩:=Zt aK
 simp only [tcs] at bL
 subst bL
 obtain ⟨cT,cU,dS⟩:=Qjq aK (cS.out t (Qy ht)) aG
 have cR:=hT13 (o:=U+i*13) aN bQ
 have dP:tb<w.heap.size:=aN
 clear ht aK bQ dG bK bM aG bJ aN
 go_upto_region 47 with fail
 go_loopw [22,23] (fun t22 _ wr=>∃ k:Nat,k<=m/\t22=.int .i64 k/\Aside (Below W1 W1 wr)) (fun t22 _ _=>m - (intOf t22).toNat)
 case atStart=>exact ⟨0,Q8 _,rfl,cL.out⟩
 obtain ⟨k,cY,rfl,bG⟩:=hrel
 have M:=Qq (show Below W1 W1 wr from bG)
 have J:=Qq (aI.out.thn M.out)
 clear bG
 obtain ⟨e0,e1⟩:=aV.out wr J.out
 by_cases hlt3:k<m
 ·have dX:k<r.rows.length:=by rw [HM.out];exact hlt3
  have dL:(0:Int)<=(k:Int):=C7
  have dN:(k:Int)<(m:Int):=C7
  obtain ⟨x,hx⟩:∃ x,r.rows[k]?=some x:=⟨_,Qx (by rw [HM.out];assumption)⟩
  obtain ⟨xb,A,Z,V,aA,Y,dD,D,bR,d0,d1,d2,d3,d4⟩:=cQ.out.val hx
  subst dD
  have dQ:xb<w.heap.size:=D
  have cV:=Qq bR;have aJ:=Qq (cP.out x (Qy hx))
  have aT:=Qq (fun W (h:Below w w W)=>(Qe (show W.cell? ⟨xb,A+k*5,none⟩=some (.int .i64 x.kind) from kD h D d0) (Qe (show W.cell? ⟨xb,A+k*5+1,none⟩=some (.int .i64 x.n) from kD h D d1) (Qe (show W.cell? ⟨xb,A+k*5+2,none⟩=some (.string ⟨x.s.toArray⟩) from kD h D d2) (Qe (show W.cell? ⟨xb,A+k*5+3,none⟩=some (.slice Z x.names.length V) from kD h D d3) (show W.cell? ⟨xb,A+k*5+4,none⟩=some (.slice aA x.kids.length Y) from kD h D d4))))))
  clear hx bR D d0 d1 d2 d3 d4
  obtain ⟨x0,x1,x2,x3,x4⟩:=aT.out wr J.out
  obtain ⟨g0,g1,g2,g3,g4,g5,g6,g7,g8,g9,bD,bE,bF⟩:=cR.out wr J.out
  have aF:=kB M.out cW.out
  have c1:=rA1 aF
  clear aF
  refine let_mvar% ?Lq1:=fun w':World=>Cf w' w 1 (Cg tb U n tc)/\Cf w' lb (I+i*2+1) (Cg xb A m qc)/\Qjl w' xb (A+k*5) x.kind x.n x.s (.slice Z x.names.length V) (.slice aA x.kids.length Y) ((Qjs w' tb (U+i*13) t.name (.slice bC t.columns.length bB) (.slice bT t.key.length bS) (.slice cB t.refs.length cA) k9 (.string cC) n9 (.string cD) (.slice bX bU aY) (.slice bY bV aZ) (.slice bZ bW bA) a9 z9:Prop));?_
  have O:=Qq (fun (w':World) (h:Below wr wr w')=>(show ?Lq1 w' from ⟨kC h c1,kC h e1,kC h x0,kC h x1,kC h x2,kC h x3,kC h x4,kC h g0,kC h g1,kC h g2,kC h g3,kC h g4,kC h g5,kC h g6,kC h g7,kC h g8,kC h g9,kC h bD,kC h bE,kC h bF⟩))
  have aD:=Qq (O.out wr.drew (Qz _ _).drew)
  have N:=Qq (fun W (hW:Below wr wr W)=>rsat_any _ _ 8 t x (Co t bC bB bT bS cB cA k9 cC n9 cD bX bU aY bY bV aZ bZ bW bA a9 z9) _ W cU.out.check (Zm.frame cT.out (.of_below (J.out.thn hW))) (cV.out.move (.of_below (J.out.thn hW)) Qje) aJ.out.good.lens.1 (C8 aJ.out.few) (fun v hv=>(aJ.out.good.boolOk).kids v hv))
  unfold vcs at N
  go_upto_region 49 with fail
  clear c1 e1 x0 x1 x2 x3 x4 g0 g1 g2 g3 g4 g5 g6 g7 g8 g9 bD bE bF
  go_region_held3 ?Lq1 (first | with_reducible exact aD.out | with_reducible exact bH) (first
    | (go_at_call 51;refine (N.out _ (Qz _ _).drew).mono ?_;rintro e w6 ⟨⟨bb,rfl⟩,bI⟩;have T:Below wr wr w6:=(Qz _ _).drew.thn bI;have bH:=O.out w6 T;have cK:=Qq T;clear bI T))
  have aC:=Qq (M.out.thn cK.out);have aW:=Qq (aI.out.thn aC.out)
  clear O aD N
  cases bb with
  | true=>
   go_wp2_with fail
   go_roundw
   case measure=>simp [intOf];omega
   case rel=>exact ⟨k+1,C7,by go_num,aC.out⟩
  | false=>
   obtain ⟨e0,e1⟩:=aV.out w6 aW.out
   obtain ⟨x0,x1,x2,x3,x4⟩:=aT.out w6 aW.out
   refine let_mvar% ?Lq2:=fun w':World=>Cf w' lb (I+i*2) r.table/\Cf w' lb (I+i*2+1) (Cg xb A m qc)/\Qjr w' xb (A+k*5) x.kind x.n x.s (.slice Z x.names.length V) (.slice aA x.kids.length Y);?_
   have O:=Qq (fun (w':World) (h:Below w6 w6 w')=>(show ?Lq2 w' from ⟨kC h e0,kC h e1,kC h x0,kC h x1,kC h x2,kC h x3,kC h x4⟩))
   have HP:∀ z0 z1 z2 z3 z4 z5 z6 z7 z8 z9 cE cF,?Lq2 (Yd w6 (w+1) z0 z1 z2 z3 z4 z5 z6 z7 z8 z9 cE cF).drew:=fun z0 z1 z2 z3 z4 z5 z6 z7 z8 z9 cE cF=>⟨Zr C7 e0,Zr C7 e1,Zr C7 x0,Zr C7 x1,Zr C7 x2,Zr C7 x3,Zr C7 x4⟩
   unfold Yd at HP
   have cN:=Qq HP
   clear HP
   have aD:=Qq (O.out w6.drew (Qz _ _).drew)
   have G:=kE aC.out dA cX.out
   obtain ⟨y0,y1,y2,y3,y4,y5,y6,y7,y8,y9,dZ,eA⟩:=row12 G
   obtain ⟨f0,f1,f2,f3,f4,f5,f6,f7,f8,f9,dT,dU⟩:=frz12 G
   have aX:=Qq G
   clear G
   go_upto_region 51 with fail
   clear e0 e1 x0 x1 x2 x3 x4
   go_region_held3 ?Lq2 (first | with_reducible exact aD.out | with_reducible exact bH | with_reducible exact cN.out _ _ _ _ _ _ _ _ _ _ _ _) (fail)
   all_goals
    go_wp2_with fail
    show bodyPost _ _ _ _ _ (Yd w6 (w+1) (.int .i64 13) r.table x.kind x.n x.s (.slice Z x.names.length V) (.slice aA x.kids.length Y) Ci Ci Cl Cm Cm).drew
    refine Q7 (v:=.agg #[.int .i64 13,r.table,x.kind,x.n,x.s,.slice Z x.names.length V,.slice aA x.kids.length Y,Ci,Ci,Cl,Cm,Cm]) (by simp [results,results11,go_sem,Y8 aX.out]) rfl ⟨⟨_,_,_,_,_,_,_,_,_,_,_,_,rfl⟩,(Y1 (aI.out.thn aC.out) C7).drew⟩
 have dV:k=m:=C7
 have hq:¬ (k:Int)<(m:Int):=C7
 go_wp2_with fail
 go_roundw
 case measure=>simp [intOf];omega
 case rel=>exact ⟨i+1,C7,by go_num,M.out⟩
end Go.Proofs.YtcljcblceodciaaGreatDoor

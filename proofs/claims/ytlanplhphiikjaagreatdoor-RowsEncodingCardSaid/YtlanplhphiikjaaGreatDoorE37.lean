import Derived.Test.YtlanplhphiikjaaGreatDoorE33
set_option maxRecDepth 100000
set_option maxHeartbeats 400000000
namespace Go.Proofs.YtlanplhphiikjaaGreatDoor
open Go.RowKit Go.Shelf Go.Lib Tryz
theorem Qkm:Kt.P5:=by
 intro _ _ s l w _ _ _ _ _ tc _ _ _ _ dM dH _ n _ HL _ _ HT HN bF W1 aO dR dS dW _ _ dB _ _ _ _ _ _ _ _ _ _ _ _ _ _ _ _ _ _ _ _ _ _ k dT Y V _ _ _ _ _ _ _ _ _ _ _ _ _ _ _ _ _ _ _ _ _ _ _ _ _ _ _ _ _ _ _ _ _ _ _ _ _ _ _ _ _ _ _ _ _ _ _ _ _ _ _ _ _ _ _ _ _ _ _ _ _ _ _ _ _ _ _ _ _ _ _ _ _ _ _ _ _ _ _ _ _ _ _ _ _ _ _ _ _ _ _ _ _ _ _ _ _ _ _ _ _ _ _ _ _ _ _ _ _ _ _ _ _ _ _ _ _ _ _ _ _ _ _ _ _ _ _ _ _ _ _ _ _ _ _ _ _ _ _ _ _ _ _ _ _ _ _ _ _ _ _ _ _ _ _ _ _ _ _ _ _ _ _ _ _ _ _ _ _ _ _ _ _ _ _ _ _ _ _ _ _ _ _ _ _ _ _ _ _ _ _ _ _ _ _ _ _ _ _ _ _ _ _ _ _ _ _ _ _ _ _ _ _ _ _ _ _ _ _ _ _ _ _ _ _ _ _ _ _ _ _ _ _ _ _ _ _ _ _ _ _ _ _ _ _ _ _ _ _ _ _ _ _ _ _ _ _ _ _ _ _ _ _ wr _ _ _ _ _ _ _ _ _ _ _ _ _ _ _ _ _ _ _ _ _ _ _ _ _ _ _ _ _ _ _ _ _ _ _ _ _ _ _ _ _ _ _ _ _ _ _ _ i _ aI dC _ aK
 have eO:i<l.length:=by rw [bF.out];exact aK
 have eD:(0:Int)<=(i:Int):=Qvu
 have eF:(i:Int)<(n:Int):=Qvu
 obtain ⟨r,hr⟩:∃ r,l[i]?=some r:=⟨_,Qx (by rw [bF.out];assumption)⟩
 obtain ⟨lb,U,eQ,dV,aU,_,_,⟨rv,cC,aM,aV⟩,cB⟩:=HL.out.elem hr
 subst dV;subst cC
 obtain ⟨q,qc,aN,dY⟩:=aV.len
 obtain ⟨m,hm⟩:=eX (r.rows.length)
 rw [hm] at aN dY
 subst aN
 obtain ⟨dK,HM,dJ,aQ,dI⟩:=Qxp aV hm (dH.out r (Qy hr)) hr aM
 have bG:=hT2 (o:=U+i*2) (x0:=.string ⟨r.table.toArray⟩) aU cB
 have eH:lb<w.heap.size:=aU
 clear hr cB aV hm aU aM
 obtain ⟨t,ht⟩:∃ t,s.tables[i]?=some t:=⟨_,Qx (by rw [HN.out];assumption)⟩
 obtain ⟨tb,aC,eK,eB,aW,_,_,aS,cD⟩:=HT.out.elem ht
 subst eB
 obtain ⟨bQ,bP,cG,cF,cO,cN,k9,cP,n9,cQ,cK,cH,bM,cL,cI,bN,cM,cJ,bO,a9,z9,bZ,eA,bY,cA,aL,bX⟩:=Yj aS
 simp only [tcs] at bZ
 subst bZ
 obtain ⟨dN,dP,eL,bH⟩:=Qxo aS (dM.out t (Qy ht)) aL ht
 have dL:=hT13 (o:=aC+i*13) aW cD
 have eI:tb<w.heap.size:=aW
 clear ht aS cD eA bY cA aL bX aW
 go_upto_region 47 with fail
 go_loopw [22,23] (fun t22 _ wr=>∃ k:Nat,k<=m/\t22=.int .i64 k/\Aside (∀ y ∈ r.rows.take k,F7 8 t y=true)/\Aside (Below W1 W1 wr)) (fun t22 _ _=>m - (intOf t22).toNat)
 case atStart=>exact ⟨0,Q8 _,rfl,(by intro y hy;simp at hy),dC.out⟩
 obtain ⟨k,dT,rfl,aA,bU⟩:=hrel
 have aR:=Qq (show ∀ y ∈ r.rows.take k,F7 8 t y=true from aA)
 clear aA
 have Y:=Qq (show Below W1 W1 wr from bU)
 have V:=Qq (aO.out.thn Y.out)
 clear bU
 obtain ⟨e0,e1⟩:=bG.out wr V.out
 by_cases hlt3:k<m
 ·have eP:k<r.rows.length:=by rw [HM.out];exact hlt3
  have eE:(0:Int)<=(k:Int):=Qvu
  have eG:(k:Int)<(m:Int):=Qvu
  obtain ⟨x,hx⟩:∃ x,r.rows[k]?=some x:=⟨_,Qx (by rw [HM.out];assumption)⟩
  obtain ⟨xb,A,M,I,N,J,dZ,D,cE,d0,d1,d2,d3,d4⟩:=dK.out.val hx
  subst dZ
  have eJ:xb<w.heap.size:=D
  obtain ⟨bI,aP,bK⟩:=Qxn cE (dJ.out x (Qy hx)) hx
  have bE:=Qq (fun W (h:Below w w W)=>(Qe (show W.cell? ⟨xb,A+k*5,none⟩=some (.int .i64 x.kind) from kD h D d0) (Qe (show W.cell? ⟨xb,A+k*5+1,none⟩=some (.int .i64 x.n) from kD h D d1) (Qe (show W.cell? ⟨xb,A+k*5+2,none⟩=some (.string ⟨x.s.toArray⟩) from kD h D d2) (Qe (show W.cell? ⟨xb,A+k*5+3,none⟩=some (.slice M x.names.length I) from kD h D d3) (show W.cell? ⟨xb,A+k*5+4,none⟩=some (.slice N x.kids.length J) from kD h D d4))))))
  clear hx cE D d0 d1 d2 d3 d4
  obtain ⟨x0,x1,x2,x3,x4⟩:=bE.out wr V.out
  obtain ⟨g0,g1,g2,g3,g4,g5,g6,g7,g8,g9,bR,bS,bT⟩:=dL.out wr V.out
  have aJ:=kB Y.out dR.out
  have c1:=rA1 aJ
  clear aJ
  refine let_mvar% ?Lq1:=fun w':World=>Qxw w' w 1 (Qxa tb aC n tc)/\Qxw w' lb (U+i*2+1) (Qxa xb A m qc)/\Qyb w' xb (A+k*5) x.kind x.n x.s (.slice M x.names.length I) (.slice N x.kids.length J) ((Qyh w' tb (aC+i*13) t.name (.slice bQ t.columns.length bP) (.slice cG t.key.length cF) (.slice cO t.refs.length cN) k9 (.string cP) n9 (.string cQ) (.slice cK cH bM) (.slice cL cI bN) (.slice cM cJ bO) a9 z9:Prop));?_
  have Z:=Qq (fun (w':World) (h:Below wr wr w')=>(show ?Lq1 w' from ⟨kC h c1,kC h e1,kC h x0,kC h x1,kC h x2,kC h x3,kC h x4,kC h g0,kC h g1,kC h g2,kC h g3,kC h g4,kC h g5,kC h g6,kC h g7,kC h g8,kC h g9,kC h bR,kC h bS,kC h bT⟩))
  have aG:=Qq (Z.out wr.drew (Qz _ _).drew)
  have O:=(fun W (hW:Below wr wr W)=>rsat_any _ _ 8 t x (Qxg t bQ bP cG cF cO cN k9 cP n9 cQ cK cH bM cL cI bN cM cJ bO a9 z9) _ W dP.out.check (Zl.frame dN.out (.of_below (V.out.thn hW))) (bI.out.move (.of_below (V.out.thn hW)) Qyv) aP.out.good.lens.1 (Qxj aP.out.few) (fun v hv=>(aP.out.good.boolOk).kids v hv))
  obtain ⟨bb,aT⟩:=eX (F7 8 t x)
  simp only [aT] at O
  unfold vcs at O
  have aH:=Qq O;have bD:=Qq aT
  clear O aT
  go_upto_region 49 with fail
  clear c1 e1 x0 x1 x2 x3 x4 g0 g1 g2 g3 g4 g5 g6 g7 g8 g9 bR bS bT
  go_region_held3 ?Lq1 (first | with_reducible exact aG.out | with_reducible exact bV) (first
    | (go_at_call 133;refine (aH.out _ (Qz _ _).drew).mono ?_;rintro e w6 ⟨rfl,bW⟩;have aB:Below wr wr w6:=(Qz _ _).drew.thn bW;have bV:=Z.out w6 aB;have dA:=Qq aB;clear bW aB))
  have aF:=Qq (Y.out.thn dA.out);have bJ:=Qq (aO.out.thn aF.out)
  clear Z aG aH
  cases bb with
  | true=>
   have dO:=Qq (Bg (p:=F7 8 t) bK.out bD.out aR.out)
   go_wp2_with fail
   go_roundw
   case measure=>simp [intOf];omega
   case rel=>exact ⟨k+1,Qvu,by go_num,dO.out,aF.out⟩
  | false=>
   have dG:=Qq (Si (c:=4) dB.out aI.out Qxv aQ.out (by rw [HN.out];exact aK) (show cfR s l 4 i=⟨13,[],x,Val.zero⟩ from by rw [cfR_4 aQ.out bH.out];exact M2 bK.out bD.out aR.out) Qxv)
   obtain ⟨e0,e1⟩:=bG.out w6 bJ.out
   obtain ⟨x0,x1,x2,x3,x4⟩:=bE.out w6 bJ.out
   refine let_mvar% ?Lq2:=fun w':World=>Qxw w' lb (U+i*2) r.table/\Qxw w' lb (U+i*2+1) (Qxa xb A m qc)/\Qyg w' xb (A+k*5) x.kind x.n x.s (.slice M x.names.length I) (.slice N x.kids.length J);?_
   have Z:=Qq (fun (w':World) (h:Below w6 w6 w')=>(show ?Lq2 w' from ⟨kC h e0,kC h e1,kC h x0,kC h x1,kC h x2,kC h x3,kC h x4⟩))
   have HP:∀ z0 z1 z2 z3 z4 z5 z6 z7 z8 z9 cR cS,?Lq2 (Y9 w6 (w+1) z0 z1 z2 z3 z4 z5 z6 z7 z8 z9 cR cS).drew:=fun z0 z1 z2 z3 z4 z5 z6 z7 z8 z9 cR cS=>⟨Zo Qvu e0,Zo Qvu e1,Zo Qvu x0,Zo Qvu x1,Zo Qvu x2,Zo Qvu x3,Zo Qvu x4⟩
   unfold Y9 at HP
   have dF:=Qq HP
   clear HP
   have aG:=Qq (Z.out w6.drew (Qz _ _).drew)
   have T:=kE aF.out dW dS.out
   obtain ⟨y0,y1,y2,y3,y4,y5,y6,y7,y8,y9,eR,eS⟩:=row12 T
   obtain ⟨f0,f1,f2,f3,f4,f5,f6,f7,f8,f9,eM,eN⟩:=frz12 T
   have bL:=Qq T
   clear T
   go_upto_region 51 with fail
   clear e0 e1 x0 x1 x2 x3 x4
   go_region_held3 ?Lq2 (first | with_reducible exact aG.out | with_reducible exact bV | with_reducible exact dF.out _ _ _ _ _ _ _ _ _ _ _ _) (fail)
   all_goals
    go_wp2_with fail
    show bodyPost _ _ _ _ _ (Y9 w6 (w+1) (.int .i64 13) r.table x.kind x.n x.s (.slice M x.names.length I) (.slice N x.kids.length J) Qxc Qxc Qxd Qxe Qxe).drew
    have bC:Below w w (Y9 w6 (w+1) (.int .i64 13) r.table x.kind x.n x.s (.slice M x.names.length I) (.slice N x.kids.length J) Qxc Qxc Qxd Qxe Qxe).drew:=(Yv (aO.out.thn aF.out) Qvu).drew
    exact Q7 (v:=.agg #[.int .i64 13,r.table,x.kind,x.n,x.s,.slice M x.names.length I,.slice N x.kids.length J,Qxc,Qxc,Qxd,Qxe,Qxe]) (by simp [results,results77,go_sem,Ya bL.out]) rfl (Ga (c1:=[.int .i64 x.kind,.int .i64 x.n,.string ⟨x.s.toArray⟩,.slice M x.names.length I,.slice N x.kids.length J]) (c2:=[.int .i64 0,.int .i64 0,.string ⟨#[]⟩,.slice none 0 0,.slice none 0 0]) dG.out (Za.move bI.out (.of_below bC) (fun _ _ h=>h.2)) (Yw _ _) dI.out bC)
 have dU:k=m:=Qvu
 have dQ:=Qq (Kn (c:=4) aI.out (show (cfR s l 4 i).code=0 from by rw [cfR_4 aQ.out bH.out];exact Eb (by rw [HM.out,<- dU];exact aR.out)))
 have hq:¬ (k:Int)<(m:Int):=Qvu
 go_wp2_with fail
 go_roundw
 case measure=>simp [intOf];omega
 case rel=>exact ⟨i+1,Qvu,by go_num,dQ.out,Y.out⟩
end Go.Proofs.YtlanplhphiikjaaGreatDoor

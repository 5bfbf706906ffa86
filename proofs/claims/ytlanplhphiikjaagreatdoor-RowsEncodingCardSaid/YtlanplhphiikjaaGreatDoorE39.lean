import Derived.Test.YtlanplhphiikjaaGreatDoorE33
set_option maxRecDepth 100000
set_option maxHeartbeats 400000000
namespace Go.Proofs.YtlanplhphiikjaaGreatDoor
open Go.RowKit Go.Shelf Go.Lib Tryz
theorem Qkw:Kt.P1:=by
 intro _ _ s l w _ _ _ _ _ _ _ _ _ _ _ aI _ n _ HL _ _ _ HN Z _ aD _ aM aO _ _ aF _ _ _ wr _ _ _ _ _ _ _ _ _ _ _ _ _ _ _ _ _ _ _ k _ I T aL J
 have aZ:k<l.length:=by rw [Z.out];exact J
 have aS:(0:Int)<=(k:Int):=Qvu
 have aT:(k:Int)<(n:Int):=Qvu
 obtain ⟨r,hr⟩:∃ r,l[k]?=some r:=⟨_,Qx (by rw [Z.out];assumption)⟩
 obtain ⟨lb,O,bA,aN,D,_,_,⟨rv,aB,M,Y⟩,V⟩:=HL.out.elem hr
 subst aN;subst aB
 obtain ⟨q,qc,N,aQ⟩:=Y.len
 obtain ⟨m,hm⟩:=eX (r.rows.length)
 rw [hm] at N aQ
 subst N
 obtain ⟨aW,HM,aV,U,aJ⟩:=Qxp Y hm (aI.out r (Qy hr)) hr M
 have aG:=Qq (fun W (h:Below w w W)=>Qe (show W.cell? ⟨lb,O+k*2,none⟩=some (.string ⟨r.table.toArray⟩) from kD h D (V 0 _ rfl)) (show W.cell? ⟨lb,O+k*2+1,none⟩=some (.slice q m qc) from kD h D (V 1 _ rfl)))
 have aU:lb<w.heap.size:=D
 clear hr V Y hm D M
 obtain ⟨e0,e1⟩:=aG.out wr aL.out
 by_cases hbig:256<m
 ·have hq:(256:Int)<(m:Int):=Qvu
  have aH:=Qq (Si (c:=0) aF.out I.out Qxv U.out (by rw [HN.out];exact J) (show cfR s l 0 k=⟨4,[],Val.zero,Val.zero⟩ from by rw [cfR_0 U.out];unfold H9;rw [if_pos (by rw [HM.out];exact hbig)]) Qxv)
  have A:=kE T.out aO aM.out
  obtain ⟨y0,y1,y2,y3,y4,y5,y6,y7,y8,y9,bB,bC⟩:=row12 A
  obtain ⟨f0,f1,f2,f3,f4,f5,f6,f7,f8,f9,aX,aY⟩:=frz12 A
  have aA:=Qq A
  clear A
  go_wp2_with fail
  show bodyPost _ _ _ _ _ (Y9 wr (w+1) (.int .i64 4) r.table Qxc Qxc Qxd Qxe Qxe Qxc Qxc Qxd Qxe Qxe)
  have aE:Below w w (Y9 wr (w+1) (.int .i64 4) r.table Qxc Qxc Qxd Qxe Qxe Qxc Qxc Qxd Qxe Qxe):=(Yv (aD.out.thn T.out) Qvu)
  exact Q7 (v:=.agg #[.int .i64 4,r.table,Qxc,Qxc,Qxd,Qxe,Qxe,Qxc,Qxc,Qxd,Qxe,Qxe]) (by simp [results,results77,go_sem,Ya aA.out]) rfl (Ga (c1:=[.int .i64 0,.int .i64 0,.string ⟨#[]⟩,.slice none 0 0,.slice none 0 0]) (c2:=[.int .i64 0,.int .i64 0,.string ⟨#[]⟩,.slice none 0 0,.slice none 0 0]) aH.out (Yw _ _) (Yw _ _) aJ.out aE)
 have hq:¬ (256:Int)<(m:Int):=Qvu
 have aK:=Qq (Kn (c:=0) I.out (show (cfR s l 0 k).code=0 from by rw [cfR_0 U.out];unfold H9;rw [if_neg (by rw [HM.out];exact hbig)];rfl))
 go_wp2_with fail
 go_roundw
 case measure=>simp [intOf];omega
 case rel=>exact ⟨k+1,Qvu,by go_num,aK.out,T.out⟩
theorem Qzt:Kt.P2:=by
 intro _ _ s l w _ up uc _ _ tc _ _ _ HU dE cY dC n _ HL _ _ HT HN bK W1 aR dI dJ dS _ _ cS _ _ _ _ _ _ _ _ _ _ _ _ _ _ _ _ _ _ _ _ _ _ k dP Y I _ _ _ _ _ _ wr _ _ _ _ _ _ _ _ _ _ _ _ _ _ _ _ _ _ _ _ _ _ _ _ _ _ _ _ _ _ _ _ _ _ _ _ _ _ _ _ _ _ _ _ _ _ _ _ _ _ _ i _ aK cT _ aM
 have eY:i<l.length:=by rw [bK.out];exact aM
 have eM:(0:Int)<=(i:Int):=Qvu
 have eO:(i:Int)<(n:Int):=Qvu
 obtain ⟨r,hr⟩:∃ r,l[i]?=some r:=⟨_,Qx (by rw [bK.out];assumption)⟩
 obtain ⟨lb,U,fA,dR,aZ,_,_,⟨rv,cF,aO,bA⟩,cE⟩:=HL.out.elem hr
 subst dR;subst cF
 obtain ⟨q,qc,aP,dU⟩:=bA.len
 obtain ⟨m,hm⟩:=eX (r.rows.length)
 rw [hm] at aP dU
 subst aP
 obtain ⟨dB,HM,dA,aT,cZ⟩:=Qxp bA hm (cY.out r (Qy hr)) hr aO
 have bM:=hT2 (o:=U+i*2) (x0:=.string ⟨r.table.toArray⟩) aZ cE
 have eQ:lb<w.heap.size:=aZ
 clear hr cE bA hm aZ aO
 obtain ⟨t,ht⟩:∃ t,s.tables[i]?=some t:=⟨_,Qx (by rw [HN.out];assumption)⟩
 obtain ⟨tb,aD,eT,dX,bB,_,_,aW,cG⟩:=HT.out.elem ht
 subst dX
 obtain ⟨dO,dN,dZ,dY,eH,eG,k9,eI,n9,eJ,eD,eA,dK,eE,eB,dL,eF,eC,dM,a9,z9,cC,dW,cB,cD,aN,cA⟩:=Yj aW
 simp only [tcs] at cC
 subst cC
 obtain ⟨dF,bO,eU,bN⟩:=Qxo aW (dE.out t (Qy ht)) aN ht
 have dD:=hT13 (o:=aD+i*13) bB cG
 have eR:tb<w.heap.size:=bB
 clear ht aW cG dW cB cD aN cA bB
 go_upto_region 13 with fail
 go_loopw [8,9] (fun t8 _ wr=>∃ k:Nat,k<=m/\t8=.int .i64 k/\Aside (∀ y ∈ r.rows.take k,En s.sums t y=true)/\Aside (Below W1 W1 wr)) (fun t8 _ _=>m - (intOf t8).toNat)
 case atStart=>exact ⟨0,Q8 _,rfl,(by intro y hy;simp at hy),cT.out⟩
 obtain ⟨k,dP,rfl,aA,bX⟩:=hrel
 have aU:=Qq (show ∀ y ∈ r.rows.take k,En s.sums t y=true from aA)
 clear aA
 have Y:=Qq (show Below W1 W1 wr from bX)
 have I:=Qq (aR.out.thn Y.out)
 clear bX
 obtain ⟨e0,e1⟩:=bM.out wr I.out
 by_cases hlt3:k<m
 ·have eZ:k<r.rows.length:=by rw [HM.out];exact hlt3
  have eN:(0:Int)<=(k:Int):=Qvu
  have eP:(k:Int)<(m:Int):=Qvu
  obtain ⟨x,hx⟩:∃ x,r.rows[k]?=some x:=⟨_,Qx (by rw [HM.out];assumption)⟩
  obtain ⟨xb,A,N,J,O,M,dV,D,cH,d0,d1,d2,d3,d4⟩:=dB.out.val hx
  subst dV
  have eS:xb<w.heap.size:=D
  obtain ⟨bQ,bL,bS⟩:=Qxn cH (dA.out x (Qy hx)) hx
  have bJ:=Qq (fun W (h:Below w w W)=>(Qe (show W.cell? ⟨xb,A+k*5,none⟩=some (.int .i64 x.kind) from kD h D d0) (Qe (show W.cell? ⟨xb,A+k*5+1,none⟩=some (.int .i64 x.n) from kD h D d1) (Qe (show W.cell? ⟨xb,A+k*5+2,none⟩=some (.string ⟨x.s.toArray⟩) from kD h D d2) (Qe (show W.cell? ⟨xb,A+k*5+3,none⟩=some (.slice N x.names.length J) from kD h D d3) (show W.cell? ⟨xb,A+k*5+4,none⟩=some (.slice O x.kids.length M) from kD h D d4))))))
  clear hx cH D d0 d1 d2 d3 d4
  obtain ⟨x0,x1,x2,x3,x4⟩:=bJ.out wr I.out
  obtain ⟨g0,g1,g2,g3,g4,g5,g6,g7,g8,g9,bU,bV,bW⟩:=dD.out wr I.out
  have aL:=kB Y.out dI.out
  obtain ⟨c0,c1⟩:=row2 aL
  clear aL
  refine let_mvar% ?Lq1:=fun w':World=>Qxw w' w 0 (.slice up s.sums.length uc)/\Qxw w' w 1 (Qxa tb aD n tc)/\Qxw w' lb (U+i*2+1) (Qxa xb A m qc)/\Qyb w' xb (A+k*5) x.kind x.n x.s (.slice N x.names.length J) (.slice O x.kids.length M) ((Qyh w' tb (aD+i*13) t.name (.slice dO t.columns.length dN) (.slice dZ t.key.length dY) (.slice eH t.refs.length eG) k9 (.string eI) n9 (.string eJ) (.slice eD eA dK) (.slice eE eB dL) (.slice eF eC dM) a9 z9:Prop));?_
  have V:=Qq (fun (w':World) (h:Below wr wr w')=>(show ?Lq1 w' from ⟨kC h c0,kC h c1,kC h e1,kC h x0,kC h x1,kC h x2,kC h x3,kC h x4,kC h g0,kC h g1,kC h g2,kC h g3,kC h g4,kC h g5,kC h g6,kC h g7,kC h g8,kC h g9,kC h bU,kC h bV,kC h bW⟩))
  have aG:=Qq (V.out wr.drew (Qz _ _).drew)
  obtain ⟨bb,aY⟩:=eX (En s.sums t x)
  have aX:=rhasRow s.sums dC.out t bO.out x bL.out
  rw [aY] at aX
  have bI:=Qq aY
  clear aY
  have Z:=Qq (fun W r3 m3 r4 m4 (hW:Below wr wr W) (aH:Xc (fun _=>True) W [.int .i64 5,Qxd,Qxc,.slice r3 t.columns.length m3,.slice r4 t.columns.length m4] (P8 t))=>rhasGood s.sums x (P8 t) bb bL.out.good aX _ _ _ _ _ _ W (HU.out.below (I.out.thn hW)) (bQ.out.move (.of_below (I.out.thn hW)) Qyv) aH)
  have aJ:=Qq (fun W (hW:Below wr wr W)=>Qqh _ t _ W (Zl.frame dF.out (.of_below (I.out.thn hW))) bO.out.cols)
  unfold vcs at Z
  clear aX
  go_upto_region 15 with fail
  clear c0 c1 e1 x0 x1 x2 x3 x4 g0 g1 g2 g3 g4 g5 g6 g7 g8 g9 bU bV bW
  go_region_held3 ?Lq1 (first | with_reducible exact aG.out | with_reducible exact aV) (first
    | (go_at_call 22;refine (aJ.out _ (Qz _ _).drew).mono ?_;rintro e w6 ⟨r3,m3,r4,m4,rfl,aH,bY⟩;have aB:Below wr wr w6:=(Qz _ _).drew.thn bY;have aV:=V.out w6 aB;have aQ:=aH.move (S':=fun _=>True) (.refl _ _) (fun _ _ _=>trivial);have bP:=Qq aQ;have aS:=Qq aB;clear aH bY aB aQ)
    | (go_at_call 131;refine (Z.out _ _ _ _ _ aS.out bP.out).mono ?_;rintro e w7 ⟨rfl,bZ⟩;have aC:=aS.out.thn bZ;have aV:=V.out w7 aC;have cR:=Qq aC;clear bZ aC))
  have aF:=Qq (Y.out.thn cR.out);have bR:=Qq (aR.out.thn aF.out)
  clear V aG Z aJ bP aS
  cases bb with
  | true=>
   have dG:=Qq (Bg (p:=En s.sums t) bS.out bI.out aU.out)
   go_wp2_with fail
   go_roundw
   case measure=>simp [intOf];omega
   case rel=>exact ⟨k+1,Qvu,by go_num,dG.out,aF.out⟩
  | false=>
   have cX:=Qq (Si (c:=1) cS.out aK.out Qxv aT.out (by rw [HN.out];exact aM) (show cfR s l 1 i=⟨9,[],x,Val.zero⟩ from by rw [cfR_1 aT.out bN.out];exact M2 bS.out bI.out aU.out) Qxv)
   obtain ⟨e0,e1⟩:=bM.out w7 bR.out
   obtain ⟨x0,x1,x2,x3,x4⟩:=bJ.out w7 bR.out
   refine let_mvar% ?Lq2:=fun w':World=>Qxw w' lb (U+i*2) r.table/\Qxw w' lb (U+i*2+1) (Qxa xb A m qc)/\Qyg w' xb (A+k*5) x.kind x.n x.s (.slice N x.names.length J) (.slice O x.kids.length M);?_
   have V:=Qq (fun (w':World) (h:Below w7 w7 w')=>(show ?Lq2 w' from ⟨kC h e0,kC h e1,kC h x0,kC h x1,kC h x2,kC h x3,kC h x4⟩))
   have HP:∀ z0 z1 z2 z3 z4 z5 z6 z7 z8 z9 cI cJ,?Lq2 (Y9 w7 (w+1) z0 z1 z2 z3 z4 z5 z6 z7 z8 z9 cI cJ).drew:=fun z0 z1 z2 z3 z4 z5 z6 z7 z8 z9 cI cJ=>⟨Zo Qvu e0,Zo Qvu e1,Zo Qvu x0,Zo Qvu x1,Zo Qvu x2,Zo Qvu x3,Zo Qvu x4⟩
   unfold Y9 at HP
   have cW:=Qq HP
   clear HP
   have aG:=Qq (V.out w7.drew (Qz _ _).drew)
   have T:=kE aF.out dS dJ.out
   obtain ⟨y0,y1,y2,y3,y4,y5,y6,y7,y8,y9,fB,fC⟩:=row12 T
   obtain ⟨f0,f1,f2,f3,f4,f5,f6,f7,f8,f9,eV,eW⟩:=frz12 T
   have bT:=Qq T
   clear T
   go_upto_region 17 with fail
   clear e0 e1 x0 x1 x2 x3 x4
   go_region_held3 ?Lq2 (first | with_reducible exact aG.out | with_reducible exact aV | with_reducible exact cW.out _ _ _ _ _ _ _ _ _ _ _ _) (fail)
   all_goals
    go_wp2_with fail
    show bodyPost _ _ _ _ _ (Y9 w7 (w+1) (.int .i64 9) r.table x.kind x.n x.s (.slice N x.names.length J) (.slice O x.kids.length M) Qxc Qxc Qxd Qxe Qxe).drew
    have bH:Below w w (Y9 w7 (w+1) (.int .i64 9) r.table x.kind x.n x.s (.slice N x.names.length J) (.slice O x.kids.length M) Qxc Qxc Qxd Qxe Qxe).drew:=(Yv (aR.out.thn aF.out) Qvu).drew
    exact Q7 (v:=.agg #[.int .i64 9,r.table,x.kind,x.n,x.s,.slice N x.names.length J,.slice O x.kids.length M,Qxc,Qxc,Qxd,Qxe,Qxe]) (by simp [results,results77,go_sem,Ya bT.out]) rfl (Ga (c1:=[.int .i64 x.kind,.int .i64 x.n,.string ⟨x.s.toArray⟩,.slice N x.names.length J,.slice O x.kids.length M]) (c2:=[.int .i64 0,.int .i64 0,.string ⟨#[]⟩,.slice none 0 0,.slice none 0 0]) cX.out (Za.move bQ.out (.of_below bH) (fun _ _ h=>h.2)) (Yw _ _) cZ.out bH)
 have dQ:k=m:=Qvu
 have dH:=Qq (Kn (c:=1) aK.out (show (cfR s l 1 i).code=0 from by rw [cfR_1 aT.out bN.out];exact Eb (by rw [HM.out,<- dQ];exact aU.out)))
 have hq:¬ (k:Int)<(m:Int):=Qvu
 go_wp2_with fail
 go_roundw
 case measure=>simp [intOf];omega
 case rel=>exact ⟨i+1,Qvu,by go_num,dH.out,Y.out⟩
end Go.Proofs.YtlanplhphiikjaaGreatDoor

import Derived.Test.YtdpibdpbgokmoaaGreatDoorC50
set_option maxRecDepth 100000
set_option maxHeartbeats 400000000
namespace Go.Proofs.YtdpibdpbgokmoaaGreatDoor
open Go.RowKit Go.Shelf Go.Lib Tryz
theorem Pr (HCk:Kx) (s:Sc) (hS:Oy s) (hne:0<s.tables.length) (S0 S3 S4:Nat→Prop) (cs:List Value) (nv mv:Value) (ns ms:List Int) (w:World) (hs:Xu S0 w cs s) (hn0:Xc S3 w nv ns) (hm0:Xc S4 w mv ms) (hi:Ub ns) (hi2:Ub ms):
  Calls prog 7 #[cs,nv,mv] w (DirtyIs s w):=by
 obtain ⟨fQ,iH,Y⟩:=Qqo hs hm0 hS
 have bB:=Qq (fun (i:Nat) (m:Int) (h1:1≤m) (h2:m≤1000000000) W (hW:Below w w W)=>Yr S4 mv ms i m W (hm0.below hW) hi2 h1 h2)
 obtain ⟨n,hn⟩:=eX (s.tables.length)
 have lG:n≤20:=Qqq hS.few
 have lF:0<n:=Qqj
 have dN:=Qq (fun W (hW:Below w w W)=>(Sr HCk s hS S0 S3 cs nv ns W (hs.below hW) (hn0.below hW) hi).mono (R':=fun e w2=>∃ p cap,e=.returned (.slice p n cap)∧Fi s 5 W w2 (.slice p n cap) n∧Below W W w2) (by
  rintro e w2 ⟨l,p,cap,css,rfl,h1,h2,h3⟩
  have hl:l.length=n:=by rw [h1.len,hn]
  have lH:=hW.size
  rw [hl] at h2 ⊢
  exact ⟨p,cap,rfl,⟨l,css,h1.dy,hl,h2⟩,h3⟩))
 obtain ⟨uv,tv,rfl,hu,ht⟩:=hs
 obtain ⟨up,uc,rfl,_⟩:=hu.len
 obtain ⟨tp,tc,rfl,_⟩:=ht.len
 obtain ⟨np,nc,rfl,_⟩:=hn0.len
 obtain ⟨mp,mc,rfl,_⟩:=hm0.len
 rw [hn] at ht fQ dN ⊢
 obtain ⟨HT,HN,iD⟩:=Qqo ht hn hi2
 obtain ⟨cn,gV,kO⟩:∃ cn:Nat,Yp ms 0 4=(cn:Int)∧cn≤3:=by
  obtain ⟨h1,h2⟩:=Kp ms 0 4 Qqj
  exact ⟨(Yp ms 0 4).toNat,Qqj,Qqj⟩
 have bY:=Qq (fun W (hW:Below w w W)=>bB.out 0 4 Qqj Qqj W hW)
 rw [gV] at bY
 have aL:=Qq (fun W (hW:Below w w W)=>bB.out 21 12 Qqj Qqj W hW)
 obtain ⟨eY,dB⟩:=eX (Yp ms 21 12)
 rw [dB] at aL
 simp only [Int.cast_ofNat_Int] at bY aL
 clear hu ht hn0 hm0 hi hi2 gV dB hne hS hn
 obtain ⟨i0,j1,j2,j3,j4⟩:=Y9 (P:=prog) (t:=36) (z:=.agg zV) (n:=5) (b:=80) Qqy
 obtain ⟨HJ,dF,dG,dH⟩:=Qqp j1 j2 j3 j4
 clear j1 j2 j3 j4
 go_enter func7,ntmps7
 go_upto_region 1 with fail
 generalize eA:w.alloc _=J
 have aB:=eqB eA (Zg _ _)
 have eB:=eqH (b:=w.heap.size) eA (Qw _ _)
 have fD:=Qq aB;have cB:=Qq eB
 obtain ⟨c0,c1⟩:=row2 eB
 clear eA aB eB
 have bJ:=Z8 cB.out
 go_upto_region 2 with (go_at_call 6;refine (dN.out _ fD.out).mono ?_;rintro e w2 ⟨p2,kM,rfl,gW,eC⟩;have iA:=Qq gW;have hY:=Qq (show Below J J w2 from eC);have gQ:=kE eC bJ cB.out;have iR:=rA1 gQ;clear gW eC gQ)
 have jM:((n:Int)==0)=false:=by simp;omega
 clear dN c0 c1
 go_upto_region 5 with fail
 clear iR jM
 go_loopw [7,8,9,10,11,12] (fun t7 t8 _ _ _ _ wr=>∃ (k:Nat) (p:Option Addr) (cap:Nat),k≤cn∧t7=.slice p n cap∧t8=.int .i64 k∧Aside (Fi s (5+k) J wr (.slice p n cap) n∧Below J J wr)) (fun _ t8 _ _ _ _ _=>cn - (intOf t8).toNat)
 case atStart=>exact ⟨0,_,_,Q8 _,rfl,rfl,⟨iA.out,hY.out⟩⟩
 obtain ⟨k,pa,A,lE,rfl,rfl,hA⟩:=hrel
 have fI:=Qq hA.out.1;have fG:=Qq hA.out.2
 have V:=Qq (fD.out.thn hA.out.2)
 clear hA
 by_cases hk:k<cn
 ·have g1:(k:Int)<(cn:Int):=Qqj
  obtain ⟨a,ha⟩:∃ a:Nat,5*(k:Int)=(a:Int):=⟨5*k,Qqj⟩
  have jH:a+2≤1000:=Qqj
  have lJ:IntKind.i64.wrap (a:Int)=(a:Int):=IntWalk.i64_in _ Qqj
  have lK:IntKind.i64.wrap ((a:Int)+1)=(a:Int)+1:=IntWalk.i64_in _ Qqj
  obtain ⟨j,hj,eE⟩:∃ j:Nat,Yp ms (a+1) n=(j:Int)∧j<n:=by
   obtain ⟨h1,h2⟩:=Kp ms (a+1) n Qqj
   exact ⟨(Yp ms (a+1) n).toNat,Qqj,Qqj⟩
  have dJ:=Qq (fun W (hW:Below w w W)=>bB.out (a+1) n Qqj Qqj W hW)
  rw [hj] at dJ
  obtain ⟨z3,aG⟩:=eX (Yp ms (a+3) 6)
  obtain ⟨z4,bR⟩:=eX (Yp ms (a+4) 8)
  have bA:=Qq (fun W (hW:Below w w W)=>bB.out (a+3) 6 Qqj Qqj W hW)
  have bZ:=Qq (fun W (hW:Below w w W)=>bB.out (a+4) 8 Qqj Qqj W hW)
  rw [aG] at bA;rw [bR] at bZ
  simp only [Int.natCast_add,Int.cast_ofNat_Int] at dJ bA bZ
  clear hj aG bR
  obtain ⟨t,ht⟩:∃ t,s.tables[j]?=some t:=⟨_,Qx (by rw [HN.out];exact eE)⟩
  obtain ⟨tb,bS,kT,jT,lI,_,_,dZ,M⟩:=(HT.out.below V.out).elem ht
  subst jT
  obtain ⟨dV,dU,eK,eJ,eT,eS,k9,eU,n9,eV,eO,eL,dR,eP,eM,dS,eQ,eN,dT,a9,z9,bF,_⟩:=Yj dZ
  simp only [tcs] at bF
  subst bF
  have gS:=kE fG.out bJ cB.out
  obtain ⟨c0,c1⟩:=row2 gS
  have d0:=M 0 _ rfl;have d1:=M 1 _ rfl;have d2:=M 2 _ rfl;have d3:=M 3 _ rfl;have d4:=M 4 _ rfl;have d5:=M 5 _ rfl;have d6:=M 6 _ rfl;have d7:=M 7 _ rfl;have d8:=M 8 _ rfl;have d9:=M 9 _ rfl;have dW:=M 10 _ rfl;have dX:=M 11 _ rfl;have dY:=M 12 _ rfl
  rw [show Zn.k=13 from rfl] at d0 d1 d2 d3 d4 d5 d6 d7 d8 d9 dW dX dY
  rw [Nat.add_zero] at d0
  try unfold sv at d0
  obtain ⟨fT,fW,iO⟩:=Qqo dZ (Qy ht) ht
  have lA:(0:Int)≤(j:Int):=Qqj
  have lB:(j:Int)<(n:Int):=Qqj
  clear gS M dZ ht
  go_upto_region 7 with (go_at_call 18;refine (bY.out _ V.out).mono ?_;rintro e w' ⟨rfl,rfl⟩)
  refine let_mvar% ?Lq1:=fun w':World=>Qqa w' w 1 (Qqb tb bS n tc)∧Qzd w' tb (bS+j*13) t.name (.slice dV t.columns.length dU) (.slice eK t.key.length eJ) (.slice eT t.refs.length eS) k9 (.string eU) n9 (.string eV) (.slice eO eL dR) (.slice eP eM dS) (.slice eQ eN dT) a9 z9 (Below wr wr w');?_
  have HS:∀ w',Below wr wr w'→?Lq1 w':=by
   intro w' h
   have hh:∀ {b j:Nat} {u:Value},wr.cell? ⟨b,j,none⟩=some u→w'.cell? ⟨b,j,none⟩=some u:=fun hc=>kC h hc
   exact ⟨hh c1,hh d0,hh d1,hh d2,hh d3,hh d4,hh d5,hh d6,hh d7,hh d8,hh d9,hh dW,hh dX,hh dY,h⟩
  obtain ⟨fO,fS,fH,bC,dE,fR⟩:=U9 HS (fun w' h=>h.2.2.2.2.2.2.2.2.2.2.2.2.2.2)
  have HP:=fun w' x0 x1 x2 x3 x4 x5 x6 x7 x8 x9 kG kH kI h=>fR.out (Vr w' wr x0 x1 x2 x3 x4 x5 x6 x7 x8 x9 kG kH kI) (Vj (bC.out w' h) (Q9 _))
  unfold Vr at HP
  have fM:=Qq HP
  clear HS HP c1 d0 d1 d2 d3 d4 d5 d6 d7 d8 d9 dW dX dY
  go_cut [9] from 21 to 95 (fun t9 wx=>∃ G,t9=.pointer (some ⟨G,0,none⟩)∧wx.heap[G]?=some (.cells (Qqh t dV dU eK eJ eT eS k9 eU n9 eV eO eL dR eP eM dS eQ eN dT a9 z9) 48 (0,0))∧Below wr wr wx∧wr.heap.size≤G)
  case first=>
   clear c0
   go_region_held3 ?Lq1 (first | with_reducible exact fO.out | with_reducible exact hS2 | with_reducible exact fH.out _ (dE.out _ _ fS.out) | with_reducible exact dE.out _ _ hS2 | with_reducible exact fM.out _ _ _ _ _ _ _ _ _ _ _ _ _ _ hS2)
    (first | (go_at_call 18;refine (dJ.out _ (V.out.thn (bC.out _ Qqw))).mono ?_;rintro e w' ⟨rfl,rfl⟩))
   all_goals
    go_wp2_with fail
    go_meet
    exact ⟨_,rfl,Qw _ _,(Qz _ _).drew.thn (Zg _ _),Q9 _⟩
  obtain ⟨G,rfl,hG,aD,kX⟩:=hcut
  obtain ⟨w7,rfl⟩:∃ w7,w7=wc:=⟨_,rfl⟩
  obtain ⟨HG,bV,cA,fU,iB⟩:=Qqr hG (fG.out.thn aD) (V.out.thn aD) (Zn.frame fT.out (.of_below aD)) (fI.out.grow aD)
  have jF:=Z8 hG
  clear aD fT c0
  clear fO fS fH bC dE fM fR
  obtain ⟨g0,g1,g2,g3,g4,g5,g6,g7,g8,g9,jC,jD,jE⟩:=row13 hG
  have gR:=kE bV.out bJ cB.out
  obtain ⟨c0,c1⟩:=row2 gR
  clear hG gR
  obtain ⟨l,css,aE,bI,hO⟩:=iB.out
  obtain ⟨g,kL,hD,jK,jL⟩:=hO.row.form Qqj
  simp only [Qr] at hD
  obtain ⟨rfl,-,rfl⟩:=hD
  have gX:g<w7.heap.size:=jL
  have aV:Sl Yn (fun b=>J≤b) w7 (.slice (some ⟨g,0,none⟩) n A) l:=by
   have:=hO.sl (S':=(fun b=>J≤b)) Qqj (fun _ h=>h) Qzx
   exact this
  obtain ⟨U,dL,HO,O⟩:=Qqp aE aV hO bI
  have cR:=Qq ((rrow_P (fun b=>b≠g) S0 (fun b=>J≤b) _ S4 s [.slice up s.sums.length uc,Qqb tb bS n tc] (.slice (some ⟨g,0,none⟩) n A) l t (Qqh t dV dU eK eJ eT eS k9 eU n9 eV eO eL dR eP eM dS eQ eN dT a9 z9) (.slice mp ms.length mc) ms (a+2) w7 (fQ.out.below cA.out) (own_relP Qqj (fun _ h=>h) hO) fU.out (iH.out.below cA.out) iD.out jH (Y.out.gen t fW.out) Y.out.sums (fun t ht=>(Y.out.ok t ht).key) (fun r hr v hv=>(aE.rows r hr v hv).good)).mono (R':=fun e w2=>∃ v q3 m3 q4 m4 mk,e=.returned (.agg #[v.kind,v.n,v.s,.slice q3 v.names.length m3,.slice q4 mk m4])∧v.kids.length=mk∧mk≤m4∧Vp v∧Z9 (fun b=>J≤b∧b≠g) w2 (vcs v q3 m3 q4 m4) v∧Below w7 w7 w2) (by
   rintro e w2 ⟨v,q3,m3,q4,m4,rfl,x1,x2,x3,x4⟩
   have jV:=bV.out.size
   have kY:=(Y.out.gen t fW.out).few
   exact ⟨v,q3,m3,q4,m4,_,rfl,rfl,x2.2,⟨x1,Qqj⟩,x3.move (.refl _ _) (fun b _ h=>h.elim id (fun h=>⟨Qqj,Qqj⟩)),x4⟩))
  simp only [Int.natCast_add,Int.cast_ofNat_Int] at cR
  clear aE bI hO aV
  go_upto_region 9 with (go_at_call 21;refine cR.out.mono ?_;rintro e T ⟨v,q3,m3,q4,m4,mk,rfl,gY,gZ,hI,hH,gT⟩;obtain ⟨bX,dO,gA,aY⟩:=Qqp gY hI hH gT;clear gY hI hH gT)
  generalize cG:T.alloc _=W9
  have eD:=eqB cG (Zg _ _)
  have kQ:T.heap.size<W9.heap.size:=by rw [← cG];simp
  have aI:=eqH (b:=T.heap.size) cG (Qw _ _)
  have bW:=Qq eD;have gD:=Qq aI
  have gB:=Qq ((gA.out.move (S':=fun b=>(J≤b∧b≠g)∧b<T) (.refl _ _) (fun b hb h=>⟨h,hb⟩)).move (.of_below eD) Qzx)
  obtain ⟨v0,v1,v2,v3,v4⟩:=row5 aI
  obtain ⟨f0,f1,f2,f3,f4⟩:=frz5 aI
  clear cG eD aI gA g0 g1 g2 g3 g4 g5 g6 g7 g8 g9 jC jD jE c0 c1
  have dP:=Qq (cA.out.thn (aY.out.thn bW.out))
  have fF:=Qq (bV.out.thn (aY.out.thn bW.out))
  have kP:g<T.heap.size:=Qa gX aY.out.size
  obtain ⟨bb,aC⟩:∃ bb:Bool,bb=(decide (z3=0)&&decide (0<mk)):=⟨_,rfl⟩
  go_cut [58] from 21 to 95 (fun kA wx=>kA=.bool bb∧wx=W9)
  case first=>
   by_cases aG:z3=0
   ·have jN:(z3==0)=true:=by rw [aG];rfl
    by_cases hmp:0<mk
    ·have hB:(0:Int)<(mk:Int):=Qqj
     have aB:bb=true:=by rw [aC];simp [aG,hmp]
     clear aC
     go_wp2_with (go_at_call 18;refine (bA.out _ dP.out).mono ?_;rintro e w' ⟨rfl,rfl⟩)
     go_meet
     exact ⟨by rw [aB],rfl⟩
    have hB:¬ (0:Int)<(mk:Int):=Qqj
    have aB:bb=false:=by rw [aC];simp [aG,hmp]
    clear aC
    go_wp2_with (go_at_call 18;refine (bA.out _ dP.out).mono ?_;rintro e w' ⟨rfl,rfl⟩)
    go_meet
    exact ⟨by rw [aB],rfl⟩
   have jN:(z3==0)=false:=by simpa using aG
   have aB:bb=false:=by rw [aC];simp [aG]
   clear aC
   go_wp2_with (go_at_call 18;refine (bA.out _ dP.out).mono ?_;rintro e w' ⟨rfl,rfl⟩)
   go_meet
   exact ⟨by rw [aB],rfl⟩
  obtain ⟨rfl,hK⟩:=hcut
  have hL:=hK.symm
  subst hL
  clear hK
  go_upto_if 58 with fail
  go_cut [] from 21 to 95 (fun wx=>∃ u x3 y3 x4 y4,wx.heap[T.heap.size]?=some (.cells (Qqg u x3 y3 x4 y4) 36 (0,0))∧Vp u∧Z9 (fun b=>(J≤b∧b≠g)∧b≠T) wx (vcs u x3 y3 x4 y4) u∧Below T T wx)
  case first=>
   cases bb with
   | false=>
    go_wp2_with fail
    go_meet
    have jU:=gB.out
    have aI:=gD.out
    rw [← bX.out] at aI
    exact ⟨v,q3,m3,q4,m4,aI,dO.out,jU.move (.refl _ _) (fun b hb h=>⟨h.1,Nat.ne_of_lt h.2⟩),bW.out⟩
   | true=>
    obtain ⟨k',rfl⟩:∃ k',mk=k'+1:=⟨mk - 1,by simp at aC;omega⟩
    obtain ⟨lN,lL,lO,lM,bF,hC,eF,hE⟩:=Z9.cells gB.out
    simp only [vcs,List.cons.injEq,Qr,true_and,and_true] at bF
    obtain ⟨⟨rfl,rfl⟩,rfl,rfl⟩:=bF
    rw [bX.out] at eF
    obtain ⟨p5,c5,aF,bO,bH⟩:=Ea (P:=prog) 34 36 underlying34 sizeOf36 eF gZ 1 Qqj
    have eG:∀ W,(Instr.slice 34 (.slice q4 (k'+1) m4) (some (.int .i64 1)) none none).run prog W=.ok (.slice p5 k' c5) W:=aF
    have dK:=Qq (show Sl Ze (fun b=>(J≤b∧b≠g)∧b<T) W9 (.slice p5 k' c5) (v.kids.drop 1) from bO)
    have iJ:=Qq hC;have iN:=Qq hE
    have fK:=Qq (show [(.mk 5 0 [] [] []:Val)].length+(v.kids.drop 1).length=k'+1 by rw [bH];simp;omega)
    have cX:=Qq True.intro
    have kS:T.heap.size≠W9.heap.size:=Qqj
    have lC:k'+1≤900:=Qqz dO.out.few bX.out
    clear aF bO bH hC eF hE aC
    go_wp2_with (first
     | (have hk:=cX.out;clear cX hk;generalize aN:World.alloc W9 _=gE;have aO:=eqB aN (Zg _ _);have dA:gE=W9.heap.size+1:=(by rw [← aN];simp);have cZ:=eqH (b:=W9.heap.size) aN (Qw _ _);have bQ:=kB aO gD.out;have lP:=rA4 bQ;obtain ⟨cO,cU,cT,fL⟩:=Qqp aO dA bQ (Ta (r:=Ze) (S:=fun b=>(J≤b∧b≠g)∧b≠T) (B:=W9.heap.size) (xs:=[(.mk 5 0 [] [] []:Val)]) (n:=1) cZ (Q9 _) (Cs.one (r:=Ze) (x:=(.mk 5 0 [] [] []:Val)) (Y8 (s:=[]) Qqk (Sl.nil _ _ _) (Sl.nil _ _ _))) rfl rfl Qqk);have fP:=Qq ((dK.out.below aO).mono (S':=But (fun b=>(J≤b∧b≠g)∧b≠T) (.slice (some ⟨W9,0,none⟩) 1 1)) (fun b _ h=>⟨⟨h.1,Nat.ne_of_lt h.2⟩,fun e=>(by have e':b=W9.heap.size:=Qb e;have:=h.2;omega)⟩));clear aN aO dA cZ bQ)
     | (at_builtin;refine Xj (r:=Ze) Qqx Xw rfl (.tmp 60) (.tmp 63) _ rfl 36 i0 (.agg zV) 80 underlying34 HJ.out dF.out dG.out dH.out rfl Qqj (fun b=>(J≤b∧b≠g)∧b≠T) W9 gE (.slice (some ⟨W9,0,none⟩) 1 1) [(.mk 5 0 [] [] []:Val)] _ rfl fL.out (.slice p5 k' c5) (v.kids.drop 1) rfl fP.out (k'+1) fK.out Qqj (Qqq cU.out) ?_;intro p6 c6 gH w6 bE aA;have cJ:=(aA.other _ (Z8 cT.out) (fun e=>(by have e':T.heap.size=W9.heap.size:=Qb e;omega))).trans cT.out;have kV:=fA 4 cJ;have lR:=rA4 cJ;obtain ⟨iP,aT,aZ⟩:=Qqo cJ bE aA;clear cJ bE aA))
    go_meet
    have eH:([(.mk 5 0 [] [] []:Val)]++v.kids.drop 1).length=k'+1:=by rw [Ql];exact fK.out
    have jI:Below T T (w6.setCell ⟨T,4,none⟩ (.slice p6 (k'+1) c6)):=(((bW.out.thn cO.out).trans (aZ.out.below.mono Qqj))).setCell (p:=⟨T,4,none⟩) (Q9 _) _
    refine ⟨.mk v.kind v.n v.s v.names ([(.mk 5 0 [] [] []:Val)]++v.kids.drop 1),q3,m3,p6,c6,?_,dO.out.dirty (by rw [bX.out];omega),?_,jI⟩
    ·show (w6.setCell ⟨T,4,none⟩ (.slice p6 (k'+1) c6)).heap[T.heap.size]?=some (.cells #[v.kind,v.n,v.s,.slice q3 v.names.length m3,.slice p6 ([(.mk 5 0 [] [] []:Val)]++v.kids.drop 1).length c6] 36 (0,0))
     rw [eH,Qi _ _ _ _ _ _ iP.out];rfl
    show Z9 _ _ [v.kind,v.n,v.s,.slice q3 v.names.length m3,.slice p6 ([(.mk 5 0 [] [] []:Val)]++v.kids.drop 1).length c6] _
    rw [eH]
    refine Y8 iN.out ?_ ?_
    ·exact (iJ.out.frame (fun b hb _=>by
      rw [Za (Nat.ne_of_lt hb.2),(aZ.out.other b (by have:=cU.out;have:=hb.2;omega) (fun e=>by have e':b=W9.heap.size:=Qb e;have:=hb.2;omega)),cO.out.block b (by have:=hb.2;omega)])).mono (fun b _ h=>⟨h.1,Nat.ne_of_lt h.2⟩)
    have h6:=aT.out.sl' (S':=fun b=>(J≤b∧b≠g)∧b≠T) (by rw [eH];omega) (fun b hb=>by have:=(aT.out.row.lt b hb).1;have:=fF.out.size;exact ⟨⟨Qqj,Qqj⟩,Qqj⟩) Qzx
    exact h6.frame (fun b hb _=>Za hb.2)
  obtain ⟨u,x3,y3,x4,y4,cK,hF,hJ,aD⟩:=hcut
  obtain ⟨D,rfl⟩:∃ D,D=wc:=⟨_,rfl⟩
  have I:=aY.out.thn aD
  obtain ⟨hZ,aK,cS⟩:=Qqo I (bV.out.thn I) (cA.out.thn I)
  have cW:=HO.out.below I
  have aQ:g<D.heap.size:=Qqq I.size
  have gL:T.heap.size<D.heap.size:=Z8 cK
  have kZ:T.heap.size≠g:=Qqq aY.out.size
  have bN:=tabs_at U.out.tabs Y.out.once iO.out
  have bG:V5 (fun r=>decide (r.table=t.name)) l=(j:Int):=by
   rcases K9 l t.name with ⟨h,_⟩ | ⟨i',r',h,h2,_⟩
   ·rw [bN] at h;cases h
   rw [bN] at h;cases h;exact h2
  obtain ⟨r,hr⟩:∃ r,l[j]?=some r:=⟨_,Qx (by rw [O.out];exact eE)⟩
  have aH:=dL.out.below I
  have HF:=Qq (Dt (fun b=>J≤b) (.slice (some ⟨g,0,none⟩) n A) l t.name D aH.rel)
  rw [bG] at HF
  unfold sv at HF
  obtain ⟨iQ,fZ,gC,HR,Z,dM,kK⟩:=Qqt cK hF hJ hr cW aH bG
  have cV:=kE I jF HG.out
  have n0:=rA0 cV
  obtain ⟨h0,h1,h2,h3,h4⟩:=row5 cK
  clear cK hF hJ hr cW aH bG bN cV I aD
  by_cases bR:z4=0
  ·have jO:(z4==0)=true:=by rw [bR];rfl
   obtain ⟨c,hc⟩:∃ c,css[j]?=some c:=⟨_,Qx (by rw [Z.out.cs.len,O.out];exact eE)⟩
   obtain ⟨rv,rfl,jS,cI,aP⟩:=Z.out.cs.R j c r hc HR.out
   have aS:=Z.out.row
   rw [O.out] at aS
   have l1:=aS.cellAt (j*2+1) (by show _<n*2;omega)
   rw [show css.flatten[j*2+1]?=some rv from V6 (k:=2) Z.out.cs.all hc (j:=1) rfl] at l1
   have gK:=aS.frozenAt (j*2+1)
   obtain ⟨q,qc,rfl,_⟩:=cI.len
   obtain ⟨mr,bK⟩:=eX (r.rows.length)
   have kR:mr≤5+k:=by rw [← bK];exact U.out.few r (Qy HR.out)
   rw [bK] at cI l1
   have iG:=Qq bK
   have iM:=Qq (cI.mono (S':=But (fun b=>But (fun b=>J≤b) (.slice (some ⟨g,0,none⟩) n A) b∧b<D) (.slice none 0 0)) (fun b hb h=>⟨⟨h,hb⟩,fun e=>by cases e⟩))
   have iI:=Qq (show ([]:List Val).length+r.rows.length=mr by rw [bK];simp)
   have fX:=Qq (gC.out.move (S':=(fun b=>But (fun b=>J≤b) (.slice (some ⟨g,0,none⟩) n A) b∧b<D)) (.refl _ _) (fun b hb h=>⟨⟨h.1.1,fun e=>h.1.2 (Qb e)⟩,hb⟩))
   have iF:=Qq l1;have iC:=Qq gK
   clear hc cI aP jS bK gK aS
   go_upto_region 15 with (first
     | (go_at_call 22;refine HF.out.mono ?_;rintro e w' ⟨rfl,rfl⟩)
     | (go_at_call 18;refine (bZ.out _ cS.out).mono ?_;rintro e w' ⟨rfl,rfl⟩)
     | (at_builtin;refine Xj (r:=Ze) Qqx Xw rfl (.tmp 76) (.tmp 81) _ rfl 36 i0 (.agg zV) 80 underlying34 HJ.out dF.out dG.out dH.out rfl Qqj (fun b=>But (fun b=>J≤b) (.slice (some ⟨g,0,none⟩) n A) b∧b<D) D D (.slice none 0 0) [] [] rfl (Own.nil _ _ _ _ _) (.slice q mr qc) r.rows rfl iM.out mr iI.out Qqj Qqj ?_;intro p5 c5 gG w5 gN gM;have dI:=Qq gN;have N:=Qq gM;clear gN gM))
   have hM:=(N.out.other _ gL (fun e=>by cases e)).trans iQ.out
   clear h0 h1 h2 h3 h4 l1
   obtain ⟨h0,h1,h2,h3,h4⟩:=row5 hM
   have jQ:(Value.slice p5 mr c5).ownBlock=none∨∃ b,(Value.slice p5 mr c5).ownBlock=some b∧D.heap.size≤b:=by
    cases e:(Value.slice p5 mr c5).ownBlock with
    | none=>exact .inl rfl
    | some b=>exact .inr ⟨b,rfl,(dI.out.row.lt b e).1⟩
   have bL:∀ b,b<D.heap.size→some b≠(Value.slice p5 mr c5).ownBlock:=fun b hb e=>by have:=(dI.out.row.lt b e.symm).1;omega
   have cQ:=Qq bL
   have fY:=Qq (show Z9 (But (fun b=>But (fun b=>J≤b) (.slice (some ⟨g,0,none⟩) n A) b∧b<D) (.slice p5 mr c5)) w5 (vcs u x3 y3 x4 y4) u from (fX.out.move (S':=(fun b=>But (fun b=>J≤b) (.slice (some ⟨g,0,none⟩) n A) b∧b<D)) (fun b hb _=>N.out.other b hb.2 (fun e=>by cases e)) Qzx).move (.refl _ _) (fun b _ h=>⟨h,bL b h.2⟩))
   have fJ:=Qq (show ([]++r.rows).length=mr by rw [List.nil_append,iG.out])
   unfold vcs at fY
   clear hM jQ bL
   go_wp2_with (at_builtin;refine Yl (r:=Ze) Qqx rfl (.tmp 85) (.tmp 87) _ rfl 36 i0 (.agg zV) 80 underlying34 HJ.out dF.out dG.out dH.out rfl Qqj (fun b=>But (fun b=>J≤b) (.slice (some ⟨g,0,none⟩) n A) b∧b<D) D w5 (.slice p5 mr c5) ([]++r.rows) gG (Qqg u x3 y3 x4 y4) u rfl dI.out rfl fY.out (by simp [Value.oneCell']) mr fJ.out Qqj (N.out.size) ?_;intro p6 c6 gH w6 bE aA;have l6:=(World.cell?_of_block (aA.other g (Qqq N.out.size) (cQ.out g aQ))).trans ((World.cell?_of_block (N.out.other g aQ (fun e=>by cases e))).trans iF.out);have kW:=(World.frozen?_of_block (a:=⟨g,j*2+1,none⟩) (aA.other g (Qqq N.out.size) (cQ.out g aQ))).trans ((World.frozen?_of_block (a:=⟨g,j*2+1,none⟩) (N.out.other g aQ (fun e=>by cases e))).trans iC.out);have aT:=Qq bE;have aZ:=Qq aA;clear bE aA)
   have cH:([]++r.rows++[u]).length=mr+1:=by rw [Ql,fJ.out];rfl
   have gO:=Z.out.below (N.out.below.trans aZ.out.below)
   have jR:Sl Ze (But (fun b=>J≤b) (.slice (some ⟨g,0,none⟩) n A)) w6 (.slice p6 (mr+1) c6) ([]++r.rows++[u]):=aT.out.sl' (by rw [cH];omega) (fun b hb=>by
    have:=(aT.out.row.lt b hb).1;have:=aK.out.size
    exact ⟨by show J≤b;omega,fun e=>by have e':b=g:=Qb e;omega⟩) (fun b _ h=>h.1)
   obtain ⟨gF,jG⟩:=Of (zs:=[]++r.rows++[u]) O.out gO HR.out (rv':=.slice p6 (mr+1) c6) jR ⟨p6,c6,by rw [cH],by rw [cH];exact aT.out.cap.2⟩
   have jJ:Jn s (5+(k+1)) (l.set j ⟨r.table,[]++r.rows++[u]⟩):=(U.out.mono Qqj).set HR.out _ (fun v hv=>by
    rcases Z4.1 hv with hv | hv
    ·exact U.out.rows r (Qy HR.out) v (by simpa using hv)
    obtain rfl:=Z5.1 hv
    exact fZ.out) (by rw [cH];omega)
   exact ⟨⟨k+1,_,_,Qqj,rfl,by go_num,⟨_,gF,jJ,by rw [List.length_set,O.out],jG⟩,(aK.out.thn (N.out.below.trans aZ.out.below)).setCell (p:=⟨g,j*2+1,none⟩) jK _⟩,by simp [intOf];omega⟩
  have jO:(z4==0)=false:=by simpa using bR
  have cP:=Qq ((B3 (fun b=>J≤b) (.slice (some ⟨g,0,none⟩) n A) l t.name u (Qqg u x3 y3 x4 y4) D dM.out (gC.out.move (.refl _ _) (fun b _ h=>h.1.1)) (by rw [O.out];omega) (fun r hr=>by have:=U.out.few r hr;omega)).mono (R':=fun e w2=>∃ p cap css,e=.returned (.slice p n cap)∧Own Yn 70 (fun b=>J≤b) J w2 (.slice p n cap) (Dj l t.name u) css∧Below D D w2) (by
   rintro e w2 ⟨p,cap,css,rfl,x1,x2⟩
   have jV:=aK.out.size
   rw [Dx,O.out] at x1 ⊢
   exact ⟨p,cap,css,rfl,x1.weak Qqj (fun b _ h=>h.elim id (fun h=>by show J≤b;omega)),x2⟩))
  unfold sv at cP
  go_wp2_with (first
    | (go_at_call 22;refine HF.out.mono ?_;rintro e w' ⟨rfl,rfl⟩)
    | (go_at_call 18;refine (bZ.out _ cS.out).mono ?_;rintro e w' ⟨rfl,rfl⟩)
    | (go_at_call 20;refine cP.out.mono ?_;rintro e lQ ⟨p9,kN,gI,rfl,gP,cY⟩;have iK:=Qq gP;have fE:=Qq cY;clear gP cY))
  go_roundw
  case measure=>simp [intOf];omega
  case rel=>exact ⟨k+1,_,_,Qqj,rfl,by go_num,⟨_,gI,(U.out.ins t.name u fZ.out),by rw [Dx,O.out],iK.out⟩,aK.out.thn fE.out⟩
 have lD:k=cn:=Qqj
 have hq:¬ (k:Int)<(cn:Int):=Qqj
 obtain ⟨l,css,aE,bI,hO⟩:=fI.out
 have aP:=hO.cap
 have aV:Sl Yn (fun b=>w≤b) wr (.slice pa n A) l:=by
  have:=hO.sl (S':=fun b=>w≤b) Qqj (fun b h=>by show w≤b;omega) (fun b _ h=>by show w≤b;have h':J.heap.size≤b:=h;omega)
  exact this
 obtain ⟨p5,c5,aF,bO,bH⟩:=Ea (P:=prog) 28 70 underlying28 sizeOf70 aV aP.2 1 Qqj
 have eG:∀ W,(Instr.slice 28 (.slice pa n A) (some (.int .i64 1)) none none).run prog W=.ok (.slice p5 (n - 1) c5) W:=aF
 obtain ⟨dK,N,dL,O,kU⟩:=Qqr bO bH aV bI HN.out
 have U:=Qq (show ∀ r ∈ l,(∀ v ∈ r.rows,Vp v)∧r.rows.length≤8 from fun r hr=>⟨aE.rows r hr,by have:=aE.few r hr;omega⟩)
 have fV:=Qq aE.tabs
 clear aP aV bO bH aE hO aF bI
 go_upto_region 17 with (go_at_call 18;refine (bY.out _ V.out).mono ?_;rintro e w' ⟨rfl,rfl⟩)
 by_cases hz:eY=0
 ·have jP:(eY==0)=true:=by rw [hz];rfl
  go_wp2_with (go_at_call 18;refine (aL.out _ V.out).mono ?_;rintro e w' ⟨rfl,rfl⟩)
  go_ret
  exact ⟨l.drop 1,p5,c5,by rw [N.out];rfl,fun r hr=>U.out r (Zw hr),by rw [N.out,HN.out];omega,⟨1,by rw [List.map_drop,fV.out]⟩,by rw [N.out];exact dK.out,V.out⟩
 have jP:(eY==0)=false:=by simpa using hz
 go_wp2_with (go_at_call 18;refine (aL.out _ V.out).mono ?_;rintro e w' ⟨rfl,rfl⟩)
 go_ret
 exact ⟨l,pa,A,by rw [O.out];rfl,U.out,by rw [O.out,HN.out];exact Q9 _,⟨0,by rw [fV.out];rfl⟩,by rw [O.out];exact dL.out,V.out⟩
end Go.Proofs.YtdpibdpbgokmoaaGreatDoor

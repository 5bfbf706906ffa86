import Derived.Test.YtcljcblceodciaaGreatDoorU46
set_option maxRecDepth 100000
set_option maxHeartbeats 400000000
namespace Go.Proofs.YtcljcblceodciaaGreatDoor
open Go.RowKit Go.Shelf Go.Lib Tryz
theorem P9 (HCk:Du) (s:Sc) (hS:St s) (hne:0<s.tables.length) (S0 S3 S4:Nat->Prop) (cs:List Value) (nv mv:Value) (ns ms:List Int) (w:World) (hs:Xt S0 w cs s) (hn0:Xd S3 w nv ns) (hm0:Xd S4 w mv ms) (hi:Uh ns) (hi2:Uh ms):
  Calls prog 8 #[cs,nv,mv] w (DirtyIs s w):=by
 obtain ⟨fR,iI,Y⟩:=Qjq hs hm0 hS
 have bB:=Qq (fun (i:Nat) (m:Int) (h1:1<=m) (h2:m<=1000000000) W (hW:Below w w W)=>Yn S4 mv ms i m W (hm0.below hW) hi2 h1 h2)
 obtain ⟨n,hn⟩:=eX (s.tables.length)
 have lH:n<=20:=C8 hS.few
 have lG:0<n:=C7
 have dN:=Qq (fun W (hW:Below w w W)=>(R5 HCk s hS S0 S3 cs nv ns W (hs.below hW) (hn0.below hW) hi).mono (R':=fun e w2=>∃ p cap,e=.returned (.slice p n cap)/\Fp s 5 W w2 (.slice p n cap) n/\Below W W w2) (by
  rintro e w2 ⟨l,p,cap,css,rfl,h1,h2,h3⟩
  have hl:l.length=n:=by rw [h1.len,hn]
  have lI:=hW.size
  rw [hl] at h2 |-
  exact ⟨p,cap,rfl,⟨l,css,h1.dy,hl,h2⟩,h3⟩))
 obtain ⟨uv,tv,rfl,hu,ht⟩:=hs
 obtain ⟨up,uc,rfl,_⟩:=hu.len
 obtain ⟨tp,tc,rfl,_⟩:=ht.len
 obtain ⟨np,nc,rfl,_⟩:=hn0.len
 obtain ⟨mp,mc,rfl,_⟩:=hm0.len
 rw [hn] at ht fR dN |-
 obtain ⟨HT,HN,iE⟩:=Qjq ht hn hi2
 obtain ⟨cn,gW,kP⟩:∃ cn:Nat,Yl ms 0 4=(cn:Int)/\cn<=3:=by
  obtain ⟨h1,h2⟩:=Ju ms 0 4 C7
  exact ⟨(Yl ms 0 4).toNat,C7,C7⟩
 have bY:=Qq (fun W (hW:Below w w W)=>bB.out 0 4 C7 C7 W hW)
 rw [gW] at bY
 have aL:=Qq (fun W (hW:Below w w W)=>bB.out 21 12 C7 C7 W hW)
 obtain ⟨eY,dB⟩:=eX (Yl ms 21 12)
 rw [dB] at aL
 simp only [Int.cast_ofNat_Int] at bY aL
 clear hu ht hn0 hm0 hi hi2 gW dB hne hS hn
 obtain ⟨i0,j1,j2,j3,j4⟩:=Y7 (P:=prog) (t:=36) (z:=.agg zV) (n:=5) (b:=80) Cd
 obtain ⟨HJ,dF,dG,dH⟩:=Qjz j1 j2 j3 j4
 clear j1 j2 j3 j4
 go_enter func8,ntmps8
 go_upto_region 1 with fail
 generalize eA:w.alloc _=J
 have aB:=eqB eA (Zg _ _)
 have eB:=eqH (b:=w.heap.size) eA (Qw _ _)
 have fE:=Qq aB;have cB:=Qq eB
 obtain ⟨c0,c1⟩:=row2 eB
 clear eA aB eB
 have bJ:=Z8 cB.out
 go_upto_region 2 with (go_at_call 7;refine (dN.out _ fE.out).mono ?_;rintro e w2 ⟨p2,kN,rfl,gX,eC⟩;have iB:=Qq gX;have hZ:=Qq (show Below J J w2 from eC);have gR:=kE eC bJ cB.out;have iS:=rA1 gR;clear gX eC gR)
 have jN:((n:Int)==0)=false:=by simp;omega
 clear dN c0 c1
 go_upto_region 5 with fail
 clear iS jN
 go_loopw [7,8,9,10,11,12] (fun t7 t8 _ _ _ _ wr=>∃ (k:Nat) (p:Option Addr) (cap:Nat),k<=cn/\t7=.slice p n cap/\t8=.int .i64 k/\Aside (Fp s (5+k) J wr (.slice p n cap) n/\Below J J wr)) (fun _ t8 _ _ _ _ _=>cn - (intOf t8).toNat)
 case atStart=>exact ⟨0,_,_,Q8 _,rfl,rfl,⟨iB.out,hZ.out⟩⟩
 obtain ⟨k,pa,A,lF,rfl,rfl,hA⟩:=hrel
 have fJ:=Qq hA.out.1;have fH:=Qq hA.out.2
 have V:=Qq (fE.out.thn hA.out.2)
 clear hA
 by_cases hk:k<cn
 ·have g1:(k:Int)<(cn:Int):=C7
  obtain ⟨a,ha⟩:∃ a:Nat,5*(k:Int)=(a:Int):=⟨5*k,C7⟩
  have jI:a+2<=1000:=C7
  have lK:IntKind.i64.wrap (a:Int)=(a:Int):=IntWalk.i64_in _ C7
  have lL:IntKind.i64.wrap ((a:Int)+1)=(a:Int)+1:=IntWalk.i64_in _ C7
  obtain ⟨j,hj,eE⟩:∃ j:Nat,Yl ms (a+1) n=(j:Int)/\j<n:=by
   obtain ⟨h1,h2⟩:=Ju ms (a+1) n C7
   exact ⟨(Yl ms (a+1) n).toNat,C7,C7⟩
  have dJ:=Qq (fun W (hW:Below w w W)=>bB.out (a+1) n C7 C7 W hW)
  rw [hj] at dJ
  obtain ⟨z3,aG⟩:=eX (Yl ms (a+3) 6)
  obtain ⟨z4,bR⟩:=eX (Yl ms (a+4) 8)
  have bA:=Qq (fun W (hW:Below w w W)=>bB.out (a+3) 6 C7 C7 W hW)
  have bZ:=Qq (fun W (hW:Below w w W)=>bB.out (a+4) 8 C7 C7 W hW)
  rw [aG] at bA;rw [bR] at bZ
  simp only [Int.natCast_add,Int.cast_ofNat_Int] at dJ bA bZ
  clear hj aG bR
  obtain ⟨t,ht⟩:∃ t,s.tables[j]?=some t:=⟨_,Qx (by rw [HN.out];exact eE)⟩
  obtain ⟨tb,bS,kU,jU,lJ,_,_,dZ,M⟩:=(HT.out.below V.out).elem ht
  subst jU
  obtain ⟨dV,dU,eK,eJ,eT,eS,k9,eU,n9,eV,eO,eL,dR,eP,eM,dS,eQ,eN,dT,a9,z9,bF,_⟩:=Zt dZ
  simp only [tcs] at bF
  subst bF
  have gT:=kE fH.out bJ cB.out
  obtain ⟨c0,c1⟩:=row2 gT
  have d0:=M 0 _ rfl;have d1:=M 1 _ rfl;have d2:=M 2 _ rfl;have d3:=M 3 _ rfl;have d4:=M 4 _ rfl;have d5:=M 5 _ rfl;have d6:=M 6 _ rfl;have d7:=M 7 _ rfl;have d8:=M 8 _ rfl;have d9:=M 9 _ rfl;have dW:=M 10 _ rfl;have dX:=M 11 _ rfl;have dY:=M 12 _ rfl
  rw [show Zm.k=13 from rfl] at d0 d1 d2 d3 d4 d5 d6 d7 d8 d9 dW dX dY
  rw [Nat.add_zero] at d0
  try unfold sv at d0
  obtain ⟨fU,fX,iP⟩:=Qjq dZ (Qy ht) ht
  have lB:(0:Int)<=(j:Int):=C7
  have lC:(j:Int)<(n:Int):=C7
  clear gT M dZ ht
  go_upto_region 7 with (go_at_call 27;refine (bY.out _ V.out).mono ?_;rintro e w' ⟨rfl,rfl⟩)
  refine let_mvar% ?Lq1:=fun w':World=>Cf w' w 1 (Cg tb bS n tc)/\Qjm w' tb (bS+j*13) t.name (.slice dV t.columns.length dU) (.slice eK t.key.length eJ) (.slice eT t.refs.length eS) k9 (.string eU) n9 (.string eV) (.slice eO eL dR) (.slice eP eM dS) (.slice eQ eN dT) a9 z9 (Below wr wr w');?_
  have HS:∀ w',Below wr wr w'->?Lq1 w':=by
   intro w' h
   have hh:∀ {b j:Nat} {u:Value},wr.cell? ⟨b,j,none⟩=some u->w'.cell? ⟨b,j,none⟩=some u:=fun hc=>kC h hc
   exact ⟨hh c1,hh d0,hh d1,hh d2,hh d3,hh d4,hh d5,hh d6,hh d7,hh d8,hh d9,hh dW,hh dX,hh dY,h⟩
  obtain ⟨fP,fT,fI,bC,dE,fS⟩:=U1 HS (fun w' h=>h.2.2.2.2.2.2.2.2.2.2.2.2.2.2)
  have HP:=fun w' x0 x1 x2 x3 x4 x5 x6 x7 x8 x9 kH kI kJ h=>fS.out (Xi w' wr x0 x1 x2 x3 x4 x5 x6 x7 x8 x9 kH kI kJ) (Xz (bC.out w' h) (Q9 _))
  unfold Xi at HP
  have fN:=Qq HP
  clear HS HP c1 d0 d1 d2 d3 d4 d5 d6 d7 d8 d9 dW dX dY
  go_cut [9] from 21 to 95 (fun t9 wx=>∃ G,t9=.pointer (some ⟨G,0,none⟩)/\wx.heap[G]?=some (.cells (Co t dV dU eK eJ eT eS k9 eU n9 eV eO eL dR eP eM dS eQ eN dT a9 z9) 48 (0,0))/\Below wr wr wx/\wr.heap.size<=G)
  case first=>
   clear c0
   go_region_held3 ?Lq1 (first | with_reducible exact fP.out | with_reducible exact hS2 | with_reducible exact fI.out _ (dE.out _ _ fT.out) | with_reducible exact dE.out _ _ hS2 | with_reducible exact fN.out _ _ _ _ _ _ _ _ _ _ _ _ _ _ hS2)
    (first | (go_at_call 27;refine (dJ.out _ (V.out.thn (bC.out _ Ce))).mono ?_;rintro e w' ⟨rfl,rfl⟩))
   all_goals
    go_wp2_with fail
    go_meet
    exact ⟨_,rfl,Qw _ _,(Qz _ _).drew.thn (Zg _ _),Q9 _⟩
  obtain ⟨G,rfl,hG,aD,kY⟩:=hcut
  obtain ⟨w7,rfl⟩:∃ w7,w7=wc:=⟨_,rfl⟩
  obtain ⟨HG,bV,cA,fV,iC⟩:=Qjk hG (fH.out.thn aD) (V.out.thn aD) (Zm.frame fU.out (.of_below aD)) (fJ.out.grow aD)
  have jG:=Z8 hG
  clear aD fU c0
  clear fP fT fI bC dE fN fS
  obtain ⟨g0,g1,g2,g3,g4,g5,g6,g7,g8,g9,jD,jE,jF⟩:=row13 hG
  have gS:=kE bV.out bJ cB.out
  obtain ⟨c0,c1⟩:=row2 gS
  clear hG gS
  obtain ⟨l,css,aE,bI,hO⟩:=iC.out
  obtain ⟨g,kM,hE,jL,jM⟩:=hO.row.form C7
  simp only [Qr] at hE
  obtain ⟨rfl,-,rfl⟩:=hE
  have gY:g<w7.heap.size:=jM
  have aV:Sl Ym (fun b=>J<=b) w7 (.slice (some ⟨g,0,none⟩) n A) l:=by
   have:=hO.sl (S':=(fun b=>J<=b)) C7 (fun _ h=>h) Qje
   exact this
  obtain ⟨U,dL,HO,O⟩:=Qjz aE aV hO bI
  have cR:=Qq ((rrow_P (fun b=>b≠g) S0 (fun b=>J<=b) _ S4 s [.slice up s.sums.length uc,Cg tb bS n tc] (.slice (some ⟨g,0,none⟩) n A) l t (Co t dV dU eK eJ eT eS k9 eU n9 eV eO eL dR eP eM dS eQ eN dT a9 z9) (.slice mp ms.length mc) ms (a+2) w7 (fR.out.below cA.out) (own_relP C7 (fun _ h=>h) hO) fV.out (iI.out.below cA.out) iE.out jI (Y.out.gen t fX.out) Y.out.sums (fun t ht=>(Y.out.ok t ht).key) (fun r hr v hv=>(aE.rows r hr v hv).good)).mono (R':=fun e w2=>∃ v q3 m3 q4 m4 mk,e=.returned (.agg #[v.kind,v.n,v.s,.slice q3 v.names.length m3,.slice q4 mk m4])/\v.kids.length=mk/\mk<=m4/\Vr v/\Z9 (fun b=>J<=b/\b≠g) w2 (vcs v q3 m3 q4 m4) v/\Below w7 w7 w2) (by
   rintro e w2 ⟨v,q3,m3,q4,m4,rfl,x1,x2,x3,x4⟩
   have jW:=bV.out.size
   have kZ:=(Y.out.gen t fX.out).few
   exact ⟨v,q3,m3,q4,m4,_,rfl,rfl,x2.2,⟨x1,C7⟩,x3.move (.refl _ _) (fun b _ h=>h.elim id (fun h=>⟨C7,C7⟩)),x4⟩))
  simp only [Int.natCast_add,Int.cast_ofNat_Int] at cR
  clear aE bI hO aV
  go_upto_region 9 with (go_at_call 30;refine cR.out.mono ?_;rintro e T ⟨v,q3,m3,q4,m4,mk,rfl,gZ,hB,hJ,hI,gU⟩;obtain ⟨bX,dO,gB,aY⟩:=Qjz gZ hJ hI gU;clear gZ hJ hI gU)
  generalize cG:T.alloc _=W9
  have eD:=eqB cG (Zg _ _)
  have kR:T.heap.size<W9.heap.size:=by rw [<- cG];simp
  have aI:=eqH (b:=T.heap.size) cG (Qw _ _)
  have bW:=Qq eD;have gE:=Qq aI
  have gC:=Qq ((gB.out.move (S':=fun b=>(J<=b/\b≠g)/\b<T) (.refl _ _) (fun b hb h=>⟨h,hb⟩)).move (.of_below eD) Qje)
  obtain ⟨v0,v1,v2,v3,v4⟩:=row5 aI
  obtain ⟨f0,f1,f2,f3,f4⟩:=frz5 aI
  clear cG eD aI gB g0 g1 g2 g3 g4 g5 g6 g7 g8 g9 jD jE jF c0 c1
  have dP:=Qq (cA.out.thn (aY.out.thn bW.out))
  have fG:=Qq (bV.out.thn (aY.out.thn bW.out))
  have kQ:g<T.heap.size:=Qa gY aY.out.size
  obtain ⟨bb,aC⟩:∃ bb:Bool,bb=(decide (z3=0)&&decide (0<mk)):=⟨_,rfl⟩
  go_cut [58] from 21 to 95 (fun kD wx=>kD=.bool bb/\wx=W9)
  case first=>
   by_cases aG:z3=0
   ·have jO:(z3==0)=true:=by rw [aG];rfl
    by_cases hmp:0<mk
    ·have hC:(0:Int)<(mk:Int):=C7
     have aB:bb=true:=by rw [aC];simp [aG,hmp]
     clear aC
     go_wp2_with (go_at_call 27;refine (bA.out _ dP.out).mono ?_;rintro e w' ⟨rfl,rfl⟩)
     go_meet
     exact ⟨by rw [aB],rfl⟩
    have hC:¬ (0:Int)<(mk:Int):=C7
    have aB:bb=false:=by rw [aC];simp [aG,hmp]
    clear aC
    go_wp2_with (go_at_call 27;refine (bA.out _ dP.out).mono ?_;rintro e w' ⟨rfl,rfl⟩)
    go_meet
    exact ⟨by rw [aB],rfl⟩
   have jO:(z3==0)=false:=by simpa using aG
   have aB:bb=false:=by rw [aC];simp [aG]
   clear aC
   go_wp2_with (go_at_call 27;refine (bA.out _ dP.out).mono ?_;rintro e w' ⟨rfl,rfl⟩)
   go_meet
   exact ⟨by rw [aB],rfl⟩
  obtain ⟨rfl,hL⟩:=hcut
  have hM:=hL.symm
  subst hM
  clear hL
  go_upto_if 58 with fail
  go_cut [] from 21 to 95 (fun wx=>∃ u x3 y3 x4 y4,wx.heap[T.heap.size]?=some (.cells (Cn u x3 y3 x4 y4) 36 (0,0))/\Vr u/\Z9 (fun b=>(J<=b/\b≠g)/\b≠T) wx (vcs u x3 y3 x4 y4) u/\Below T T wx)
  case first=>
   cases bb with
   | false=>
    go_wp2_with fail
    go_meet
    have jV:=gC.out
    have aI:=gE.out
    rw [<- bX.out] at aI
    exact ⟨v,q3,m3,q4,m4,aI,dO.out,jV.move (.refl _ _) (fun b hb h=>⟨h.1,Nat.ne_of_lt h.2⟩),bW.out⟩
   | true=>
    obtain ⟨k',rfl⟩:∃ k',mk=k'+1:=⟨mk - 1,by simp at aC;omega⟩
    obtain ⟨lO,lM,lP,lN,bF,hD,eF,hF⟩:=Z9.cells gC.out
    simp only [vcs,List.cons.injEq,Qr,true_and,and_true] at bF
    obtain ⟨⟨rfl,rfl⟩,rfl,rfl⟩:=bF
    rw [bX.out] at eF
    obtain ⟨p5,c5,aF,bO,bH⟩:=Bt (P:=prog) 34 36 underlying34 sizeOf36 eF hB 1 C7
    have eG:∀ W,(Instr.slice 34 (.slice q4 (k'+1) m4) (some (.int .i64 1)) none none).run prog W=.ok (.slice p5 k' c5) W:=aF
    have dK:=Qq (show Sl Zd (fun b=>(J<=b/\b≠g)/\b<T) W9 (.slice p5 k' c5) (v.kids.drop 1) from bO)
    have iK:=Qq hD;have iO:=Qq hF
    have fL:=Qq (show [(.mk 5 0 [] [] []:Val)].length+(v.kids.drop 1).length=k'+1 by rw [bH];simp;omega)
    have cX:=Qq True.intro
    have kT:T.heap.size≠W9.heap.size:=C7
    have lD:k'+1<=900:=C9 dO.out.few bX.out
    clear aF bO bH hD eF hF aC
    go_wp2_with (first
     | (have hk:=cX.out;clear cX hk;generalize aN:World.alloc W9 _=gF;have aO:=eqB aN (Zg _ _);have dA:gF=W9.heap.size+1:=(by rw [<- aN];simp);have cZ:=eqH (b:=W9.heap.size) aN (Qw _ _);have bQ:=kB aO gE.out;have lQ:=rA4 bQ;obtain ⟨cO,cU,cT,fM⟩:=Qjz aO dA bQ (Sz (r:=Zd) (S:=fun b=>(J<=b/\b≠g)/\b≠T) (B:=W9.heap.size) (xs:=[(.mk 5 0 [] [] []:Val)]) (n:=1) cZ (Q9 _) (Cs.one (r:=Zd) (x:=(.mk 5 0 [] [] []:Val)) (Y5 (s:=[]) Ca (Sl.nil _ _ _) (Sl.nil _ _ _))) rfl rfl Ca);have fQ:=Qq ((dK.out.below aO).mono (S':=But (fun b=>(J<=b/\b≠g)/\b≠T) (.slice (some ⟨W9,0,none⟩) 1 1)) (fun b _ h=>⟨⟨h.1,Nat.ne_of_lt h.2⟩,fun e=>(by have e':b=W9.heap.size:=Qb e;have:=h.2;omega)⟩));clear aN aO dA cZ bQ)
     | (at_builtin;refine Yr (r:=Zd) Cc Xx rfl (.tmp 60) (.tmp 63) _ rfl 36 i0 (.agg zV) 80 underlying34 HJ.out dF.out dG.out dH.out rfl C7 (fun b=>(J<=b/\b≠g)/\b≠T) W9 gF (.slice (some ⟨W9,0,none⟩) 1 1) [(.mk 5 0 [] [] []:Val)] _ rfl fM.out (.slice p5 k' c5) (v.kids.drop 1) rfl fQ.out (k'+1) fL.out C7 (C8 cU.out) ?_;intro p6 c6 gI w6 bE aA;have cJ:=(aA.other _ (Z8 cT.out) (fun e=>(by have e':T.heap.size=W9.heap.size:=Qb e;omega))).trans cT.out;have kW:=fA 4 cJ;have lS:=rA4 cJ;obtain ⟨iQ,aT,aZ⟩:=Qjq cJ bE aA;clear cJ bE aA))
    go_meet
    have eH:([(.mk 5 0 [] [] []:Val)]++v.kids.drop 1).length=k'+1:=by rw [Ql];exact fL.out
    have jJ:Below T T (w6.setCell ⟨T,4,none⟩ (.slice p6 (k'+1) c6)):=(((bW.out.thn cO.out).trans (aZ.out.below.mono C7))).setCell (p:=⟨T,4,none⟩) (Q9 _) _
    refine ⟨.mk v.kind v.n v.s v.names ([(.mk 5 0 [] [] []:Val)]++v.kids.drop 1),q3,m3,p6,c6,?_,dO.out.dirty (by rw [bX.out];omega),?_,jJ⟩
    ·show (w6.setCell ⟨T,4,none⟩ (.slice p6 (k'+1) c6)).heap[T.heap.size]?=some (.cells #[v.kind,v.n,v.s,.slice q3 v.names.length m3,.slice p6 ([(.mk 5 0 [] [] []:Val)]++v.kids.drop 1).length c6] 36 (0,0))
     rw [eH,Qi _ _ _ _ _ _ iQ.out];rfl
    show Z9 _ _ [v.kind,v.n,v.s,.slice q3 v.names.length m3,.slice p6 ([(.mk 5 0 [] [] []:Val)]++v.kids.drop 1).length c6] _
    rw [eH]
    refine Y5 iO.out ?_ ?_
    ·exact (iK.out.frame (fun b hb _=>by
      rw [Za (Nat.ne_of_lt hb.2),(aZ.out.other b (by have:=cU.out;have:=hb.2;omega) (fun e=>by have e':b=W9.heap.size:=Qb e;have:=hb.2;omega)),cO.out.block b (by have:=hb.2;omega)])).mono (fun b _ h=>⟨h.1,Nat.ne_of_lt h.2⟩)
    have h6:=aT.out.sl' (S':=fun b=>(J<=b/\b≠g)/\b≠T) (by rw [eH];omega) (fun b hb=>by have:=(aT.out.row.lt b hb).1;have:=fG.out.size;exact ⟨⟨C7,C7⟩,C7⟩) Qje
    exact h6.frame (fun b hb _=>Za hb.2)
  obtain ⟨u,x3,y3,x4,y4,cK,hH,hK,aD⟩:=hcut
  obtain ⟨D,rfl⟩:∃ D,D=wc:=⟨_,rfl⟩
  have I:=aY.out.thn aD
  obtain ⟨iA,aK,cS⟩:=Qjq I (bV.out.thn I) (cA.out.thn I)
  have cW:=HO.out.below I
  have aQ:g<D.heap.size:=C8 I.size
  have gM:T.heap.size<D.heap.size:=Z8 cK
  have lA:T.heap.size≠g:=C8 aY.out.size
  have bN:=tabs_at U.out.tabs Y.out.once iP.out
  have bG:Vx (fun r=>decide (r.table=t.name)) l=(j:Int):=by
   rcases Jz l t.name with ⟨h,_⟩ | ⟨i',r',h,h2,_⟩
   ·rw [bN] at h;cases h
   rw [bN] at h;cases h;exact h2
  obtain ⟨r,hr⟩:∃ r,l[j]?=some r:=⟨_,Qx (by rw [O.out];exact eE)⟩
  have aH:=dL.out.below I
  have HF:=Qq (Dk (fun b=>J<=b) (.slice (some ⟨g,0,none⟩) n A) l t.name D aH.rel)
  rw [bG] at HF
  unfold sv at HF
  obtain ⟨iR,gA,gD,HR,Z,dM,kL⟩:=Qjx cK hH hK hr cW aH bG
  have cV:=kE I jG HG.out
  have n0:=rA0 cV
  obtain ⟨h0,h1,h2,h3,h4⟩:=row5 cK
  clear cK hH hK hr cW aH bG bN cV I aD
  by_cases bR:z4=0
  ·have jP:(z4==0)=true:=by rw [bR];rfl
   obtain ⟨c,hc⟩:∃ c,css[j]?=some c:=⟨_,Qx (by rw [Z.out.cs.len,O.out];exact eE)⟩
   obtain ⟨rv,rfl,jT,cI,aP⟩:=Z.out.cs.R j c r hc HR.out
   have aS:=Z.out.row
   rw [O.out] at aS
   have l1:=aS.cellAt (j*2+1) (by show _<n*2;omega)
   rw [show css.flatten[j*2+1]?=some rv from Vv (k:=2) Z.out.cs.all hc (j:=1) rfl] at l1
   have gL:=aS.frozenAt (j*2+1)
   obtain ⟨q,qc,rfl,_⟩:=cI.len
   obtain ⟨mr,bK⟩:=eX (r.rows.length)
   have kS:mr<=5+k:=by rw [<- bK];exact U.out.few r (Qy HR.out)
   rw [bK] at cI l1
   have iH:=Qq bK
   have iN:=Qq (cI.mono (S':=But (fun b=>But (fun b=>J<=b) (.slice (some ⟨g,0,none⟩) n A) b/\b<D) (.slice none 0 0)) (fun b hb h=>⟨⟨h,hb⟩,fun e=>by cases e⟩))
   have iJ:=Qq (show ([]:List Val).length+r.rows.length=mr by rw [bK];simp)
   have fY:=Qq (gD.out.move (S':=(fun b=>But (fun b=>J<=b) (.slice (some ⟨g,0,none⟩) n A) b/\b<D)) (.refl _ _) (fun b hb h=>⟨⟨h.1.1,fun e=>h.1.2 (Qb e)⟩,hb⟩))
   have iG:=Qq l1;have iD:=Qq gL
   clear hc cI aP jT bK gL aS
   go_upto_region 15 with (first
     | (go_at_call 31;refine HF.out.mono ?_;rintro e w' ⟨rfl,rfl⟩)
     | (go_at_call 27;refine (bZ.out _ cS.out).mono ?_;rintro e w' ⟨rfl,rfl⟩)
     | (at_builtin;refine Yr (r:=Zd) Cc Xx rfl (.tmp 76) (.tmp 81) _ rfl 36 i0 (.agg zV) 80 underlying34 HJ.out dF.out dG.out dH.out rfl C7 (fun b=>But (fun b=>J<=b) (.slice (some ⟨g,0,none⟩) n A) b/\b<D) D D (.slice none 0 0) [] [] rfl (Own.nil _ _ _ _ _) (.slice q mr qc) r.rows rfl iN.out mr iJ.out C7 C7 ?_;intro p5 c5 gH w5 gO gN;have dI:=Qq gO;have N:=Qq gN;clear gO gN))
   have hN:=(N.out.other _ gM (fun e=>by cases e)).trans iR.out
   clear h0 h1 h2 h3 h4 l1
   obtain ⟨h0,h1,h2,h3,h4⟩:=row5 hN
   have jR:(Value.slice p5 mr c5).ownBlock=none\/∃ b,(Value.slice p5 mr c5).ownBlock=some b/\D.heap.size<=b:=by
    cases e:(Value.slice p5 mr c5).ownBlock with
    | none=>exact .inl rfl
    | some b=>exact .inr ⟨b,rfl,(dI.out.row.lt b e).1⟩
   have bL:∀ b,b<D.heap.size->some b≠(Value.slice p5 mr c5).ownBlock:=fun b hb e=>by have:=(dI.out.row.lt b e.symm).1;omega
   have cQ:=Qq bL
   have fZ:=Qq (show Z9 (But (fun b=>But (fun b=>J<=b) (.slice (some ⟨g,0,none⟩) n A) b/\b<D) (.slice p5 mr c5)) w5 (vcs u x3 y3 x4 y4) u from (fY.out.move (S':=(fun b=>But (fun b=>J<=b) (.slice (some ⟨g,0,none⟩) n A) b/\b<D)) (fun b hb _=>N.out.other b hb.2 (fun e=>by cases e)) Qje).move (.refl _ _) (fun b _ h=>⟨h,bL b h.2⟩))
   have fK:=Qq (show ([]++r.rows).length=mr by rw [List.nil_append,iH.out])
   unfold vcs at fZ
   clear hN jR bL
   go_wp2_with (at_builtin;refine Yg (r:=Zd) Cc rfl (.tmp 85) (.tmp 87) _ rfl 36 i0 (.agg zV) 80 underlying34 HJ.out dF.out dG.out dH.out rfl C7 (fun b=>But (fun b=>J<=b) (.slice (some ⟨g,0,none⟩) n A) b/\b<D) D w5 (.slice p5 mr c5) ([]++r.rows) gH (Cn u x3 y3 x4 y4) u rfl dI.out rfl fZ.out (by simp [Value.oneCell']) mr fK.out C7 (N.out.size) ?_;intro p6 c6 gI w6 bE aA;have l6:=(World.cell?_of_block (aA.other g (C8 N.out.size) (cQ.out g aQ))).trans ((World.cell?_of_block (N.out.other g aQ (fun e=>by cases e))).trans iG.out);have kX:=(World.frozen?_of_block (a:=⟨g,j*2+1,none⟩) (aA.other g (C8 N.out.size) (cQ.out g aQ))).trans ((World.frozen?_of_block (a:=⟨g,j*2+1,none⟩) (N.out.other g aQ (fun e=>by cases e))).trans iD.out);have aT:=Qq bE;have aZ:=Qq aA;clear bE aA)
   have cH:([]++r.rows++[u]).length=mr+1:=by rw [Ql,fK.out];rfl
   have gP:=Z.out.below (N.out.below.trans aZ.out.below)
   have jS:Sl Zd (But (fun b=>J<=b) (.slice (some ⟨g,0,none⟩) n A)) w6 (.slice p6 (mr+1) c6) ([]++r.rows++[u]):=aT.out.sl' (by rw [cH];omega) (fun b hb=>by
    have:=(aT.out.row.lt b hb).1;have:=aK.out.size
    exact ⟨by show J<=b;omega,fun e=>by have e':b=g:=Qb e;omega⟩) (fun b _ h=>h.1)
   obtain ⟨gG,jH⟩:=Mu (zs:=[]++r.rows++[u]) O.out gP HR.out (rv':=.slice p6 (mr+1) c6) jS ⟨p6,c6,by rw [cH],by rw [cH];exact aT.out.cap.2⟩
   have jK:J8 s (5+(k+1)) (l.set j ⟨r.table,[]++r.rows++[u]⟩):=(U.out.mono C7).set HR.out _ (fun v hv=>by
    rcases Z4.1 hv with hv | hv
    ·exact U.out.rows r (Qy HR.out) v (by simpa using hv)
    obtain rfl:=Z5.1 hv
    exact gA.out) (by rw [cH];omega)
   exact ⟨⟨k+1,_,_,C7,rfl,by go_num,⟨_,gG,jK,by rw [List.length_set,O.out],jH⟩,(aK.out.thn (N.out.below.trans aZ.out.below)).setCell (p:=⟨g,j*2+1,none⟩) jL _⟩,by simp [intOf];omega⟩
  have jP:(z4==0)=false:=by simpa using bR
  have cP:=Qq ((Gm (fun b=>J<=b) (.slice (some ⟨g,0,none⟩) n A) l t.name u (Cn u x3 y3 x4 y4) D dM.out (gD.out.move (.refl _ _) (fun b _ h=>h.1.1)) (by rw [O.out];omega) (fun r hr=>by have:=U.out.few r hr;omega)).mono (R':=fun e w2=>∃ p cap css,e=.returned (.slice p n cap)/\Own Ym 80 (fun b=>J<=b) J w2 (.slice p n cap) (Kl l t.name u) css/\Below D D w2) (by
   rintro e w2 ⟨p,cap,css,rfl,x1,x2⟩
   have jW:=aK.out.size
   rw [Kt,O.out] at x1 |-
   exact ⟨p,cap,css,rfl,x1.weak C7 (fun b _ h=>h.elim id (fun h=>by show J<=b;omega)),x2⟩))
  unfold sv at cP
  go_wp2_with (first
    | (go_at_call 31;refine HF.out.mono ?_;rintro e w' ⟨rfl,rfl⟩)
    | (go_at_call 27;refine (bZ.out _ cS.out).mono ?_;rintro e w' ⟨rfl,rfl⟩)
    | (go_at_call 29;refine cP.out.mono ?_;rintro e lR ⟨p9,kO,gJ,rfl,gQ,cY⟩;have iL:=Qq gQ;have fF:=Qq cY;clear gQ cY))
  go_roundw
  case measure=>simp [intOf];omega
  case rel=>exact ⟨k+1,_,_,C7,rfl,by go_num,⟨_,gJ,(U.out.ins t.name u gA.out),by rw [Kt,O.out],iL.out⟩,aK.out.thn fF.out⟩
 have lE:k=cn:=C7
 have hq:¬ (k:Int)<(cn:Int):=C7
 obtain ⟨l,css,aE,bI,hO⟩:=fJ.out
 have aP:=hO.cap
 have aV:Sl Ym (fun b=>w<=b) wr (.slice pa n A) l:=by
  have:=hO.sl (S':=fun b=>w<=b) C7 (fun b h=>by show w<=b;omega) (fun b _ h=>by show w<=b;have h':J.heap.size<=b:=h;omega)
  exact this
 obtain ⟨p5,c5,aF,bO,bH⟩:=Bt (P:=prog) 28 80 underlying28 sizeOf80 aV aP.2 1 C7
 have eG:∀ W,(Instr.slice 28 (.slice pa n A) (some (.int .i64 1)) none none).run prog W=.ok (.slice p5 (n - 1) c5) W:=aF
 obtain ⟨dK,N,dL,O,kV⟩:=Qjk bO bH aV bI HN.out
 have U:=Qq (show ∀ r ∈ l,(∀ v ∈ r.rows,Vr v)/\r.rows.length<=8 from fun r hr=>⟨aE.rows r hr,by have:=aE.few r hr;omega⟩)
 have fW:=Qq aE.tabs
 clear aP aV bO bH aE hO aF bI
 go_upto_region 17 with (go_at_call 27;refine (bY.out _ V.out).mono ?_;rintro e w' ⟨rfl,rfl⟩)
 by_cases hz:eY=0
 ·have jQ:(eY==0)=true:=by rw [hz];rfl
  go_wp2_with (go_at_call 27;refine (aL.out _ V.out).mono ?_;rintro e w' ⟨rfl,rfl⟩)
  go_ret
  exact ⟨l.drop 1,p5,c5,by rw [N.out];rfl,fun r hr=>U.out r (Zw hr),by rw [N.out,HN.out];omega,⟨1,by rw [List.map_drop,fW.out]⟩,by rw [N.out];exact dK.out,V.out⟩
 have jQ:(eY==0)=false:=by simpa using hz
 go_wp2_with (go_at_call 27;refine (aL.out _ V.out).mono ?_;rintro e w' ⟨rfl,rfl⟩)
 go_ret
 exact ⟨l,pa,A,by rw [O.out];rfl,U.out,by rw [O.out,HN.out];exact Q9 _,⟨0,by rw [fW.out];rfl⟩,by rw [O.out];exact dL.out,V.out⟩
theorem Ss (a b c d e f g h i j k l:Value) (w:World):(Instr.field 38 (.agg #[a,b,c,d,e,f,g,h,i,j,k,l]) 0).run prog w=.ok a w:=by
 simp [Instr.field,go_sem,part,asAgg]
theorem pair_bd {a b:Int} (h:(-1000<=a/\a<=1000)/\-1000<=b/\b<=1000):∀ p ∈ [((1:Int),(3:Int)),(a,b)],(-1000<=p.1/\p.1<=1000)/\-1000<=p.2/\p.2<=1000:=by
 intro p hp
 simp at hp
 rcases hp with rfl | rfl
 ·decide
 exact h
def LvSt (w:World) (l:List (Int × Int)) (e:Ending) (w':World):Prop:=∃ p cap,e=.returned (.slice p 2 cap)/\Sl Y6 (fun _=>True) w' (.slice p 2 cap) (Law.st l)/\Below w w w'
def CodeIs (w:World) (q:Int) (e:Ending) (w':World):Prop:=∃ a1 a2 a3 a4 a5 a6 a7 a8 a9 a10 a11:Value,e=.returned (.agg #[q,a1,a2,a3,a4,a5,a6,a7,a8,a9,a10,a11])/\Below w w w'
theorem Gh (S0 S1:Nat->Prop) (cs:List Value) (lv:Value) (l:List (Int × Int)) (q:Int) (w:World) (hs:Xt S0 w cs Law.sc) (hl:Sl Y6 S1 w lv (Law.st l)) (hkw:Xh w) (hll:l.length<=1000) (hb:∀ p ∈ l,(-1000<=p.1/\p.1<=1000)/\-1000<=p.2/\p.2<=1000)
  (hi:Ku (l.map fun p=>Law.rT p.1 p.2)=true) (hq:∀ f,Um Law.sc.tables.length (Law.cf l) (fun i=>((Law.sc.tables[i]?).getD Tbl.zero).name) f->f.code=q):
  Calls prog 10 #[cs,lv] w (CodeIs w q):=by
 refine (T3 S0 S1 Law.sc cs lv (Law.st l) _ _ _ w hs hl hkw Cc (Law.st_ok l hll hb)).mono ?_
 rintro e w' ⟨f,h1,_,D,rfl,hf,A⟩
 obtain ⟨p3,k3,p4,k4,q3,l3,q4,l4,rfl,_⟩:=Ud hf
 have:=hq f (h1 (Law.st_norm l hi))
 refine ⟨.string ⟨f.table.toArray⟩,.int .i64 f.row.kind,.int .i64 f.row.n,.string ⟨f.row.s.toArray⟩,.slice p3 f.row.names.length k3,.slice p4 f.row.kids.length k4,.int .i64 f.other.kind,.int .i64 f.other.n,.string ⟨f.other.s.toArray⟩,.slice q3 f.other.names.length l3,.slice q4 f.other.kids.length l4,?_,A⟩
 rw [<- this]
 rfl
theorem Ap (w:World) (hkw:Xh w):Calls prog 12 #[] w fun e w'=>e=.returned (.bool true)/\Below w w w':=by
 have mixed:(prog).follows .mixedOrders=true:=Cd
 go_enter func12,ntmps12
 go_upto_region 6 with fail
 obtain ⟨W6,G⟩:=eX ((World.alloc (World.alloc (World.alloc (World.alloc (World.alloc (World.alloc (World.alloc (World.alloc (World.alloc (World.alloc (World.alloc (World.alloc w (.cells zY 57)) (.cells #[.string ⟨#[107]⟩,Ci,Cl,Ci,Cm,Cm] 76)) (.cells #[.string ⟨#[107]⟩] 9)) (.cells #[.string ⟨#[117]⟩,Cg (w+1) 0 1 1,Cg (w+1+1) 0 1 1,Cm,.int .i64 2,Cl,.int .i64 1,Cl,Cm,Cm,Cm,Ci,Ci] 48)) (.cells #[.int .i64 3,.string ⟨#[97]⟩,Ci,Cl,Cm,Cm,Cm,Ci,Ci,.int .i64 3,.string ⟨#[98]⟩,Ci,Cl,Cm,Cm,Cm,Ci,Ci] 46)) (.cells #[.int .i64 14,.string ⟨#[60]⟩,Ci,Cl,Cm,Cm,Cg (w+1+1+1+1) 0 2 2,Ci,Ci] 46)) (.cells #[.string ⟨#[97]⟩,Ci,Cl,Ci,Cm,Cm,.string ⟨#[98]⟩,Ci,Cl,Ci,Cm,Cm] 76)) (.cells #[.string ⟨#[97]⟩] 9)) (.cells #[.string ⟨#[98]⟩,.string ⟨#[117]⟩] 61)) (.cells #[.string ⟨#[116]⟩,Cg (w+1+1+1+1+1+1) 0 2 2,Cg (w+1+1+1+1+1+1+1) 0 1 1,Cg (w+1+1+1+1+1+1+1+1) 0 1 1,.int .i64 14,.string ⟨#[60]⟩,Ci,Cl,Cm,Cm,Cg (w+1+1+1+1) 0 2 2,Ci,Ci] 48)) (.cells #[.string ⟨#[116]⟩,Cg (w+1+1+1+1+1+1) 0 2 2,Cg (w+1+1+1+1+1+1+1) 0 1 1,Cg (w+1+1+1+1+1+1+1+1) 0 1 1,.int .i64 14,.string ⟨#[60]⟩,Ci,Cl,Cm,Cm,Cg (w+1+1+1+1) 0 2 2,Ci,Ci,.string ⟨#[117]⟩,Cg (w+1) 0 1 1,Cg (w+1+1) 0 1 1,Cm,.int .i64 2,Cl,.int .i64 1,Cl,Cm,Cm,Cm,Ci,Ci] 48)) (.cells #[Cm,Cg (w+1+1+1+1+1+1+1+1+1+1) 0 2 2] 26)))
 have k1:=eqH (b:=w.heap.size+1) G (Zb (Zb (Zb (Zb (Zb (Zb (Zb (Zb (Zb (Zb (Y3 Ca _) _) _) _) _) _) _) _) _) _) _)
 have k2:=eqH (b:=w.heap.size+1+1) G (Zb (Zb (Zb (Zb (Zb (Zb (Zb (Zb (Zb (Y3 Ca _) _) _) _) _) _) _) _) _) _)
 have k4:=eqH (b:=w.heap.size+1+1+1+1) G (Zb (Zb (Zb (Zb (Zb (Zb (Zb (Y3 Ca _) _) _) _) _) _) _) _)
 have k6:=eqH (b:=w.heap.size+1+1+1+1+1+1) G (Zb (Zb (Zb (Zb (Zb (Y3 Ca _) _) _) _) _) _)
 have k7:=eqH (b:=w.heap.size+1+1+1+1+1+1+1) G (Zb (Zb (Zb (Zb (Y3 Ca _) _) _) _) _)
 have k8:=eqH (b:=w.heap.size+1+1+1+1+1+1+1+1) G (Zb (Zb (Zb (Y3 Ca _) _) _) _)
 have bD:=eqH (b:=w.heap.size+1+1+1+1+1+1+1+1+1+1) G (Zb (Y3 Ca _) _)
 have bE:=eqH (b:=w.heap.size+1+1+1+1+1+1+1+1+1+1+1) G (Y3 Ca _)
 have aZ:=eqB G (Yj (Yj (Yj (Yj (Yj (Yj (Yj (Yj (Yj (Yj (Yj (Zg w _) _) _) _) _) _) _) _) _) _) _) _)
 rw [G]
 have bC:Xt (fun b=>b<W6) W6 [Cm,Cg (w+1+1+1+1+1+1+1+1+1+1) 0 2 2] Law.sc:=by
  refine ⟨_,_,rfl,Sl.nil _ _ _,?_⟩
  refine Y2 (xs:=Law.sc.tables) bD (Z8 bD) ((Cs.one (r:=Zm) (c:=[.string ⟨#[116]⟩,.slice (some ⟨w+1+1+1+1+1+1,0,none⟩) 2 2,.slice (some ⟨w+1+1+1+1+1+1+1,0,none⟩) 1 1,.slice (some ⟨w+1+1+1+1+1+1+1+1,0,none⟩) 1 1,.int .i64 14,.string ⟨#[60]⟩,.int .i64 0,.string ⟨#[]⟩,.slice none 0 0,.slice none 0 0,.slice (some ⟨w+1+1+1+1,0,none⟩) 2 2,.int .i64 0,.int .i64 0]) (x:=Law.tT) ⟨_,_,_,_,rfl,by simp [Law.tT],?_,?_,?_,?_⟩).app (Cs.one (r:=Zm) (c:=[.string ⟨#[117]⟩,.slice (some ⟨w+1,0,none⟩) 1 1,.slice (some ⟨w+1+1,0,none⟩) 1 1,.slice none 0 0,.int .i64 2,.string ⟨#[]⟩,.int .i64 1,.string ⟨#[]⟩,.slice none 0 0,.slice none 0 0,.slice none 0 0,.int .i64 0,.int .i64 0]) (x:=Law.uT) ⟨_,_,_,_,rfl,by simp [Law.uT],?_,?_,Sl.nil _ _ _,Lm _ _ none none none 0 0 0⟩)) rfl rfl (by simp [Law.sc])
  ·exact Y2 (xs:=Law.tT.columns) k6 (Z8 k6) ((Cs.one (r:=X6) (Vn [97] 0 [] Ca Ca)).app (Cs.one (r:=X6) (Vn [98] 0 [] Ca Ca))) rfl rfl (by simp [Law.tT])
  ·exact Y2 (xs:=Law.tT.key) k7 (Z8 k7) (Ky [97] Ca) rfl rfl (by simp [Law.tT])
  ·exact Y2 (xs:=Law.tT.refs) k8 (Z8 k8) (Cs.one (r:=Kz) (x:=⟨[98],[117]⟩) (c:=[.string ⟨#[98]⟩,.string ⟨#[117]⟩]) ⟨rfl,Ca,Ca⟩) rfl rfl (by simp [Law.tT])
  ·refine Xj (nm:=[60]) (s:=[]) Ca Ca (Sl.nil _ _ _) (Sl.nil _ _ _) ?_
   exact Y2 (xs:=[Gen.a,Gen.b]) k4 (Z8 k4) ((Cs.one (r:=Xp) (x:=Gen.var [97]) (show Yx _ W6 [.int .i64 3,.string ⟨#[97]⟩,Ci,Cl,Cm,Cm,Cm,Ci,Ci] (Gen.var [97]) from Xj (nm:=[97]) (s:=[]) Ca Ca (Sl.nil _ _ _) (Sl.nil _ _ _) (Sl.nil _ _ _))).app (Cs.one (r:=Xp) (x:=Gen.var [98]) (show Yx _ W6 [.int .i64 3,.string ⟨#[98]⟩,Ci,Cl,Cm,Cm,Cm,Ci,Ci] (Gen.var [98]) from Xj (nm:=[98]) (s:=[]) Ca Ca (Sl.nil _ _ _) (Sl.nil _ _ _) (Sl.nil _ _ _)))) rfl rfl Ca
  ·exact Y2 (xs:=Law.uT.columns) k1 (Z8 k1) (Cs.one (r:=X6) (Vn [107] 0 [] Ca Ca)) rfl rfl (by simp [Law.uT])
  exact Y2 (xs:=Law.uT.key) k2 (Z8 k2) (Ky [107] Ca) rfl rfl (by simp [Law.uT])
 obtain ⟨c0,c1⟩:=row2 bE
 obtain ⟨cH,dL,aW,bZ⟩:=Qjz bC aZ bE (hkw.below aZ)
 have bX:Hid (Calls prog 52 #[.agg #[Cm,Cg (w+1+1+1+1+1+1+1+1+1+1) 0 2 2]] W6 (Mx W6 [⟨[116],[]⟩,⟨[117],[]⟩])):=Qq ((Ac _ Law.sc _ W6 bC Cc Cc).mono (fun e w' ⟨p,cap,he,hst,hb⟩=>⟨p,cap,he,hst.sl Cc Cc (fun _=>True) (fun _ _=>trivial) (fun _ _ _=>trivial),hb⟩))
 clear bC aZ G hkw k1 k2 k4 k6 k7 k8 bD bE
 go_wp2_with fail
 refine bX.out.mono ?_
 rintro e w7 ⟨p7,cK,rfl,aO,cQ⟩
 have cI:=Qq aO;have dM:=Qq cQ
 clear aO cQ bX
 go_wp2_with fail
 obtain ⟨W8,aE⟩:=eX ((w7.alloc (.cells #[.string ⟨#[107]⟩] 9)).alloc (.cells #[Ci,.int .i64 3,Cl,Cm,Cm] 36))
 rw [aE]
 have bA:=eqB aE (Zu _ _ _)
 have cY:Z9 (fun _=>True) W8 [.int .i64 4,Ci,Cl,Cg w7 0 1 1,Cg (w7+1) 0 1 1] (Law.rU 3):=by
  refine Y5 (s:=[]) Ca ?_ ?_
  ·exact Y2 (xs:=[[107]]) (show W8.heap[w7.heap.size]?=some _ by rw [<- aE];exact Q5 _ _ _) trivial (Ky [107] Ca) rfl rfl Ca
  exact Y2 (xs:=[Yf 3]) (show W8.heap[w7.heap.size+1]?=some _ by rw [<- aE];exact Q6 _ _ _) trivial (Cs.one (r:=Zd) (Ge _ W8 3)) rfl rfl Ca
 have dN:=Qq (dM.out.thn bA)
 have bY:Hid (Calls prog 25 #[.slice p7 2 cK,.string ⟨#[117]⟩,.agg #[.int .i64 4,Ci,Cl,Cg w7 0 1 1,Cg (w7+1) 0 1 1]] W8 (Mx W8 [⟨[116],[]⟩,⟨[117],[Law.rU 3]⟩])):=
  Qq (Dh _ _ _ [⟨[116],[]⟩,⟨[117],[]⟩] [117] (Law.rU 3) _ W8 1 ⟨[117],[]⟩ (cI.out.below bA) cY Cc rfl Ca Ca Ca)
 clear bA cY aE
 refine bY.out.mono ?_
 rintro e w9 ⟨p9,cL,rfl,aP,cR⟩
 have cJ:=Qq aP;have N:=Qq (dN.out.thn cR)
 have cF:Hid (Calls prog 53 #[.string ⟨#[97]⟩,.int .i64 1,.string ⟨#[98]⟩,.int .i64 3] w9 (Eo w9 (Law.rT 1 3))):=Qq (Fh [97] [98] 1 3 w9 Ca Ca)
 clear aP cR bY
 go_wp2_with fail
 refine cF.out.mono ?_
 rintro e bF ⟨cx,rfl,aI,aF⟩
 obtain ⟨x3,m3,x4,m4,U,_⟩:=Z9.cells aI
 simp only [vcs] at U
 subst U
 have bO:=Qq (N.out.thn aF)
 have aL:Hid (Calls prog 25 #[.slice p9 2 cL,.string ⟨#[116]⟩,.agg #[.int .i64 4,Ci,Cl,.slice x3 2 m3,.slice x4 2 m4]] bF (LvSt bF [(1,3)])):=
  Qq (Dh _ _ _ [⟨[116],[]⟩,⟨[117],[Law.rU 3]⟩] [116] (Law.rT 1 3) _ bF 0 ⟨[116],[]⟩ (cJ.out.below aF) aI Cc rfl Ca Ca Ca)
 clear aI aF cF
 go_wp2_with fail
 refine aL.out.mono ?_
 rintro e bG ⟨dB,aB,rfl,aD,J⟩
 have aA:=Qq aD;have bP:=Qq (bO.out.thn J)
 clear aD J aL
 have cC:Hid (Calls prog 53 #[.string ⟨#[97]⟩,.int .i64 1,.string ⟨#[98]⟩,.int .i64 4] bG (Eo bG (Law.rT 1 4))):=Qq (Fh [97] [98] 1 4 bG Ca Ca)
 go_wp2_with fail
 refine cC.out.mono ?_
 rintro e bH ⟨cx,rfl,hx,I⟩
 obtain ⟨y0,m0,z0,n0,U,_⟩:=Z9.cells hx
 obtain rfl:cx=[.int .i64 4,.int .i64 0,.string ⟨#[]⟩,.slice y0 2 m0,.slice z0 2 n0]:=U
 obtain ⟨dS,bQ,cG⟩:=Qjq hx (bP.out.thn I) I
 clear hx I cC
 have cD:Hid (Calls prog 53 #[.string ⟨#[97]⟩,.int .i64 2,.string ⟨#[98]⟩,.int .i64 4] bH (Eo bH (Law.rT 2 4))):=Qq (Fh [97] [98] 2 4 bH Ca Ca)
 go_wp2_with fail
 refine cD.out.mono ?_
 rintro e bI ⟨cx,rfl,hx,I⟩
 obtain ⟨y1,m1,z1,n1,U,_⟩:=Z9.cells hx
 obtain rfl:cx=[.int .i64 4,.int .i64 0,.string ⟨#[]⟩,.slice y1 2 m1,.slice z1 2 n1]:=U
 obtain ⟨dT,bR,aM⟩:=Qjq hx (bQ.out.thn I) I
 clear hx I cD
 have cE:Hid (Calls prog 53 #[.string ⟨#[97]⟩,.int .i64 5,.string ⟨#[98]⟩,.int .i64 3] bI (Eo bI (Law.rT 5 3))):=Qq (Fh [97] [98] 5 3 bI Ca Ca)
 go_wp2_with fail
 refine cE.out.mono ?_
 rintro e V ⟨cx,rfl,hx,I⟩
 obtain ⟨y2,m2,z2,n2,U,_⟩:=Z9.cells hx
 obtain rfl:cx=[.int .i64 4,.int .i64 0,.string ⟨#[]⟩,.slice y2 2 m2,.slice z2 2 n2]:=U
 obtain ⟨dU,bS,Z⟩:=Qjq hx (bR.out.thn I) I
 clear hx I cE
 go_upto_region 10 with fail
 obtain ⟨aJ,T⟩:=eX ((V.alloc (.cells #[.int .i64 4,Ci,Cl,.slice y0 2 m0,.slice z0 2 n0,.int .i64 4,Ci,Cl,.slice y1 2 m1,.slice z1 2 n1,.int .i64 4,Ci,Cl,.slice y2 2 m2,.slice z2 2 n2] 36)).alloc (.cells #[.int .i64 11,.int .i64 12,.int .i64 13] 32))
 have M:=eqB T (Zu _ _ _)
 have aR:=eqH (b:=V.heap.size) T (Q5 _ _ _)
 have aS:=eqH (b:=V.heap.size+1) T (Q6 _ _ _)
 have D:=Qq (bS.out.thn M)
 have d0:=kD D.out (Z8 aW.out) c0
 have d1:=kD D.out (Z8 aW.out) c1
 have J:=((cG.out.thn aM.out).thn Z.out).thn M
 have bW:=Qq (Gh _ _ [Cm,Cg (w+1+1+1+1+1+1+1+1+1+1) 0 2 2] (.slice dB 2 aB) [(1,3)] 0 aJ (cH.out.below D.out) (aA.out.below J) (bZ.out.below D.out) Cc Cc (Law.inc1 1 3) (fun f h=>Law.code0 h))
 obtain ⟨cA,cB,aU⟩:=Qjq aR aS J
 obtain ⟨dV,dW,dX⟩:=Qjq (Z9.move (S':=fun _=>True) dS.out (.of_below ((aM.out.thn Z.out).thn M)) (fun _ _ _=>trivial)) (Z9.move (S':=fun _=>True) dT.out (.of_below (Z.out.thn M)) (fun _ _ _=>trivial)) (Z9.move (S':=fun _=>True) dU.out (.of_below M) (fun _ _ _=>trivial))
 rw [T]
 clear M aR aS J T c0 c1
 go_wp2_with fail
 refine bW.out.mono ?_
 rintro e eL ⟨a1,a2,a3,a4,a5,a6,a7,a8,a9,a10,a11,rfl,aQ⟩
 have cU:=fun W=>Ss (.int .i64 0) a1 a2 a3 a4 a5 a6 a7 a8 a9 a10 a11 W
 have bT:=Qq aQ
 clear aQ bW
 go_wp2_with fail
 go_loopw [9] (fun i wr=>∃ k:Nat,k<=3/\i=.int .i64 k/\Below aJ aJ wr) (fun i _=>3 - (intOf i).toNat)
 case atStart=>exact ⟨0,Q8 _,rfl,bT.out⟩
 obtain ⟨k,eJ,rfl,cM⟩:=hrel
 have O:=Qq cM
 clear cM
 by_cases hlt:k<3
 ·have bB:∃ (a b q:Int) (yy:Option Addr) (mm:Nat) (Y:Option Addr) (nn:Nat),(∀ (j:Nat) (u:Value),[.int .i64 4,.int .i64 0,.string ⟨#[]⟩,.slice yy 2 mm,.slice Y 2 nn][j]?=some u->(#[.int .i64 4,.int .i64 0,.string ⟨#[]⟩,.slice y0 2 m0,.slice z0 2 n0,.int .i64 4,.int .i64 0,.string ⟨#[]⟩,.slice y1 2 m1,.slice z1 2 n1,.int .i64 4,.int .i64 0,.string ⟨#[]⟩,.slice y2 2 m2,.slice z2 2 n2]:Array Value)[k*5+j]?=some u)/\(#[.int .i64 11,.int .i64 12,.int .i64 13]:Array Value)[k]?=some (.int .i64 q) /\
    Z9 (fun _=>True) aJ [.int .i64 4,Ci,Cl,.slice yy 2 mm,.slice Y 2 nn] (Law.rT a b)/\eqv (Law.rT 1 3) (Law.rT a b)=false/\decide (0<Yv (Law.rT 1 3) (Law.rT a b))=false/\((-1000<=a/\a<=1000)/\-1000<=b/\b<=1000)/\Ku ([(1,3),(a,b)].map fun p=>Law.rT p.1 p.2)=true /\
    ∀ f,Um Law.sc.tables.length (Law.cf [(1,3),(a,b)]) (fun i=>((Law.sc.tables[i]?).getD Tbl.zero).name) f->f.code=q:=by
   match k,hlt with
  | 0,_=>exact ⟨1,4,11,y0,m0,z0,n0,fun j u A=>(by
    match j,A with
    | 0,A=>exact A
    | 1,A=>exact A
    | 2,A=>exact A
    | 3,A=>exact A
    | 4,A=>exact A),rfl,dV.out,Cc,Cc,Cc,(Law.inc2 1 3 1 4 Cc),fun f h=>Law.code1 h⟩
  | 1,_=>exact ⟨2,4,12,y1,m1,z1,n1,fun j u A=>(by
    match j,A with
    | 0,A=>exact A
    | 1,A=>exact A
    | 2,A=>exact A
    | 3,A=>exact A
    | 4,A=>exact A),rfl,dW.out,Cc,Cc,Cc,(Law.inc2 1 3 2 4 Cc),fun f h=>Law.code2 h⟩
  | 2,_=>exact ⟨5,3,13,y2,m2,z2,n2,fun j u A=>(by
    match j,A with
    | 0,A=>exact A
    | 1,A=>exact A
    | 2,A=>exact A
    | 3,A=>exact A
    | 4,A=>exact A),rfl,dX.out,Cc,Cc,Cc,(Law.inc2 1 3 5 3 Cc),fun f h=>Law.code3 h⟩
  obtain ⟨a,b,q,yy,mm,Y,nn,cT,cS,cZ,cX,cV,cP,cW,aG⟩:=bB
  have eH:(0:Int)<=(k:Int):=C7
  have eI:(k:Int)<3:=C7
  have hq:(q != q)=false:=Ca
  have hM:=kB O.out cA.out
  have hN:=kB O.out cB.out
  have cO:=D.out.thn O.out
  have cN:=kB cO aW.out
  refine let_mvar% ?Lq1:=fun w':World=>Cf w' (w+1+1+1+1+1+1+1+1+1+1+1) 0 Cm/\Cf w' (w+1+1+1+1+1+1+1+1+1+1+1) 1 (Cg (w+1+1+1+1+1+1+1+1+1+1) 0 2 2)/\Qjl w' V (k*5) (.int .i64 4) Ci Cl (.slice yy 2 mm) (.slice Y 2 nn) (Cf w' (V+1) k q/\Below wr wr w');?_
  have HS:∀ w',Below wr wr w'->?Lq1 w':=by
   intro w' h
   have hm:=kB h hM
   have hn:=kB h hN
   have hk:=kB h cN
   have e:∀ (j:Nat) (u:Value),[.int .i64 4,.int .i64 0,.string ⟨#[]⟩,.slice yy 2 mm,.slice Y 2 nn][j]?=some u->w'.cell? ⟨V,k*5+j,none⟩=some u:=fun j u A=>by rw [Qk _ _ _ _ _ _ hm];exact cT j u A
   exact ⟨by rw [Qk _ _ _ _ _ _ hk];rfl,by rw [Qk _ _ _ _ _ _ hk];rfl,e 0 _ rfl,e 1 _ rfl,e 2 _ rfl,e 3 _ rfl,e 4 _ rfl,by rw [Qk _ _ _ _ _ _ hn];exact cS,h⟩
  have N:∀ w',?Lq1 w'->Below wr wr w':=fun w' h=>h.2.2.2.2.2.2.2.2
  have aV:∀ w' aK,?Lq1 w'->Below w' w' aK->?Lq1 aK:=fun w' aK h h2=>HS aK ((N w' h).thn h2)
  have dQ:=Qq (fun W' (h':?Lq1 W')=>(show Calls prog 25 #[.slice dB 2 aB,.string ⟨#[116]⟩,.agg #[.int .i64 4,Ci,Cl,.slice yy 2 mm,.slice Y 2 nn]] W' (LvSt W' [(1,3),(a,b)]) from Dh _ _ _ (Law.st [(1,3)]) [116] (Law.rT a b) _ W' 0 ⟨[116],[Law.rT 1 3]⟩ (aA.out.below (aU.out.thn (O.out.thn (N W' h')))) (Z9.move cZ (.of_below (O.out.thn (N W' h'))) Qje) Cc rfl
   (by intro y hy;simp at hy;subst hy;exact cX) (by intro y hy;simp at hy;subst hy;exact cV) (by intro r hr;simp [Law.st] at hr;rcases hr with rfl | rfl <;> simp)).mono (R':=fun e w2=>∃ p cap,e=.returned (.slice p 2 cap)/\Sl Y6 (fun _=>True) w2 (.slice p 2 cap) (Law.st [(1,3),(a,b)])/\?Lq1 w2) (by
   rintro e w2 ⟨p,cap,rfl,h3,h4⟩
   exact ⟨p,cap,rfl,h3,aV _ _ h' h4⟩))
  have dO:=Qq (fun W' v (h':?Lq1 W') (hsl:Sl Y6 (fun _=>True) W' v (Law.st [(1,3),(a,b)]))=>(Gh _ _ [Cm,Cg (w+1+1+1+1+1+1+1+1+1+1) 0 2 2] v [(1,3),(a,b)] q W' (cH.out.below (D.out.thn (O.out.thn (N W' h')))) hsl (bZ.out.below (D.out.thn (O.out.thn (N W' h')))) Ca (pair_bd cP) cW aG).mono (R':=fun e w2=>(∃ a1 a2 a3 a4 a5 a6 a7 a8 a9 a10 a11:Value,e=.returned (.agg #[q,a1,a2,a3,a4,a5,a6,a7,a8,a9,a10,a11]))/\?Lq1 w2) (by
   rintro e w2 ⟨a1,a2,a3,a4,a5,a6,a7,a8,a9,a10,a11,rfl,h4⟩
   exact ⟨⟨a1,a2,a3,a4,a5,a6,a7,a8,a9,a10,a11,rfl⟩,aV _ _ h' h4⟩))
  have dP:=Qq (HS wr.drew (Qz _ _).drew);have bV:=Qq N
  clear HS N aV cT cS cZ cX cV cP cW aG hM hN cO cN cU d0 d1
  go_wp2_with fail
  go_region_held3 ?Lq1 (first | with_reducible exact dP.out | with_reducible exact aC | with_reducible exact aN)
   (first
    | (go_at_call 25;refine (dQ.out _ Ce).mono ?_;rintro e eM ⟨eK,dY,rfl,aT,aN⟩)
    | (go_at_call 10;refine (dO.out _ _ Ce aT).mono ?_;rintro e eN ⟨⟨a1,a2,a3,a4,a5,a6,a7,a8,a9,a10,a11,rfl⟩,aC⟩;have cU:=fun W=>Ss (.int .i64 q) a1 a2 a3 a4 a5 a6 a7 a8 a9 a10 a11 W))
  have bU:=Qq (bV.out _ aC)
  clear aC aN aT
  go_wp2_with fail
  go_roundw
  case measure=>simp [intOf];omega
  case rel=>exact ⟨k+1,C7,by go_num,O.out.thn bU.out⟩
 obtain rfl:k=3:=C7
 go_wp2_with fail
 go_ret
 exact ⟨rfl,dL.out.thn (D.out.thn O.out)⟩
end Go.Proofs.YtcljcblceodciaaGreatDoor

import Derived.Test.YtlanplhphiikjaaGreatDoorE41
set_option maxRecDepth 100000
set_option maxHeartbeats 400000000
namespace Go.Proofs.YtlanplhphiikjaaGreatDoor
open Go.RowKit Go.Shelf Go.Lib Tryz
theorem Au (HCk:Dp) (s:Sc) (hS:R9 s) (hne:0<s.tables.length) (S0 S3 S4:Nat->Prop) (cs:List Value) (nv mv:Value) (ns ms:List Int) (w:World) (hs:Vj S0 w cs s) (hn0:Xa S3 w nv ns) (hm0:Xa S4 w mv ms) (hi:Uh ns) (hi2:Uh ms):
  Calls prog 6 #[cs,nv,mv] w (DirtyIs s w):=by
 obtain ⟨fQ,iH,Z⟩:=Qxn hs hm0 hS
 have bC:=Qq (fun (i:Nat) (m:Int) (h1:1<=m) (h2:m<=1000000000) W (hW:Below w w W)=>Yr S4 mv ms i m W (hm0.below hW) hi2 h1 h2)
 obtain ⟨n,hn⟩:=eX (s.tables.length)
 have lG:n<=20:=Qxj hS.few
 have lF:0<n:=Qvu
 have dP:=Qq (fun W (hW:Below w w W)=>(Ab HCk s hS S0 S3 cs nv ns W (hs.below hW) (hn0.below hW) hi).mono (R':=fun e w2=>∃ p cap,e=.returned (.slice p n cap)/\Bw s 5 W w2 (.slice p n cap) n/\Below W W w2) (by
  rintro e w2 ⟨l,p,cap,css,rfl,h1,h2,h3⟩
  have hl:l.length=n:=by rw [h1.len,hn]
  have lH:=hW.size
  rw [hl] at h2 |-
  exact ⟨p,cap,rfl,⟨l,css,h1.dy,hl,h2⟩,h3⟩))
 obtain ⟨uv,tv,rfl,hu,ht⟩:=hs
 obtain ⟨up,uc,rfl,_⟩:=hu.len
 obtain ⟨tp,tc,rfl,_⟩:=ht.len
 obtain ⟨np,nc,rfl,_⟩:=hn0.len
 obtain ⟨mp,mc,rfl,_⟩:=hm0.len
 rw [hn] at ht fQ dP |-
 obtain ⟨HT,HN,iD⟩:=Qxn ht hn hi2
 obtain ⟨cn,gV,kO⟩:∃ cn:Nat,Yo ms 0 4=(cn:Int)/\cn<=3:=by
  obtain ⟨h1,h2⟩:=Dc ms 0 4 Qvu
  exact ⟨(Yo ms 0 4).toNat,Qvu,Qvu⟩
 have bY:=Qq (fun W (hW:Below w w W)=>bC.out 0 4 Qvu Qvu W hW)
 rw [gV] at bY
 have aL:=Qq (fun W (hW:Below w w W)=>bC.out 21 12 Qvu Qvu W hW)
 obtain ⟨eZ,dC⟩:=eX (Yo ms 21 12)
 rw [dC] at aL
 simp only [Int.cast_ofNat_Int] at bY aL
 clear hu ht hn0 hm0 hi hi2 gV dC hne hS hn
 obtain ⟨i0,j1,j2,j3,j4⟩:=Y4 (P:=prog) (t:=48) (z:=.agg zV) (n:=5) (b:=80) Qxx
 obtain ⟨HJ,dH,dI,dJ⟩:=Qxo j1 j2 j3 j4
 clear j1 j2 j3 j4
 go_enter func6,ntmps6
 go_upto_region 1 with fail
 generalize eC:w.alloc _=J
 have aC:=eqB eC (Ze _ _)
 have eD:=eqH (b:=w.heap.size) eC (Qw _ _)
 have fD:=Qq aC;have cB:=Qq eD
 obtain ⟨c0,c1⟩:=row2 eD
 clear eC aC eD
 have bK:=Z8 cB.out
 go_upto_region 2 with (go_at_call 29;refine (dP.out _ fD.out).mono ?_;rintro e w2 ⟨p2,kM,rfl,gW,eE⟩;have iA:=Qq gW;have hY:=Qq (show Below J J w2 from eE);have gQ:=kE eE bK cB.out;have iR:=rA1 gQ;clear gW eE gQ)
 have jM:((n:Int)==0)=false:=by simp;omega
 clear dP c0 c1
 go_upto_region 5 with fail
 clear iR jM
 go_loopw [7,8,9,10,11,12] (fun t7 t8 _ _ _ _ wr=>∃ (k:Nat) (p:Option Addr) (cap:Nat),k<=cn/\t7=.slice p n cap/\t8=.int .i64 k/\Aside (Bw s (5+k) J wr (.slice p n cap) n/\Below J J wr)) (fun _ t8 _ _ _ _ _=>cn - (intOf t8).toNat)
 case atStart=>exact ⟨0,_,_,Q8 _,rfl,rfl,⟨iA.out,hY.out⟩⟩
 obtain ⟨k,pa,A,lE,rfl,rfl,hA⟩:=hrel
 have fI:=Qq hA.out.1;have fG:=Qq hA.out.2
 have Y:=Qq (fD.out.thn hA.out.2)
 clear hA
 by_cases hk:k<cn
 ·have g1:(k:Int)<(cn:Int):=Qvu
  obtain ⟨a,ha⟩:∃ a:Nat,5*(k:Int)=(a:Int):=⟨5*k,Qvu⟩
  have jH:a+2<=1000:=Qvu
  have lJ:IntKind.i64.wrap (a:Int)=(a:Int):=IntWalk.i64_in _ Qvu
  have lK:IntKind.i64.wrap ((a:Int)+1)=(a:Int)+1:=IntWalk.i64_in _ Qvu
  obtain ⟨j,hj,eG⟩:∃ j:Nat,Yo ms (a+1) n=(j:Int)/\j<n:=by
   obtain ⟨h1,h2⟩:=Dc ms (a+1) n Qvu
   exact ⟨(Yo ms (a+1) n).toNat,Qvu,Qvu⟩
  have dL:=Qq (fun W (hW:Below w w W)=>bC.out (a+1) n Qvu Qvu W hW)
  rw [hj] at dL
  obtain ⟨z3,aG⟩:=eX (Yo ms (a+3) 6)
  obtain ⟨z4,bR⟩:=eX (Yo ms (a+4) 8)
  have bB:=Qq (fun W (hW:Below w w W)=>bC.out (a+3) 6 Qvu Qvu W hW)
  have bZ:=Qq (fun W (hW:Below w w W)=>bC.out (a+4) 8 Qvu Qvu W hW)
  rw [aG] at bB;rw [bR] at bZ
  simp only [Int.natCast_add,Int.cast_ofNat_Int] at dL bB bZ
  clear hj aG bR
  obtain ⟨t,ht⟩:∃ t,s.tables[j]?=some t:=⟨_,Qx (by rw [HN.out];exact eG)⟩
  obtain ⟨tb,bS,kT,jT,lI,_,_,eB,M⟩:=(HT.out.below Y.out).elem ht
  subst jT
  obtain ⟨dX,dW,eL,eK,eU,eT,k9,eV,n9,eW,eP,eM,dT,eQ,eN,dU,eR,eO,dV,a9,z9,bG,_⟩:=Yj eB
  simp only [tcs] at bG
  subst bG
  have gS:=kE fG.out bK cB.out
  obtain ⟨c0,c1⟩:=row2 gS
  have d0:=M 0 _ rfl;have d1:=M 1 _ rfl;have d2:=M 2 _ rfl;have d3:=M 3 _ rfl;have d4:=M 4 _ rfl;have d5:=M 5 _ rfl;have d6:=M 6 _ rfl;have d7:=M 7 _ rfl;have d8:=M 8 _ rfl;have d9:=M 9 _ rfl;have dY:=M 10 _ rfl;have dZ:=M 11 _ rfl;have eA:=M 12 _ rfl
  rw [show Zl.k=13 from rfl] at d0 d1 d2 d3 d4 d5 d6 d7 d8 d9 dY dZ eA
  rw [Nat.add_zero] at d0
  try unfold sv at d0
  obtain ⟨fT,fW,iO⟩:=Qxn eB (Qy ht) ht
  have lA:(0:Int)<=(j:Int):=Qvu
  have lB:(j:Int)<(n:Int):=Qvu
  clear gS M eB ht
  go_upto_region 7 with (go_at_call 28;refine (bY.out _ Y.out).mono ?_;rintro e w' ⟨rfl,rfl⟩)
  refine let_mvar% ?Lq1:=fun w':World=>Qxw w' w 1 (Qxa tb bS n tc)/\Qyc w' tb (bS+j*13) t.name (.slice dX t.columns.length dW) (.slice eL t.key.length eK) (.slice eU t.refs.length eT) k9 (.string eV) n9 (.string eW) (.slice eP eM dT) (.slice eQ eN dU) (.slice eR eO dV) a9 z9 (Below wr wr w');?_
  have HS:∀ w',Below wr wr w'->?Lq1 w':=by
   intro w' h
   have hh:∀ {b j:Nat} {u:Value},wr.cell? ⟨b,j,none⟩=some u->w'.cell? ⟨b,j,none⟩=some u:=fun hc=>kC h hc
   exact ⟨hh c1,hh d0,hh d1,hh d2,hh d3,hh d4,hh d5,hh d6,hh d7,hh d8,hh d9,hh dY,hh dZ,hh eA,h⟩
  obtain ⟨fO,fS,fH,bD,dG,fR⟩:=Um HS (fun w' h=>h.2.2.2.2.2.2.2.2.2.2.2.2.2.2)
  have HP:=fun w' x0 x1 x2 x3 x4 x5 x6 x7 x8 x9 kG kH kI h=>fR.out (Vn w' wr x0 x1 x2 x3 x4 x5 x6 x7 x8 x9 kG kH kI) (Xo (bD.out w' h) (Q9 _))
  unfold Vn at HP
  have fM:=Qq HP
  clear HS HP c1 d0 d1 d2 d3 d4 d5 d6 d7 d8 d9 dY dZ eA
  go_cut [9] from 21 to 95 (fun t9 wx=>∃ G,t9=.pointer (some ⟨G,0,none⟩)/\wx.heap[G]?=some (.cells (Qxg t dX dW eL eK eU eT k9 eV n9 eW eP eM dT eQ eN dU eR eO dV a9 z9) 61 (0,0))/\Below wr wr wx/\wr.heap.size<=G)
  case first=>
   clear c0
   go_region_held3 ?Lq1 (first | with_reducible exact fO.out | with_reducible exact hS2 | with_reducible exact fH.out _ (dG.out _ _ fS.out) | with_reducible exact dG.out _ _ hS2 | with_reducible exact fM.out _ _ _ _ _ _ _ _ _ _ _ _ _ _ hS2)
    (first | (go_at_call 28;refine (dL.out _ (Y.out.thn (bD.out _ Qxy))).mono ?_;rintro e w' ⟨rfl,rfl⟩))
   all_goals
    go_wp2_with fail
    go_meet
    exact ⟨_,rfl,Qw _ _,(Qz _ _).drew.thn (Ze _ _),Q9 _⟩
  obtain ⟨G,rfl,hG,aE,kX⟩:=hcut
  obtain ⟨w7,rfl⟩:∃ w7,w7=wc:=⟨_,rfl⟩
  obtain ⟨HG,bV,cA,fU,iB⟩:=Qxp hG (fG.out.thn aE) (Y.out.thn aE) (Zl.frame fT.out (.of_below aE)) (fI.out.grow aE)
  have jF:=Z8 hG
  clear aE fT c0
  clear fO fS fH bD dG fM fR
  obtain ⟨g0,g1,g2,g3,g4,g5,g6,g7,g8,g9,jC,jD,jE⟩:=row13 hG
  have gR:=kE bV.out bK cB.out
  obtain ⟨c0,c1⟩:=row2 gR
  clear hG gR
  obtain ⟨l,css,U,bJ,hO⟩:=iB.out
  obtain ⟨g,kL,hD,jK,jL⟩:=hO.row.form Qvu
  simp only [Qr] at hD
  obtain ⟨rfl,-,rfl⟩:=hD
  have gX:g<w7.heap.size:=jL
  have aV:Sl Ym (fun b=>J<=b) w7 (.slice (some ⟨g,0,none⟩) n A) l:=by
   have:=hO.sl (S':=(fun b=>J<=b)) Qvu (fun _ h=>h) Qyv
   exact this
  obtain ⟨V,dN,HO,O⟩:=Qxo U aV hO bJ
  have cS:=Qq ((rrow_P (fun b=>b≠g) S0 (fun b=>J<=b) _ S4 s [.slice up s.sums.length uc,Qxa tb bS n tc] (.slice (some ⟨g,0,none⟩) n A) l t (Qxg t dX dW eL eK eU eT k9 eV n9 eW eP eM dT eQ eN dU eR eO dV a9 z9) (.slice mp ms.length mc) ms (a+2) w7 (fQ.out.below cA.out) (own_relP Qvu (fun _ h=>h) hO) fU.out (iH.out.below cA.out) iD.out jH (Z.out.gen t fW.out) Z.out.sums (fun t ht=>(Z.out.ok t ht).key) (fun r hr v hv=>⟨(U.rows r hr v hv).good,(U.rows r hr v hv).kids,(U.rows r hr v hv).record⟩)).mono (R':=fun e w2=>∃ v q3 m3 q4 m4 mk,e=.returned (.agg #[v.kind,v.n,v.s,.slice q3 v.names.length m3,.slice q4 mk m4])/\v.kids.length=mk/\mk<=m4/\Vo v/\Za (fun b=>J<=b/\b≠g) w2 (vcs v q3 m3 q4 m4) v/\Below w7 w7 w2) (by
   rintro e w2 ⟨v,q3,m3,q4,m4,rfl,x1,x2,x3,x4⟩
   have jV:=bV.out.size
   have kY:=(Z.out.gen t fW.out).few
   exact ⟨v,q3,m3,q4,m4,_,rfl,rfl,x2.2,⟨x1.good,Qvu,x1.kids,x1.record⟩,x3.move (.refl _ _) (fun b _ h=>h.elim id (fun h=>⟨Qvu,Qvu⟩)),x4⟩))
  simp only [Int.natCast_add,Int.cast_ofNat_Int] at cS
  clear U bJ hO aV
  go_upto_region 9 with (go_at_call 30;refine cS.out.mono ?_;rintro e T ⟨v,q3,m3,q4,m4,mk,rfl,gY,gZ,hI,hH,gT⟩;obtain ⟨bX,dQ,gA,aZ⟩:=Qxo gY hI hH gT;clear gY hI hH gT)
  generalize cG:T.alloc _=W9
  have eF:=eqB cG (Ze _ _)
  have kQ:T.heap.size<W9.heap.size:=by rw [<- cG];simp
  have aI:=eqH (b:=T.heap.size) cG (Qw _ _)
  have bW:=Qq eF;have gD:=Qq aI
  have gB:=Qq ((gA.out.move (S':=fun b=>(J<=b/\b≠g)/\b<T) (.refl _ _) (fun b hb h=>⟨h,hb⟩)).move (.of_below eF) Qyv)
  obtain ⟨v0,v1,v2,v3,v4⟩:=row5 aI
  obtain ⟨f0,f1,f2,f3,f4⟩:=frz5 aI
  clear cG eF aI gA g0 g1 g2 g3 g4 g5 g6 g7 g8 g9 jC jD jE c0 c1
  have dR:=Qq (cA.out.thn (aZ.out.thn bW.out))
  have fF:=Qq (bV.out.thn (aZ.out.thn bW.out))
  have kP:g<T.heap.size:=Qa gX aZ.out.size
  obtain ⟨bb,aD⟩:∃ bb:Bool,bb=(decide (z3=0)&&decide (0<mk)):=⟨_,rfl⟩
  go_cut [58] from 21 to 95 (fun kA wx=>kA=.bool bb/\wx=W9)
  case first=>
   by_cases aG:z3=0
   ·have jN:(z3==0)=true:=by rw [aG];rfl
    by_cases hmp:0<mk
    ·have hB:(0:Int)<(mk:Int):=Qvu
     have aC:bb=true:=by rw [aD];simp [aG,hmp]
     clear aD
     go_wp2_with (go_at_call 28;refine (bB.out _ dR.out).mono ?_;rintro e w' ⟨rfl,rfl⟩)
     go_meet
     exact ⟨by rw [aC],rfl⟩
    have hB:¬ (0:Int)<(mk:Int):=Qvu
    have aC:bb=false:=by rw [aD];simp [aG,hmp]
    clear aD
    go_wp2_with (go_at_call 28;refine (bB.out _ dR.out).mono ?_;rintro e w' ⟨rfl,rfl⟩)
    go_meet
    exact ⟨by rw [aC],rfl⟩
   have jN:(z3==0)=false:=by simpa using aG
   have aC:bb=false:=by rw [aD];simp [aG]
   clear aD
   go_wp2_with (go_at_call 28;refine (bB.out _ dR.out).mono ?_;rintro e w' ⟨rfl,rfl⟩)
   go_meet
   exact ⟨by rw [aC],rfl⟩
  obtain ⟨rfl,hK⟩:=hcut
  have hL:=hK.symm
  subst hL
  clear hK
  go_upto_if 58 with fail
  go_cut [] from 21 to 95 (fun wx=>∃ u x3 y3 x4 y4,wx.heap[T.heap.size]?=some (.cells (Qxf u x3 y3 x4 y4) 48 (0,0))/\Vo u/\Za (fun b=>(J<=b/\b≠g)/\b≠T) wx (vcs u x3 y3 x4 y4) u/\Below T T wx)
  case first=>
   cases bb with
   | false=>
    go_wp2_with fail
    go_meet
    have jU:=gB.out
    have aI:=gD.out
    rw [<- bX.out] at aI
    exact ⟨v,q3,m3,q4,m4,aI,dQ.out,jU.move (.refl _ _) (fun b hb h=>⟨h.1,Nat.ne_of_lt h.2⟩),bW.out⟩
   | true=>
    obtain ⟨k',rfl⟩:∃ k',mk=k'+1:=⟨mk - 1,by simp at aD;omega⟩
    obtain ⟨lN,lL,lO,lM,bG,hC,eH,hE⟩:=Za.cells gB.out
    simp only [vcs,List.cons.injEq,Qr,true_and,and_true] at bG
    obtain ⟨⟨rfl,rfl⟩,rfl,rfl⟩:=bG
    rw [bX.out] at eH
    obtain ⟨p5,c5,aF,bO,bI⟩:=Mh (P:=prog) 40 48 underlying40 sizeOf48 eH gZ 1 Qvu
    have eI:∀ W,(Instr.slice 40 (.slice q4 (k'+1) m4) (some (.int .i64 1)) none none).run prog W=.ok (.slice p5 k' c5) W:=aF
    have dM:=Qq (show Sl Zc (fun b=>(J<=b/\b≠g)/\b<T) W9 (.slice p5 k' c5) (v.kids.drop 1) from bO)
    have iJ:=Qq hC;have iN:=Qq hE
    have fK:=Qq (show [(.mk 5 0 [] [] []:Val)].length+(v.kids.drop 1).length=k'+1 by rw [bI];simp;omega)
    have cY:=Qq True.intro
    have kS:T.heap.size≠W9.heap.size:=Qvu
    have lC:k'+1<=900:=Qxq dQ.out.few bX.out
    clear aF bO bI hC eH hE aD
    go_wp2_with (first
     | (refine (show wpList _ _ _ (⟨some 62,_,_,_,_,_⟩::_) _ _ from ?_);have hk:=cY.out;clear cY hk;generalize aN:World.alloc W9 _=gE;have aO:=eqB aN (Ze _ _);have dB:gE=W9.heap.size+1:=(by rw [<- aN];simp);have dA:=eqH (b:=W9.heap.size) aN (Qw _ _);have bQ:=kB aO gD.out;have lP:=rA4 bQ;obtain ⟨cP,cV,cU,fL⟩:=Qxo aO dB bQ (C9 (r:=Zc) (S:=fun b=>(J<=b/\b≠g)/\b≠T) (B:=W9.heap.size) (xs:=[(.mk 5 0 [] [] []:Val)]) (n:=1) dA (Q9 _) (Cs.one (r:=Zc) (x:=(.mk 5 0 [] [] []:Val)) (Yi (s:=[]) Qxz (Sl.nil _ _ _) (Sl.nil _ _ _))) rfl rfl Qxz);have fP:=Qq ((dM.out.below aO).mono (S':=But (fun b=>(J<=b/\b≠g)/\b≠T) (.slice (some ⟨W9,0,none⟩) 1 1)) (fun b _ h=>⟨⟨h.1,Nat.ne_of_lt h.2⟩,fun e=>(by have e':b=W9.heap.size:=Qb e;have:=h.2;omega)⟩));clear aN aO dB dA bQ)
     | (at_builtin;refine Yn (r:=Zc) Qxv Xg rfl (.tmp 60) (.tmp 63) _ rfl 48 i0 (.agg zV) 80 underlying40 HJ.out dH.out dI.out dJ.out rfl Qvu (fun b=>(J<=b/\b≠g)/\b≠T) W9 gE (.slice (some ⟨W9,0,none⟩) 1 1) [(.mk 5 0 [] [] []:Val)] _ rfl fL.out (.slice p5 k' c5) (v.kids.drop 1) rfl fP.out (k'+1) fK.out Qvu (Qxj cV.out) ?_;intro p6 c6 gH w6 bF aB;have cK:=(aB.other _ (Z8 cU.out) (fun e=>(by have e':T.heap.size=W9.heap.size:=Qb e;omega))).trans cU.out;have kV:=fA 4 cK;have lR:=rA4 cK;obtain ⟨iP,aT,bA⟩:=Qxn cK bF aB;clear cK bF aB))
    go_meet
    have eJ:([(.mk 5 0 [] [] []:Val)]++v.kids.drop 1).length=k'+1:=by rw [Ql];exact fK.out
    have jI:Below T T (w6.setCell ⟨T,4,none⟩ (.slice p6 (k'+1) c6)):=(((bW.out.thn cP.out).trans (bA.out.below.mono Qvu))).setCell (p:=⟨T,4,none⟩) (Q9 _) _
    refine ⟨.mk v.kind v.n v.s v.names ([(.mk 5 0 [] [] []:Val)]++v.kids.drop 1),q3,m3,p6,c6,?_,dQ.out.dirty (by rw [bX.out];omega),?_,jI⟩
    ·show (w6.setCell ⟨T,4,none⟩ (.slice p6 (k'+1) c6)).heap[T.heap.size]?=some (.cells #[v.kind,v.n,v.s,.slice q3 v.names.length m3,.slice p6 ([(.mk 5 0 [] [] []:Val)]++v.kids.drop 1).length c6] 48 (0,0))
     rw [eJ,Qi _ _ _ _ _ _ iP.out];rfl
    show Za _ _ [v.kind,v.n,v.s,.slice q3 v.names.length m3,.slice p6 ([(.mk 5 0 [] [] []:Val)]++v.kids.drop 1).length c6] _
    rw [eJ]
    refine Yi iN.out ?_ ?_
    ·exact (iJ.out.frame (fun b hb _=>by
      rw [Z9 (Nat.ne_of_lt hb.2),(bA.out.other b (by have:=cV.out;have:=hb.2;omega) (fun e=>by have e':b=W9.heap.size:=Qb e;have:=hb.2;omega)),cP.out.block b (by have:=hb.2;omega)])).mono (fun b _ h=>⟨h.1,Nat.ne_of_lt h.2⟩)
    have h6:=aT.out.sl' (S':=fun b=>(J<=b/\b≠g)/\b≠T) (by rw [eJ];omega) (fun b hb=>by have:=(aT.out.row.lt b hb).1;have:=fF.out.size;exact ⟨⟨Qvu,Qvu⟩,Qvu⟩) Qyv
    exact h6.frame (fun b hb _=>Z9 hb.2)
  obtain ⟨u,x3,y3,x4,y4,cL,hF,hJ,aE⟩:=hcut
  obtain ⟨D,rfl⟩:∃ D,D=wc:=⟨_,rfl⟩
  have I:=aZ.out.thn aE
  obtain ⟨hZ,aK,cT⟩:=Qxn I (bV.out.thn I) (cA.out.thn I)
  have cX:=HO.out.below I
  have aQ:g<D.heap.size:=Qxj I.size
  have gL:T.heap.size<D.heap.size:=Z8 cL
  have kZ:T.heap.size≠g:=Qxj aZ.out.size
  have bN:=tabs_at V.out.tabs Z.out.once iO.out
  have bH:Vi (fun r=>decide (r.table=t.name)) l=(j:Int):=by
   rcases Ke l t.name with ⟨h,_⟩ | ⟨i',r',h,h2,_⟩
   ·rw [bN] at h;cases h
   rw [bN] at h;cases h;exact h2
  obtain ⟨r,hr⟩:∃ r,l[j]?=some r:=⟨_,Qx (by rw [O.out];exact eG)⟩
  have aH:=dN.out.below I
  have HF:=Qq (Fd (fun b=>J<=b) (.slice (some ⟨g,0,none⟩) n A) l t.name D aH.rel)
  rw [bH] at HF
  unfold sv at HF
  obtain ⟨iQ,fZ,gC,HR,aA,dO,kK⟩:=Qxs cL hF hJ hr cX aH bH
  have cW:=kE I jF HG.out
  have n0:=rA0 cW
  obtain ⟨h0,h1,h2,h3,h4⟩:=row5 cL
  clear cL hF hJ hr cX aH bH bN cW I aE
  by_cases bR:z4=0
  ·have jO:(z4==0)=true:=by rw [bR];rfl
   obtain ⟨c,hc⟩:∃ c,css[j]?=some c:=⟨_,Qx (by rw [aA.out.cs.len,O.out];exact eG)⟩
   obtain ⟨rv,rfl,jS,cI,aP⟩:=aA.out.cs.R j c r hc HR.out
   have aS:=aA.out.row
   rw [O.out] at aS
   have l1:=aS.cellAt (j*2+1) (by show _<n*2;omega)
   rw [show css.flatten[j*2+1]?=some rv from V9 (k:=2) aA.out.cs.all hc (j:=1) rfl] at l1
   have gK:=aS.frozenAt (j*2+1)
   obtain ⟨q,qc,rfl,_⟩:=cI.len
   obtain ⟨mr,bL⟩:=eX (r.rows.length)
   have kR:mr<=5+k:=by rw [<- bL];exact V.out.few r (Qy HR.out)
   rw [bL] at cI l1
   have iG:=Qq bL
   have iM:=Qq (cI.mono (S':=But (fun b=>But (fun b=>J<=b) (.slice (some ⟨g,0,none⟩) n A) b/\b<D) (.slice none 0 0)) (fun b hb h=>⟨⟨h,hb⟩,fun e=>by cases e⟩))
   have iI:=Qq (show ([]:List Val).length+r.rows.length=mr by rw [bL];simp)
   have fX:=Qq (gC.out.move (S':=(fun b=>But (fun b=>J<=b) (.slice (some ⟨g,0,none⟩) n A) b/\b<D)) (.refl _ _) (fun b hb h=>⟨⟨h.1.1,fun e=>h.1.2 (Qb e)⟩,hb⟩))
   have iF:=Qq l1;have iC:=Qq gK
   clear hc cI aP jS bL gK aS
   go_upto_region 15 with (first
     | (go_at_call 31;refine HF.out.mono ?_;rintro e w' ⟨rfl,rfl⟩)
     | (go_at_call 28;refine (bZ.out _ cT.out).mono ?_;rintro e w' ⟨rfl,rfl⟩)
     | (at_builtin;refine Yn (r:=Zc) Qxv Xg rfl (.tmp 76) (.tmp 81) _ rfl 48 i0 (.agg zV) 80 underlying40 HJ.out dH.out dI.out dJ.out rfl Qvu (fun b=>But (fun b=>J<=b) (.slice (some ⟨g,0,none⟩) n A) b/\b<D) D D (.slice none 0 0) [] [] rfl (Own.nil _ _ _ _ _) (.slice q mr qc) r.rows rfl iM.out mr iI.out Qvu Qvu ?_;intro p5 c5 gG w5 gN gM;have dK:=Qq gN;have N:=Qq gM;clear gN gM))
   have hM:=(N.out.other _ gL (fun e=>by cases e)).trans iQ.out
   clear h0 h1 h2 h3 h4 l1
   obtain ⟨h0,h1,h2,h3,h4⟩:=row5 hM
   have jQ:(Value.slice p5 mr c5).ownBlock=none\/∃ b,(Value.slice p5 mr c5).ownBlock=some b/\D.heap.size<=b:=by
    cases e:(Value.slice p5 mr c5).ownBlock with
    | none=>exact .inl rfl
    | some b=>exact .inr ⟨b,rfl,(dK.out.row.lt b e).1⟩
   have bM:∀ b,b<D.heap.size->some b≠(Value.slice p5 mr c5).ownBlock:=fun b hb e=>by have:=(dK.out.row.lt b e.symm).1;omega
   have cR:=Qq bM
   have fY:=Qq (show Za (But (fun b=>But (fun b=>J<=b) (.slice (some ⟨g,0,none⟩) n A) b/\b<D) (.slice p5 mr c5)) w5 (vcs u x3 y3 x4 y4) u from (fX.out.move (S':=(fun b=>But (fun b=>J<=b) (.slice (some ⟨g,0,none⟩) n A) b/\b<D)) (fun b hb _=>N.out.other b hb.2 (fun e=>by cases e)) Qyv).move (.refl _ _) (fun b _ h=>⟨h,bM b h.2⟩))
   have fJ:=Qq (show ([]++r.rows).length=mr by rw [List.nil_append,iG.out])
   unfold vcs at fY
   clear hM jQ bM
   go_wp2_with (at_builtin;refine Yf (r:=Zc) Qxv rfl (.tmp 85) (.tmp 87) _ rfl 48 i0 (.agg zV) 80 underlying40 HJ.out dH.out dI.out dJ.out rfl Qvu (fun b=>But (fun b=>J<=b) (.slice (some ⟨g,0,none⟩) n A) b/\b<D) D w5 (.slice p5 mr c5) ([]++r.rows) gG (Qxf u x3 y3 x4 y4) u rfl dK.out rfl fY.out (by simp [Value.oneCell']) mr fJ.out Qvu (N.out.size) ?_;intro p6 c6 gH w6 bF aB;have l6:=(World.cell?_of_block (aB.other g (Qxj N.out.size) (cR.out g aQ))).trans ((World.cell?_of_block (N.out.other g aQ (fun e=>by cases e))).trans iF.out);have kW:=(World.frozen?_of_block (a:=⟨g,j*2+1,none⟩) (aB.other g (Qxj N.out.size) (cR.out g aQ))).trans ((World.frozen?_of_block (a:=⟨g,j*2+1,none⟩) (N.out.other g aQ (fun e=>by cases e))).trans iC.out);have aT:=Qq bF;have bA:=Qq aB;clear bF aB)
   have cH:([]++r.rows++[u]).length=mr+1:=by rw [Ql,fJ.out];rfl
   have gO:=aA.out.below (N.out.below.trans bA.out.below)
   have jR:Sl Zc (But (fun b=>J<=b) (.slice (some ⟨g,0,none⟩) n A)) w6 (.slice p6 (mr+1) c6) ([]++r.rows++[u]):=aT.out.sl' (by rw [cH];omega) (fun b hb=>by
    have:=(aT.out.row.lt b hb).1;have:=aK.out.size
    exact ⟨by show J<=b;omega,fun e=>by have e':b=g:=Qb e;omega⟩) (fun b _ h=>h.1)
   obtain ⟨gF,jG⟩:=Rl (zs:=[]++r.rows++[u]) O.out gO HR.out (rv':=.slice p6 (mr+1) c6) jR ⟨p6,c6,by rw [cH],by rw [cH];exact aT.out.cap.2⟩
   have jJ:Kz s (5+(k+1)) (l.set j ⟨r.table,[]++r.rows++[u]⟩):=(V.out.mono Qvu).set HR.out _ (fun v hv=>by
    rcases Z4.1 hv with hv | hv
    ·exact V.out.rows r (Qy HR.out) v (by simpa using hv)
    obtain rfl:=Z5.1 hv
    exact fZ.out) (by rw [cH];omega)
   exact ⟨⟨k+1,_,_,Qvu,rfl,by go_num,⟨_,gF,jJ,by rw [List.length_set,O.out],jG⟩,(aK.out.thn (N.out.below.trans bA.out.below)).setCell (p:=⟨g,j*2+1,none⟩) jK _⟩,by simp [intOf];omega⟩
  have jO:(z4==0)=false:=by simpa using bR
  have cQ:=Qq ((H7 (fun b=>J<=b) (.slice (some ⟨g,0,none⟩) n A) l t.name u (Qxf u x3 y3 x4 y4) D dO.out (gC.out.move (.refl _ _) (fun b _ h=>h.1.1)) (by rw [O.out];omega) (fun r hr=>by have:=V.out.few r hr;omega)).mono (R':=fun e w2=>∃ p cap css,e=.returned (.slice p n cap)/\Own Ym 42 (fun b=>J<=b) J w2 (.slice p n cap) (Js l t.name u) css/\Below D D w2) (by
   rintro e w2 ⟨p,cap,css,rfl,x1,x2⟩
   have jV:=aK.out.size
   rw [Fx,O.out] at x1 |-
   exact ⟨p,cap,css,rfl,x1.weak Qvu (fun b _ h=>h.elim id (fun h=>by show J<=b;omega)),x2⟩))
  unfold sv at cQ
  go_wp2_with (first
    | (go_at_call 31;refine HF.out.mono ?_;rintro e w' ⟨rfl,rfl⟩)
    | (go_at_call 28;refine (bZ.out _ cT.out).mono ?_;rintro e w' ⟨rfl,rfl⟩)
    | (go_at_call 32;refine cQ.out.mono ?_;rintro e lQ ⟨p9,kN,gI,rfl,gP,cZ⟩;have iK:=Qq gP;have fE:=Qq cZ;clear gP cZ))
  go_roundw
  case measure=>simp [intOf];omega
  case rel=>exact ⟨k+1,_,_,Qvu,rfl,by go_num,⟨_,gI,(V.out.ins t.name u fZ.out),by rw [Fx,O.out],iK.out⟩,aK.out.thn fE.out⟩
 have lD:k=cn:=Qvu
 have hq:¬ (k:Int)<(cn:Int):=Qvu
 obtain ⟨l,css,U,bJ,hO⟩:=fI.out
 have aP:=hO.cap
 have aV:Sl Ym (fun b=>w<=b) wr (.slice pa n A) l:=by
  have:=hO.sl (S':=fun b=>w<=b) Qvu (fun b h=>by show w<=b;omega) (fun b _ h=>by show w<=b;have h':J.heap.size<=b:=h;omega)
  exact this
 obtain ⟨p5,c5,aF,bO,bI⟩:=Mh (P:=prog) 29 42 underlying29 sizeOf42 aV aP.2 1 Qvu
 have eI:∀ W,(Instr.slice 29 (.slice pa n A) (some (.int .i64 1)) none none).run prog W=.ok (.slice p5 (n - 1) c5) W:=aF
 obtain ⟨dM,N,dN,O,kU⟩:=Qxp bO bI aV bJ HN.out
 have V:=Qq (show ∀ r ∈ l,(∀ v ∈ r.rows,Vo v)/\r.rows.length<=8 from fun r hr=>⟨U.rows r hr,by have:=U.few r hr;omega⟩)
 have fV:=Qq U.tabs
 clear aP aV bO bI U hO aF bJ
 go_upto_region 17 with (go_at_call 28;refine (bY.out _ Y.out).mono ?_;rintro e w' ⟨rfl,rfl⟩)
 by_cases hz:eZ=0
 ·have jP:(eZ==0)=true:=by rw [hz];rfl
  go_wp2_with (go_at_call 28;refine (aL.out _ Y.out).mono ?_;rintro e w' ⟨rfl,rfl⟩)
  go_ret
  exact ⟨l.drop 1,p5,c5,by rw [N.out];rfl,fun r hr=>V.out r (Zw hr),by rw [N.out,HN.out];omega,⟨1,by rw [List.map_drop,fV.out]⟩,by rw [N.out];exact dM.out,Y.out⟩
 have jP:(eZ==0)=false:=by simpa using hz
 go_wp2_with (go_at_call 28;refine (aL.out _ Y.out).mono ?_;rintro e w' ⟨rfl,rfl⟩)
 go_ret
 exact ⟨l,pa,A,by rw [O.out];rfl,V.out,by rw [O.out,HN.out];exact Q9 _,⟨0,by rw [fV.out];rfl⟩,by rw [O.out];exact dN.out,Y.out⟩
end Go.Proofs.YtlanplhphiikjaaGreatDoor

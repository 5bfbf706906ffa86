import Derived.Test.YtcljcblceodciaaGreatDoorU24
set_option maxRecDepth 100000
set_option maxHeartbeats 400000000
namespace Go.Proofs.YtcljcblceodciaaGreatDoor
open Go.RowKit Go.Shelf Go.Lib Tryz
theorem Vd (nm:Bs) (n:Int) (s:Bs) (names binds:List Bs) (kids:List Ex) (a z:Int) (d:Nat) (h2:kids.length=2) (hm:nm=[61,61]\/nm=[33,61]\/nm=[60]\/nm=[60,61]\/nm=[43]\/nm=[45]\/nm=[42]) (ih:∀ x ∈ kids,Xl d x) :∀ (S:Nat->Prop) (ce:List Value) (nv vv:Value) (ns:List Bs) (vs:List Val) (w:World),Yx S w ce (.mk 14 nm n s names binds kids a z)->Sl Zh S w nv ns->Sl Zd S w vv vs->ns.length<=vs.length->vs.length+(d+1)<=1000->(∀ v ∈ vs,Y0 v) ->
  Calls prog 154 #[ce,nv,vv] w (Vj S w):=by
 intro S ce nv vv ns vs w T cZ dC bR hd hb
 have hx:Yx (fun b=>S b/\b<w) w ce (.mk 14 nm n s names binds kids a z):=T.move (.refl _ _) (fun b hb h=>⟨h,hb⟩)
 have hn:=cZ.up
 have hv:=dC.up
 obtain ⟨np,nc,rfl,_⟩:=hn.len
 obtain ⟨vp,vc,rfl,hD⟩:=hv.len
 have fN:=Qq hx
 obtain ⟨hJ,bv,kv,rfl,hB,hC,cC,cB,hk⟩:=Yy.1 hx
 obtain ⟨p1,c1,rfl,_⟩:=cC.len
 obtain ⟨p2,c2,rfl,_⟩:=cB.len
 obtain ⟨p3,c3,rfl,hA⟩:=hk.len
 obtain ⟨HN,HV,cJ,fM,fJ,HK,HI,bL⟩:=Qjy hn hv hb cC cB hk ih bR
 clear T cZ dC hx hn hv cC cB hk hb ih bR
 unfold sv at *
 rw [h2] at HK |-
 have HM:=Qq hm
 have n0:¬ nm=[97,110,100]:=by rcases hm with rfl | rfl | rfl | rfl | rfl | rfl | rfl <;> decide
 have m0:(nm==[97,110,100])=false:=by rcases hm with rfl | rfl | rfl | rfl | rfl | rfl | rfl <;> rfl
 have n1:¬ nm=[111,114]:=by rcases hm with rfl | rfl | rfl | rfl | rfl | rfl | rfl <;> decide
 have m1:(nm==[111,114])=false:=by rcases hm with rfl | rfl | rfl | rfl | rfl | rfl | rfl <;> rfl
 have n2:¬ nm=[110,111,116]:=by rcases hm with rfl | rfl | rfl | rfl | rfl | rfl | rfl <;> decide
 have m2:(nm==[110,111,116])=false:=by rcases hm with rfl | rfl | rfl | rfl | rfl | rfl | rfl <;> rfl
 clear hm
 obtain ⟨x0,T⟩:∃ x,kids[0]?=some x:=⟨_,Qx C7⟩
 obtain ⟨hE,hH,gE,gI,gG,gK,fW,gO,gU,fY,gQ,gW,gA,gS,gY,gC,gM,dA,bP,bA,aG,aI,aK,aM,aO,aQ,aS,aU,aW⟩:=HK.out.ex T
 subst dA
 simp only [Nat.zero_mul,Nat.add_zero] at aG aI aK aM aO aQ aS aU aW
 have eH:=Qq (fun W (hW:Below w w W)=>HI.out x0 (Qy T) (fun b=>S b/\b<w) _ _ _ ns vs W (bA.move (.of_below hW) Qje) (HN.out.below hW) (HV.out.below hW) bL.out C7 cJ.out)
 have fD:=Qq bA;have fK:=Qq (Qy T)
 have eD:=Qq (Qe bP (Qe aG (Qe aI (Qe aK (Qe aM (Qe aO (Qe aQ (Qe aS (Qe aU aW)))))))))
 clear bA T bP aG aI aK aM aO aQ aS aU aW
 obtain ⟨x1,bK⟩:∃ x,kids[1]?=some x:=⟨_,Qx C7⟩
 obtain ⟨hF,hI,gF,gJ,gH,gL,fX,gP,gV,fZ,gR,gX,gB,gT,gZ,gD,gN,bS,bQ,bB,aH,aJ,aL,aN,aP,aR,aT,aV,aX⟩:=HK.out.ex bK
 simp only [Zv,Addr.mk.injEq,and_true] at bS
 obtain ⟨rfl,rfl⟩:=bS
 simp only [Nat.one_mul] at aH aJ aL aN aP aR aT aV aX
 have eI:=Qq (fun W (hW:Below w w W)=>HI.out x1 (Qy bK) (fun b=>S b/\b<w) _ _ _ ns vs W (bB.move (.of_below hW) Qje) (HN.out.below hW) (HV.out.below hW) bL.out C7 cJ.out)
 have fE:=Qq bB;have fL:=Qq (Qy bK)
 have eE:=Qq (Qe bQ (Qe aH (Qe aJ (Qe aL (Qe aN (Qe aP (Qe aR (Qe aT (Qe aV aX)))))))))
 clear bB bK bQ aH aJ aL aN aP aR aT aV aX
 go_enter func154,ntmps154
 go_upto_region 3 with fail
 generalize bJ:(w.alloc _).alloc _=W1
 have cV:=eqB bJ (Zu _ _ _)
 have cU:=eqH (b:=w.heap.size) bJ (Q5 _ _ _)
 have bY:=eqH (b:=w.heap.size+1) bJ (Q6 _ _ _)
 obtain ⟨A,aD,aE⟩:=Qjq cV cU bY
 have O:=Z8 bY
 clear bJ cV cU bY
 have bM:=((Qq (Qz W1 W1)).out.block _ (Z8 aD.out)).trans aD.out
 have c6:=rA6 bM
 clear bM
 obtain ⟨J,q0,q1,q2,q3,q4,q5,q6,q7,q8⟩:=eD.out
 have aG:=kD A.out J q0;have aI:=kD A.out J q1;have aK:=kD A.out J q2;have aM:=kD A.out J q3;have aO:=kD A.out J q4;have aQ:=kD A.out J q5;have aS:=kD A.out J q6;have aU:=kD A.out J q7;have aW:=kD A.out J q8
 clear J q0 q1 q2 q3 q4 q5 q6 q7 q8
 go_upto_region 4 with (go_at_call 109;refine (eH.out _ A.out).mono ?_;rintro e w5 ⟨k5,n5,s5,bG,dI,bE,bH,dK,bF,b5,rfl,dD,cW⟩;have eL:=Qq dD;have eF:=Qq cW;clear dD cW)
 generalize bW:w5.alloc _=W6
 have bZ:=eqB bW (Zg _ _)
 have cS:=eqH (b:=w5.heap.size) bW (Qw _ _)
 obtain ⟨D,aB,cL⟩:=Qjq (eF.out.thn bZ) cS bZ
 clear bW bZ cS
 have fF:w.heap.size+1<W6.heap.size:=C8 D.out.size
 clear c6 aG aI aK aM aO aQ aS aU aW
 have aY:=kB D.out aD.out
 have c1:=rA1 aY;have c6:=rA6 aY
 clear aY
 cases b5 with
 | false=>
  obtain ⟨v0,v1,v2,v3,v4⟩:=row5 aB.out
  have V:=kE D.out O aE.out
  obtain ⟨y0,y1,y2,y3,y4⟩:=row5 V
  obtain ⟨f0,f1,f2,f3,f4⟩:=frz5 V
  have cN:=Qq V
  clear V
  go_wp2_with fail
  show bodyPost _ _ _ _ _ (Zi W6 (w+1) k5 n5 (.string s5) (.slice bG dI bE) (.slice bH dK bF))
  refine Q7 (v:=.tuple #[.agg #[k5,n5,.string s5,.slice bG dI bE,.slice bH dK bF],.bool false]) (by simp [results,results154,go_sem,Ze cN.out]) rfl (Xr C7 (A.out.thn D.out))
 | true=>
  obtain ⟨v0,v1,v2,v3,v4⟩:=row5 aB.out
  obtain ⟨J,q0,q1,q2,q3,q4,q5,q6,q7,q8⟩:=eE.out
  have aH:=kD (A.out.thn D.out) J q0;have aJ:=kD (A.out.thn D.out) J q1;have aL:=kD (A.out.thn D.out) J q2;have aN:=kD (A.out.thn D.out) J q3;have aP:=kD (A.out.thn D.out) J q4;have aR:=kD (A.out.thn D.out) J q5;have aT:=kD (A.out.thn D.out) J q6;have aV:=kD (A.out.thn D.out) J q7;have aX:=kD (A.out.thn D.out) J q8
  clear J q0 q1 q2 q3 q4 q5 q6 q7 q8
  go_upto_region 12 with (go_at_call 109;refine (eI.out _ (A.out.thn D.out)).mono ?_;rintro e w7 ⟨k7,n7,s7,cF,dJ,cD,cG,dL,cE,b7,rfl,dE,cX⟩;have eM:=Qq dE;have eG:=Qq cX;clear dE cX)
  generalize bX:w7.alloc _=W8
  have cA:=eqB bX (Zg _ _)
  have cT:=eqH (b:=w7.heap.size) bX (Qw _ _)
  obtain ⟨bI,aC,cM⟩:=Qjq (eG.out.thn cA) cT cA
  clear bX cA cT
  have fG:w.heap.size+1<W8.heap.size:=C8 bI.out.size
  clear aH aJ aL aN aP aR aT aV aX
  have U:=Qq (D.out.thn bI.out)
  clear c1 c6 v0 v1 v2 v3 v4
  have aZ:=kB U.out aD.out
  have c1:=rA1 aZ;have c6:=rA6 aZ
  clear aZ
  cases b7 with
  | false=>
   obtain ⟨u0,u1,u2,u3,u4⟩:=row5 aC.out
   have Y:=kE U.out O aE.out
   obtain ⟨y0,y1,y2,y3,y4⟩:=row5 Y
   obtain ⟨f0,f1,f2,f3,f4⟩:=frz5 Y
   have cO:=Qq Y
   clear Y
   go_wp2_with fail
   show bodyPost _ _ _ _ _ (Zi W8 (w+1) k7 n7 (.string s7) (.slice cF dJ cD) (.slice cG dL cE))
   refine Q7 (v:=.tuple #[.agg #[k7,n7,.string s7,.slice cF dJ cD,.slice cG dL cE],.bool false]) (by simp [results,results154,go_sem,Ze cO.out]) rfl (Xr C7 (A.out.thn U.out))
  | true=>
   obtain ⟨v,bD,bU⟩:=eL.out (by first | rfl | trivial)
   obtain ⟨fP,fT,fR,fV,bO,-,-,fI⟩:=Z9.cells bD
   simp only [vcs,List.cons.injEq,Value.int.injEq,Value.string.injEq,Qr,true_and,and_true] at bO
   obtain ⟨rfl,rfl,rfl,⟨rfl,rfl,rfl⟩,rfl,rfl,rfl⟩:=bO
   have eQ:=Qq bD;have fC:=Qq bU
   clear bD bU
   obtain ⟨u,bC,bT⟩:=eM.out (by first | rfl | trivial)
   obtain ⟨fO,fS,fQ,fU,bN,-,-,fH⟩:=Z9.cells bC
   simp only [vcs,List.cons.injEq,Value.int.injEq,Value.string.injEq,Qr,true_and,and_true] at bN
   obtain ⟨rfl,rfl,rfl,⟨rfl,rfl,rfl⟩,rfl,rfl,rfl⟩:=bN
   have eP:=Qq bC;have fB:=Qq bT
   clear bC bT
   have HC:=Qq (fun W (hW:Below W8 W8 W)=>Eh _ _ v u (Cn v bG bE bH bF) (Cn u cF cD cG cE) W (eQ.out.move (.of_below ((cL.out.thn bI.out).thn hW)) Qje) (eP.out.move (.of_below (cM.out.thn hW)) Qje))
   generalize Yv v u=c at HC
   have dF:=kB bI.out aB.out
   have cK:=Qq dF
   clear dF
   obtain ⟨v0,v1,v2,v3,v4⟩:=row5 cK.out
   obtain ⟨u0,u1,u2,u3,u4⟩:=row5 aC.out
   go_upto_region 17 with (go_at_call 32;refine (HC.out _ (Qz _ _)).mono ?_;rintro e w9 ⟨rfl,cY⟩;have bV:=Qq (show Below W8 W8 w9 from cY.bl);clear cY)
   clear c1 c6
   have M:=Qq (U.out.thn bV.out)
   have dH:=kB M.out aD.out
   have dG:=kB bV.out cK.out
   have dB:=kB bV.out aC.out
   obtain ⟨eO,eN,eK⟩:=Qjq dH dG dB
   clear dH dG dB v0 v1 v2 v3 v4 u0 u1 u2 u3 u4
   have c1:=rA1 eO.out
   obtain ⟨v0,v1,v2,v3,v4⟩:=row5 eN.out
   obtain ⟨u0,u1,u2,u3,u4⟩:=row5 eK.out
   rcases HM.out with rfl | rfl | rfl | rfl | hq
   iterate 4
    focus
     go_wp2_with (go_at_call 151;refine (Gz _ _).mono ?_;rintro e cH ⟨X,hX,rfl,N⟩;have G:=M.out.thn N;have I:=kE (G) O aE.out;obtain ⟨y0,y1,y2,y3,y4⟩:=row5 I;obtain ⟨f0,f1,f2,f3,f4⟩:=frz5 I;have aF:=Qq I;clear I;have aA:=Qq G;clear N G)
     show bodyPost _ _ _ _ _ (Zi cH (w+1) (.int .i64 2) X Cl Cm Cm)
     refine Q7 (v:=.tuple #[.agg #[.int .i64 2,X,Cl,Cm,Cm],.bool true]) (by simp [results,results154,go_sem,Ze aF.out]) rfl (Ui A.out C7 O (fun _=>⟨_,Y5 (s:=[]) Ca (Sl.nil _ _ _) (Sl.nil _ _ _),Dc hX⟩) aA.out)
   have eT:(v.kind != 0)=true\/((v.kind != 0)=false/\(u.kind != 0)=true)\/((v.kind != 0)=false/\(u.kind != 0)=false):=by
    cases (v.kind != 0) <;> cases (u.kind != 0) <;> simp
   rcases hq with rfl | rfl | rfl
   all_goals
    rcases eT with hq1 | ⟨hq1,hq2⟩ | ⟨hq1,hq2⟩
    iterate 2
     focus
      have Z:=kE M.out O aE.out
      obtain ⟨y0,y1,y2,y3,y4⟩:=row5 Z
      obtain ⟨f0,f1,f2,f3,f4⟩:=frz5 Z
      have cP:=Qq Z
      clear Z
      go_wp2_with fail
      show bodyPost _ _ _ _ _ (Cu w9 (w+1) v bG bE bH bF)
      refine Q7 (v:=.tuple #[.agg (Cn v bG bE bH bF),.bool false]) (by simp [results,results154,go_sem,Ze cP.out]) rfl (Xr C7 (A.out.thn M.out))
    focus
     go_wp2_with (go_at_call 150;refine (Oo _ _).mono ?_;rintro e cH ⟨X,hX,rfl,N⟩;have G:=M.out.thn N;have I:=kE (G) O aE.out;obtain ⟨y0,y1,y2,y3,y4⟩:=row5 I;obtain ⟨f0,f1,f2,f3,f4⟩:=frz5 I;have aF:=Qq I;clear I;have aA:=Qq G;clear N G)
     show bodyPost _ _ _ _ _ (Zi cH (w+1) Ci X Cl Cm Cm)
     refine Q7 (v:=.tuple #[.agg #[Ci,X,Cl,Cm,Cm],.bool true]) (by simp [results,results154,go_sem,Ze aF.out]) rfl (Ui A.out C7 O (fun _=>⟨_,Y5 (s:=[]) Ca (Sl.nil _ _ _) (Sl.nil _ _ _),Ei X⟩) aA.out)
theorem Od (X:World) (p:Addr):X.drew.cell? p=X.cell? p:=rfl
theorem Ya {W:World} {R b j:Nat} {x0 x1 x2 x3 x4 u:Value} (h:b≠R) (hc:W.cell? ⟨b,j,none⟩=some u):(Zi W R x0 x1 x2 x3 x4).drew.cell? ⟨b,j,none⟩=some u:=(Od _ _).trans (Zn h hc)
theorem Cy (nm:Bs) (hnm:nm=[110,111,116]) (n:Int) (s:Bs) (names binds:List Bs) (kids:List Ex) (a z:Int) (d:Nat) (h2:kids.length=1) (ih:∀ x ∈ kids,Xl d x) :∀ (S:Nat->Prop) (ce:List Value) (nv vv:Value) (ns:List Bs) (vs:List Val) (w:World),Yx S w ce (.mk 14 nm n s names binds kids a z)->Sl Zh S w nv ns->Sl Zd S w vv vs->ns.length<=vs.length->vs.length+(d+1)<=1000->(∀ v ∈ vs,Y0 v) ->
  Calls prog 154 #[ce,nv,vv] w (Vj S w):=by
 subst hnm
 intro S ce nv vv ns vs w J bI bK aS hd hb
 have hx:Yx (fun b=>S b/\b<w) w ce (.mk 14 [110,111,116] n s names binds kids a z):=J.move (.refl _ _) (fun b hb h=>⟨h,hb⟩)
 have hn:=bI.up
 have hv:=bK.up
 obtain ⟨np,nc,rfl,_⟩:=hn.len
 obtain ⟨vp,vc,rfl,cZ⟩:=hv.len
 have cH:=Qq hx
 obtain ⟨dC,bv,kv,rfl,hnm,cY,aZ,aY,hk⟩:=Yy.1 hx
 obtain ⟨p1,c1,rfl,_⟩:=aZ.len
 obtain ⟨p2,c2,rfl,_⟩:=aY.len
 obtain ⟨p3,c3,rfl,cX⟩:=hk.len
 obtain ⟨HN,HV,bR,cF,cD,HK,HI,bC⟩:=Qjy hn hv hb aZ aY hk ih aS
 clear J bI bK hx hn hv aZ aY hk hb ih aS
 unfold sv at *
 rw [h2] at HK |-
 obtain ⟨x0,J⟩:∃ x,kids[0]?=some x:=⟨_,Qx C7⟩
 obtain ⟨dA,dB,cM,cO,cN,cP,cI,cR,cU,cJ,cS,cV,cK,cT,cW,cL,cQ,bJ,aR,aF,T,U,V,Y,Z,aA,aB,aC,aD⟩:=HK.out.ex J
 subst bJ
 simp only [Nat.zero_mul,Nat.add_zero] at T U V Y Z aA aB aC aD
 have bS:=Qq (fun W (hW:Below w w W)=>HI.out x0 (Qy J) (fun b=>S b/\b<w) _ _ _ ns vs W (aF.move (.of_below hW) Qje) (HN.out.below hW) (HV.out.below hW) bC.out C7 bR.out)
 have cB:=Qq aF;have cE:=Qq (Qy J)
 have bP:=Qq (Qe aR (Qe T (Qe U (Qe V (Qe Y (Qe Z (Qe aA (Qe aB (Qe aC aD)))))))))
 clear aF J aR T U V Y Z aA aB aC aD
 go_enter func154,ntmps154
 go_upto_region 3 with fail
 generalize aH:(w.alloc _).alloc _=W1
 have bG:=eqB aH (Zu _ _ _)
 have bF:=eqH (b:=w.heap.size) aH (Q5 _ _ _)
 have aW:=eqH (b:=w.heap.size+1) aH (Q6 _ _ _)
 obtain ⟨D,aT,aU⟩:=Qjq bG bF aW
 have aI:=Z8 aW
 clear aH bG bF aW
 have aP:=((Qq (Qz W1 W1)).out.block _ (Z8 aT.out)).trans aT.out
 have c6:=rA6 aP
 clear aP
 obtain ⟨qb,q0,q1,q2,q3,q4,q5,q6,q7,q8⟩:=bP.out
 have T:=kD D.out qb q0;have U:=kD D.out qb q1;have V:=kD D.out qb q2;have Y:=kD D.out qb q3;have Z:=kD D.out qb q4;have aA:=kD D.out qb q5;have aB:=kD D.out qb q6;have aC:=kD D.out qb q7;have aD:=kD D.out qb q8
 clear qb q0 q1 q2 q3 q4 q5 q6 q7 q8
 go_upto_region 4 with (go_at_call 109;refine (bS.out _ D.out).mono ?_;rintro e w5 ⟨k5,n5,s5,aN,aL,aJ,aO,aM,aK,b5,rfl,bL,bH⟩;have cG:=Qq bL;have bQ:=Qq bH;clear bL bH)
 generalize aV:w5.alloc _=W6
 have aX:=eqB aV (Zg _ _)
 have bE:=eqH (b:=w5.heap.size) aV (Qw _ _)
 obtain ⟨G,N,cA⟩:=Qjq (bQ.out.thn aX) bE aX
 clear aV aX bE
 have cC:w.heap.size+1<W6.heap.size:=C8 G.out.size
 clear c6 T U V Y Z aA aB aC aD
 have aE:=kB G.out aT.out
 have c1:=rA1 aE;have c6:=rA6 aE
 clear aE
 have bW:b5=false\/(b5=true/\(k5 != 2)=true)\/(b5=true/\k5=2):=by
  cases b5 with
  | false=>exact .inl rfl
  | true=>
   by_cases h:k5=2
   ·exact .inr (.inr ⟨rfl,h⟩)
   exact .inr (.inl ⟨rfl,by simpa using h⟩)
 rcases bW with rfl | ⟨rfl,hq⟩ | ⟨rfl,rfl⟩
 focus
  obtain ⟨v0,v1,v2,v3,v4⟩:=row5 N.out
  have A:=kE G.out aI aU.out
  obtain ⟨y0,y1,y2,y3,y4⟩:=row5 A
  obtain ⟨f0,f1,f2,f3,f4⟩:=frz5 A
  have O:=Qq A
  clear A
  go_wp2_with fail
  show bodyPost _ _ _ _ _ (Zi W6 (w+1) k5 n5 (.string s5) (.slice aN aL aJ) (.slice aO aM aK))
  refine Q7 (v:=.tuple #[.agg #[k5,n5,.string s5,.slice aN aL aJ,.slice aO aM aK],.bool false]) (by simp [results,results154,go_sem,Ze O.out]) rfl (Xr C7 (D.out.thn G.out))
 focus
  obtain ⟨v0,v1,v2,v3,v4⟩:=row5 N.out
  have A:=kE G.out aI aU.out
  obtain ⟨y0,y1,y2,y3,y4⟩:=row5 A
  obtain ⟨f0,f1,f2,f3,f4⟩:=frz5 A
  have O:=Qq A
  clear A
  go_wp2_with fail
  show bodyPost _ _ _ _ _ (Zi W6 (w+1) k5 n5 (.string s5) (.slice aN aL aJ) (.slice aO aM aK))
  refine Q7 (v:=.tuple #[.agg #[k5,n5,.string s5,.slice aN aL aJ,.slice aO aM aK],.bool false]) (by simp [results,results154,go_sem,Ze O.out]) rfl (Xr C7 (D.out.thn G.out))
 focus
  obtain ⟨v0,v1,v2,v3,v4⟩:=row5 N.out
  have hq:((2:Int) != 2)=false:=rfl
  go_wp2_with (go_at_call 151;refine (Gz _ _).mono ?_;rintro e bZ ⟨X,hX,rfl,aQ⟩;have I:=G.out.thn aQ;have M:=kE (I) aI aU.out;obtain ⟨y0,y1,y2,y3,y4⟩:=row5 M;obtain ⟨f0,f1,f2,f3,f4⟩:=frz5 M;have bD:=Qq M;clear M;have bB:=Qq I;clear aQ I)
  show bodyPost _ _ _ _ _ (Zi bZ (w+1) (.int .i64 2) X Cl Cm Cm)
  refine Q7 (v:=.tuple #[.agg #[.int .i64 2,X,Cl,Cm,Cm],.bool true]) (by simp [results,results154,go_sem,Ze bD.out]) rfl (Ui D.out C7 aI (fun _=>⟨_,Y5 (s:=[]) Ca (Sl.nil _ _ _) (Sl.nil _ _ _),Dc hX⟩) bB.out)
theorem Tl (nm:Bs) (hnm:nm=[97,110,100]) (n:Int) (s:Bs) (names binds:List Bs) (kids:List Ex) (a z:Int) (d:Nat) (h2:kids.length=2) (ih:∀ x ∈ kids,Xl d x) :∀ (S:Nat->Prop) (ce:List Value) (nv vv:Value) (ns:List Bs) (vs:List Val) (w:World),Yx S w ce (.mk 14 nm n s names binds kids a z)->Sl Zh S w nv ns->Sl Zd S w vv vs->ns.length<=vs.length->vs.length+(d+1)<=1000->(∀ v ∈ vs,Y0 v) ->
  Calls prog 154 #[ce,nv,vv] w (Vj S w):=by
 subst hnm
 intro S ce nv vv ns vs w aC dK dM bS hd hb
 have hx:Yx (fun b=>S b/\b<w) w ce (.mk 14 [97,110,100] n s names binds kids a z):=aC.move (.refl _ _) (fun b hb h=>⟨h,hb⟩)
 have hn:=dK.up
 have hv:=dM.up
 obtain ⟨np,nc,rfl,_⟩:=hn.len
 obtain ⟨vp,vc,rfl,gN⟩:=hv.len
 have fG:=Qq hx
 obtain ⟨gS,bv,kv,rfl,hnm,gM,cI,cG,hk⟩:=Yy.1 hx
 obtain ⟨p1,c1,rfl,_⟩:=cI.len
 obtain ⟨p2,c2,rfl,_⟩:=cG.len
 obtain ⟨p3,c3,rfl,gL⟩:=hk.len
 obtain ⟨HN,HV,cV,fF,fC,HK,HI,bM⟩:=Qjy hn hv hb cI cG hk ih bS
 clear aC dK dM hx hn hv cI cG hk hb ih bS
 unfold sv at *
 rw [h2] at HK |-
 obtain ⟨x0,aC⟩:∃ x,kids[0]?=some x:=⟨_,Qx C7⟩
 obtain ⟨gO,gQ,fP,fT,fR,fV,fH,fZ,gF,fJ,gB,gH,fL,gD,gJ,fN,fX,dL,bQ,bH,aM,aO,aQ,aS,aU,aW,aY,bA,bC⟩:=HK.out.ex aC
 subst dL
 simp only [Nat.zero_mul,Nat.add_zero] at aM aO aQ aS aU aW aY bA bC
 have eL:=Qq (fun W (hW:Below w w W)=>HI.out x0 (Qy aC) (fun b=>S b/\b<w) _ _ _ ns vs W (bH.move (.of_below hW) Qje) (HN.out.below hW) (HV.out.below hW) bM.out C7 cV.out)
 have eY:=Qq bH;have fD:=Qq (Qy aC)
 have eI:=Qq (Qe bQ (Qe aM (Qe aO (Qe aQ (Qe aS (Qe aU (Qe aW (Qe aY (Qe bA bC)))))))))
 clear bH aC bQ aM aO aQ aS aU aW aY bA bC
 obtain ⟨x1,bL⟩:∃ x,kids[1]?=some x:=⟨_,Qx C7⟩
 obtain ⟨gP,gR,fQ,fU,fS,fW,fI,gA,gG,fK,gC,gI,fM,gE,gK,fO,fY,bT,bR,bI,aN,aP,aR,aT,aV,aX,aZ,bB,bD⟩:=HK.out.ex bL
 simp only [Zv,Addr.mk.injEq,and_true] at bT
 obtain ⟨rfl,rfl⟩:=bT
 simp only [Nat.one_mul] at aN aP aR aT aV aX aZ bB bD
 have eM:=Qq (fun W (hW:Below w w W)=>HI.out x1 (Qy bL) (fun b=>S b/\b<w) _ _ _ ns vs W (bI.move (.of_below hW) Qje) (HN.out.below hW) (HV.out.below hW) bM.out C7 cV.out)
 have eZ:=Qq bI;have fE:=Qq (Qy bL)
 have eJ:=Qq (Qe bR (Qe aN (Qe aP (Qe aR (Qe aT (Qe aV (Qe aX (Qe aZ (Qe bB bD)))))))))
 clear bI bL bR aN aP aR aT aV aX aZ bB bD
 go_enter func154,ntmps154
 go_upto_region 3 with fail
 generalize bK:(w.alloc _).alloc _=W1
 have dH:=eqB bK (Zu _ _ _)
 have dG:=eqH (b:=w.heap.size) bK (Q5 _ _ _)
 have cD:=eqH (b:=w.heap.size+1) bK (Q6 _ _ _)
 obtain ⟨A,bJ,aE⟩:=Qjq dH dG cD
 have aF:=Z8 cD
 clear bK dH dG cD
 have bP:=((Qq (Qz W1 W1)).out.block _ (Z8 bJ.out)).trans bJ.out
 have c6:=rA6 bP
 clear bP
 obtain ⟨N,q0,q1,q2,q3,q4,q5,q6,q7,q8⟩:=eI.out
 have aM:=kD A.out N q0;have aO:=kD A.out N q1;have aQ:=kD A.out N q2;have aS:=kD A.out N q3;have aU:=kD A.out N q4;have aW:=kD A.out N q5;have aY:=kD A.out N q6;have bA:=kD A.out N q7;have bC:=kD A.out N q8
 clear N q0 q1 q2 q3 q4 q5 q6 q7 q8
 go_upto_region 4 with (go_at_call 109;refine (eL.out _ A.out).mono ?_;rintro e w5 ⟨k5,n5,s5,aK,aI,aG,aL,aJ,aH,b5,rfl,dN,dI⟩;have cW:=Qq dN;have eK:=Qq dI;clear dN dI)
 generalize cB:w5.alloc _=W6
 have cE:=eqB cB (Zg _ _)
 have dE:=eqH (b:=w5.heap.size) cB (Qw _ _)
 obtain ⟨I,aD,cX⟩:=Qjq (eK.out.thn cE) dE cE
 clear cB cE dE
 have fA:w.heap.size+1<W6.heap.size:=C8 I.out.size
 clear c6 aM aO aQ aS aU aW aY bA bC
 have bE:=kB I.out bJ.out
 have c1:=rA1 bE;have c6:=rA6 bE
 clear bE
 have eT:b5=false\/(b5=true/\(k5 != 2)=true)\/(b5=true/\k5=2):=by
  cases b5 with
  | false=>exact .inl rfl
  | true=>
   by_cases h:k5=2
   ·exact .inr (.inr ⟨rfl,h⟩)
   exact .inr (.inl ⟨rfl,by simpa using h⟩)
 rcases eT with rfl | ⟨rfl,hq⟩ | ⟨rfl,rfl⟩
 focus
  obtain ⟨v0,v1,v2,v3,v4⟩:=row5 aD.out
  have D:=kE I.out aF aE.out
  obtain ⟨y0,y1,y2,y3,y4⟩:=row5 D
  obtain ⟨f0,f1,f2,f3,f4⟩:=frz5 D
  have O:=Qq D
  clear D
  go_wp2_with fail
  show bodyPost _ _ _ _ _ (Zi W6 (w+1) k5 n5 (.string s5) (.slice aK aI aG) (.slice aL aJ aH))
  refine Q7 (v:=.tuple #[.agg #[k5,n5,.string s5,.slice aK aI aG,.slice aL aJ aH],.bool false]) (by simp [results,results154,go_sem,Ze O.out]) rfl (Xr C7 (A.out.thn I.out))
 focus
  obtain ⟨v0,v1,v2,v3,v4⟩:=row5 aD.out
  have D:=kE I.out aF aE.out
  obtain ⟨y0,y1,y2,y3,y4⟩:=row5 D
  obtain ⟨f0,f1,f2,f3,f4⟩:=frz5 D
  have O:=Qq D
  clear D
  go_wp2_with fail
  show bodyPost _ _ _ _ _ (Zi W6 (w+1) k5 n5 (.string s5) (.slice aK aI aG) (.slice aL aJ aH))
  refine Q7 (v:=.tuple #[.agg #[k5,n5,.string s5,.slice aK aI aG,.slice aL aJ aH],.bool false]) (by simp [results,results154,go_sem,Ze O.out]) rfl (Xr C7 (A.out.thn I.out))
 have eS:n5=0\/n5=1:=by
  obtain ⟨v,eW,eV⟩:=cW.out rfl
  obtain ⟨h1,h2,_⟩:=eW.head
  rw [<- h2]
  have:=eV.bool h1
  omega
 have hq:((2:Int) != 2)=false:=rfl
 rcases eS with rfl | rfl
 focus
  obtain ⟨v0,v1,v2,v3,v4⟩:=row5 aD.out
  have D:=kE I.out aF aE.out
  obtain ⟨y0,y1,y2,y3,y4⟩:=row5 D
  obtain ⟨f0,f1,f2,f3,f4⟩:=frz5 D
  have O:=Qq D
  clear D
  go_wp2_with fail
  show bodyPost _ _ _ _ _ (Zi W6 (w+1) (.int .i64 2) Ci (.string s5) (.slice aK aI aG) (.slice aL aJ aH))
  refine Q7 (v:=.tuple #[.agg #[.int .i64 2,Ci,.string s5,.slice aK aI aG,.slice aL aJ aH],.bool true]) (by simp [results,results154,go_sem,Ze O.out]) rfl (Ka C7 (A.out.thn I.out) (fun _=>by
   obtain ⟨v,h1,h2⟩:=cW.out (by first | rfl | trivial)
   refine ⟨v,h1.move (.of_below cX.out) (fun c _ hc=>?_),h2⟩
   rcases hc with hc | hc
   ·exact .inl hc
   exact .inr (by have h':W1.heap.size<=c:=hc;omega)))
 focus
  obtain ⟨v0,v1,v2,v3,v4⟩:=row5 aD.out
  obtain ⟨N,q0,q1,q2,q3,q4,q5,q6,q7,q8⟩:=eJ.out
  have aN:=kD (A.out.thn I.out) N q0;have aP:=kD (A.out.thn I.out) N q1;have aR:=kD (A.out.thn I.out) N q2;have aT:=kD (A.out.thn I.out) N q3;have aV:=kD (A.out.thn I.out) N q4;have aX:=kD (A.out.thn I.out) N q5;have aZ:=kD (A.out.thn I.out) N q6;have bB:=kD (A.out.thn I.out) N q7;have bD:=kD (A.out.thn I.out) N q8
  clear N q0 q1 q2 q3 q4 q5 q6 q7 q8
  go_upto_region 12 with (go_at_call 109;refine (eM.out _ (A.out.thn I.out)).mono ?_;rintro e w7 ⟨k7,n7,s7,aA,Y,U,aB,Z,V,b7,rfl,dO,dJ⟩;have eO:=Qq dO;have bW:=Qq dJ;clear dO dJ)
  generalize cC:w7.alloc _=W8
  have cF:=eqB cC (Zg _ _)
  have dF:=eqH (b:=w7.heap.size) cC (Qw _ _)
  obtain ⟨cU,bN,cY⟩:=Qjq (bW.out.thn cF) dF cF
  clear cC cF dF
  have fB:w.heap.size+1<W8.heap.size:=C8 cU.out.size
  clear aN aP aR aT aV aX aZ bB bD
  have M:=Qq (I.out.thn cU.out)
  clear c1 c6 v0 v1 v2 v3 v4 hq
  have bF:=kB M.out bJ.out
  have c1:=rA1 bF;have c6:=rA6 bF
  clear bF
  cases b7 with
  | false=>
   obtain ⟨u0,u1,u2,u3,u4⟩:=row5 bN.out
   have G:=kE M.out aF aE.out
   obtain ⟨y0,y1,y2,y3,y4⟩:=row5 G
   obtain ⟨f0,f1,f2,f3,f4⟩:=frz5 G
   have T:=Qq G
   clear G
   go_wp2_with fail
   show bodyPost _ _ _ _ _ (Zi W8 (w+1) k7 n7 (.string s7) (.slice aA Y U) (.slice aB Z V))
   refine Q7 (v:=.tuple #[.agg #[k7,n7,.string s7,.slice aA Y U,.slice aB Z V],.bool false]) (by simp [results,results154,go_sem,Ze T.out]) rfl (Xr C7 (A.out.thn M.out))
  | true=>
   obtain ⟨u0,u1,u2,u3,u4⟩:=row5 bN.out
   go_upto_region 15 with fail
   by_cases hk:k7=2
   focus
    subst hk
    have hq:((2:Int)==2)=true:=rfl
    have G:=kE M.out aF aE.out
    obtain ⟨y0,y1,y2,y3,y4⟩:=row5 G
    obtain ⟨f0,f1,f2,f3,f4⟩:=frz5 G
    have T:=Qq G
    clear G
    have J:w7≠w.heap.size+1:=by have h1:=I.out.size;have h2:=bW.out.size;omega
    refine let_mvar% ?Lq2:=fun w':World=>(Qjn w' w7 (.int .i64 2) n7 (.string s7) (.slice aA Y U) (.slice aB Z V):Prop);?_
    have bZ:=Qq (show ?Lq2 W8.drew from ⟨u0,u1,u2,u3,u4⟩)
    have HP:∀ x0 x1 x2 x3 x4,?Lq2 (Zi W8 (w+1) x0 x1 x2 x3 x4).drew:=fun x0 x1 x2 x3 x4=>⟨Ya J u0,Ya J u1,Ya J u2,Ya J u3,Ya J u4⟩
    unfold Zi at HP
    have bY:=Qq HP
    clear HP J u0 u1 u2 u3 u4
    go_region_held3 ?Lq2 (first | with_reducible exact bZ.out | with_reducible exact bY.out _ _ _ _ _) (fail)
    all_goals
     go_wp2_with fail
     show bodyPost _ _ _ _ _ (Zi W8 (w+1) (.int .i64 2) n7 (.string s7) (.slice aA Y U) (.slice aB Z V)).drew
     refine Q7 (v:=.tuple #[.agg #[.int .i64 2,n7,.string s7,.slice aA Y U,.slice aB Z V],.bool true]) (by simp [results,results154,go_sem,Ze T.out]) rfl (Ka C7 (A.out.thn M.out) (fun _=>by
      obtain ⟨v,h1,h2⟩:=eO.out (by first | rfl | trivial)
      refine ⟨v,h1.move (.of_below cY.out) (fun c _ hc=>?_),h2⟩
      rcases hc with hc | hc
      ·exact .inl hc
      exact .inr (by have h':W6.heap.size<=c:=hc;omega))).drew
   focus
    have hq:(k7==2)=false:=by rw [<- Qt,beq_iff_eq];exact hk
    clear hk
    have G:=kE M.out aF aE.out
    obtain ⟨y0,y1,y2,y3,y4⟩:=row5 G
    obtain ⟨f0,f1,f2,f3,f4⟩:=frz5 G
    have T:=Qq G
    clear G
    have J:w7≠w.heap.size+1:=by have h1:=I.out.size;have h2:=bW.out.size;omega
    refine let_mvar% ?Lq1:=fun w':World=>(Qjn w' w7 k7 n7 (.string s7) (.slice aA Y U) (.slice aB Z V):Prop);?_
    have bZ:=Qq (show ?Lq1 W8.drew from ⟨u0,u1,u2,u3,u4⟩)
    have HP:∀ x0 x1 x2 x3 x4,?Lq1 (Zi W8 (w+1) x0 x1 x2 x3 x4).drew:=fun x0 x1 x2 x3 x4=>⟨Ya J u0,Ya J u1,Ya J u2,Ya J u3,Ya J u4⟩
    unfold Zi at HP
    have bY:=Qq HP
    clear HP J u0 u1 u2 u3 u4
    go_region_held3 ?Lq1 (first | with_reducible exact bZ.out | with_reducible exact bY.out _ _ _ _ _) (fail)
    all_goals
     go_wp2_with fail
     show bodyPost _ _ _ _ _ (Zi W8 (w+1) k7 n7 (.string s7) (.slice aA Y U) (.slice aB Z V)).drew
     refine Q7 (v:=.tuple #[.agg #[k7,n7,.string s7,.slice aA Y U,.slice aB Z V],.bool false]) (by simp [results,results154,go_sem,Ze T.out]) rfl (Xr C7 (A.out.thn M.out)).drew
theorem roper_or (nm:Bs) (hnm:nm=[111,114]) (n:Int) (s:Bs) (names binds:List Bs) (kids:List Ex) (a z:Int) (d:Nat) (h2:kids.length=2) (ih:∀ x ∈ kids,Xl d x) :∀ (S:Nat->Prop) (ce:List Value) (nv vv:Value) (ns:List Bs) (vs:List Val) (w:World),Yx S w ce (.mk 14 nm n s names binds kids a z)->Sl Zh S w nv ns->Sl Zd S w vv vs->ns.length<=vs.length->vs.length+(d+1)<=1000->(∀ v ∈ vs,Y0 v) ->
  Calls prog 154 #[ce,nv,vv] w (Vj S w):=by
 subst hnm
 intro S ce nv vv ns vs w aC dK dM bS hd hb
 have hx:Yx (fun b=>S b/\b<w) w ce (.mk 14 [111,114] n s names binds kids a z):=aC.move (.refl _ _) (fun b hb h=>⟨h,hb⟩)
 have hn:=dK.up
 have hv:=dM.up
 obtain ⟨np,nc,rfl,_⟩:=hn.len
 obtain ⟨vp,vc,rfl,gN⟩:=hv.len
 have fG:=Qq hx
 obtain ⟨gS,bv,kv,rfl,hnm,gM,cI,cG,hk⟩:=Yy.1 hx
 obtain ⟨p1,c1,rfl,_⟩:=cI.len
 obtain ⟨p2,c2,rfl,_⟩:=cG.len
 obtain ⟨p3,c3,rfl,gL⟩:=hk.len
 obtain ⟨HN,HV,cV,fF,fC,HK,HI,bM⟩:=Qjy hn hv hb cI cG hk ih bS
 clear aC dK dM hx hn hv cI cG hk hb ih bS
 unfold sv at *
 rw [h2] at HK |-
 obtain ⟨x0,aC⟩:∃ x,kids[0]?=some x:=⟨_,Qx C7⟩
 obtain ⟨gO,gQ,fP,fT,fR,fV,fH,fZ,gF,fJ,gB,gH,fL,gD,gJ,fN,fX,dL,bQ,bH,aM,aO,aQ,aS,aU,aW,aY,bA,bC⟩:=HK.out.ex aC
 subst dL
 simp only [Nat.zero_mul,Nat.add_zero] at aM aO aQ aS aU aW aY bA bC
 have eL:=Qq (fun W (hW:Below w w W)=>HI.out x0 (Qy aC) (fun b=>S b/\b<w) _ _ _ ns vs W (bH.move (.of_below hW) Qje) (HN.out.below hW) (HV.out.below hW) bM.out C7 cV.out)
 have eY:=Qq bH;have fD:=Qq (Qy aC)
 have eI:=Qq (Qe bQ (Qe aM (Qe aO (Qe aQ (Qe aS (Qe aU (Qe aW (Qe aY (Qe bA bC)))))))))
 clear bH aC bQ aM aO aQ aS aU aW aY bA bC
 obtain ⟨x1,bL⟩:∃ x,kids[1]?=some x:=⟨_,Qx C7⟩
 obtain ⟨gP,gR,fQ,fU,fS,fW,fI,gA,gG,fK,gC,gI,fM,gE,gK,fO,fY,bT,bR,bI,aN,aP,aR,aT,aV,aX,aZ,bB,bD⟩:=HK.out.ex bL
 simp only [Zv,Addr.mk.injEq,and_true] at bT
 obtain ⟨rfl,rfl⟩:=bT
 simp only [Nat.one_mul] at aN aP aR aT aV aX aZ bB bD
 have eM:=Qq (fun W (hW:Below w w W)=>HI.out x1 (Qy bL) (fun b=>S b/\b<w) _ _ _ ns vs W (bI.move (.of_below hW) Qje) (HN.out.below hW) (HV.out.below hW) bM.out C7 cV.out)
 have eZ:=Qq bI;have fE:=Qq (Qy bL)
 have eJ:=Qq (Qe bR (Qe aN (Qe aP (Qe aR (Qe aT (Qe aV (Qe aX (Qe aZ (Qe bB bD)))))))))
 clear bI bL bR aN aP aR aT aV aX aZ bB bD
 go_enter func154,ntmps154
 go_upto_region 3 with fail
 generalize bK:(w.alloc _).alloc _=W1
 have dH:=eqB bK (Zu _ _ _)
 have dG:=eqH (b:=w.heap.size) bK (Q5 _ _ _)
 have cD:=eqH (b:=w.heap.size+1) bK (Q6 _ _ _)
 obtain ⟨A,bJ,aE⟩:=Qjq dH dG cD
 have aF:=Z8 cD
 clear bK dH dG cD
 have bP:=((Qq (Qz W1 W1)).out.block _ (Z8 bJ.out)).trans bJ.out
 have c6:=rA6 bP
 clear bP
 obtain ⟨N,q0,q1,q2,q3,q4,q5,q6,q7,q8⟩:=eI.out
 have aM:=kD A.out N q0;have aO:=kD A.out N q1;have aQ:=kD A.out N q2;have aS:=kD A.out N q3;have aU:=kD A.out N q4;have aW:=kD A.out N q5;have aY:=kD A.out N q6;have bA:=kD A.out N q7;have bC:=kD A.out N q8
 clear N q0 q1 q2 q3 q4 q5 q6 q7 q8
 go_upto_region 4 with (go_at_call 109;refine (eL.out _ A.out).mono ?_;rintro e w5 ⟨k5,n5,s5,aK,aI,aG,aL,aJ,aH,b5,rfl,dN,dI⟩;have cW:=Qq dN;have eK:=Qq dI;clear dN dI)
 generalize cB:w5.alloc _=W6
 have cE:=eqB cB (Zg _ _)
 have dE:=eqH (b:=w5.heap.size) cB (Qw _ _)
 obtain ⟨I,aD,cX⟩:=Qjq (eK.out.thn cE) dE cE
 clear cB cE dE
 have fA:w.heap.size+1<W6.heap.size:=C8 I.out.size
 clear c6 aM aO aQ aS aU aW aY bA bC
 have bE:=kB I.out bJ.out
 have c1:=rA1 bE;have c6:=rA6 bE
 clear bE
 have eT:b5=false\/(b5=true/\(k5 != 2)=true)\/(b5=true/\k5=2):=by
  cases b5 with
  | false=>exact .inl rfl
  | true=>
   by_cases h:k5=2
   ·exact .inr (.inr ⟨rfl,h⟩)
   exact .inr (.inl ⟨rfl,by simpa using h⟩)
 rcases eT with rfl | ⟨rfl,hq⟩ | ⟨rfl,rfl⟩
 focus
  obtain ⟨v0,v1,v2,v3,v4⟩:=row5 aD.out
  have D:=kE I.out aF aE.out
  obtain ⟨y0,y1,y2,y3,y4⟩:=row5 D
  obtain ⟨f0,f1,f2,f3,f4⟩:=frz5 D
  have O:=Qq D
  clear D
  go_wp2_with fail
  show bodyPost _ _ _ _ _ (Zi W6 (w+1) k5 n5 (.string s5) (.slice aK aI aG) (.slice aL aJ aH))
  refine Q7 (v:=.tuple #[.agg #[k5,n5,.string s5,.slice aK aI aG,.slice aL aJ aH],.bool false]) (by simp [results,results154,go_sem,Ze O.out]) rfl (Xr C7 (A.out.thn I.out))
 focus
  obtain ⟨v0,v1,v2,v3,v4⟩:=row5 aD.out
  have D:=kE I.out aF aE.out
  obtain ⟨y0,y1,y2,y3,y4⟩:=row5 D
  obtain ⟨f0,f1,f2,f3,f4⟩:=frz5 D
  have O:=Qq D
  clear D
  go_wp2_with fail
  show bodyPost _ _ _ _ _ (Zi W6 (w+1) k5 n5 (.string s5) (.slice aK aI aG) (.slice aL aJ aH))
  refine Q7 (v:=.tuple #[.agg #[k5,n5,.string s5,.slice aK aI aG,.slice aL aJ aH],.bool false]) (by simp [results,results154,go_sem,Ze O.out]) rfl (Xr C7 (A.out.thn I.out))
 have eS:n5=1\/n5=0:=by
  obtain ⟨v,eW,eV⟩:=cW.out rfl
  obtain ⟨h1,h2,_⟩:=eW.head
  rw [<- h2]
  have:=eV.bool h1
  omega
 have hq:((2:Int) != 2)=false:=rfl
 rcases eS with rfl | rfl
 focus
  obtain ⟨v0,v1,v2,v3,v4⟩:=row5 aD.out
  have D:=kE I.out aF aE.out
  obtain ⟨y0,y1,y2,y3,y4⟩:=row5 D
  obtain ⟨f0,f1,f2,f3,f4⟩:=frz5 D
  have O:=Qq D
  clear D
  go_wp2_with fail
  show bodyPost _ _ _ _ _ (Zi W6 (w+1) (.int .i64 2) (.int .i64 1) (.string s5) (.slice aK aI aG) (.slice aL aJ aH))
  refine Q7 (v:=.tuple #[.agg #[.int .i64 2,.int .i64 1,.string s5,.slice aK aI aG,.slice aL aJ aH],.bool true]) (by simp [results,results154,go_sem,Ze O.out]) rfl (Ka C7 (A.out.thn I.out) (fun _=>by
   obtain ⟨v,h1,h2⟩:=cW.out (by first | rfl | trivial)
   refine ⟨v,h1.move (.of_below cX.out) (fun c _ hc=>?_),h2⟩
   rcases hc with hc | hc
   ·exact .inl hc
   exact .inr (by have h':W1.heap.size<=c:=hc;omega)))
 focus
  obtain ⟨v0,v1,v2,v3,v4⟩:=row5 aD.out
  obtain ⟨N,q0,q1,q2,q3,q4,q5,q6,q7,q8⟩:=eJ.out
  have aN:=kD (A.out.thn I.out) N q0;have aP:=kD (A.out.thn I.out) N q1;have aR:=kD (A.out.thn I.out) N q2;have aT:=kD (A.out.thn I.out) N q3;have aV:=kD (A.out.thn I.out) N q4;have aX:=kD (A.out.thn I.out) N q5;have aZ:=kD (A.out.thn I.out) N q6;have bB:=kD (A.out.thn I.out) N q7;have bD:=kD (A.out.thn I.out) N q8
  clear N q0 q1 q2 q3 q4 q5 q6 q7 q8
  go_upto_region 12 with (go_at_call 109;refine (eM.out _ (A.out.thn I.out)).mono ?_;rintro e w7 ⟨k7,n7,s7,aA,Y,U,aB,Z,V,b7,rfl,dO,dJ⟩;have eO:=Qq dO;have bW:=Qq dJ;clear dO dJ)
  generalize cC:w7.alloc _=W8
  have cF:=eqB cC (Zg _ _)
  have dF:=eqH (b:=w7.heap.size) cC (Qw _ _)
  obtain ⟨cU,bN,cY⟩:=Qjq (bW.out.thn cF) dF cF
  clear cC cF dF
  have fB:w.heap.size+1<W8.heap.size:=C8 cU.out.size
  clear aN aP aR aT aV aX aZ bB bD
  have M:=Qq (I.out.thn cU.out)
  clear c1 c6 v0 v1 v2 v3 v4 hq
  have bF:=kB M.out bJ.out
  have c1:=rA1 bF;have c6:=rA6 bF
  clear bF
  cases b7 with
  | false=>
   obtain ⟨u0,u1,u2,u3,u4⟩:=row5 bN.out
   have G:=kE M.out aF aE.out
   obtain ⟨y0,y1,y2,y3,y4⟩:=row5 G
   obtain ⟨f0,f1,f2,f3,f4⟩:=frz5 G
   have T:=Qq G
   clear G
   go_wp2_with fail
   show bodyPost _ _ _ _ _ (Zi W8 (w+1) k7 n7 (.string s7) (.slice aA Y U) (.slice aB Z V))
   refine Q7 (v:=.tuple #[.agg #[k7,n7,.string s7,.slice aA Y U,.slice aB Z V],.bool false]) (by simp [results,results154,go_sem,Ze T.out]) rfl (Xr C7 (A.out.thn M.out))
  | true=>
   obtain ⟨u0,u1,u2,u3,u4⟩:=row5 bN.out
   go_upto_region 15 with fail
   by_cases hk:k7=2
   focus
    subst hk
    have hq:((2:Int)==2)=true:=rfl
    have G:=kE M.out aF aE.out
    obtain ⟨y0,y1,y2,y3,y4⟩:=row5 G
    obtain ⟨f0,f1,f2,f3,f4⟩:=frz5 G
    have T:=Qq G
    clear G
    have J:w7≠w.heap.size+1:=by have h1:=I.out.size;have h2:=bW.out.size;omega
    refine let_mvar% ?Lq2:=fun w':World=>(Qjn w' w7 (.int .i64 2) n7 (.string s7) (.slice aA Y U) (.slice aB Z V):Prop);?_
    have bZ:=Qq (show ?Lq2 W8.drew from ⟨u0,u1,u2,u3,u4⟩)
    have HP:∀ x0 x1 x2 x3 x4,?Lq2 (Zi W8 (w+1) x0 x1 x2 x3 x4).drew:=fun x0 x1 x2 x3 x4=>⟨Ya J u0,Ya J u1,Ya J u2,Ya J u3,Ya J u4⟩
    unfold Zi at HP
    have bY:=Qq HP
    clear HP J u0 u1 u2 u3 u4
    go_region_held3 ?Lq2 (first | with_reducible exact bZ.out | with_reducible exact bY.out _ _ _ _ _) (fail)
    all_goals
     go_wp2_with fail
     show bodyPost _ _ _ _ _ (Zi W8 (w+1) (.int .i64 2) n7 (.string s7) (.slice aA Y U) (.slice aB Z V)).drew
     refine Q7 (v:=.tuple #[.agg #[.int .i64 2,n7,.string s7,.slice aA Y U,.slice aB Z V],.bool true]) (by simp [results,results154,go_sem,Ze T.out]) rfl (Ka C7 (A.out.thn M.out) (fun _=>by
      obtain ⟨v,h1,h2⟩:=eO.out (by first | rfl | trivial)
      refine ⟨v,h1.move (.of_below cY.out) (fun c _ hc=>?_),h2⟩
      rcases hc with hc | hc
      ·exact .inl hc
      exact .inr (by have h':W6.heap.size<=c:=hc;omega))).drew
   focus
    have hq:(k7==2)=false:=by rw [<- Qt,beq_iff_eq];exact hk
    clear hk
    have G:=kE M.out aF aE.out
    obtain ⟨y0,y1,y2,y3,y4⟩:=row5 G
    obtain ⟨f0,f1,f2,f3,f4⟩:=frz5 G
    have T:=Qq G
    clear G
    have J:w7≠w.heap.size+1:=by have h1:=I.out.size;have h2:=bW.out.size;omega
    refine let_mvar% ?Lq1:=fun w':World=>(Qjn w' w7 k7 n7 (.string s7) (.slice aA Y U) (.slice aB Z V):Prop);?_
    have bZ:=Qq (show ?Lq1 W8.drew from ⟨u0,u1,u2,u3,u4⟩)
    have HP:∀ x0 x1 x2 x3 x4,?Lq1 (Zi W8 (w+1) x0 x1 x2 x3 x4).drew:=fun x0 x1 x2 x3 x4=>⟨Ya J u0,Ya J u1,Ya J u2,Ya J u3,Ya J u4⟩
    unfold Zi at HP
    have bY:=Qq HP
    clear HP J u0 u1 u2 u3 u4
    go_region_held3 ?Lq1 (first | with_reducible exact bZ.out | with_reducible exact bY.out _ _ _ _ _) (fail)
    all_goals
     go_wp2_with fail
     show bodyPost _ _ _ _ _ (Zi W8 (w+1) k7 n7 (.string s7) (.slice aA Y U) (.slice aB Z V)).drew
     refine Q7 (v:=.tuple #[.agg #[k7,n7,.string s7,.slice aA Y U,.slice aB Z V],.bool false]) (by simp [results,results154,go_sem,Ze T.out]) rfl (Xr C7 (A.out.thn M.out)).drew
end Go.Proofs.YtcljcblceodciaaGreatDoor

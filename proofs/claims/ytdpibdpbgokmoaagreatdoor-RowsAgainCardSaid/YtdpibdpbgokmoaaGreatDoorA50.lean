import Derived.Test.YtdpibdpbgokmoaaGreatDoorA28
set_option maxRecDepth 100000
set_option maxHeartbeats 400000000
namespace Go.Proofs.YtdpibdpbgokmoaaGreatDoor
open Go.RowKit Go.Shelf Go.Lib Tryz
theorem Vu (nm:Bs) (n:Int) (s:Bs) (names binds:List Bs) (kids:List Ex) (a z:Int) (d:Nat) (h2:kids.length=2) (hm:nm=[61,61]\/nm=[33,61]\/nm=[60]\/nm=[60,61]\/nm=[43]\/nm=[45]\/nm=[42]) (ih:∀ x ∈ kids,Xu d x) :∀ (S:Nat->Prop) (ce:List Value) (nv vv:Value) (ns:List Bs) (vs:List Val) (w:World),Yx S w ce (.mk 14 nm n s names binds kids a z)->Sl Zh S w nv ns->Sl Zc S w vv vs->ns.length<=vs.length->vs.length+(d+1)<=1000->(∀ v ∈ vs,Y3 v) ->
  Calls prog 147 #[ce,nv,vv] w (X7 S w (opV (λx=>Y0 d x ns vs) nm kids)):=by
 intro S ce nv vv ns vs w O dI dL bT hd hb
 obtain ⟨r,hr⟩:=eX (opV (λx=>Y0 d x ns vs) nm kids)
 rw [hr]
 have HR:=Qq hr;have H2:=Qq h2
 clear hr
 have hx:Yx (λb=>S b/\b<w) w ce (.mk 14 nm n s names binds kids a z):=O.move (.refl _ _) (λb hb h=>⟨h,hb⟩)
 have hn:=dI.up
 have hv:=dL.up
 obtain ⟨np,nc,rfl,_⟩:=hn.len
 obtain ⟨vp,vc,rfl,hY⟩:=hv.len
 have gF:=Qq hx
 obtain ⟨iD,bv,kv,rfl,hU,hV,cJ,cI,hk⟩:=Yy.1 hx
 obtain ⟨p1,c1,rfl,_⟩:=cJ.len
 obtain ⟨p2,c2,rfl,_⟩:=cI.len
 obtain ⟨p3,c3,rfl,hT⟩:=hk.len
 obtain ⟨HN,HV,cQ,gE,gB,HK,HI,bN⟩:=AV hn hv hb cJ cI hk ih bT
 clear O dI dL hx hn hv cJ cI hk hb ih bT
 unfold sv at *
 rw [h2] at HK |-
 have HM:=Qq hm
 have n0:¬ nm=[97,110,100]:=by rcases hm with rfl | rfl | rfl | rfl | rfl | rfl | rfl <;> decide
 have m0:(nm==[97,110,100])=false:=by rcases hm with rfl | rfl | rfl | rfl | rfl | rfl | rfl <;> rfl
 have n1:¬ nm=[111,114]:=by rcases hm with rfl | rfl | rfl | rfl | rfl | rfl | rfl <;> decide
 have m1:(nm==[111,114])=false:=by rcases hm with rfl | rfl | rfl | rfl | rfl | rfl | rfl <;> rfl
 have n2:¬ nm=[110,111,116]:=by rcases hm with rfl | rfl | rfl | rfl | rfl | rfl | rfl <;> decide
 have m2:(nm==[110,111,116])=false:=by rcases hm with rfl | rfl | rfl | rfl | rfl | rfl | rfl <;> rfl
 clear hm
 obtain ⟨x0,O⟩:∃ x,kids[0]?=some x:=⟨_,Qx Ia⟩
 obtain ⟨hZ,iB,gW,hA,gY,hC,gO,hH,hN,gQ,hJ,hP,gS,hL,hR,gU,hE,dJ,bR,bB,aH,aJ,aL,aN,aP,aR,aT,aV,aX⟩:=HK.o.ex O
 subst dJ
 simp only [Nat.zero_mul,Nat.add_zero] at aH aJ aL aN aP aR aT aV aX
 have eS:=Qq (λW (hW:Below w w W)=>HI.o x0 (Qy O) (λb=>S b/\b<w) _ _ _ ns vs W (bB.move (.f hW) Ij) (HN.o.below hW) (HV.o.below hW) bN.o Ia cQ.o)
 obtain ⟨fV,eU,gC⟩:=Im bB O (Qy O)
 have eN:=Qq (Qe bR (Qe aH (Qe aJ (Qe aL (Qe aN (Qe aP (Qe aR (Qe aT (Qe aV aX)))))))))
 clear bB O bR aH aJ aL aN aP aR aT aV aX
 obtain ⟨x1,bF⟩:∃ x,kids[1]?=some x:=⟨_,Qx Ia⟩
 obtain ⟨iA,iC,gX,hB,gZ,hD,gP,hI,hO,gR,hK,hQ,gT,hM,hS,gV,hF,bU,bS,bC,aI,aK,aM,aO,aQ,aS,aU,aW,aY⟩:=HK.o.ex bF
 simp only [Zv,Addr.mk.injEq,and_true] at bU
 obtain ⟨rfl,rfl⟩:=bU
 simp only [Nat.one_mul] at aI aK aM aO aQ aS aU aW aY
 have eT:=Qq (λW (hW:Below w w W)=>HI.o x1 (Qy bF) (λb=>S b/\b<w) _ _ _ ns vs W (bC.move (.f hW) Ij) (HN.o.below hW) (HV.o.below hW) bN.o Ia cQ.o)
 have cA:Hid (r=opV (λx=>Y0 d x ns vs) nm [x0,x1]):=Qq (by rw [<- HR.o,B0 H2.o eU.o bF]);obtain ⟨aA,fW,gD⟩:=Im (Qe n0 (Qe n1 n2)) bC (Qy bF)
 have eO:=Qq (Qe bS (Qe aI (Qe aK (Qe aM (Qe aO (Qe aQ (Qe aS (Qe aU (Qe aW aY)))))))))
 clear bC bF bS aI aK aM aO aQ aS aU aW aY
 go_enter func147,ntmps147
 go_upto_region 3 with fail
 generalize bM:(w.alloc _).alloc _=W1
 have dD:=Iq bM (Zs _ _ _)
 have dC:=Ik (b:=w.heap.size) bM (Q5 _ _ _)
 have cF:=Ik (b:=w.heap.size+1) bM (Q6 _ _ _)
 obtain ⟨A,aE,aF⟩:=Im dD dC cF
 have T:=Z8 cF
 clear bM dD dC cF
 have bO:=((Qq (Qz W1 W1)).o.block _ (Z8 aE.o)).trans aE.o
 have c6:=AK bO
 clear bO
 obtain ⟨J,q0,q1,q2,q3,q4,q5,q6,q7,q8⟩:=eN.o
 have aH:=kD A.o J q0;have aJ:=kD A.o J q1;have aL:=kD A.o J q2;have aN:=kD A.o J q3;have aP:=kD A.o J q4;have aR:=kD A.o J q5;have aT:=kD A.o J q6;have aV:=kD A.o J q7;have aX:=kD A.o J q8
 clear J q0 q1 q2 q3 q4 q5 q6 q7 q8
 go_upto_region 4 with (go_at_call 97;refine (eS.o _ A.o).mono ?_;rintro e w5 ⟨k5,n5,s5,bI,dR,bG,bJ,dT,bH,b5,rfl,dM,dE⟩;have cC:=Qq dM;have eP:=Qq dE;clear dM dE)
 generalize cD:w5.alloc _=W6
 have cG:=Iq cD (Zg _ _)
 have cZ:=Ik (b:=w5.heap.size) cD (Qw _ _)
 obtain ⟨D,aC,cT⟩:=Im (eP.o.n cG) cZ cG
 clear cD cG cZ
 have fX:w.heap.size+1<W6.heap.size:=Ix D.o.size
 clear c6 aH aJ aL aN aP aR aT aV aX
 have aZ:=kB D.o aE.o
 have c1:=AA aZ;have c6:=AK aZ
 clear aZ
 cases b5 with
 | false=>
  obtain ⟨v0,v1,v2,v3,v4⟩:=If aC.o
  have V:=kE D.o T aF.o
  obtain ⟨y0,y1,y2,y3,y4⟩:=If V
  obtain ⟨f0,f1,f2,f3,f4⟩:=Ip V
  have cV:=Qq V
  clear V
  go_wp2_with fail
  show bodyPost _ _ _ _ _ (Zl W6 (w+1) k5 n5 (.string s5) (.slice bI dR bG) (.slice bJ dT bH))
  refine Q7 (v:=.tuple #[.agg #[k5,n5,.string s5,.slice bI dR bG,.slice bJ dT bH],.bool false]) (by simp [results,results147,go_sem,Ze cV.o]) rfl (Vv Ia (A.o.n D.o) (by rw [cA.o];exact Ck (f:=λx=>Y0 d x ns vs) (cC.o.2 (by first | rfl | trivial))))
 | true=>
  obtain ⟨v0,v1,v2,v3,v4⟩:=If aC.o
  obtain ⟨J,q0,q1,q2,q3,q4,q5,q6,q7,q8⟩:=eO.o
  have aI:=kD (A.o.n D.o) J q0;have aK:=kD (A.o.n D.o) J q1;have aM:=kD (A.o.n D.o) J q2;have aO:=kD (A.o.n D.o) J q3;have aQ:=kD (A.o.n D.o) J q4;have aS:=kD (A.o.n D.o) J q5;have aU:=kD (A.o.n D.o) J q6;have aW:=kD (A.o.n D.o) J q7;have aY:=kD (A.o.n D.o) J q8
  clear J q0 q1 q2 q3 q4 q5 q6 q7 q8
  go_upto_region 12 with (go_at_call 97;refine (eT.o _ (A.o.n D.o)).mono ?_;rintro e w7 ⟨k7,n7,s7,cM,dS,cK,cN,dU,cL,b7,rfl,dN,dF⟩;have cR:=Qq dN;have eQ:=Qq dF;clear dN dF)
  generalize cE:w7.alloc _=W8
  have cH:=Iq cE (Zg _ _)
  have dA:=Ik (b:=w7.heap.size) cE (Qw _ _)
  obtain ⟨bK,aD,cU⟩:=Im (eQ.o.n cH) dA cH
  clear cE cH dA
  have fY:w.heap.size+1<W8.heap.size:=Ix bK.o.size
  clear aI aK aM aO aQ aS aU aW aY
  have U:=Qq (D.o.n bK.o)
  clear c1 c6 v0 v1 v2 v3 v4
  have bA:=kB U.o aE.o
  have c1:=AA bA;have c6:=AK bA
  clear bA
  cases b7 with
  | false=>
   obtain ⟨u0,u1,u2,u3,u4⟩:=If aD.o
   have Y:=kE U.o T aF.o
   obtain ⟨y0,y1,y2,y3,y4⟩:=If Y
   obtain ⟨f0,f1,f2,f3,f4⟩:=Ip Y
   have cW:=Qq Y
   clear Y
   go_wp2_with fail
   show bodyPost _ _ _ _ _ (Zl W8 (w+1) k7 n7 (.string s7) (.slice cM dS cK) (.slice cN dU cL))
   refine Q7 (v:=.tuple #[.agg #[k7,n7,.string s7,.slice cM dS cK,.slice cN dU cL],.bool false]) (by simp [results,results147,go_sem,Ze cW.o]) rfl (Vv Ia (A.o.n U.o) (by
    obtain ⟨v,_,_,fM⟩:=cC.o.1 (by first | rfl | trivial)
    rw [cA.o,Hb (f:=λx=>Y0 d x ns vs) aA.o.1 aA.o.2.1 aA.o.2.2 fM]
    show (Y0 d x1 ns vs).bind _=none
    rw [cR.o.2 (by first | rfl | trivial)];rfl))
  | true=>
   obtain ⟨v,bE,bW,bY⟩:=cC.o.1 (by first | rfl | trivial)
   obtain ⟨gH,gL,gJ,gN,bQ,-,-,gA⟩:=Z9.cells bE
   simp only [Il,List.cons.injEq,Value.int.injEq,Value.string.injEq,Qr,true_and,and_true] at bQ
   obtain ⟨rfl,rfl,rfl,⟨rfl,rfl,rfl⟩,rfl,rfl,rfl⟩:=bQ
   have fE:=Qq bE;have fU:=Qq bW
   clear bE bW
   obtain ⟨u,bD,bV,bX⟩:=cR.o.1 (by first | rfl | trivial)
   obtain ⟨gG,gK,gI,gM,bP,-,-,fZ⟩:=Z9.cells bD
   simp only [Il,List.cons.injEq,Value.int.injEq,Value.string.injEq,Qr,true_and,and_true] at bP
   obtain ⟨rfl,rfl,rfl,⟨rfl,rfl,rfl⟩,rfl,rfl,rfl⟩:=bP
   have cB:Hid (r=two nm v u):=Qq (by
    rw [cA.o,Hb (f:=λx=>Y0 d x ns vs) aA.o.1 aA.o.2.1 aA.o.2.2 bY]
    show (Y0 d x1 ns vs).bind _=_
    rw [bX];rfl)
   clear bY bX
   have fD:=Qq bD;have fT:=Qq bV
   clear bD bV
   have HC:=Qq (λW (hW:Below W8 W8 W)=>Mz _ _ v u (Is v bI bG bJ bH) (Is u cM cK cN cL) W (fE.o.move (.f ((cT.o.n bK.o).n hW)) Ij) (fD.o.move (.f (cU.o.n hW)) Ij))
   generalize dG:Zu v u=c at HC
   have eR:=Qq dG
   clear dG
   have dO:=kB bK.o aC.o
   have cS:=Qq dO
   clear dO
   obtain ⟨v0,v1,v2,v3,v4⟩:=If cS.o
   obtain ⟨u0,u1,u2,u3,u4⟩:=If aD.o
   go_upto_region 17 with (go_at_call 23;refine (HC.o _ (Qz _ _)).mono ?_;rintro e w9 ⟨rfl,dH⟩;have bZ:=Qq (show Below W8 W8 w9 from dH.bl);clear dH)
   clear c1 c6
   have M:=Qq (U.o.n bZ.o)
   have dQ:=kB M.o aE.o
   have dP:=kB bZ.o cS.o
   have dK:=kB bZ.o aD.o
   obtain ⟨fC,fB,fA⟩:=Im dQ dP dK
   clear dQ dP dK v0 v1 v2 v3 v4 u0 u1 u2 u3 u4
   have c1:=AA fC.o
   obtain ⟨v0,v1,v2,v3,v4⟩:=If fB.o
   obtain ⟨u0,u1,u2,u3,u4⟩:=If fA.o
   rcases HM.o with rfl | rfl | rfl | rfl | hq
   iterate 4
    focus
     go_wp2_with (go_at_call 144;refine (Bd _ _).mono ?_;rintro e cO ⟨X,hX,rfl,N⟩;have bL:=Qq hX;clear hX;have G:=M.o.n N;have I:=kE (G) T aF.o;obtain ⟨y0,y1,y2,y3,y4⟩:=If I;obtain ⟨f0,f1,f2,f3,f4⟩:=Ip I;have aG:=Qq I;clear I;have aB:=Qq G;clear N G)
     show bodyPost _ _ _ _ _ (Zl cO (w+1) (.int .i64 2) X Ig Ie Ie)
     refine Q7 (v:=.tuple #[.agg #[.int .i64 2,X,Ig,Ie,Ie],.bool true]) (by simp [results,results147,go_sem,Ze aG.o]) rfl (J4 A.o Ia T (.yes (Yb (s:=[]) Ib (Sl.nil _ _ _) (Sl.nil _ _ _)) (G8 bL.o) (by rw [cB.o,bL.o];unfold two V6;rw [eR.o];simp)) aB.o)
   have fK:(v.kind != 0)=true\/((v.kind != 0)=false/\(u.kind != 0)=true)\/((v.kind != 0)=false/\(u.kind != 0)=false):=by
    cases (v.kind != 0) <;> cases (u.kind != 0) <;> simp
   rcases hq with rfl | rfl | rfl
   all_goals
    rcases fK with hq1 | ⟨hq1,hq2⟩ | ⟨hq1,hq2⟩
    iterate 2
     focus
      have eZ:Hid (r=none):=Qq (by
       have e:¬ (v.kind=0/\u.kind=0):=by
        rintro ⟨e1,e2⟩
        first | (rw [e1] at hq1;cases hq1;done) | (rw [e2] at hq2;cases hq2;done)
       rw [cB.o];unfold two;simp [e])
      have Z:=kE M.o T aF.o
      obtain ⟨y0,y1,y2,y3,y4⟩:=If Z
      obtain ⟨f0,f1,f2,f3,f4⟩:=Ip Z
      have cX:=Qq Z
      clear Z
      go_wp2_with fail
      show bodyPost _ _ _ _ _ (AI w9 (w+1) v bI bG bJ bH)
      refine Q7 (v:=.tuple #[.agg (Is v bI bG bJ bH),.bool false]) (by simp [results,results147,go_sem,Ze cX.o]) rfl (Vv Ia (A.o.n M.o) eZ.o)
    focus
     have eW:=Qq hq1;have eY:=Qq hq2
     go_wp2_with (go_at_call 143;refine (We _ _).mono ?_;rintro e cO ⟨X,hX,rfl,N⟩;have bL:=Qq hX;clear hX;have G:=M.o.n N;have I:=kE (G) T aF.o;obtain ⟨y0,y1,y2,y3,y4⟩:=If I;obtain ⟨f0,f1,f2,f3,f4⟩:=Ip I;have aG:=Qq I;clear I;have aB:=Qq G;clear N G)
     show bodyPost _ _ _ _ _ (Zl cO (w+1) Ic X Ig Ie Ie)
     refine Q7 (v:=.tuple #[.agg #[Ic,X,Ig,Ie,Ie],.bool true]) (by simp [results,results147,go_sem,Ze aG.o]) rfl (J4 A.o Ia T (.yes (Yb (s:=[]) Ib (Sl.nil _ _ _) (Sl.nil _ _ _)) (Hs X) (by
      have e1:v.kind=0:=by simpa using eW.o
      have e2:u.kind=0:=by simpa using eY.o
      rw [cB.o,bL.o];unfold two Y5;simp [e1,e2];exact IntWalk.i64_left _)) aB.o)
theorem T6 (X:World) (p:Addr):X.drew.cell? p=X.cell? p:=rfl
theorem Ye {W:World} {R b j:Nat} {x0 x1 x2 x3 x4 u:Value} (h:b≠R) (hc:W.cell? ⟨b,j,none⟩=some u):(Zl W R x0 x1 x2 x3 x4).drew.cell? ⟨b,j,none⟩=some u:=(T6 _ _).trans (Zm h hc)
theorem Qzl (nm:Bs) (hnm:nm=[110,111,116]) (n:Int) (s:Bs) (names binds:List Bs) (kids:List Ex) (a z:Int) (d:Nat) (h2:kids.length=1) (ih:∀ x ∈ kids,Xu d x) :∀ (S:Nat->Prop) (ce:List Value) (nv vv:Value) (ns:List Bs) (vs:List Val) (w:World),Yx S w ce (.mk 14 nm n s names binds kids a z)->Sl Zh S w nv ns->Sl Zc S w vv vs->ns.length<=vs.length->vs.length+(d+1)<=1000->(∀ v ∈ vs,Y3 v) ->
  Calls prog 147 #[ce,nv,vv] w (X7 S w (opV (λx=>Y0 d x ns vs) nm kids)):=by
 subst hnm
 intro S ce nv vv ns vs w G bN bP aT hd hb
 obtain ⟨r,hr⟩:=eX (opV (λx=>Y0 d x ns vs) [110,111,116] kids)
 rw [hr]
 have HR:=Qq hr;have H2:=Qq h2
 clear hr
 have hx:Yx (λb=>S b/\b<w) w ce (.mk 14 [110,111,116] n s names binds kids a z):=G.move (.refl _ _) (λb hb h=>⟨h,hb⟩)
 have hn:=bN.up
 have hv:=bP.up
 obtain ⟨np,nc,rfl,_⟩:=hn.len
 obtain ⟨vp,vc,rfl,dI⟩:=hv.len
 have cQ:=Qq hx
 obtain ⟨dL,bv,kv,rfl,hnm,dH,bC,bB,hk⟩:=Yy.1 hx
 obtain ⟨p1,c1,rfl,_⟩:=bC.len
 obtain ⟨p2,c2,rfl,_⟩:=bB.len
 obtain ⟨p3,c3,rfl,dG⟩:=hk.len
 obtain ⟨HN,HV,bW,cP,cM,HK,HI,bG⟩:=AV hn hv hb bC bB hk ih aT
 clear G bN bP hx hn hv bC bB hk hb ih aT
 unfold sv at *
 rw [h2] at HK |-
 obtain ⟨x0,G⟩:∃ x,kids[0]?=some x:=⟨_,Qx Ia⟩
 obtain ⟨dJ,dK,cV,cX,cW,cY,cR,dA,dD,cS,dB,dE,cT,dC,dF,cU,cZ,bO,aS,aF,T,U,V,Y,Z,aA,aB,aC,aD⟩:=HK.o.ex G
 subst bO
 simp only [Nat.zero_mul,Nat.add_zero] at T U V Y Z aA aB aC aD
 have bX:=Qq (λW (hW:Below w w W)=>HI.o x0 (Qy G) (λb=>S b/\b<w) _ _ _ ns vs W (aF.move (.f hW) Ij) (HN.o.below hW) (HV.o.below hW) bG.o Ia bW.o)
 have aU:Hid (r=(Y0 d x0 ns vs).bind λu=>if u.kind=2 then some (V6 (decide (u.n=0))) else none):=Qq (HR.o.symm.trans (opV_not (f:=λx=>Y0 d x ns vs) H2.o G rfl));obtain ⟨cK,cN,cO⟩:=Im aF G (Qy G)
 have bU:=Qq (Qe aS (Qe T (Qe U (Qe V (Qe Y (Qe Z (Qe aA (Qe aB (Qe aC aD)))))))))
 clear aF G aS T U V Y Z aA aB aC aD
 go_enter func147,ntmps147
 go_upto_region 3 with fail
 generalize aH:(w.alloc _).alloc _=W1
 have bL:=Iq aH (Zs _ _ _)
 have bK:=Ik (b:=w.heap.size) aH (Q5 _ _ _)
 have aZ:=Ik (b:=w.heap.size+1) aH (Q6 _ _ _)
 obtain ⟨D,aW,aX⟩:=Im bL bK aZ
 have aI:=Z8 aZ
 clear aH bL bK aZ
 have aQ:=((Qq (Qz W1 W1)).o.block _ (Z8 aW.o)).trans aW.o
 have c6:=AK aQ
 clear aQ
 obtain ⟨qb,q0,q1,q2,q3,q4,q5,q6,q7,q8⟩:=bU.o
 have T:=kD D.o qb q0;have U:=kD D.o qb q1;have V:=kD D.o qb q2;have Y:=kD D.o qb q3;have Z:=kD D.o qb q4;have aA:=kD D.o qb q5;have aB:=kD D.o qb q6;have aC:=kD D.o qb q7;have aD:=kD D.o qb q8
 clear qb q0 q1 q2 q3 q4 q5 q6 q7 q8
 go_upto_region 4 with (go_at_call 97;refine (bX.o _ D.o).mono ?_;rintro e w5 ⟨k5,n5,s5,aO,aM,aK,aP,aN,aL,b5,rfl,bQ,bM⟩;have aV:=Qq bQ;have bV:=Qq bM;clear bQ bM)
 generalize aY:w5.alloc _=W6
 have bA:=Iq aY (Zg _ _)
 have bJ:=Ik (b:=w5.heap.size) aY (Qw _ _)
 obtain ⟨I,N,cJ⟩:=Im (bV.o.n bA) bJ bA
 clear aY bA bJ
 have cL:w.heap.size+1<W6.heap.size:=Ix I.o.size
 clear c6 T U V Y Z aA aB aC aD
 have aE:=kB I.o aW.o
 have c1:=AA aE;have c6:=AK aE
 clear aE
 have cE:b5=false\/(b5=true/\(k5 != 2)=true)\/(b5=true/\k5=2):=by
  cases b5 with
  | false=>exact .inl rfl
  | true=>
   by_cases h:k5=2
   ·exact .inr (.inr ⟨rfl,h⟩)
   exact .inr (.inl ⟨rfl,by simpa using h⟩)
 rcases cE with rfl | ⟨rfl,hq⟩ | ⟨rfl,rfl⟩
 focus
  obtain ⟨v0,v1,v2,v3,v4⟩:=If N.o
  have A:=kE I.o aI aX.o
  obtain ⟨y0,y1,y2,y3,y4⟩:=If A
  obtain ⟨f0,f1,f2,f3,f4⟩:=Ip A
  have O:=Qq A
  clear A
  go_wp2_with fail
  show bodyPost _ _ _ _ _ (Zl W6 (w+1) k5 n5 (.string s5) (.slice aO aM aK) (.slice aP aN aL))
  refine Q7 (v:=.tuple #[.agg #[k5,n5,.string s5,.slice aO aM aK,.slice aP aN aL],.bool false]) (by simp [results,results147,go_sem,Ze O.o]) rfl (Vv Ia (D.o.n I.o) (by rw [aU.o,aV.o.2 (by first | rfl | trivial)];rfl))
 focus
  have bY:Hid (r=none):=Qq (by
   obtain ⟨v,aJ,cG,bD⟩:=aV.o.1 (by first | rfl | trivial)
   rw [aU.o,bD]
   exact if_neg (by rw [aJ.head.1];simpa using hq))
  obtain ⟨v0,v1,v2,v3,v4⟩:=If N.o
  have A:=kE I.o aI aX.o
  obtain ⟨y0,y1,y2,y3,y4⟩:=If A
  obtain ⟨f0,f1,f2,f3,f4⟩:=Ip A
  have O:=Qq A
  clear A
  go_wp2_with fail
  show bodyPost _ _ _ _ _ (Zl W6 (w+1) k5 n5 (.string s5) (.slice aO aM aK) (.slice aP aN aL))
  refine Q7 (v:=.tuple #[.agg #[k5,n5,.string s5,.slice aO aM aK,.slice aP aN aL],.bool false]) (by simp [results,results147,go_sem,Ze O.o]) rfl (Vv Ia (D.o.n I.o) bY.o)
 focus
  obtain ⟨v0,v1,v2,v3,v4⟩:=If N.o
  have bZ:Hid (r=some (V6 (decide (n5=0)))):=Qq (by
   obtain ⟨v,aJ,cG,bD⟩:=aV.o.1 (by first | rfl | trivial)
   rw [aU.o,bD]
   show (if v.kind=2 then _ else none)=_
   rw [if_pos aJ.head.1,aJ.head.2.1])
  have hq:((2:Int) != 2)=false:=rfl
  go_wp2_with (go_at_call 144;refine (Bd _ _).mono ?_;rintro e cI ⟨X,hX,rfl,aR⟩;have bH:=Qq hX;clear hX;have J:=I.o.n aR;have M:=kE (J) aI aX.o;obtain ⟨y0,y1,y2,y3,y4⟩:=If M;obtain ⟨f0,f1,f2,f3,f4⟩:=Ip M;have bI:=Qq M;clear M;have bF:=Qq J;clear aR J)
  show bodyPost _ _ _ _ _ (Zl cI (w+1) (.int .i64 2) X Ig Ie Ie)
  refine Q7 (v:=.tuple #[.agg #[.int .i64 2,X,Ig,Ie,Ie],.bool true]) (by simp [results,results147,go_sem,Ze bI.o]) rfl (J4 D.o Ia aI (.yes (Yb (s:=[]) Ib (Sl.nil _ _ _) (Sl.nil _ _ _)) (G8 bH.o) (by rw [bZ.o,bH.o];unfold V6;simp)) bF.o)
theorem Qzq (nm:Bs) (hnm:nm=[97,110,100]) (n:Int) (s:Bs) (names binds:List Bs) (kids:List Ex) (a z:Int) (d:Nat) (h2:kids.length=2) (ih:∀ x ∈ kids,Xu d x) :∀ (S:Nat->Prop) (ce:List Value) (nv vv:Value) (ns:List Bs) (vs:List Val) (w:World),Yx S w ce (.mk 14 nm n s names binds kids a z)->Sl Zh S w nv ns->Sl Zc S w vv vs->ns.length<=vs.length->vs.length+(d+1)<=1000->(∀ v ∈ vs,Y3 v) ->
  Calls prog 147 #[ce,nv,vv] w (X7 S w (opV (λx=>Y0 d x ns vs) nm kids)):=by
 subst hnm
 intro S ce nv vv ns vs w U dP dS bX hd hb
 obtain ⟨r,hr⟩:=eX (opV (λx=>Y0 d x ns vs) [97,110,100] kids)
 rw [hr]
 have HR:=Qq hr;have H2:=Qq h2
 clear hr
 have hx:Yx (λb=>S b/\b<w) w ce (.mk 14 [97,110,100] n s names binds kids a z):=U.move (.refl _ _) (λb hb h=>⟨h,hb⟩)
 have hn:=dP.up
 have hv:=dS.up
 obtain ⟨np,nc,rfl,_⟩:=hn.len
 obtain ⟨vp,vc,rfl,gV⟩:=hv.len
 have fO:=Qq hx
 obtain ⟨hA,bv,kv,rfl,hnm,gU,cO,cN,hk⟩:=Yy.1 hx
 obtain ⟨p1,c1,rfl,_⟩:=cO.len
 obtain ⟨p2,c2,rfl,_⟩:=cN.len
 obtain ⟨p3,c3,rfl,gT⟩:=hk.len
 obtain ⟨HN,HV,dB,fN,fK,HK,HI,bQ⟩:=AV hn hv hb cO cN hk ih bX
 clear U dP dS hx hn hv cO cN hk hb ih bX
 unfold sv at *
 rw [h2] at HK |-
 obtain ⟨x0,U⟩:∃ x,kids[0]?=some x:=⟨_,Qx Ia⟩
 obtain ⟨gW,gY,fX,gB,fZ,gD,fP,gH,gN,fR,gJ,gP,fT,gL,gR,fV,gF,dQ,bV,bJ,aO,aQ,aS,aU,aW,aY,bA,bC,bE⟩:=HK.o.ex U
 subst dQ
 simp only [Nat.zero_mul,Nat.add_zero] at aO aQ aS aU aW aY bA bC bE
 have eR:=Qq (λW (hW:Below w w W)=>HI.o x0 (Qy U) (λb=>S b/\b<w) _ _ _ ns vs W (bJ.move (.f hW) Ij) (HN.o.below hW) (HV.o.below hW) bQ.o Ia dB.o)
 obtain ⟨fG,eT,fL⟩:=Im bJ U (Qy U)
 have eO:=Qq (Qe bV (Qe aO (Qe aQ (Qe aS (Qe aU (Qe aW (Qe aY (Qe bA (Qe bC bE)))))))))
 clear bJ U bV aO aQ aS aU aW aY bA bC bE
 obtain ⟨x1,bL⟩:∃ x,kids[1]?=some x:=⟨_,Qx Ia⟩
 obtain ⟨gX,gZ,fY,gC,gA,gE,fQ,gI,gO,fS,gK,gQ,fU,gM,gS,fW,gG,bY,bW,bK,aP,aR,aT,aV,aX,aZ,bB,bD,bF⟩:=HK.o.ex bL
 simp only [Zv,Addr.mk.injEq,and_true] at bY
 obtain ⟨rfl,rfl⟩:=bY
 simp only [Nat.one_mul] at aP aR aT aV aX aZ bB bD bF
 have eS:=Qq (λW (hW:Below w w W)=>HI.o x1 (Qy bL) (λb=>S b/\b<w) _ _ _ ns vs W (bK.move (.f hW) Ij) (HN.o.below hW) (HV.o.below hW) bQ.o Ia dB.o)
 have bM:Hid (r=(Y0 d x0 ns vs).bind λu=>if u.kind=2 then (if u.n=0 then some u else (Y0 d x1 ns vs).bind λv=>if v.kind=2 then some v else none) else none):=Qq (HR.o.symm.trans (opV_and (f:=λx=>Y0 d x ns vs) H2.o eT.o bL rfl));have fH:=Qq bK;have fM:=Qq (Qy bL)
 have eP:=Qq (Qe bW (Qe aP (Qe aR (Qe aT (Qe aV (Qe aX (Qe aZ (Qe bB (Qe bD bF)))))))))
 clear bK bL bW aP aR aT aV aX aZ bB bD bF
 go_enter func147,ntmps147
 go_upto_region 3 with fail
 generalize bO:(w.alloc _).alloc _=W1
 have dM:=Iq bO (Zs _ _ _)
 have dL:=Ik (b:=w.heap.size) bO (Q5 _ _ _)
 have cK:=Ik (b:=w.heap.size+1) bO (Q6 _ _ _)
 obtain ⟨A,bN,aF⟩:=Im dM dL cK
 have aG:=Z8 cK
 clear bO dM dL cK
 have bT:=((Qq (Qz W1 W1)).o.block _ (Z8 bN.o)).trans bN.o
 have c6:=AK bT
 clear bT
 obtain ⟨N,q0,q1,q2,q3,q4,q5,q6,q7,q8⟩:=eO.o
 have aO:=kD A.o N q0;have aQ:=kD A.o N q1;have aS:=kD A.o N q2;have aU:=kD A.o N q3;have aW:=kD A.o N q4;have aY:=kD A.o N q5;have bA:=kD A.o N q6;have bC:=kD A.o N q7;have bE:=kD A.o N q8
 clear N q0 q1 q2 q3 q4 q5 q6 q7 q8
 go_upto_region 4 with (go_at_call 97;refine (eR.o _ A.o).mono ?_;rintro e w5 ⟨k5,n5,s5,aL,aJ,aH,aM,aK,aI,b5,rfl,dT,dN⟩;have aN:=Qq dT;have eQ:=Qq dN;clear dT dN)
 generalize cI:w5.alloc _=W6
 have cL:=Iq cI (Zg _ _)
 have dJ:=Ik (b:=w5.heap.size) cI (Qw _ _)
 obtain ⟨I,aE,dC⟩:=Im (eQ.o.n cL) dJ cL
 clear cI cL dJ
 have fI:w.heap.size+1<W6.heap.size:=Ix I.o.size
 clear c6 aO aQ aS aU aW aY bA bC bE
 have bG:=kB I.o bN.o
 have c1:=AA bG;have c6:=AK bG
 clear bG
 have fC:b5=false\/(b5=true/\(k5 != 2)=true)\/(b5=true/\k5=2):=by
  cases b5 with
  | false=>exact .inl rfl
  | true=>
   by_cases h:k5=2
   ·exact .inr (.inr ⟨rfl,h⟩)
   exact .inr (.inl ⟨rfl,by simpa using h⟩)
 rcases fC with rfl | ⟨rfl,hq⟩ | ⟨rfl,rfl⟩
 focus
  obtain ⟨v0,v1,v2,v3,v4⟩:=If aE.o
  have D:=kE I.o aG aF.o
  obtain ⟨y0,y1,y2,y3,y4⟩:=If D
  obtain ⟨f0,f1,f2,f3,f4⟩:=Ip D
  have O:=Qq D
  clear D
  go_wp2_with fail
  show bodyPost _ _ _ _ _ (Zl W6 (w+1) k5 n5 (.string s5) (.slice aL aJ aH) (.slice aM aK aI))
  refine Q7 (v:=.tuple #[.agg #[k5,n5,.string s5,.slice aL aJ aH,.slice aM aK aI],.bool false]) (by simp [results,results147,go_sem,Ze O.o]) rfl (Vv Ia (A.o.n I.o) (by rw [bM.o,aN.o.2 (by first | rfl | trivial)];rfl))
 focus
  have eW:Hid (r=none):=Qq (by
   obtain ⟨v,cP,dV,fE⟩:=aN.o.1 (by first | rfl | trivial)
   rw [bM.o,fE]
   exact if_neg (by rw [cP.head.1];simpa using hq))
  obtain ⟨v0,v1,v2,v3,v4⟩:=If aE.o
  have D:=kE I.o aG aF.o
  obtain ⟨y0,y1,y2,y3,y4⟩:=If D
  obtain ⟨f0,f1,f2,f3,f4⟩:=Ip D
  have O:=Qq D
  clear D
  go_wp2_with fail
  show bodyPost _ _ _ _ _ (Zl W6 (w+1) k5 n5 (.string s5) (.slice aL aJ aH) (.slice aM aK aI))
  refine Q7 (v:=.tuple #[.agg #[k5,n5,.string s5,.slice aL aJ aH,.slice aM aK aI],.bool false]) (by simp [results,results147,go_sem,Ze O.o]) rfl (Vv Ia (A.o.n I.o) eW.o)
 have fA:n5=0\/n5=1:=by
  obtain ⟨v,cP,dV,_⟩:=aN.o.1 rfl
  obtain ⟨h1,h2,_⟩:=cP.head
  rw [<- h2]
  have:=dV.bool h1
  omega
 have hq:((2:Int) != 2)=false:=rfl
 rcases fA with rfl | rfl
 focus
  obtain ⟨v0,v1,v2,v3,v4⟩:=If aE.o
  have D:=kE I.o aG aF.o
  obtain ⟨y0,y1,y2,y3,y4⟩:=If D
  obtain ⟨f0,f1,f2,f3,f4⟩:=Ip D
  have O:=Qq D
  clear D
  go_wp2_with fail
  show bodyPost _ _ _ _ _ (Zl W6 (w+1) (.int .i64 2) Ic (.string s5) (.slice aL aJ aH) (.slice aM aK aI))
  refine Q7 (v:=.tuple #[.agg #[.int .i64 2,Ic,.string s5,.slice aL aJ aH,.slice aM aK aI],.bool true]) (by simp [results,results147,go_sem,Ze O.o]) rfl (Dw Ia (A.o.n I.o) (by
   obtain ⟨v,h1,h2,h3⟩:=aN.o.1 (by first | rfl | trivial)
   refine .yes (h1.move (.f dC.o) (λc _ hc=>?_)) h2 (by
    rw [bM.o,h3]
    show (if v.kind=2 then (if v.n=0 then some v else _) else none)=_
    rw [if_pos h1.head.1,if_pos h1.head.2.1])
   rcases hc with hc | hc
   ·exact .inl hc
   exact .inr (by have h':W1.heap.size<=c:=hc;omega)))
 focus
  obtain ⟨v0,v1,v2,v3,v4⟩:=If aE.o
  have cE:Hid (r=(Y0 d x1 ns vs).bind λv=>if v.kind=2 then some v else none):=Qq (by
   obtain ⟨v,h1,h2,h3⟩:=aN.o.1 (by first | rfl | trivial)
   rw [bM.o,h3]
   show (if v.kind=2 then (if v.n=0 then some v else _) else none)=_
   rw [if_pos h1.head.1,if_neg (by rw [h1.head.2.1];decide)])
  obtain ⟨N,q0,q1,q2,q3,q4,q5,q6,q7,q8⟩:=eP.o
  have aP:=kD (A.o.n I.o) N q0;have aR:=kD (A.o.n I.o) N q1;have aT:=kD (A.o.n I.o) N q2;have aV:=kD (A.o.n I.o) N q3;have aX:=kD (A.o.n I.o) N q4;have aZ:=kD (A.o.n I.o) N q5;have bB:=kD (A.o.n I.o) N q6;have bD:=kD (A.o.n I.o) N q7;have bF:=kD (A.o.n I.o) N q8
  clear N q0 q1 q2 q3 q4 q5 q6 q7 q8
  go_upto_region 12 with (go_at_call 97;refine (eS.o _ (A.o.n I.o)).mono ?_;rintro e w7 ⟨k7,n7,s7,aB,Z,V,aC,aA,Y,b7,rfl,dU,dO⟩;have cG:=Qq dU;have cB:=Qq dO;clear dU dO)
  generalize cJ:w7.alloc _=W8
  have cM:=Iq cJ (Zg _ _)
  have dK:=Ik (b:=w7.heap.size) cJ (Qw _ _)
  obtain ⟨dA,bR,dD⟩:=Im (cB.o.n cM) dK cM
  clear cJ cM dK
  have fJ:w.heap.size+1<W8.heap.size:=Ix dA.o.size
  clear aP aR aT aV aX aZ bB bD bF
  have M:=Qq (I.o.n dA.o)
  clear c1 c6 v0 v1 v2 v3 v4 hq
  have bH:=kB M.o bN.o
  have c1:=AA bH;have c6:=AK bH
  clear bH
  cases b7 with
  | false=>
   obtain ⟨u0,u1,u2,u3,u4⟩:=If bR.o
   have G:=kE M.o aG aF.o
   obtain ⟨y0,y1,y2,y3,y4⟩:=If G
   obtain ⟨f0,f1,f2,f3,f4⟩:=Ip G
   have T:=Qq G
   clear G
   go_wp2_with fail
   show bodyPost _ _ _ _ _ (Zl W8 (w+1) k7 n7 (.string s7) (.slice aB Z V) (.slice aC aA Y))
   refine Q7 (v:=.tuple #[.agg #[k7,n7,.string s7,.slice aB Z V,.slice aC aA Y],.bool false]) (by simp [results,results147,go_sem,Ze T.o]) rfl (Vv Ia (A.o.n M.o) (by rw [cE.o,cG.o.2 (by first | rfl | trivial)];rfl))
  | true=>
   obtain ⟨u0,u1,u2,u3,u4⟩:=If bR.o
   go_upto_region 15 with fail
   by_cases hk:k7=2
   focus
    subst hk
    have hq:((2:Int)==2)=true:=rfl
    have G:=kE M.o aG aF.o
    obtain ⟨y0,y1,y2,y3,y4⟩:=If G
    obtain ⟨f0,f1,f2,f3,f4⟩:=Ip G
    have T:=Qq G
    clear G
    have J:w7≠w.heap.size+1:=by have h1:=I.o.size;have h2:=cB.o.size;omega
    refine let_mvar% ?Lq2:=λw':World=>(BG w' w7 (.int .i64 2) n7 (.string s7) (.slice aB Z V) (.slice aC aA Y):Prop);?_
    have cF:=Qq (show ?Lq2 W8.drew from ⟨u0,u1,u2,u3,u4⟩)
    have HP:∀ x0 x1 x2 x3 x4,?Lq2 (Zl W8 (w+1) x0 x1 x2 x3 x4).drew:=λx0 x1 x2 x3 x4=>⟨Ye J u0,Ye J u1,Ye J u2,Ye J u3,Ye J u4⟩
    unfold Zl at HP
    have cD:=Qq HP
    clear HP J u0 u1 u2 u3 u4
    go_region_held3 ?Lq2 (first | with_reducible exact cF.o | with_reducible exact cD.o _ _ _ _ _) (fail)
    all_goals
     go_wp2_with fail
     show bodyPost _ _ _ _ _ (Zl W8 (w+1) (.int .i64 2) n7 (.string s7) (.slice aB Z V) (.slice aC aA Y)).drew
     refine Q7 (v:=.tuple #[.agg #[.int .i64 2,n7,.string s7,.slice aB Z V,.slice aC aA Y],.bool true]) (by simp [results,results147,go_sem,Ze T.o]) rfl (Dw Ia (A.o.n M.o) (by
      obtain ⟨v,h1,h2,h3⟩:=cG.o.1 (by first | rfl | trivial)
      refine .yes (h1.move (.f dD.o) (λc _ hc=>?_)) h2 (by
       rw [cE.o,h3]
       exact if_pos h1.head.1)
      rcases hc with hc | hc
      ·exact .inl hc
      exact .inr (by have h':W6.heap.size<=c:=hc;omega))).drew
   focus
    have hq:(k7==2)=false:=by rw [<- Qt,beq_iff_eq];exact hk
    have eV:Hid (r=none):=Qq (by
     obtain ⟨v,h1,h2,h3⟩:=cG.o.1 (by first | rfl | trivial)
     rw [cE.o,h3]
     exact if_neg (by rw [h1.head.1];exact hk))
    clear hk
    have G:=kE M.o aG aF.o
    obtain ⟨y0,y1,y2,y3,y4⟩:=If G
    obtain ⟨f0,f1,f2,f3,f4⟩:=Ip G
    have T:=Qq G
    clear G
    have J:w7≠w.heap.size+1:=by have h1:=I.o.size;have h2:=cB.o.size;omega
    refine let_mvar% ?Lq1:=λw':World=>(BG w' w7 k7 n7 (.string s7) (.slice aB Z V) (.slice aC aA Y):Prop);?_
    have cF:=Qq (show ?Lq1 W8.drew from ⟨u0,u1,u2,u3,u4⟩)
    have HP:∀ x0 x1 x2 x3 x4,?Lq1 (Zl W8 (w+1) x0 x1 x2 x3 x4).drew:=λx0 x1 x2 x3 x4=>⟨Ye J u0,Ye J u1,Ye J u2,Ye J u3,Ye J u4⟩
    unfold Zl at HP
    have cD:=Qq HP
    clear HP J u0 u1 u2 u3 u4
    go_region_held3 ?Lq1 (first | with_reducible exact cF.o | with_reducible exact cD.o _ _ _ _ _) (fail)
    all_goals
     go_wp2_with fail
     show bodyPost _ _ _ _ _ (Zl W8 (w+1) k7 n7 (.string s7) (.slice aB Z V) (.slice aC aA Y)).drew
     refine Q7 (v:=.tuple #[.agg #[k7,n7,.string s7,.slice aB Z V,.slice aC aA Y],.bool false]) (by simp [results,results147,go_sem,Ze T.o]) rfl (Vv Ia (A.o.n M.o) eV.o).drew
theorem roper_or (nm:Bs) (hnm:nm=[111,114]) (n:Int) (s:Bs) (names binds:List Bs) (kids:List Ex) (a z:Int) (d:Nat) (h2:kids.length=2) (ih:∀ x ∈ kids,Xu d x) :∀ (S:Nat->Prop) (ce:List Value) (nv vv:Value) (ns:List Bs) (vs:List Val) (w:World),Yx S w ce (.mk 14 nm n s names binds kids a z)->Sl Zh S w nv ns->Sl Zc S w vv vs->ns.length<=vs.length->vs.length+(d+1)<=1000->(∀ v ∈ vs,Y3 v) ->
  Calls prog 147 #[ce,nv,vv] w (X7 S w (opV (λx=>Y0 d x ns vs) nm kids)):=by
 subst hnm
 intro S ce nv vv ns vs w U dP dS bX hd hb
 obtain ⟨r,hr⟩:=eX (opV (λx=>Y0 d x ns vs) [111,114] kids)
 rw [hr]
 have HR:=Qq hr;have H2:=Qq h2
 clear hr
 have hx:Yx (λb=>S b/\b<w) w ce (.mk 14 [111,114] n s names binds kids a z):=U.move (.refl _ _) (λb hb h=>⟨h,hb⟩)
 have hn:=dP.up
 have hv:=dS.up
 obtain ⟨np,nc,rfl,_⟩:=hn.len
 obtain ⟨vp,vc,rfl,gV⟩:=hv.len
 have fO:=Qq hx
 obtain ⟨hA,bv,kv,rfl,hnm,gU,cO,cN,hk⟩:=Yy.1 hx
 obtain ⟨p1,c1,rfl,_⟩:=cO.len
 obtain ⟨p2,c2,rfl,_⟩:=cN.len
 obtain ⟨p3,c3,rfl,gT⟩:=hk.len
 obtain ⟨HN,HV,dB,fN,fK,HK,HI,bQ⟩:=AV hn hv hb cO cN hk ih bX
 clear U dP dS hx hn hv cO cN hk hb ih bX
 unfold sv at *
 rw [h2] at HK |-
 obtain ⟨x0,U⟩:∃ x,kids[0]?=some x:=⟨_,Qx Ia⟩
 obtain ⟨gW,gY,fX,gB,fZ,gD,fP,gH,gN,fR,gJ,gP,fT,gL,gR,fV,gF,dQ,bV,bJ,aO,aQ,aS,aU,aW,aY,bA,bC,bE⟩:=HK.o.ex U
 subst dQ
 simp only [Nat.zero_mul,Nat.add_zero] at aO aQ aS aU aW aY bA bC bE
 have eR:=Qq (λW (hW:Below w w W)=>HI.o x0 (Qy U) (λb=>S b/\b<w) _ _ _ ns vs W (bJ.move (.f hW) Ij) (HN.o.below hW) (HV.o.below hW) bQ.o Ia dB.o)
 obtain ⟨fG,eT,fL⟩:=Im bJ U (Qy U)
 have eO:=Qq (Qe bV (Qe aO (Qe aQ (Qe aS (Qe aU (Qe aW (Qe aY (Qe bA (Qe bC bE)))))))))
 clear bJ U bV aO aQ aS aU aW aY bA bC bE
 obtain ⟨x1,bL⟩:∃ x,kids[1]?=some x:=⟨_,Qx Ia⟩
 obtain ⟨gX,gZ,fY,gC,gA,gE,fQ,gI,gO,fS,gK,gQ,fU,gM,gS,fW,gG,bY,bW,bK,aP,aR,aT,aV,aX,aZ,bB,bD,bF⟩:=HK.o.ex bL
 simp only [Zv,Addr.mk.injEq,and_true] at bY
 obtain ⟨rfl,rfl⟩:=bY
 simp only [Nat.one_mul] at aP aR aT aV aX aZ bB bD bF
 have eS:=Qq (λW (hW:Below w w W)=>HI.o x1 (Qy bL) (λb=>S b/\b<w) _ _ _ ns vs W (bK.move (.f hW) Ij) (HN.o.below hW) (HV.o.below hW) bQ.o Ia dB.o)
 have bM:Hid (r=(Y0 d x0 ns vs).bind λu=>if u.kind=2 then (if u.n=1 then some u else (Y0 d x1 ns vs).bind λv=>if v.kind=2 then some v else none) else none):=Qq (HR.o.symm.trans (opV_or (f:=λx=>Y0 d x ns vs) H2.o eT.o bL rfl));have fH:=Qq bK;have fM:=Qq (Qy bL)
 have eP:=Qq (Qe bW (Qe aP (Qe aR (Qe aT (Qe aV (Qe aX (Qe aZ (Qe bB (Qe bD bF)))))))))
 clear bK bL bW aP aR aT aV aX aZ bB bD bF
 go_enter func147,ntmps147
 go_upto_region 3 with fail
 generalize bO:(w.alloc _).alloc _=W1
 have dM:=Iq bO (Zs _ _ _)
 have dL:=Ik (b:=w.heap.size) bO (Q5 _ _ _)
 have cK:=Ik (b:=w.heap.size+1) bO (Q6 _ _ _)
 obtain ⟨A,bN,aF⟩:=Im dM dL cK
 have aG:=Z8 cK
 clear bO dM dL cK
 have bT:=((Qq (Qz W1 W1)).o.block _ (Z8 bN.o)).trans bN.o
 have c6:=AK bT
 clear bT
 obtain ⟨N,q0,q1,q2,q3,q4,q5,q6,q7,q8⟩:=eO.o
 have aO:=kD A.o N q0;have aQ:=kD A.o N q1;have aS:=kD A.o N q2;have aU:=kD A.o N q3;have aW:=kD A.o N q4;have aY:=kD A.o N q5;have bA:=kD A.o N q6;have bC:=kD A.o N q7;have bE:=kD A.o N q8
 clear N q0 q1 q2 q3 q4 q5 q6 q7 q8
 go_upto_region 4 with (go_at_call 97;refine (eR.o _ A.o).mono ?_;rintro e w5 ⟨k5,n5,s5,aL,aJ,aH,aM,aK,aI,b5,rfl,dT,dN⟩;have aN:=Qq dT;have eQ:=Qq dN;clear dT dN)
 generalize cI:w5.alloc _=W6
 have cL:=Iq cI (Zg _ _)
 have dJ:=Ik (b:=w5.heap.size) cI (Qw _ _)
 obtain ⟨I,aE,dC⟩:=Im (eQ.o.n cL) dJ cL
 clear cI cL dJ
 have fI:w.heap.size+1<W6.heap.size:=Ix I.o.size
 clear c6 aO aQ aS aU aW aY bA bC bE
 have bG:=kB I.o bN.o
 have c1:=AA bG;have c6:=AK bG
 clear bG
 have fC:b5=false\/(b5=true/\(k5 != 2)=true)\/(b5=true/\k5=2):=by
  cases b5 with
  | false=>exact .inl rfl
  | true=>
   by_cases h:k5=2
   ·exact .inr (.inr ⟨rfl,h⟩)
   exact .inr (.inl ⟨rfl,by simpa using h⟩)
 rcases fC with rfl | ⟨rfl,hq⟩ | ⟨rfl,rfl⟩
 focus
  obtain ⟨v0,v1,v2,v3,v4⟩:=If aE.o
  have D:=kE I.o aG aF.o
  obtain ⟨y0,y1,y2,y3,y4⟩:=If D
  obtain ⟨f0,f1,f2,f3,f4⟩:=Ip D
  have O:=Qq D
  clear D
  go_wp2_with fail
  show bodyPost _ _ _ _ _ (Zl W6 (w+1) k5 n5 (.string s5) (.slice aL aJ aH) (.slice aM aK aI))
  refine Q7 (v:=.tuple #[.agg #[k5,n5,.string s5,.slice aL aJ aH,.slice aM aK aI],.bool false]) (by simp [results,results147,go_sem,Ze O.o]) rfl (Vv Ia (A.o.n I.o) (by rw [bM.o,aN.o.2 (by first | rfl | trivial)];rfl))
 focus
  have eW:Hid (r=none):=Qq (by
   obtain ⟨v,cP,dV,fE⟩:=aN.o.1 (by first | rfl | trivial)
   rw [bM.o,fE]
   exact if_neg (by rw [cP.head.1];simpa using hq))
  obtain ⟨v0,v1,v2,v3,v4⟩:=If aE.o
  have D:=kE I.o aG aF.o
  obtain ⟨y0,y1,y2,y3,y4⟩:=If D
  obtain ⟨f0,f1,f2,f3,f4⟩:=Ip D
  have O:=Qq D
  clear D
  go_wp2_with fail
  show bodyPost _ _ _ _ _ (Zl W6 (w+1) k5 n5 (.string s5) (.slice aL aJ aH) (.slice aM aK aI))
  refine Q7 (v:=.tuple #[.agg #[k5,n5,.string s5,.slice aL aJ aH,.slice aM aK aI],.bool false]) (by simp [results,results147,go_sem,Ze O.o]) rfl (Vv Ia (A.o.n I.o) eW.o)
 have fA:n5=1\/n5=0:=by
  obtain ⟨v,cP,dV,_⟩:=aN.o.1 rfl
  obtain ⟨h1,h2,_⟩:=cP.head
  rw [<- h2]
  have:=dV.bool h1
  omega
 have hq:((2:Int) != 2)=false:=rfl
 rcases fA with rfl | rfl
 focus
  obtain ⟨v0,v1,v2,v3,v4⟩:=If aE.o
  have D:=kE I.o aG aF.o
  obtain ⟨y0,y1,y2,y3,y4⟩:=If D
  obtain ⟨f0,f1,f2,f3,f4⟩:=Ip D
  have O:=Qq D
  clear D
  go_wp2_with fail
  show bodyPost _ _ _ _ _ (Zl W6 (w+1) (.int .i64 2) (.int .i64 1) (.string s5) (.slice aL aJ aH) (.slice aM aK aI))
  refine Q7 (v:=.tuple #[.agg #[.int .i64 2,.int .i64 1,.string s5,.slice aL aJ aH,.slice aM aK aI],.bool true]) (by simp [results,results147,go_sem,Ze O.o]) rfl (Dw Ia (A.o.n I.o) (by
   obtain ⟨v,h1,h2,h3⟩:=aN.o.1 (by first | rfl | trivial)
   refine .yes (h1.move (.f dC.o) (λc _ hc=>?_)) h2 (by
    rw [bM.o,h3]
    show (if v.kind=2 then (if v.n=1 then some v else _) else none)=_
    rw [if_pos h1.head.1,if_pos h1.head.2.1])
   rcases hc with hc | hc
   ·exact .inl hc
   exact .inr (by have h':W1.heap.size<=c:=hc;omega)))
 focus
  obtain ⟨v0,v1,v2,v3,v4⟩:=If aE.o
  have cE:Hid (r=(Y0 d x1 ns vs).bind λv=>if v.kind=2 then some v else none):=Qq (by
   obtain ⟨v,h1,h2,h3⟩:=aN.o.1 (by first | rfl | trivial)
   rw [bM.o,h3]
   show (if v.kind=2 then (if v.n=1 then some v else _) else none)=_
   rw [if_pos h1.head.1,if_neg (by rw [h1.head.2.1];decide)])
  obtain ⟨N,q0,q1,q2,q3,q4,q5,q6,q7,q8⟩:=eP.o
  have aP:=kD (A.o.n I.o) N q0;have aR:=kD (A.o.n I.o) N q1;have aT:=kD (A.o.n I.o) N q2;have aV:=kD (A.o.n I.o) N q3;have aX:=kD (A.o.n I.o) N q4;have aZ:=kD (A.o.n I.o) N q5;have bB:=kD (A.o.n I.o) N q6;have bD:=kD (A.o.n I.o) N q7;have bF:=kD (A.o.n I.o) N q8
  clear N q0 q1 q2 q3 q4 q5 q6 q7 q8
  go_upto_region 12 with (go_at_call 97;refine (eS.o _ (A.o.n I.o)).mono ?_;rintro e w7 ⟨k7,n7,s7,aB,Z,V,aC,aA,Y,b7,rfl,dU,dO⟩;have cG:=Qq dU;have cB:=Qq dO;clear dU dO)
  generalize cJ:w7.alloc _=W8
  have cM:=Iq cJ (Zg _ _)
  have dK:=Ik (b:=w7.heap.size) cJ (Qw _ _)
  obtain ⟨dA,bR,dD⟩:=Im (cB.o.n cM) dK cM
  clear cJ cM dK
  have fJ:w.heap.size+1<W8.heap.size:=Ix dA.o.size
  clear aP aR aT aV aX aZ bB bD bF
  have M:=Qq (I.o.n dA.o)
  clear c1 c6 v0 v1 v2 v3 v4 hq
  have bH:=kB M.o bN.o
  have c1:=AA bH;have c6:=AK bH
  clear bH
  cases b7 with
  | false=>
   obtain ⟨u0,u1,u2,u3,u4⟩:=If bR.o
   have G:=kE M.o aG aF.o
   obtain ⟨y0,y1,y2,y3,y4⟩:=If G
   obtain ⟨f0,f1,f2,f3,f4⟩:=Ip G
   have T:=Qq G
   clear G
   go_wp2_with fail
   show bodyPost _ _ _ _ _ (Zl W8 (w+1) k7 n7 (.string s7) (.slice aB Z V) (.slice aC aA Y))
   refine Q7 (v:=.tuple #[.agg #[k7,n7,.string s7,.slice aB Z V,.slice aC aA Y],.bool false]) (by simp [results,results147,go_sem,Ze T.o]) rfl (Vv Ia (A.o.n M.o) (by rw [cE.o,cG.o.2 (by first | rfl | trivial)];rfl))
  | true=>
   obtain ⟨u0,u1,u2,u3,u4⟩:=If bR.o
   go_upto_region 15 with fail
   by_cases hk:k7=2
   focus
    subst hk
    have hq:((2:Int)==2)=true:=rfl
    have G:=kE M.o aG aF.o
    obtain ⟨y0,y1,y2,y3,y4⟩:=If G
    obtain ⟨f0,f1,f2,f3,f4⟩:=Ip G
    have T:=Qq G
    clear G
    have J:w7≠w.heap.size+1:=by have h1:=I.o.size;have h2:=cB.o.size;omega
    refine let_mvar% ?Lq2:=λw':World=>(BG w' w7 (.int .i64 2) n7 (.string s7) (.slice aB Z V) (.slice aC aA Y):Prop);?_
    have cF:=Qq (show ?Lq2 W8.drew from ⟨u0,u1,u2,u3,u4⟩)
    have HP:∀ x0 x1 x2 x3 x4,?Lq2 (Zl W8 (w+1) x0 x1 x2 x3 x4).drew:=λx0 x1 x2 x3 x4=>⟨Ye J u0,Ye J u1,Ye J u2,Ye J u3,Ye J u4⟩
    unfold Zl at HP
    have cD:=Qq HP
    clear HP J u0 u1 u2 u3 u4
    go_region_held3 ?Lq2 (first | with_reducible exact cF.o | with_reducible exact cD.o _ _ _ _ _) (fail)
    all_goals
     go_wp2_with fail
     show bodyPost _ _ _ _ _ (Zl W8 (w+1) (.int .i64 2) n7 (.string s7) (.slice aB Z V) (.slice aC aA Y)).drew
     refine Q7 (v:=.tuple #[.agg #[.int .i64 2,n7,.string s7,.slice aB Z V,.slice aC aA Y],.bool true]) (by simp [results,results147,go_sem,Ze T.o]) rfl (Dw Ia (A.o.n M.o) (by
      obtain ⟨v,h1,h2,h3⟩:=cG.o.1 (by first | rfl | trivial)
      refine .yes (h1.move (.f dD.o) (λc _ hc=>?_)) h2 (by
       rw [cE.o,h3]
       exact if_pos h1.head.1)
      rcases hc with hc | hc
      ·exact .inl hc
      exact .inr (by have h':W6.heap.size<=c:=hc;omega))).drew
   focus
    have hq:(k7==2)=false:=by rw [<- Qt,beq_iff_eq];exact hk
    have eV:Hid (r=none):=Qq (by
     obtain ⟨v,h1,h2,h3⟩:=cG.o.1 (by first | rfl | trivial)
     rw [cE.o,h3]
     exact if_neg (by rw [h1.head.1];exact hk))
    clear hk
    have G:=kE M.o aG aF.o
    obtain ⟨y0,y1,y2,y3,y4⟩:=If G
    obtain ⟨f0,f1,f2,f3,f4⟩:=Ip G
    have T:=Qq G
    clear G
    have J:w7≠w.heap.size+1:=by have h1:=I.o.size;have h2:=cB.o.size;omega
    refine let_mvar% ?Lq1:=λw':World=>(BG w' w7 k7 n7 (.string s7) (.slice aB Z V) (.slice aC aA Y):Prop);?_
    have cF:=Qq (show ?Lq1 W8.drew from ⟨u0,u1,u2,u3,u4⟩)
    have HP:∀ x0 x1 x2 x3 x4,?Lq1 (Zl W8 (w+1) x0 x1 x2 x3 x4).drew:=λx0 x1 x2 x3 x4=>⟨Ye J u0,Ye J u1,Ye J u2,Ye J u3,Ye J u4⟩
    unfold Zl at HP
    have cD:=Qq HP
    clear HP J u0 u1 u2 u3 u4
    go_region_held3 ?Lq1 (first | with_reducible exact cF.o | with_reducible exact cD.o _ _ _ _ _) (fail)
    all_goals
     go_wp2_with fail
     show bodyPost _ _ _ _ _ (Zl W8 (w+1) k7 n7 (.string s7) (.slice aB Z V) (.slice aC aA Y)).drew
     refine Q7 (v:=.tuple #[.agg #[k7,n7,.string s7,.slice aB Z V,.slice aC aA Y],.bool false]) (by simp [results,results147,go_sem,Ze T.o]) rfl (Vv Ia (A.o.n M.o) eV.o).drew
end Go.Proofs.YtdpibdpbgokmoaaGreatDoor

import Derived.Test.YtdpibdpbgokmoaaGreatDoorC29
set_option maxRecDepth 100000
set_option maxHeartbeats 400000000
namespace Go.Proofs.YtdpibdpbgokmoaaGreatDoor
open Go.RowKit Go.Shelf Go.Lib Tryz
theorem Vh (nm:Bs) (n:Int) (s:Bs) (names binds:List Bs) (kids:List Ex) (a z:Int) (d:Nat) (h2:kids.length=2) (hm:nm=[61,61]∨nm=[33,61]∨nm=[60]∨nm=[60,61]∨nm=[43]∨nm=[45]∨nm=[42]) (ih:∀ x ∈ kids,Xn d x) :∀ (S:Nat→Prop) (ce:List Value) (nv vv:Value) (ns:List Bs) (vs:List Val) (w:World),Yv S w ce (.mk 14 nm n s names binds kids a z)→Sl Zh S w nv ns→Sl Ze S w vv vs→ns.length≤vs.length→vs.length+(d+1)≤1000→(∀ v ∈ vs,Y3 v) →
  Calls prog 147 #[ce,nv,vv] w (X6 S w (opV (fun x=>Y1 d x ns vs) nm kids)):=by
 intro S ce nv vv ns vs w O dI dL bT hd hb
 obtain ⟨r,hr⟩:=eX (opV (fun x=>Y1 d x ns vs) nm kids)
 rw [hr]
 have HR:=Qq hr;have H2:=Qq h2
 clear hr
 have hx:Yv (fun b=>S b∧b<w) w ce (.mk 14 nm n s names binds kids a z):=O.move (.refl _ _) (fun b hb h=>⟨h,hb⟩)
 have hn:=dI.up
 have hv:=dL.up
 obtain ⟨np,nc,rfl,_⟩:=hn.len
 obtain ⟨vp,vc,rfl,hY⟩:=hv.len
 have gF:=Qq hx
 obtain ⟨iD,bv,kv,rfl,hU,hV,cJ,cI,hk⟩:=Yx.1 hx
 obtain ⟨p1,c1,rfl,_⟩:=cJ.len
 obtain ⟨p2,c2,rfl,_⟩:=cI.len
 obtain ⟨p3,c3,rfl,hT⟩:=hk.len
 obtain ⟨HN,HV,cQ,gE,gB,HK,HI,bN⟩:=Qqu hn hv hb cJ cI hk ih bT
 clear O dI dL hx hn hv cJ cI hk hb ih bT
 unfold sv at *
 rw [h2] at HK ⊢
 have HM:=Qq hm
 have n0:¬ nm=[97,110,100]:=by rcases hm with rfl | rfl | rfl | rfl | rfl | rfl | rfl <;> decide
 have m0:(nm==[97,110,100])=false:=by rcases hm with rfl | rfl | rfl | rfl | rfl | rfl | rfl <;> rfl
 have n1:¬ nm=[111,114]:=by rcases hm with rfl | rfl | rfl | rfl | rfl | rfl | rfl <;> decide
 have m1:(nm==[111,114])=false:=by rcases hm with rfl | rfl | rfl | rfl | rfl | rfl | rfl <;> rfl
 have n2:¬ nm=[110,111,116]:=by rcases hm with rfl | rfl | rfl | rfl | rfl | rfl | rfl <;> decide
 have m2:(nm==[110,111,116])=false:=by rcases hm with rfl | rfl | rfl | rfl | rfl | rfl | rfl <;> rfl
 clear hm
 obtain ⟨x0,O⟩:∃ x,kids[0]?=some x:=⟨_,Qx Qqj⟩
 obtain ⟨hZ,iB,gW,hA,gY,hC,gO,hH,hN,gQ,hJ,hP,gS,hL,hR,gU,hE,dJ,bR,bB,aH,aJ,aL,aN,aP,aR,aT,aV,aX⟩:=HK.out.ex O
 subst dJ
 simp only [Nat.zero_mul,Nat.add_zero] at aH aJ aL aN aP aR aT aV aX
 have eS:=Qq (fun W (hW:Below w w W)=>HI.out x0 (Qy O) (fun b=>S b∧b<w) _ _ _ ns vs W (bB.move (.of_below hW) Qzx) (HN.out.below hW) (HV.out.below hW) bN.out Qqj cQ.out)
 obtain ⟨fV,eU,gC⟩:=Qqo bB O (Qy O)
 have eN:=Qq (Qe bR (Qe aH (Qe aJ (Qe aL (Qe aN (Qe aP (Qe aR (Qe aT (Qe aV aX)))))))))
 clear bB O bR aH aJ aL aN aP aR aT aV aX
 obtain ⟨x1,bF⟩:∃ x,kids[1]?=some x:=⟨_,Qx Qqj⟩
 obtain ⟨iA,iC,gX,hB,gZ,hD,gP,hI,hO,gR,hK,hQ,gT,hM,hS,gV,hF,bU,bS,bC,aI,aK,aM,aO,aQ,aS,aU,aW,aY⟩:=HK.out.ex bF
 simp only [Zv,Addr.mk.injEq,and_true] at bU
 obtain ⟨rfl,rfl⟩:=bU
 simp only [Nat.one_mul] at aI aK aM aO aQ aS aU aW aY
 have eT:=Qq (fun W (hW:Below w w W)=>HI.out x1 (Qy bF) (fun b=>S b∧b<w) _ _ _ ns vs W (bC.move (.of_below hW) Qzx) (HN.out.below hW) (HV.out.below hW) bN.out Qqj cQ.out)
 have cA:Hid (r=opV (fun x=>Y1 d x ns vs) nm [x0,x1]):=Qq (by rw [← HR.out,Ff H2.out eU.out bF]);obtain ⟨aA,fW,gD⟩:=Qqo (Qe n0 (Qe n1 n2)) bC (Qy bF)
 have eO:=Qq (Qe bS (Qe aI (Qe aK (Qe aM (Qe aO (Qe aQ (Qe aS (Qe aU (Qe aW aY)))))))))
 clear bC bF bS aI aK aM aO aQ aS aU aW aY
 go_enter func147,ntmps147
 go_upto_region 3 with fail
 generalize bM:(w.alloc _).alloc _=W1
 have dD:=eqB bM (Zt _ _ _)
 have dC:=eqH (b:=w.heap.size) bM (Q5 _ _ _)
 have cF:=eqH (b:=w.heap.size+1) bM (Q6 _ _ _)
 obtain ⟨A,aE,aF⟩:=Qqo dD dC cF
 have T:=Z8 cF
 clear bM dD dC cF
 have bO:=((Qq (Qz W1 W1)).out.block _ (Z8 aE.out)).trans aE.out
 have c6:=rA6 bO
 clear bO
 obtain ⟨J,q0,q1,q2,q3,q4,q5,q6,q7,q8⟩:=eN.out
 have aH:=kD A.out J q0;have aJ:=kD A.out J q1;have aL:=kD A.out J q2;have aN:=kD A.out J q3;have aP:=kD A.out J q4;have aR:=kD A.out J q5;have aT:=kD A.out J q6;have aV:=kD A.out J q7;have aX:=kD A.out J q8
 clear J q0 q1 q2 q3 q4 q5 q6 q7 q8
 go_upto_region 4 with (go_at_call 97;refine (eS.out _ A.out).mono ?_;rintro e w5 ⟨k5,n5,s5,bI,dR,bG,bJ,dT,bH,b5,rfl,dM,dE⟩;have cC:=Qq dM;have eP:=Qq dE;clear dM dE)
 generalize cD:w5.alloc _=W6
 have cG:=eqB cD (Zg _ _)
 have cZ:=eqH (b:=w5.heap.size) cD (Qw _ _)
 obtain ⟨D,aC,cT⟩:=Qqo (eP.out.thn cG) cZ cG
 clear cD cG cZ
 have fX:w.heap.size+1<W6.heap.size:=Qqq D.out.size
 clear c6 aH aJ aL aN aP aR aT aV aX
 have aZ:=kB D.out aE.out
 have c1:=rA1 aZ;have c6:=rA6 aZ
 clear aZ
 cases b5 with
 | false=>
  obtain ⟨v0,v1,v2,v3,v4⟩:=row5 aC.out
  have V:=kE D.out T aF.out
  obtain ⟨y0,y1,y2,y3,y4⟩:=row5 V
  obtain ⟨f0,f1,f2,f3,f4⟩:=frz5 V
  have cV:=Qq V
  clear V
  go_wp2_with fail
  show bodyPost _ _ _ _ _ (Zl W6 (w+1) k5 n5 (.string s5) (.slice bI dR bG) (.slice bJ dT bH))
  refine Q7 (v:=.tuple #[.agg #[k5,n5,.string s5,.slice bI dR bG,.slice bJ dT bH],.bool false]) (by simp [results,results147,go_sem,Zd cV.out]) rfl (Vz Qqj (A.out.thn D.out) (by rw [cA.out];exact Wq (f:=fun x=>Y1 d x ns vs) (cC.out.2 (by first | rfl | trivial))))
 | true=>
  obtain ⟨v0,v1,v2,v3,v4⟩:=row5 aC.out
  obtain ⟨J,q0,q1,q2,q3,q4,q5,q6,q7,q8⟩:=eO.out
  have aI:=kD (A.out.thn D.out) J q0;have aK:=kD (A.out.thn D.out) J q1;have aM:=kD (A.out.thn D.out) J q2;have aO:=kD (A.out.thn D.out) J q3;have aQ:=kD (A.out.thn D.out) J q4;have aS:=kD (A.out.thn D.out) J q5;have aU:=kD (A.out.thn D.out) J q6;have aW:=kD (A.out.thn D.out) J q7;have aY:=kD (A.out.thn D.out) J q8
  clear J q0 q1 q2 q3 q4 q5 q6 q7 q8
  go_upto_region 12 with (go_at_call 97;refine (eT.out _ (A.out.thn D.out)).mono ?_;rintro e w7 ⟨k7,n7,s7,cM,dS,cK,cN,dU,cL,b7,rfl,dN,dF⟩;have cR:=Qq dN;have eQ:=Qq dF;clear dN dF)
  generalize cE:w7.alloc _=W8
  have cH:=eqB cE (Zg _ _)
  have dA:=eqH (b:=w7.heap.size) cE (Qw _ _)
  obtain ⟨bK,aD,cU⟩:=Qqo (eQ.out.thn cH) dA cH
  clear cE cH dA
  have fY:w.heap.size+1<W8.heap.size:=Qqq bK.out.size
  clear aI aK aM aO aQ aS aU aW aY
  have U:=Qq (D.out.thn bK.out)
  clear c1 c6 v0 v1 v2 v3 v4
  have bA:=kB U.out aE.out
  have c1:=rA1 bA;have c6:=rA6 bA
  clear bA
  cases b7 with
  | false=>
   obtain ⟨u0,u1,u2,u3,u4⟩:=row5 aD.out
   have Y:=kE U.out T aF.out
   obtain ⟨y0,y1,y2,y3,y4⟩:=row5 Y
   obtain ⟨f0,f1,f2,f3,f4⟩:=frz5 Y
   have cW:=Qq Y
   clear Y
   go_wp2_with fail
   show bodyPost _ _ _ _ _ (Zl W8 (w+1) k7 n7 (.string s7) (.slice cM dS cK) (.slice cN dU cL))
   refine Q7 (v:=.tuple #[.agg #[k7,n7,.string s7,.slice cM dS cK,.slice cN dU cL],.bool false]) (by simp [results,results147,go_sem,Zd cW.out]) rfl (Vz Qqj (A.out.thn U.out) (by
    obtain ⟨v,_,_,fM⟩:=cC.out.1 (by first | rfl | trivial)
    rw [cA.out,Ev (f:=fun x=>Y1 d x ns vs) aA.out.1 aA.out.2.1 aA.out.2.2 fM]
    show (Y1 d x1 ns vs).bind _=none
    rw [cR.out.2 (by first | rfl | trivial)];rfl))
  | true=>
   obtain ⟨v,bE,bW,bY⟩:=cC.out.1 (by first | rfl | trivial)
   obtain ⟨gH,gL,gJ,gN,bQ,-,-,gA⟩:=Z9.cells bE
   simp only [vcs,List.cons.injEq,Value.int.injEq,Value.string.injEq,Qr,true_and,and_true] at bQ
   obtain ⟨rfl,rfl,rfl,⟨rfl,rfl,rfl⟩,rfl,rfl,rfl⟩:=bQ
   have fE:=Qq bE;have fU:=Qq bW
   clear bE bW
   obtain ⟨u,bD,bV,bX⟩:=cR.out.1 (by first | rfl | trivial)
   obtain ⟨gG,gK,gI,gM,bP,-,-,fZ⟩:=Z9.cells bD
   simp only [vcs,List.cons.injEq,Value.int.injEq,Value.string.injEq,Qr,true_and,and_true] at bP
   obtain ⟨rfl,rfl,rfl,⟨rfl,rfl,rfl⟩,rfl,rfl,rfl⟩:=bP
   have cB:Hid (r=two nm v u):=Qq (by
    rw [cA.out,Ev (f:=fun x=>Y1 d x ns vs) aA.out.1 aA.out.2.1 aA.out.2.2 bY]
    show (Y1 d x1 ns vs).bind _=_
    rw [bX];rfl)
   clear bY bX
   have fD:=Qq bD;have fT:=Qq bV
   clear bD bV
   have HC:=Qq (fun W (hW:Below W8 W8 W)=>Dv _ _ v u (Qqg v bI bG bJ bH) (Qqg u cM cK cN cL) W (fE.out.move (.of_below ((cT.out.thn bK.out).thn hW)) Qzx) (fD.out.move (.of_below (cU.out.thn hW)) Qzx))
   generalize dG:Yz v u=c at HC
   have eR:=Qq dG
   clear dG
   have dO:=kB bK.out aC.out
   have cS:=Qq dO
   clear dO
   obtain ⟨v0,v1,v2,v3,v4⟩:=row5 cS.out
   obtain ⟨u0,u1,u2,u3,u4⟩:=row5 aD.out
   go_upto_region 17 with (go_at_call 23;refine (HC.out _ (Qz _ _)).mono ?_;rintro e w9 ⟨rfl,dH⟩;have bZ:=Qq (show Below W8 W8 w9 from dH.bl);clear dH)
   clear c1 c6
   have M:=Qq (U.out.thn bZ.out)
   have dQ:=kB M.out aE.out
   have dP:=kB bZ.out cS.out
   have dK:=kB bZ.out aD.out
   obtain ⟨fC,fB,fA⟩:=Qqo dQ dP dK
   clear dQ dP dK v0 v1 v2 v3 v4 u0 u1 u2 u3 u4
   have c1:=rA1 fC.out
   obtain ⟨v0,v1,v2,v3,v4⟩:=row5 fB.out
   obtain ⟨u0,u1,u2,u3,u4⟩:=row5 fA.out
   rcases HM.out with rfl | rfl | rfl | rfl | hq
   iterate 4
    focus
     go_wp2_with (go_at_call 144;refine (Bw _ _).mono ?_;rintro e cO ⟨X,hX,rfl,N⟩;have bL:=Qq hX;clear hX;have G:=M.out.thn N;have I:=kE (G) T aF.out;obtain ⟨y0,y1,y2,y3,y4⟩:=row5 I;obtain ⟨f0,f1,f2,f3,f4⟩:=frz5 I;have aG:=Qq I;clear I;have aB:=Qq G;clear N G)
     show bodyPost _ _ _ _ _ (Zl cO (w+1) (.int .i64 2) X Qqe Qqf Qqf)
     refine Q7 (v:=.tuple #[.agg #[.int .i64 2,X,Qqe,Qqf,Qqf],.bool true]) (by simp [results,results147,go_sem,Zd aG.out]) rfl (Jk A.out Qqj T (.yes (Y8 (s:=[]) Qqk (Sl.nil _ _ _) (Sl.nil _ _ _)) (Fw bL.out) (by rw [cB.out,bL.out];unfold two Vv;rw [eR.out];simp)) aB.out)
   have fK:(v.kind != 0)=true∨((v.kind != 0)=false∧(u.kind != 0)=true)∨((v.kind != 0)=false∧(u.kind != 0)=false):=by
    cases (v.kind != 0) <;> cases (u.kind != 0) <;> simp
   rcases hq with rfl | rfl | rfl
   all_goals
    rcases fK with hq1 | ⟨hq1,hq2⟩ | ⟨hq1,hq2⟩
    iterate 2
     focus
      have eZ:Hid (r=none):=Qq (by
       have e:¬ (v.kind=0∧u.kind=0):=by
        rintro ⟨e1,e2⟩
        first | (rw [e1] at hq1;cases hq1;done) | (rw [e2] at hq2;cases hq2;done)
       rw [cB.out];unfold two;simp [e])
      have Z:=kE M.out T aF.out
      obtain ⟨y0,y1,y2,y3,y4⟩:=row5 Z
      obtain ⟨f0,f1,f2,f3,f4⟩:=frz5 Z
      have cX:=Qq Z
      clear Z
      go_wp2_with fail
      show bodyPost _ _ _ _ _ (Qqm w9 (w+1) v bI bG bJ bH)
      refine Q7 (v:=.tuple #[.agg (Qqg v bI bG bJ bH),.bool false]) (by simp [results,results147,go_sem,Zd cX.out]) rfl (Vz Qqj (A.out.thn M.out) eZ.out)
    focus
     have eW:=Qq hq1;have eY:=Qq hq2
     go_wp2_with (go_at_call 143;refine (Rw _ _).mono ?_;rintro e cO ⟨X,hX,rfl,N⟩;have bL:=Qq hX;clear hX;have G:=M.out.thn N;have I:=kE (G) T aF.out;obtain ⟨y0,y1,y2,y3,y4⟩:=row5 I;obtain ⟨f0,f1,f2,f3,f4⟩:=frz5 I;have aG:=Qq I;clear I;have aB:=Qq G;clear N G)
     show bodyPost _ _ _ _ _ (Zl cO (w+1) Qqd X Qqe Qqf Qqf)
     refine Q7 (v:=.tuple #[.agg #[Qqd,X,Qqe,Qqf,Qqf],.bool true]) (by simp [results,results147,go_sem,Zd aG.out]) rfl (Jk A.out Qqj T (.yes (Y8 (s:=[]) Qqk (Sl.nil _ _ _) (Sl.nil _ _ _)) (E9 X) (by
      have e1:v.kind=0:=by simpa using eW.out
      have e2:u.kind=0:=by simpa using eY.out
      rw [cB.out,bL.out];unfold two Y5;simp [e1,e2];exact IntWalk.i64_left _)) aB.out)
theorem Rp (X:World) (p:Addr):X.drew.cell? p=X.cell? p:=rfl
theorem Ye {W:World} {R b j:Nat} {x0 x1 x2 x3 x4 u:Value} (h:b≠R) (hc:W.cell? ⟨b,j,none⟩=some u):(Zl W R x0 x1 x2 x3 x4).drew.cell? ⟨b,j,none⟩=some u:=(Rp _ _).trans (Zm h hc)
theorem Qjm (nm:Bs) (hnm:nm=[110,111,116]) (n:Int) (s:Bs) (names binds:List Bs) (kids:List Ex) (a z:Int) (d:Nat) (h2:kids.length=1) (ih:∀ x ∈ kids,Xn d x) :∀ (S:Nat→Prop) (ce:List Value) (nv vv:Value) (ns:List Bs) (vs:List Val) (w:World),Yv S w ce (.mk 14 nm n s names binds kids a z)→Sl Zh S w nv ns→Sl Ze S w vv vs→ns.length≤vs.length→vs.length+(d+1)≤1000→(∀ v ∈ vs,Y3 v) →
  Calls prog 147 #[ce,nv,vv] w (X6 S w (opV (fun x=>Y1 d x ns vs) nm kids)):=by
 subst hnm
 intro S ce nv vv ns vs w G bN bP aT hd hb
 obtain ⟨r,hr⟩:=eX (opV (fun x=>Y1 d x ns vs) [110,111,116] kids)
 rw [hr]
 have HR:=Qq hr;have H2:=Qq h2
 clear hr
 have hx:Yv (fun b=>S b∧b<w) w ce (.mk 14 [110,111,116] n s names binds kids a z):=G.move (.refl _ _) (fun b hb h=>⟨h,hb⟩)
 have hn:=bN.up
 have hv:=bP.up
 obtain ⟨np,nc,rfl,_⟩:=hn.len
 obtain ⟨vp,vc,rfl,dI⟩:=hv.len
 have cQ:=Qq hx
 obtain ⟨dL,bv,kv,rfl,hnm,dH,bC,bB,hk⟩:=Yx.1 hx
 obtain ⟨p1,c1,rfl,_⟩:=bC.len
 obtain ⟨p2,c2,rfl,_⟩:=bB.len
 obtain ⟨p3,c3,rfl,dG⟩:=hk.len
 obtain ⟨HN,HV,bW,cP,cM,HK,HI,bG⟩:=Qqu hn hv hb bC bB hk ih aT
 clear G bN bP hx hn hv bC bB hk hb ih aT
 unfold sv at *
 rw [h2] at HK ⊢
 obtain ⟨x0,G⟩:∃ x,kids[0]?=some x:=⟨_,Qx Qqj⟩
 obtain ⟨dJ,dK,cV,cX,cW,cY,cR,dA,dD,cS,dB,dE,cT,dC,dF,cU,cZ,bO,aS,aF,T,U,V,Y,Z,aA,aB,aC,aD⟩:=HK.out.ex G
 subst bO
 simp only [Nat.zero_mul,Nat.add_zero] at T U V Y Z aA aB aC aD
 have bX:=Qq (fun W (hW:Below w w W)=>HI.out x0 (Qy G) (fun b=>S b∧b<w) _ _ _ ns vs W (aF.move (.of_below hW) Qzx) (HN.out.below hW) (HV.out.below hW) bG.out Qqj bW.out)
 have aU:Hid (r=(Y1 d x0 ns vs).bind fun u=>if u.kind=2 then some (Vv (decide (u.n=0))) else none):=Qq (HR.out.symm.trans (opV_not (f:=fun x=>Y1 d x ns vs) H2.out G rfl));obtain ⟨cK,cN,cO⟩:=Qqo aF G (Qy G)
 have bU:=Qq (Qe aS (Qe T (Qe U (Qe V (Qe Y (Qe Z (Qe aA (Qe aB (Qe aC aD)))))))))
 clear aF G aS T U V Y Z aA aB aC aD
 go_enter func147,ntmps147
 go_upto_region 3 with fail
 generalize aH:(w.alloc _).alloc _=W1
 have bL:=eqB aH (Zt _ _ _)
 have bK:=eqH (b:=w.heap.size) aH (Q5 _ _ _)
 have aZ:=eqH (b:=w.heap.size+1) aH (Q6 _ _ _)
 obtain ⟨D,aW,aX⟩:=Qqo bL bK aZ
 have aI:=Z8 aZ
 clear aH bL bK aZ
 have aQ:=((Qq (Qz W1 W1)).out.block _ (Z8 aW.out)).trans aW.out
 have c6:=rA6 aQ
 clear aQ
 obtain ⟨qb,q0,q1,q2,q3,q4,q5,q6,q7,q8⟩:=bU.out
 have T:=kD D.out qb q0;have U:=kD D.out qb q1;have V:=kD D.out qb q2;have Y:=kD D.out qb q3;have Z:=kD D.out qb q4;have aA:=kD D.out qb q5;have aB:=kD D.out qb q6;have aC:=kD D.out qb q7;have aD:=kD D.out qb q8
 clear qb q0 q1 q2 q3 q4 q5 q6 q7 q8
 go_upto_region 4 with (go_at_call 97;refine (bX.out _ D.out).mono ?_;rintro e w5 ⟨k5,n5,s5,aO,aM,aK,aP,aN,aL,b5,rfl,bQ,bM⟩;have aV:=Qq bQ;have bV:=Qq bM;clear bQ bM)
 generalize aY:w5.alloc _=W6
 have bA:=eqB aY (Zg _ _)
 have bJ:=eqH (b:=w5.heap.size) aY (Qw _ _)
 obtain ⟨I,N,cJ⟩:=Qqo (bV.out.thn bA) bJ bA
 clear aY bA bJ
 have cL:w.heap.size+1<W6.heap.size:=Qqq I.out.size
 clear c6 T U V Y Z aA aB aC aD
 have aE:=kB I.out aW.out
 have c1:=rA1 aE;have c6:=rA6 aE
 clear aE
 have cE:b5=false∨(b5=true∧(k5 != 2)=true)∨(b5=true∧k5=2):=by
  cases b5 with
  | false=>exact .inl rfl
  | true=>
   by_cases h:k5=2
   ·exact .inr (.inr ⟨rfl,h⟩)
   exact .inr (.inl ⟨rfl,by simpa using h⟩)
 rcases cE with rfl | ⟨rfl,hq⟩ | ⟨rfl,rfl⟩
 focus
  obtain ⟨v0,v1,v2,v3,v4⟩:=row5 N.out
  have A:=kE I.out aI aX.out
  obtain ⟨y0,y1,y2,y3,y4⟩:=row5 A
  obtain ⟨f0,f1,f2,f3,f4⟩:=frz5 A
  have O:=Qq A
  clear A
  go_wp2_with fail
  show bodyPost _ _ _ _ _ (Zl W6 (w+1) k5 n5 (.string s5) (.slice aO aM aK) (.slice aP aN aL))
  refine Q7 (v:=.tuple #[.agg #[k5,n5,.string s5,.slice aO aM aK,.slice aP aN aL],.bool false]) (by simp [results,results147,go_sem,Zd O.out]) rfl (Vz Qqj (D.out.thn I.out) (by rw [aU.out,aV.out.2 (by first | rfl | trivial)];rfl))
 focus
  have bY:Hid (r=none):=Qq (by
   obtain ⟨v,aJ,cG,bD⟩:=aV.out.1 (by first | rfl | trivial)
   rw [aU.out,bD]
   exact if_neg (by rw [aJ.head.1];simpa using hq))
  obtain ⟨v0,v1,v2,v3,v4⟩:=row5 N.out
  have A:=kE I.out aI aX.out
  obtain ⟨y0,y1,y2,y3,y4⟩:=row5 A
  obtain ⟨f0,f1,f2,f3,f4⟩:=frz5 A
  have O:=Qq A
  clear A
  go_wp2_with fail
  show bodyPost _ _ _ _ _ (Zl W6 (w+1) k5 n5 (.string s5) (.slice aO aM aK) (.slice aP aN aL))
  refine Q7 (v:=.tuple #[.agg #[k5,n5,.string s5,.slice aO aM aK,.slice aP aN aL],.bool false]) (by simp [results,results147,go_sem,Zd O.out]) rfl (Vz Qqj (D.out.thn I.out) bY.out)
 focus
  obtain ⟨v0,v1,v2,v3,v4⟩:=row5 N.out
  have bZ:Hid (r=some (Vv (decide (n5=0)))):=Qq (by
   obtain ⟨v,aJ,cG,bD⟩:=aV.out.1 (by first | rfl | trivial)
   rw [aU.out,bD]
   show (if v.kind=2 then _ else none)=_
   rw [if_pos aJ.head.1,aJ.head.2.1])
  have hq:((2:Int) != 2)=false:=rfl
  go_wp2_with (go_at_call 144;refine (Bw _ _).mono ?_;rintro e cI ⟨X,hX,rfl,aR⟩;have bH:=Qq hX;clear hX;have J:=I.out.thn aR;have M:=kE (J) aI aX.out;obtain ⟨y0,y1,y2,y3,y4⟩:=row5 M;obtain ⟨f0,f1,f2,f3,f4⟩:=frz5 M;have bI:=Qq M;clear M;have bF:=Qq J;clear aR J)
  show bodyPost _ _ _ _ _ (Zl cI (w+1) (.int .i64 2) X Qqe Qqf Qqf)
  refine Q7 (v:=.tuple #[.agg #[.int .i64 2,X,Qqe,Qqf,Qqf],.bool true]) (by simp [results,results147,go_sem,Zd bI.out]) rfl (Jk D.out Qqj aI (.yes (Y8 (s:=[]) Qqk (Sl.nil _ _ _) (Sl.nil _ _ _)) (Fw bH.out) (by rw [bZ.out,bH.out];unfold Vv;simp)) bF.out)
theorem Qjr (nm:Bs) (hnm:nm=[97,110,100]) (n:Int) (s:Bs) (names binds:List Bs) (kids:List Ex) (a z:Int) (d:Nat) (h2:kids.length=2) (ih:∀ x ∈ kids,Xn d x) :∀ (S:Nat→Prop) (ce:List Value) (nv vv:Value) (ns:List Bs) (vs:List Val) (w:World),Yv S w ce (.mk 14 nm n s names binds kids a z)→Sl Zh S w nv ns→Sl Ze S w vv vs→ns.length≤vs.length→vs.length+(d+1)≤1000→(∀ v ∈ vs,Y3 v) →
  Calls prog 147 #[ce,nv,vv] w (X6 S w (opV (fun x=>Y1 d x ns vs) nm kids)):=by
 subst hnm
 intro S ce nv vv ns vs w U dP dS bX hd hb
 obtain ⟨r,hr⟩:=eX (opV (fun x=>Y1 d x ns vs) [97,110,100] kids)
 rw [hr]
 have HR:=Qq hr;have H2:=Qq h2
 clear hr
 have hx:Yv (fun b=>S b∧b<w) w ce (.mk 14 [97,110,100] n s names binds kids a z):=U.move (.refl _ _) (fun b hb h=>⟨h,hb⟩)
 have hn:=dP.up
 have hv:=dS.up
 obtain ⟨np,nc,rfl,_⟩:=hn.len
 obtain ⟨vp,vc,rfl,gV⟩:=hv.len
 have fO:=Qq hx
 obtain ⟨hA,bv,kv,rfl,hnm,gU,cO,cN,hk⟩:=Yx.1 hx
 obtain ⟨p1,c1,rfl,_⟩:=cO.len
 obtain ⟨p2,c2,rfl,_⟩:=cN.len
 obtain ⟨p3,c3,rfl,gT⟩:=hk.len
 obtain ⟨HN,HV,dB,fN,fK,HK,HI,bQ⟩:=Qqu hn hv hb cO cN hk ih bX
 clear U dP dS hx hn hv cO cN hk hb ih bX
 unfold sv at *
 rw [h2] at HK ⊢
 obtain ⟨x0,U⟩:∃ x,kids[0]?=some x:=⟨_,Qx Qqj⟩
 obtain ⟨gW,gY,fX,gB,fZ,gD,fP,gH,gN,fR,gJ,gP,fT,gL,gR,fV,gF,dQ,bV,bJ,aO,aQ,aS,aU,aW,aY,bA,bC,bE⟩:=HK.out.ex U
 subst dQ
 simp only [Nat.zero_mul,Nat.add_zero] at aO aQ aS aU aW aY bA bC bE
 have eR:=Qq (fun W (hW:Below w w W)=>HI.out x0 (Qy U) (fun b=>S b∧b<w) _ _ _ ns vs W (bJ.move (.of_below hW) Qzx) (HN.out.below hW) (HV.out.below hW) bQ.out Qqj dB.out)
 obtain ⟨fG,eT,fL⟩:=Qqo bJ U (Qy U)
 have eO:=Qq (Qe bV (Qe aO (Qe aQ (Qe aS (Qe aU (Qe aW (Qe aY (Qe bA (Qe bC bE)))))))))
 clear bJ U bV aO aQ aS aU aW aY bA bC bE
 obtain ⟨x1,bL⟩:∃ x,kids[1]?=some x:=⟨_,Qx Qqj⟩
 obtain ⟨gX,gZ,fY,gC,gA,gE,fQ,gI,gO,fS,gK,gQ,fU,gM,gS,fW,gG,bY,bW,bK,aP,aR,aT,aV,aX,aZ,bB,bD,bF⟩:=HK.out.ex bL
 simp only [Zv,Addr.mk.injEq,and_true] at bY
 obtain ⟨rfl,rfl⟩:=bY
 simp only [Nat.one_mul] at aP aR aT aV aX aZ bB bD bF
 have eS:=Qq (fun W (hW:Below w w W)=>HI.out x1 (Qy bL) (fun b=>S b∧b<w) _ _ _ ns vs W (bK.move (.of_below hW) Qzx) (HN.out.below hW) (HV.out.below hW) bQ.out Qqj dB.out)
 have bM:Hid (r=(Y1 d x0 ns vs).bind fun u=>if u.kind=2 then (if u.n=0 then some u else (Y1 d x1 ns vs).bind fun v=>if v.kind=2 then some v else none) else none):=Qq (HR.out.symm.trans (opV_and (f:=fun x=>Y1 d x ns vs) H2.out eT.out bL rfl));have fH:=Qq bK;have fM:=Qq (Qy bL)
 have eP:=Qq (Qe bW (Qe aP (Qe aR (Qe aT (Qe aV (Qe aX (Qe aZ (Qe bB (Qe bD bF)))))))))
 clear bK bL bW aP aR aT aV aX aZ bB bD bF
 go_enter func147,ntmps147
 go_upto_region 3 with fail
 generalize bO:(w.alloc _).alloc _=W1
 have dM:=eqB bO (Zt _ _ _)
 have dL:=eqH (b:=w.heap.size) bO (Q5 _ _ _)
 have cK:=eqH (b:=w.heap.size+1) bO (Q6 _ _ _)
 obtain ⟨A,bN,aF⟩:=Qqo dM dL cK
 have aG:=Z8 cK
 clear bO dM dL cK
 have bT:=((Qq (Qz W1 W1)).out.block _ (Z8 bN.out)).trans bN.out
 have c6:=rA6 bT
 clear bT
 obtain ⟨N,q0,q1,q2,q3,q4,q5,q6,q7,q8⟩:=eO.out
 have aO:=kD A.out N q0;have aQ:=kD A.out N q1;have aS:=kD A.out N q2;have aU:=kD A.out N q3;have aW:=kD A.out N q4;have aY:=kD A.out N q5;have bA:=kD A.out N q6;have bC:=kD A.out N q7;have bE:=kD A.out N q8
 clear N q0 q1 q2 q3 q4 q5 q6 q7 q8
 go_upto_region 4 with (go_at_call 97;refine (eR.out _ A.out).mono ?_;rintro e w5 ⟨k5,n5,s5,aL,aJ,aH,aM,aK,aI,b5,rfl,dT,dN⟩;have aN:=Qq dT;have eQ:=Qq dN;clear dT dN)
 generalize cI:w5.alloc _=W6
 have cL:=eqB cI (Zg _ _)
 have dJ:=eqH (b:=w5.heap.size) cI (Qw _ _)
 obtain ⟨I,aE,dC⟩:=Qqo (eQ.out.thn cL) dJ cL
 clear cI cL dJ
 have fI:w.heap.size+1<W6.heap.size:=Qqq I.out.size
 clear c6 aO aQ aS aU aW aY bA bC bE
 have bG:=kB I.out bN.out
 have c1:=rA1 bG;have c6:=rA6 bG
 clear bG
 have fC:b5=false∨(b5=true∧(k5 != 2)=true)∨(b5=true∧k5=2):=by
  cases b5 with
  | false=>exact .inl rfl
  | true=>
   by_cases h:k5=2
   ·exact .inr (.inr ⟨rfl,h⟩)
   exact .inr (.inl ⟨rfl,by simpa using h⟩)
 rcases fC with rfl | ⟨rfl,hq⟩ | ⟨rfl,rfl⟩
 focus
  obtain ⟨v0,v1,v2,v3,v4⟩:=row5 aE.out
  have D:=kE I.out aG aF.out
  obtain ⟨y0,y1,y2,y3,y4⟩:=row5 D
  obtain ⟨f0,f1,f2,f3,f4⟩:=frz5 D
  have O:=Qq D
  clear D
  go_wp2_with fail
  show bodyPost _ _ _ _ _ (Zl W6 (w+1) k5 n5 (.string s5) (.slice aL aJ aH) (.slice aM aK aI))
  refine Q7 (v:=.tuple #[.agg #[k5,n5,.string s5,.slice aL aJ aH,.slice aM aK aI],.bool false]) (by simp [results,results147,go_sem,Zd O.out]) rfl (Vz Qqj (A.out.thn I.out) (by rw [bM.out,aN.out.2 (by first | rfl | trivial)];rfl))
 focus
  have eW:Hid (r=none):=Qq (by
   obtain ⟨v,cP,dV,fE⟩:=aN.out.1 (by first | rfl | trivial)
   rw [bM.out,fE]
   exact if_neg (by rw [cP.head.1];simpa using hq))
  obtain ⟨v0,v1,v2,v3,v4⟩:=row5 aE.out
  have D:=kE I.out aG aF.out
  obtain ⟨y0,y1,y2,y3,y4⟩:=row5 D
  obtain ⟨f0,f1,f2,f3,f4⟩:=frz5 D
  have O:=Qq D
  clear D
  go_wp2_with fail
  show bodyPost _ _ _ _ _ (Zl W6 (w+1) k5 n5 (.string s5) (.slice aL aJ aH) (.slice aM aK aI))
  refine Q7 (v:=.tuple #[.agg #[k5,n5,.string s5,.slice aL aJ aH,.slice aM aK aI],.bool false]) (by simp [results,results147,go_sem,Zd O.out]) rfl (Vz Qqj (A.out.thn I.out) eW.out)
 have fA:n5=0∨n5=1:=by
  obtain ⟨v,cP,dV,_⟩:=aN.out.1 rfl
  obtain ⟨h1,h2,_⟩:=cP.head
  rw [← h2]
  have:=dV.bool h1
  omega
 have hq:((2:Int) != 2)=false:=rfl
 rcases fA with rfl | rfl
 focus
  obtain ⟨v0,v1,v2,v3,v4⟩:=row5 aE.out
  have D:=kE I.out aG aF.out
  obtain ⟨y0,y1,y2,y3,y4⟩:=row5 D
  obtain ⟨f0,f1,f2,f3,f4⟩:=frz5 D
  have O:=Qq D
  clear D
  go_wp2_with fail
  show bodyPost _ _ _ _ _ (Zl W6 (w+1) (.int .i64 2) Qqd (.string s5) (.slice aL aJ aH) (.slice aM aK aI))
  refine Q7 (v:=.tuple #[.agg #[.int .i64 2,Qqd,.string s5,.slice aL aJ aH,.slice aM aK aI],.bool true]) (by simp [results,results147,go_sem,Zd O.out]) rfl (Kg Qqj (A.out.thn I.out) (by
   obtain ⟨v,h1,h2,h3⟩:=aN.out.1 (by first | rfl | trivial)
   refine .yes (h1.move (.of_below dC.out) (fun c _ hc=>?_)) h2 (by
    rw [bM.out,h3]
    show (if v.kind=2 then (if v.n=0 then some v else _) else none)=_
    rw [if_pos h1.head.1,if_pos h1.head.2.1])
   rcases hc with hc | hc
   ·exact .inl hc
   exact .inr (by have h':W1.heap.size≤c:=hc;omega)))
 focus
  obtain ⟨v0,v1,v2,v3,v4⟩:=row5 aE.out
  have cE:Hid (r=(Y1 d x1 ns vs).bind fun v=>if v.kind=2 then some v else none):=Qq (by
   obtain ⟨v,h1,h2,h3⟩:=aN.out.1 (by first | rfl | trivial)
   rw [bM.out,h3]
   show (if v.kind=2 then (if v.n=0 then some v else _) else none)=_
   rw [if_pos h1.head.1,if_neg (by rw [h1.head.2.1];decide)])
  obtain ⟨N,q0,q1,q2,q3,q4,q5,q6,q7,q8⟩:=eP.out
  have aP:=kD (A.out.thn I.out) N q0;have aR:=kD (A.out.thn I.out) N q1;have aT:=kD (A.out.thn I.out) N q2;have aV:=kD (A.out.thn I.out) N q3;have aX:=kD (A.out.thn I.out) N q4;have aZ:=kD (A.out.thn I.out) N q5;have bB:=kD (A.out.thn I.out) N q6;have bD:=kD (A.out.thn I.out) N q7;have bF:=kD (A.out.thn I.out) N q8
  clear N q0 q1 q2 q3 q4 q5 q6 q7 q8
  go_upto_region 12 with (go_at_call 97;refine (eS.out _ (A.out.thn I.out)).mono ?_;rintro e w7 ⟨k7,n7,s7,aB,Z,V,aC,aA,Y,b7,rfl,dU,dO⟩;have cG:=Qq dU;have cB:=Qq dO;clear dU dO)
  generalize cJ:w7.alloc _=W8
  have cM:=eqB cJ (Zg _ _)
  have dK:=eqH (b:=w7.heap.size) cJ (Qw _ _)
  obtain ⟨dA,bR,dD⟩:=Qqo (cB.out.thn cM) dK cM
  clear cJ cM dK
  have fJ:w.heap.size+1<W8.heap.size:=Qqq dA.out.size
  clear aP aR aT aV aX aZ bB bD bF
  have M:=Qq (I.out.thn dA.out)
  clear c1 c6 v0 v1 v2 v3 v4 hq
  have bH:=kB M.out bN.out
  have c1:=rA1 bH;have c6:=rA6 bH
  clear bH
  cases b7 with
  | false=>
   obtain ⟨u0,u1,u2,u3,u4⟩:=row5 bR.out
   have G:=kE M.out aG aF.out
   obtain ⟨y0,y1,y2,y3,y4⟩:=row5 G
   obtain ⟨f0,f1,f2,f3,f4⟩:=frz5 G
   have T:=Qq G
   clear G
   go_wp2_with fail
   show bodyPost _ _ _ _ _ (Zl W8 (w+1) k7 n7 (.string s7) (.slice aB Z V) (.slice aC aA Y))
   refine Q7 (v:=.tuple #[.agg #[k7,n7,.string s7,.slice aB Z V,.slice aC aA Y],.bool false]) (by simp [results,results147,go_sem,Zd T.out]) rfl (Vz Qqj (A.out.thn M.out) (by rw [cE.out,cG.out.2 (by first | rfl | trivial)];rfl))
  | true=>
   obtain ⟨u0,u1,u2,u3,u4⟩:=row5 bR.out
   go_upto_region 15 with fail
   by_cases hk:k7=2
   focus
    subst hk
    have hq:((2:Int)==2)=true:=rfl
    have G:=kE M.out aG aF.out
    obtain ⟨y0,y1,y2,y3,y4⟩:=row5 G
    obtain ⟨f0,f1,f2,f3,f4⟩:=frz5 G
    have T:=Qq G
    clear G
    have J:w7≠w.heap.size+1:=by have h1:=I.out.size;have h2:=cB.out.size;omega
    refine let_mvar% ?Lq2:=fun w':World=>(Qze w' w7 (.int .i64 2) n7 (.string s7) (.slice aB Z V) (.slice aC aA Y):Prop);?_
    have cF:=Qq (show ?Lq2 W8.drew from ⟨u0,u1,u2,u3,u4⟩)
    have HP:∀ x0 x1 x2 x3 x4,?Lq2 (Zl W8 (w+1) x0 x1 x2 x3 x4).drew:=fun x0 x1 x2 x3 x4=>⟨Ye J u0,Ye J u1,Ye J u2,Ye J u3,Ye J u4⟩
    unfold Zl at HP
    have cD:=Qq HP
    clear HP J u0 u1 u2 u3 u4
    go_region_held3 ?Lq2 (first | with_reducible exact cF.out | with_reducible exact cD.out _ _ _ _ _) (fail)
    all_goals
     go_wp2_with fail
     show bodyPost _ _ _ _ _ (Zl W8 (w+1) (.int .i64 2) n7 (.string s7) (.slice aB Z V) (.slice aC aA Y)).drew
     refine Q7 (v:=.tuple #[.agg #[.int .i64 2,n7,.string s7,.slice aB Z V,.slice aC aA Y],.bool true]) (by simp [results,results147,go_sem,Zd T.out]) rfl (Kg Qqj (A.out.thn M.out) (by
      obtain ⟨v,h1,h2,h3⟩:=cG.out.1 (by first | rfl | trivial)
      refine .yes (h1.move (.of_below dD.out) (fun c _ hc=>?_)) h2 (by
       rw [cE.out,h3]
       exact if_pos h1.head.1)
      rcases hc with hc | hc
      ·exact .inl hc
      exact .inr (by have h':W6.heap.size≤c:=hc;omega))).drew
   focus
    have hq:(k7==2)=false:=by rw [← Qt,beq_iff_eq];exact hk
    have eV:Hid (r=none):=Qq (by
     obtain ⟨v,h1,h2,h3⟩:=cG.out.1 (by first | rfl | trivial)
     rw [cE.out,h3]
     exact if_neg (by rw [h1.head.1];exact hk))
    clear hk
    have G:=kE M.out aG aF.out
    obtain ⟨y0,y1,y2,y3,y4⟩:=row5 G
    obtain ⟨f0,f1,f2,f3,f4⟩:=frz5 G
    have T:=Qq G
    clear G
    have J:w7≠w.heap.size+1:=by have h1:=I.out.size;have h2:=cB.out.size;omega
    refine let_mvar% ?Lq1:=fun w':World=>(Qze w' w7 k7 n7 (.string s7) (.slice aB Z V) (.slice aC aA Y):Prop);?_
    have cF:=Qq (show ?Lq1 W8.drew from ⟨u0,u1,u2,u3,u4⟩)
    have HP:∀ x0 x1 x2 x3 x4,?Lq1 (Zl W8 (w+1) x0 x1 x2 x3 x4).drew:=fun x0 x1 x2 x3 x4=>⟨Ye J u0,Ye J u1,Ye J u2,Ye J u3,Ye J u4⟩
    unfold Zl at HP
    have cD:=Qq HP
    clear HP J u0 u1 u2 u3 u4
    go_region_held3 ?Lq1 (first | with_reducible exact cF.out | with_reducible exact cD.out _ _ _ _ _) (fail)
    all_goals
     go_wp2_with fail
     show bodyPost _ _ _ _ _ (Zl W8 (w+1) k7 n7 (.string s7) (.slice aB Z V) (.slice aC aA Y)).drew
     refine Q7 (v:=.tuple #[.agg #[k7,n7,.string s7,.slice aB Z V,.slice aC aA Y],.bool false]) (by simp [results,results147,go_sem,Zd T.out]) rfl (Vz Qqj (A.out.thn M.out) eV.out).drew
theorem roper_or (nm:Bs) (hnm:nm=[111,114]) (n:Int) (s:Bs) (names binds:List Bs) (kids:List Ex) (a z:Int) (d:Nat) (h2:kids.length=2) (ih:∀ x ∈ kids,Xn d x) :∀ (S:Nat→Prop) (ce:List Value) (nv vv:Value) (ns:List Bs) (vs:List Val) (w:World),Yv S w ce (.mk 14 nm n s names binds kids a z)→Sl Zh S w nv ns→Sl Ze S w vv vs→ns.length≤vs.length→vs.length+(d+1)≤1000→(∀ v ∈ vs,Y3 v) →
  Calls prog 147 #[ce,nv,vv] w (X6 S w (opV (fun x=>Y1 d x ns vs) nm kids)):=by
 subst hnm
 intro S ce nv vv ns vs w U dP dS bX hd hb
 obtain ⟨r,hr⟩:=eX (opV (fun x=>Y1 d x ns vs) [111,114] kids)
 rw [hr]
 have HR:=Qq hr;have H2:=Qq h2
 clear hr
 have hx:Yv (fun b=>S b∧b<w) w ce (.mk 14 [111,114] n s names binds kids a z):=U.move (.refl _ _) (fun b hb h=>⟨h,hb⟩)
 have hn:=dP.up
 have hv:=dS.up
 obtain ⟨np,nc,rfl,_⟩:=hn.len
 obtain ⟨vp,vc,rfl,gV⟩:=hv.len
 have fO:=Qq hx
 obtain ⟨hA,bv,kv,rfl,hnm,gU,cO,cN,hk⟩:=Yx.1 hx
 obtain ⟨p1,c1,rfl,_⟩:=cO.len
 obtain ⟨p2,c2,rfl,_⟩:=cN.len
 obtain ⟨p3,c3,rfl,gT⟩:=hk.len
 obtain ⟨HN,HV,dB,fN,fK,HK,HI,bQ⟩:=Qqu hn hv hb cO cN hk ih bX
 clear U dP dS hx hn hv cO cN hk hb ih bX
 unfold sv at *
 rw [h2] at HK ⊢
 obtain ⟨x0,U⟩:∃ x,kids[0]?=some x:=⟨_,Qx Qqj⟩
 obtain ⟨gW,gY,fX,gB,fZ,gD,fP,gH,gN,fR,gJ,gP,fT,gL,gR,fV,gF,dQ,bV,bJ,aO,aQ,aS,aU,aW,aY,bA,bC,bE⟩:=HK.out.ex U
 subst dQ
 simp only [Nat.zero_mul,Nat.add_zero] at aO aQ aS aU aW aY bA bC bE
 have eR:=Qq (fun W (hW:Below w w W)=>HI.out x0 (Qy U) (fun b=>S b∧b<w) _ _ _ ns vs W (bJ.move (.of_below hW) Qzx) (HN.out.below hW) (HV.out.below hW) bQ.out Qqj dB.out)
 obtain ⟨fG,eT,fL⟩:=Qqo bJ U (Qy U)
 have eO:=Qq (Qe bV (Qe aO (Qe aQ (Qe aS (Qe aU (Qe aW (Qe aY (Qe bA (Qe bC bE)))))))))
 clear bJ U bV aO aQ aS aU aW aY bA bC bE
 obtain ⟨x1,bL⟩:∃ x,kids[1]?=some x:=⟨_,Qx Qqj⟩
 obtain ⟨gX,gZ,fY,gC,gA,gE,fQ,gI,gO,fS,gK,gQ,fU,gM,gS,fW,gG,bY,bW,bK,aP,aR,aT,aV,aX,aZ,bB,bD,bF⟩:=HK.out.ex bL
 simp only [Zv,Addr.mk.injEq,and_true] at bY
 obtain ⟨rfl,rfl⟩:=bY
 simp only [Nat.one_mul] at aP aR aT aV aX aZ bB bD bF
 have eS:=Qq (fun W (hW:Below w w W)=>HI.out x1 (Qy bL) (fun b=>S b∧b<w) _ _ _ ns vs W (bK.move (.of_below hW) Qzx) (HN.out.below hW) (HV.out.below hW) bQ.out Qqj dB.out)
 have bM:Hid (r=(Y1 d x0 ns vs).bind fun u=>if u.kind=2 then (if u.n=1 then some u else (Y1 d x1 ns vs).bind fun v=>if v.kind=2 then some v else none) else none):=Qq (HR.out.symm.trans (opV_or (f:=fun x=>Y1 d x ns vs) H2.out eT.out bL rfl));have fH:=Qq bK;have fM:=Qq (Qy bL)
 have eP:=Qq (Qe bW (Qe aP (Qe aR (Qe aT (Qe aV (Qe aX (Qe aZ (Qe bB (Qe bD bF)))))))))
 clear bK bL bW aP aR aT aV aX aZ bB bD bF
 go_enter func147,ntmps147
 go_upto_region 3 with fail
 generalize bO:(w.alloc _).alloc _=W1
 have dM:=eqB bO (Zt _ _ _)
 have dL:=eqH (b:=w.heap.size) bO (Q5 _ _ _)
 have cK:=eqH (b:=w.heap.size+1) bO (Q6 _ _ _)
 obtain ⟨A,bN,aF⟩:=Qqo dM dL cK
 have aG:=Z8 cK
 clear bO dM dL cK
 have bT:=((Qq (Qz W1 W1)).out.block _ (Z8 bN.out)).trans bN.out
 have c6:=rA6 bT
 clear bT
 obtain ⟨N,q0,q1,q2,q3,q4,q5,q6,q7,q8⟩:=eO.out
 have aO:=kD A.out N q0;have aQ:=kD A.out N q1;have aS:=kD A.out N q2;have aU:=kD A.out N q3;have aW:=kD A.out N q4;have aY:=kD A.out N q5;have bA:=kD A.out N q6;have bC:=kD A.out N q7;have bE:=kD A.out N q8
 clear N q0 q1 q2 q3 q4 q5 q6 q7 q8
 go_upto_region 4 with (go_at_call 97;refine (eR.out _ A.out).mono ?_;rintro e w5 ⟨k5,n5,s5,aL,aJ,aH,aM,aK,aI,b5,rfl,dT,dN⟩;have aN:=Qq dT;have eQ:=Qq dN;clear dT dN)
 generalize cI:w5.alloc _=W6
 have cL:=eqB cI (Zg _ _)
 have dJ:=eqH (b:=w5.heap.size) cI (Qw _ _)
 obtain ⟨I,aE,dC⟩:=Qqo (eQ.out.thn cL) dJ cL
 clear cI cL dJ
 have fI:w.heap.size+1<W6.heap.size:=Qqq I.out.size
 clear c6 aO aQ aS aU aW aY bA bC bE
 have bG:=kB I.out bN.out
 have c1:=rA1 bG;have c6:=rA6 bG
 clear bG
 have fC:b5=false∨(b5=true∧(k5 != 2)=true)∨(b5=true∧k5=2):=by
  cases b5 with
  | false=>exact .inl rfl
  | true=>
   by_cases h:k5=2
   ·exact .inr (.inr ⟨rfl,h⟩)
   exact .inr (.inl ⟨rfl,by simpa using h⟩)
 rcases fC with rfl | ⟨rfl,hq⟩ | ⟨rfl,rfl⟩
 focus
  obtain ⟨v0,v1,v2,v3,v4⟩:=row5 aE.out
  have D:=kE I.out aG aF.out
  obtain ⟨y0,y1,y2,y3,y4⟩:=row5 D
  obtain ⟨f0,f1,f2,f3,f4⟩:=frz5 D
  have O:=Qq D
  clear D
  go_wp2_with fail
  show bodyPost _ _ _ _ _ (Zl W6 (w+1) k5 n5 (.string s5) (.slice aL aJ aH) (.slice aM aK aI))
  refine Q7 (v:=.tuple #[.agg #[k5,n5,.string s5,.slice aL aJ aH,.slice aM aK aI],.bool false]) (by simp [results,results147,go_sem,Zd O.out]) rfl (Vz Qqj (A.out.thn I.out) (by rw [bM.out,aN.out.2 (by first | rfl | trivial)];rfl))
 focus
  have eW:Hid (r=none):=Qq (by
   obtain ⟨v,cP,dV,fE⟩:=aN.out.1 (by first | rfl | trivial)
   rw [bM.out,fE]
   exact if_neg (by rw [cP.head.1];simpa using hq))
  obtain ⟨v0,v1,v2,v3,v4⟩:=row5 aE.out
  have D:=kE I.out aG aF.out
  obtain ⟨y0,y1,y2,y3,y4⟩:=row5 D
  obtain ⟨f0,f1,f2,f3,f4⟩:=frz5 D
  have O:=Qq D
  clear D
  go_wp2_with fail
  show bodyPost _ _ _ _ _ (Zl W6 (w+1) k5 n5 (.string s5) (.slice aL aJ aH) (.slice aM aK aI))
  refine Q7 (v:=.tuple #[.agg #[k5,n5,.string s5,.slice aL aJ aH,.slice aM aK aI],.bool false]) (by simp [results,results147,go_sem,Zd O.out]) rfl (Vz Qqj (A.out.thn I.out) eW.out)
 have fA:n5=1∨n5=0:=by
  obtain ⟨v,cP,dV,_⟩:=aN.out.1 rfl
  obtain ⟨h1,h2,_⟩:=cP.head
  rw [← h2]
  have:=dV.bool h1
  omega
 have hq:((2:Int) != 2)=false:=rfl
 rcases fA with rfl | rfl
 focus
  obtain ⟨v0,v1,v2,v3,v4⟩:=row5 aE.out
  have D:=kE I.out aG aF.out
  obtain ⟨y0,y1,y2,y3,y4⟩:=row5 D
  obtain ⟨f0,f1,f2,f3,f4⟩:=frz5 D
  have O:=Qq D
  clear D
  go_wp2_with fail
  show bodyPost _ _ _ _ _ (Zl W6 (w+1) (.int .i64 2) (.int .i64 1) (.string s5) (.slice aL aJ aH) (.slice aM aK aI))
  refine Q7 (v:=.tuple #[.agg #[.int .i64 2,.int .i64 1,.string s5,.slice aL aJ aH,.slice aM aK aI],.bool true]) (by simp [results,results147,go_sem,Zd O.out]) rfl (Kg Qqj (A.out.thn I.out) (by
   obtain ⟨v,h1,h2,h3⟩:=aN.out.1 (by first | rfl | trivial)
   refine .yes (h1.move (.of_below dC.out) (fun c _ hc=>?_)) h2 (by
    rw [bM.out,h3]
    show (if v.kind=2 then (if v.n=1 then some v else _) else none)=_
    rw [if_pos h1.head.1,if_pos h1.head.2.1])
   rcases hc with hc | hc
   ·exact .inl hc
   exact .inr (by have h':W1.heap.size≤c:=hc;omega)))
 focus
  obtain ⟨v0,v1,v2,v3,v4⟩:=row5 aE.out
  have cE:Hid (r=(Y1 d x1 ns vs).bind fun v=>if v.kind=2 then some v else none):=Qq (by
   obtain ⟨v,h1,h2,h3⟩:=aN.out.1 (by first | rfl | trivial)
   rw [bM.out,h3]
   show (if v.kind=2 then (if v.n=1 then some v else _) else none)=_
   rw [if_pos h1.head.1,if_neg (by rw [h1.head.2.1];decide)])
  obtain ⟨N,q0,q1,q2,q3,q4,q5,q6,q7,q8⟩:=eP.out
  have aP:=kD (A.out.thn I.out) N q0;have aR:=kD (A.out.thn I.out) N q1;have aT:=kD (A.out.thn I.out) N q2;have aV:=kD (A.out.thn I.out) N q3;have aX:=kD (A.out.thn I.out) N q4;have aZ:=kD (A.out.thn I.out) N q5;have bB:=kD (A.out.thn I.out) N q6;have bD:=kD (A.out.thn I.out) N q7;have bF:=kD (A.out.thn I.out) N q8
  clear N q0 q1 q2 q3 q4 q5 q6 q7 q8
  go_upto_region 12 with (go_at_call 97;refine (eS.out _ (A.out.thn I.out)).mono ?_;rintro e w7 ⟨k7,n7,s7,aB,Z,V,aC,aA,Y,b7,rfl,dU,dO⟩;have cG:=Qq dU;have cB:=Qq dO;clear dU dO)
  generalize cJ:w7.alloc _=W8
  have cM:=eqB cJ (Zg _ _)
  have dK:=eqH (b:=w7.heap.size) cJ (Qw _ _)
  obtain ⟨dA,bR,dD⟩:=Qqo (cB.out.thn cM) dK cM
  clear cJ cM dK
  have fJ:w.heap.size+1<W8.heap.size:=Qqq dA.out.size
  clear aP aR aT aV aX aZ bB bD bF
  have M:=Qq (I.out.thn dA.out)
  clear c1 c6 v0 v1 v2 v3 v4 hq
  have bH:=kB M.out bN.out
  have c1:=rA1 bH;have c6:=rA6 bH
  clear bH
  cases b7 with
  | false=>
   obtain ⟨u0,u1,u2,u3,u4⟩:=row5 bR.out
   have G:=kE M.out aG aF.out
   obtain ⟨y0,y1,y2,y3,y4⟩:=row5 G
   obtain ⟨f0,f1,f2,f3,f4⟩:=frz5 G
   have T:=Qq G
   clear G
   go_wp2_with fail
   show bodyPost _ _ _ _ _ (Zl W8 (w+1) k7 n7 (.string s7) (.slice aB Z V) (.slice aC aA Y))
   refine Q7 (v:=.tuple #[.agg #[k7,n7,.string s7,.slice aB Z V,.slice aC aA Y],.bool false]) (by simp [results,results147,go_sem,Zd T.out]) rfl (Vz Qqj (A.out.thn M.out) (by rw [cE.out,cG.out.2 (by first | rfl | trivial)];rfl))
  | true=>
   obtain ⟨u0,u1,u2,u3,u4⟩:=row5 bR.out
   go_upto_region 15 with fail
   by_cases hk:k7=2
   focus
    subst hk
    have hq:((2:Int)==2)=true:=rfl
    have G:=kE M.out aG aF.out
    obtain ⟨y0,y1,y2,y3,y4⟩:=row5 G
    obtain ⟨f0,f1,f2,f3,f4⟩:=frz5 G
    have T:=Qq G
    clear G
    have J:w7≠w.heap.size+1:=by have h1:=I.out.size;have h2:=cB.out.size;omega
    refine let_mvar% ?Lq2:=fun w':World=>(Qze w' w7 (.int .i64 2) n7 (.string s7) (.slice aB Z V) (.slice aC aA Y):Prop);?_
    have cF:=Qq (show ?Lq2 W8.drew from ⟨u0,u1,u2,u3,u4⟩)
    have HP:∀ x0 x1 x2 x3 x4,?Lq2 (Zl W8 (w+1) x0 x1 x2 x3 x4).drew:=fun x0 x1 x2 x3 x4=>⟨Ye J u0,Ye J u1,Ye J u2,Ye J u3,Ye J u4⟩
    unfold Zl at HP
    have cD:=Qq HP
    clear HP J u0 u1 u2 u3 u4
    go_region_held3 ?Lq2 (first | with_reducible exact cF.out | with_reducible exact cD.out _ _ _ _ _) (fail)
    all_goals
     go_wp2_with fail
     show bodyPost _ _ _ _ _ (Zl W8 (w+1) (.int .i64 2) n7 (.string s7) (.slice aB Z V) (.slice aC aA Y)).drew
     refine Q7 (v:=.tuple #[.agg #[.int .i64 2,n7,.string s7,.slice aB Z V,.slice aC aA Y],.bool true]) (by simp [results,results147,go_sem,Zd T.out]) rfl (Kg Qqj (A.out.thn M.out) (by
      obtain ⟨v,h1,h2,h3⟩:=cG.out.1 (by first | rfl | trivial)
      refine .yes (h1.move (.of_below dD.out) (fun c _ hc=>?_)) h2 (by
       rw [cE.out,h3]
       exact if_pos h1.head.1)
      rcases hc with hc | hc
      ·exact .inl hc
      exact .inr (by have h':W6.heap.size≤c:=hc;omega))).drew
   focus
    have hq:(k7==2)=false:=by rw [← Qt,beq_iff_eq];exact hk
    have eV:Hid (r=none):=Qq (by
     obtain ⟨v,h1,h2,h3⟩:=cG.out.1 (by first | rfl | trivial)
     rw [cE.out,h3]
     exact if_neg (by rw [h1.head.1];exact hk))
    clear hk
    have G:=kE M.out aG aF.out
    obtain ⟨y0,y1,y2,y3,y4⟩:=row5 G
    obtain ⟨f0,f1,f2,f3,f4⟩:=frz5 G
    have T:=Qq G
    clear G
    have J:w7≠w.heap.size+1:=by have h1:=I.out.size;have h2:=cB.out.size;omega
    refine let_mvar% ?Lq1:=fun w':World=>(Qze w' w7 k7 n7 (.string s7) (.slice aB Z V) (.slice aC aA Y):Prop);?_
    have cF:=Qq (show ?Lq1 W8.drew from ⟨u0,u1,u2,u3,u4⟩)
    have HP:∀ x0 x1 x2 x3 x4,?Lq1 (Zl W8 (w+1) x0 x1 x2 x3 x4).drew:=fun x0 x1 x2 x3 x4=>⟨Ye J u0,Ye J u1,Ye J u2,Ye J u3,Ye J u4⟩
    unfold Zl at HP
    have cD:=Qq HP
    clear HP J u0 u1 u2 u3 u4
    go_region_held3 ?Lq1 (first | with_reducible exact cF.out | with_reducible exact cD.out _ _ _ _ _) (fail)
    all_goals
     go_wp2_with fail
     show bodyPost _ _ _ _ _ (Zl W8 (w+1) k7 n7 (.string s7) (.slice aB Z V) (.slice aC aA Y)).drew
     refine Q7 (v:=.tuple #[.agg #[k7,n7,.string s7,.slice aB Z V,.slice aC aA Y],.bool false]) (by simp [results,results147,go_sem,Zd T.out]) rfl (Vz Qqj (A.out.thn M.out) eV.out).drew
end Go.Proofs.YtdpibdpbgokmoaaGreatDoor

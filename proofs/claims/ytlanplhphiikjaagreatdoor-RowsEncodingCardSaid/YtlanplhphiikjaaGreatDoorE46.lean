import Derived.Test.YtlanplhphiikjaaGreatDoorE22
import Derived.Test.YtlanplhphiikjaaGreatDoorE24
set_option maxRecDepth 100000
set_option maxHeartbeats 400000000
namespace Go.Proofs.YtlanplhphiikjaaGreatDoor
open Go.RowKit Go.Shelf Go.Lib Tryz
theorem Vd (nm:Bs) (n:Int) (s:Bs) (names binds:List Bs) (kids:List Ex) (a z:Int) (d:Nat) (h2:kids.length=2) (hm:nm=[61,61]\/nm=[33,61]\/nm=[60]\/nm=[60,61]\/nm=[43]\/nm=[45]\/nm=[42]) (ih:∀ x ∈ kids,Xi d x) :∀ (S:Nat->Prop) (ce:List Value) (nv vv:Value) (ns:List Bs) (vs:List Val) (w:World),Y1 S w ce (.mk 14 nm n s names binds kids a z)->Sl Zg S w nv ns->Sl Zc S w vv vs->ns.length<=vs.length->vs.length+(d+1)<=1000->(∀ v ∈ vs,Y0 v) ->
  Calls prog 247 #[ce,nv,vv] w (Xy S w (opV (fun x=>Y5 d x ns vs) nm kids)):=by
 intro S ce nv vv ns vs w T dJ dM bU hd hb
 obtain ⟨r,hr⟩:=eX (opV (fun x=>Y5 d x ns vs) nm kids)
 rw [hr]
 have HR:=Qq hr;have H2:=Qq h2
 clear hr
 have hx:Y1 (fun b=>S b/\b<w) w ce (.mk 14 nm n s names binds kids a z):=T.move (.refl _ _) (fun b hb h=>⟨h,hb⟩)
 have hn:=dJ.up
 have hv:=dM.up
 obtain ⟨np,nc,rfl,_⟩:=hn.len
 obtain ⟨vp,vc,rfl,hZ⟩:=hv.len
 have gG:=Qq hx
 obtain ⟨iE,bv,kv,rfl,hV,hY,cK,cJ,hk⟩:=Yd.1 hx
 obtain ⟨p1,c1,rfl,_⟩:=cK.len
 obtain ⟨p2,c2,rfl,_⟩:=cJ.len
 obtain ⟨p3,c3,rfl,hU⟩:=hk.len
 obtain ⟨HN,HV,cR,gF,gC,HK,HI,bO⟩:=Qxt hn hv hb cK cJ hk ih bU
 clear T dJ dM hx hn hv cK cJ hk hb ih bU
 unfold sv at *
 rw [h2] at HK |-
 have HM:=Qq hm
 have n0:¬ nm=[97,110,100]:=by rcases hm with rfl | rfl | rfl | rfl | rfl | rfl | rfl <;> decide
 have m0:(nm==[97,110,100])=false:=by rcases hm with rfl | rfl | rfl | rfl | rfl | rfl | rfl <;> rfl
 have n1:¬ nm=[111,114]:=by rcases hm with rfl | rfl | rfl | rfl | rfl | rfl | rfl <;> decide
 have m1:(nm==[111,114])=false:=by rcases hm with rfl | rfl | rfl | rfl | rfl | rfl | rfl <;> rfl
 have n2:¬ nm=[110,111,116]:=by rcases hm with rfl | rfl | rfl | rfl | rfl | rfl | rfl <;> decide
 have m2:(nm==[110,111,116])=false:=by rcases hm with rfl | rfl | rfl | rfl | rfl | rfl | rfl <;> rfl
 clear hm
 obtain ⟨x0,T⟩:∃ x,kids[0]?=some x:=⟨_,Qx Qvu⟩
 obtain ⟨iA,iC,gX,hB,gZ,hD,gP,hI,hO,gR,hK,hQ,gT,hM,hS,gV,hF,dK,bS,bC,aI,aK,aM,aO,aQ,aS,aU,aW,aY⟩:=HK.out.ex T
 subst dK
 simp only [Nat.zero_mul,Nat.add_zero] at aI aK aM aO aQ aS aU aW aY
 have eT:=Qq (fun W (hW:Below w w W)=>HI.out x0 (Qy T) (fun b=>S b/\b<w) _ _ _ ns vs W (bC.move (.of_below hW) Qyv) (HN.out.below hW) (HV.out.below hW) bO.out Qvu cR.out)
 obtain ⟨fW,eV,gD⟩:=Qxn bC T (Qy T)
 have eO:=Qq (Qe bS (Qe aI (Qe aK (Qe aM (Qe aO (Qe aQ (Qe aS (Qe aU (Qe aW aY)))))))))
 clear bC T bS aI aK aM aO aQ aS aU aW aY
 obtain ⟨x1,bG⟩:∃ x,kids[1]?=some x:=⟨_,Qx Qvu⟩
 obtain ⟨iB,iD,gY,hC,hA,hE,gQ,hJ,hP,gS,hL,hR,gU,hN,hT,gW,hH,bV,bT,bD,aJ,aL,aN,aP,aR,aT,aV,aX,aZ⟩:=HK.out.ex bG
 simp only [Zv,Addr.mk.injEq,and_true] at bV
 obtain ⟨rfl,rfl⟩:=bV
 simp only [Nat.one_mul] at aJ aL aN aP aR aT aV aX aZ
 have eU:=Qq (fun W (hW:Below w w W)=>HI.out x1 (Qy bG) (fun b=>S b/\b<w) _ _ _ ns vs W (bD.move (.of_below hW) Qyv) (HN.out.below hW) (HV.out.below hW) bO.out Qvu cR.out)
 have cB:Hid (r=opV (fun x=>Y5 d x ns vs) nm [x0,x1]):=Qq (by rw [<- HR.out,Gt H2.out eV.out bG]);obtain ⟨aB,fX,gE⟩:=Qxn (Qe n0 (Qe n1 n2)) bD (Qy bG)
 have eP:=Qq (Qe bT (Qe aJ (Qe aL (Qe aN (Qe aP (Qe aR (Qe aT (Qe aV (Qe aX aZ)))))))))
 clear bD bG bT aJ aL aN aP aR aT aV aX aZ
 go_enter func247,ntmps247
 go_upto_region 3 with fail
 generalize bN:(w.alloc _).alloc _=W1
 have dE:=eqB bN (Zu _ _ _)
 have dD:=eqH (b:=w.heap.size) bN (Q5 _ _ _)
 have cG:=eqH (b:=w.heap.size+1) bN (Q6 _ _ _)
 obtain ⟨A,aF,aG⟩:=Qxn dE dD cG
 have U:=Z8 cG
 clear bN dE dD cG
 have bP:=((Qq (Qz W1 W1)).out.block _ (Z8 aF.out)).trans aF.out
 have c6:=rA6 bP
 clear bP
 obtain ⟨M,q0,q1,q2,q3,q4,q5,q6,q7,q8⟩:=eO.out
 have aI:=kD A.out M q0;have aK:=kD A.out M q1;have aM:=kD A.out M q2;have aO:=kD A.out M q3;have aQ:=kD A.out M q4;have aS:=kD A.out M q5;have aU:=kD A.out M q6;have aW:=kD A.out M q7;have aY:=kD A.out M q8
 clear M q0 q1 q2 q3 q4 q5 q6 q7 q8
 go_upto_region 4 with (go_at_call 200;refine (eT.out _ A.out).mono ?_;rintro e w5 ⟨k5,n5,s5,bJ,dS,bH,bK,dU,bI,b5,rfl,dN,dF⟩;have cD:=Qq dN;have eQ:=Qq dF;clear dN dF)
 generalize cE:w5.alloc _=W6
 have cH:=eqB cE (Ze _ _)
 have dA:=eqH (b:=w5.heap.size) cE (Qw _ _)
 obtain ⟨D,aD,cU⟩:=Qxn (eQ.out.thn cH) dA cH
 clear cE cH dA
 have fY:w.heap.size+1<W6.heap.size:=Qxj D.out.size
 clear c6 aI aK aM aO aQ aS aU aW aY
 have bA:=kB D.out aF.out
 have c1:=rA1 bA;have c6:=rA6 bA
 clear bA
 cases b5 with
 | false=>
  obtain ⟨v0,v1,v2,v3,v4⟩:=row5 aD.out
  have Y:=kE D.out U aG.out
  obtain ⟨y0,y1,y2,y3,y4⟩:=row5 Y
  obtain ⟨f0,f1,f2,f3,f4⟩:=frz5 Y
  have cW:=Qq Y
  clear Y
  go_wp2_with fail
  show bodyPost _ _ _ _ _ (Zp W6 (w+1) k5 n5 (.string s5) (.slice bJ dS bH) (.slice bK dU bI))
  refine Q7 (v:=.tuple #[.agg #[k5,n5,.string s5,.slice bJ dS bH,.slice bK dU bI],.bool false]) (by simp [results,results247,go_sem,Zd cW.out]) rfl (Xs Qvu (A.out.thn D.out) (by rw [cB.out];exact Cb (f:=fun x=>Y5 d x ns vs) (cD.out.2 (by first | rfl | trivial))))
 | true=>
  obtain ⟨v0,v1,v2,v3,v4⟩:=row5 aD.out
  obtain ⟨M,q0,q1,q2,q3,q4,q5,q6,q7,q8⟩:=eP.out
  have aJ:=kD (A.out.thn D.out) M q0;have aL:=kD (A.out.thn D.out) M q1;have aN:=kD (A.out.thn D.out) M q2;have aP:=kD (A.out.thn D.out) M q3;have aR:=kD (A.out.thn D.out) M q4;have aT:=kD (A.out.thn D.out) M q5;have aV:=kD (A.out.thn D.out) M q6;have aX:=kD (A.out.thn D.out) M q7;have aZ:=kD (A.out.thn D.out) M q8
  clear M q0 q1 q2 q3 q4 q5 q6 q7 q8
  go_upto_region 12 with (go_at_call 200;refine (eU.out _ (A.out.thn D.out)).mono ?_;rintro e w7 ⟨k7,n7,s7,cN,dT,cL,cO,dV,cM,b7,rfl,dO,dG⟩;have cS:=Qq dO;have eR:=Qq dG;clear dO dG)
  generalize cF:w7.alloc _=W8
  have cI:=eqB cF (Ze _ _)
  have dB:=eqH (b:=w7.heap.size) cF (Qw _ _)
  obtain ⟨bL,aE,cV⟩:=Qxn (eR.out.thn cI) dB cI
  clear cF cI dB
  have fZ:w.heap.size+1<W8.heap.size:=Qxj bL.out.size
  clear aJ aL aN aP aR aT aV aX aZ
  have V:=Qq (D.out.thn bL.out)
  clear c1 c6 v0 v1 v2 v3 v4
  have bB:=kB V.out aF.out
  have c1:=rA1 bB;have c6:=rA6 bB
  clear bB
  cases b7 with
  | false=>
   obtain ⟨u0,u1,u2,u3,u4⟩:=row5 aE.out
   have Z:=kE V.out U aG.out
   obtain ⟨y0,y1,y2,y3,y4⟩:=row5 Z
   obtain ⟨f0,f1,f2,f3,f4⟩:=frz5 Z
   have cX:=Qq Z
   clear Z
   go_wp2_with fail
   show bodyPost _ _ _ _ _ (Zp W8 (w+1) k7 n7 (.string s7) (.slice cN dT cL) (.slice cO dV cM))
   refine Q7 (v:=.tuple #[.agg #[k7,n7,.string s7,.slice cN dT cL,.slice cO dV cM],.bool false]) (by simp [results,results247,go_sem,Zd cX.out]) rfl (Xs Qvu (A.out.thn V.out) (by
    obtain ⟨v,_,_,fN⟩:=cD.out.1 (by first | rfl | trivial)
    rw [cB.out,Hm (f:=fun x=>Y5 d x ns vs) aB.out.1 aB.out.2.1 aB.out.2.2 fN]
    show (Y5 d x1 ns vs).bind _=none
    rw [cS.out.2 (by first | rfl | trivial)];rfl))
  | true=>
   obtain ⟨v,bF,bX,bZ⟩:=cD.out.1 (by first | rfl | trivial)
   obtain ⟨gI,gM,gK,gO,bR,-,-,gB⟩:=Za.cells bF
   simp only [vcs,List.cons.injEq,Value.int.injEq,Value.string.injEq,Qr,true_and,and_true] at bR
   obtain ⟨rfl,rfl,rfl,⟨rfl,rfl,rfl⟩,rfl,rfl,rfl⟩:=bR
   have fF:=Qq bF;have fV:=Qq bX
   clear bF bX
   obtain ⟨u,bE,bW,bY⟩:=cS.out.1 (by first | rfl | trivial)
   obtain ⟨gH,gL,gJ,gN,bQ,-,-,gA⟩:=Za.cells bE
   simp only [vcs,List.cons.injEq,Value.int.injEq,Value.string.injEq,Qr,true_and,and_true] at bQ
   obtain ⟨rfl,rfl,rfl,⟨rfl,rfl,rfl⟩,rfl,rfl,rfl⟩:=bQ
   have cC:Hid (r=two nm v u):=Qq (by
    rw [cB.out,Hm (f:=fun x=>Y5 d x ns vs) aB.out.1 aB.out.2.1 aB.out.2.2 bZ]
    show (Y5 d x1 ns vs).bind _=_
    rw [bY];rfl)
   clear bZ bY
   have fE:=Qq bE;have fU:=Qq bW
   clear bE bW
   have HC:=Qq (fun W (hW:Below W8 W8 W)=>Lt _ _ v u (Qxf v bJ bH bK bI) (Qxf u cN cL cO cM) W (fF.out.move (.of_below ((cU.out.thn bL.out).thn hW)) Qyv) (fE.out.move (.of_below (cV.out.thn hW)) Qyv))
   generalize dH:Yk v u=c at HC
   have eS:=Qq dH
   clear dH
   have dP:=kB bL.out aD.out
   have cT:=Qq dP
   clear dP
   obtain ⟨v0,v1,v2,v3,v4⟩:=row5 cT.out
   obtain ⟨u0,u1,u2,u3,u4⟩:=row5 aE.out
   go_upto_region 17 with (go_at_call 74;refine (HC.out _ (Qz _ _)).mono ?_;rintro e w9 ⟨rfl,dI⟩;have cA:=Qq (show Below W8 W8 w9 from dI.bl);clear dI)
   clear c1 c6
   have N:=Qq (V.out.thn cA.out)
   have dR:=kB N.out aF.out
   have dQ:=kB cA.out cT.out
   have dL:=kB cA.out aE.out
   obtain ⟨fD,fC,fB⟩:=Qxn dR dQ dL
   clear dR dQ dL v0 v1 v2 v3 v4 u0 u1 u2 u3 u4
   have c1:=rA1 fD.out
   obtain ⟨v0,v1,v2,v3,v4⟩:=row5 fC.out
   obtain ⟨u0,u1,u2,u3,u4⟩:=row5 fB.out
   rcases HM.out with rfl | rfl | rfl | rfl | hq
   iterate 4
    focus
     go_wp2_with (go_at_call 244;refine (Ed _ _).mono ?_;rintro e cP ⟨X,hX,rfl,O⟩;have bM:=Qq hX;clear hX;have I:=N.out.thn O;have J:=kE (I) U aG.out;obtain ⟨y0,y1,y2,y3,y4⟩:=row5 J;obtain ⟨f0,f1,f2,f3,f4⟩:=frz5 J;have aH:=Qq J;clear J;have aC:=Qq I;clear O I)
     show bodyPost _ _ _ _ _ (Zp cP (w+1) (.int .i64 2) X Qxd Qxe Qxe)
     refine Q7 (v:=.tuple #[.agg #[.int .i64 2,X,Qxd,Qxe,Qxe],.bool true]) (by simp [results,results247,go_sem,Zd aH.out]) rfl (J5 A.out Qvu U (.yes (Yi (s:=[]) Qxz (Sl.nil _ _ _) (Sl.nil _ _ _)) (G5 bM.out) (by rw [cC.out,bM.out];unfold two Jy;rw [eS.out];simp)) aC.out)
   have fL:(v.kind != 0)=true\/((v.kind != 0)=false/\(u.kind != 0)=true)\/((v.kind != 0)=false/\(u.kind != 0)=false):=by
    cases (v.kind != 0) <;> cases (u.kind != 0) <;> simp
   rcases hq with rfl | rfl | rfl
   all_goals
    rcases fL with hq1 | ⟨hq1,hq2⟩ | ⟨hq1,hq2⟩
    iterate 2
     focus
      have fA:Hid (r=none):=Qq (by
       have e:¬ (v.kind=0/\u.kind=0):=by
        rintro ⟨e1,e2⟩
        first | (rw [e1] at hq1;cases hq1;done) | (rw [e2] at hq2;cases hq2;done)
       rw [cC.out];unfold two;simp [e])
      have aA:=kE N.out U aG.out
      obtain ⟨y0,y1,y2,y3,y4⟩:=row5 aA
      obtain ⟨f0,f1,f2,f3,f4⟩:=frz5 aA
      have cY:=Qq aA
      clear aA
      go_wp2_with fail
      show bodyPost _ _ _ _ _ (Qxl w9 (w+1) v bJ bH bK bI)
      refine Q7 (v:=.tuple #[.agg (Qxf v bJ bH bK bI),.bool false]) (by simp [results,results247,go_sem,Zd cY.out]) rfl (Xs Qvu (A.out.thn N.out) fA.out)
    focus
     have eY:=Qq hq1;have eZ:=Qq hq2
     go_wp2_with (go_at_call 243;refine (Ay _ _).mono ?_;rintro e cP ⟨X,hX,rfl,O⟩;have bM:=Qq hX;clear hX;have I:=N.out.thn O;have J:=kE (I) U aG.out;obtain ⟨y0,y1,y2,y3,y4⟩:=row5 J;obtain ⟨f0,f1,f2,f3,f4⟩:=frz5 J;have aH:=Qq J;clear J;have aC:=Qq I;clear O I)
     show bodyPost _ _ _ _ _ (Zp cP (w+1) Qxc X Qxd Qxe Qxe)
     refine Q7 (v:=.tuple #[.agg #[Qxc,X,Qxd,Qxe,Qxe],.bool true]) (by simp [results,results247,go_sem,Zd aH.out]) rfl (J5 A.out Qvu U (.yes (Yi (s:=[]) Qxz (Sl.nil _ _ _) (Sl.nil _ _ _)) (Ld X) (by
      have e1:v.kind=0:=by simpa using eY.out
      have e2:u.kind=0:=by simpa using eZ.out
      rw [cC.out,bM.out];unfold two Vr;simp [e1,e2];exact IntWalk.i64_left _)) aC.out)
end Go.Proofs.YtlanplhphiikjaaGreatDoor

import Derived.Test.YtdpibdpbgokmoaaGreatDoorC30
import Derived.Test.YtdpibdpbgokmoaaGreatDoorC40
import Derived.Test.YtdpibdpbgokmoaaGreatDoorC39
set_option maxRecDepth 100000
set_option maxHeartbeats 400000000
namespace Go.Proofs.YtdpibdpbgokmoaaGreatDoor
open Go.RowKit Go.Shelf Go.Lib Tryz
theorem Pq {S:Nat→Prop} {w:World} {cs:List Value} {v:Val} (h:Z9 S w cs v):v.s.length≤1000000:=by
 obtain ⟨_,_,_,_,_,_,_,h4⟩:=Z9.cells h
 exact h4
theorem C0 (nm:Bs) (hnm:nm=[43,43]) (n:Int) (s:Bs) (names binds:List Bs) (kids:List Ex) (a z:Int) (d:Nat) (h2:kids.length=2) (ih:∀ x ∈ kids,Xn d x) :∀ (S:Nat→Prop) (ce:List Value) (nv vv:Value) (ns:List Bs) (vs:List Val) (w:World),Yv S w ce (.mk 14 nm n s names binds kids a z)→Sl Zh S w nv ns→Sl Ze S w vv vs→ns.length≤vs.length→vs.length+(d+1)≤1000→(∀ v ∈ vs,Y3 v) →
  Calls prog 147 #[ce,nv,vv] w (X6 S w (opV (fun x=>Y1 d x ns vs) nm kids)):=by
 subst hnm
 intro S ce nv vv ns vs w N dJ dM bM hd hb
 obtain ⟨r,hr⟩:=eX (opV (fun x=>Y1 d x ns vs) [43,43] kids)
 rw [hr]
 have HR:=Qq hr;have H2:=Qq h2
 clear hr
 have hx:Yv (fun b=>S b∧b<w) w ce (.mk 14 [43,43] n s names binds kids a z):=N.move (.refl _ _) (fun b hb h=>⟨h,hb⟩)
 have hn:=dJ.up
 have hv:=dM.up
 obtain ⟨np,nc,rfl,_⟩:=hn.len
 obtain ⟨vp,vc,rfl,hR⟩:=hv.len
 have fX:=Qq hx
 obtain ⟨hX,bv,kv,rfl,hnm,hQ,cB,cA,hk⟩:=Yx.1 hx
 obtain ⟨p1,c1,rfl,_⟩:=cB.len
 obtain ⟨p2,c2,rfl,_⟩:=cA.len
 obtain ⟨p3,c3,rfl,hN⟩:=hk.len
 obtain ⟨HN,HV,cO,fW,fT,HK,HI,bF⟩:=Qqu hn hv hb cB cA hk ih bM
 clear N dJ dM hx hn hv cB cA hk hb ih bM
 unfold sv at *
 rw [h2] at HK ⊢
 obtain ⟨x0,N⟩:∃ x,kids[0]?=some x:=⟨_,Qx Qqj⟩
 obtain ⟨hS,hU,gO,gS,gQ,gU,gG,gY,hE,gI,hA,hH,gK,hC,hJ,gM,gW,dK,bK,aX,aD,aF,aH,aJ,aL,aN,aP,aR,aT⟩:=HK.out.ex N
 subst dK
 simp only [Nat.zero_mul,Nat.add_zero] at aD aF aH aJ aL aN aP aR aT
 have eQ:=Qq (fun W (hW:Below w w W)=>HI.out x0 (Qy N) (fun b=>S b∧b<w) _ _ _ ns vs W (aX.move (.of_below hW) Qzx) (HN.out.below hW) (HV.out.below hW) bF.out Qqj cO.out)
 obtain ⟨fM,eS,fU⟩:=Qqo aX N (Qy N)
 have eO:=Qq (Qe bK (Qe aD (Qe aF (Qe aH (Qe aJ (Qe aL (Qe aN (Qe aP (Qe aR aT)))))))))
 clear aX N bK aD aF aH aJ aL aN aP aR aT
 obtain ⟨x1,bB⟩:∃ x,kids[1]?=some x:=⟨_,Qx Qqj⟩
 obtain ⟨hT,hV,gP,gT,gR,gV,gH,gZ,hF,gJ,hB,hI,gL,hD,hK,gN,gX,bN,bL,aY,aE,aG,aI,aK,aM,aO,aQ,aS,aU⟩:=HK.out.ex bB
 simp only [Zv,Addr.mk.injEq,and_true] at bN
 obtain ⟨rfl,rfl⟩:=bN
 simp only [Nat.one_mul] at aE aG aI aK aM aO aQ aS aU
 have eR:=Qq (fun W (hW:Below w w W)=>HI.out x1 (Qy bB) (fun b=>S b∧b<w) _ _ _ ns vs W (aY.move (.of_below hW) Qzx) (HN.out.below hW) (HV.out.below hW) bF.out Qqj cO.out)
 have bT:Hid (r=opV (fun x=>Y1 d x ns vs) [43,43] [x0,x1]):=Qq (by rw [← HR.out,Ff H2.out eS.out bB]);have fN:=Qq aY;have fV:=Qq (Qy bB)
 have eP:=Qq (Qe bL (Qe aE (Qe aG (Qe aI (Qe aK (Qe aM (Qe aO (Qe aQ (Qe aS aU)))))))))
 clear aY bB bL aE aG aI aK aM aO aQ aS aU
 go_enter func147,ntmps147
 go_upto_region 3 with fail
 generalize bE:(w.alloc _).alloc _=W1
 have dF:=eqB bE (Zt _ _ _)
 have dE:=eqH (b:=w.heap.size) bE (Q5 _ _ _)
 have bX:=eqH (b:=w.heap.size+1) bE (Q6 _ _ _)
 obtain ⟨D,aC,V⟩:=Qqo dF dE bX
 have Y:=Z8 bX
 clear bE dF dE bX
 have bG:=((Qq (Qz W1 W1)).out.block _ (Z8 aC.out)).trans aC.out
 have c6:=rA6 bG
 clear bG
 obtain ⟨M,q0,q1,q2,q3,q4,q5,q6,q7,q8⟩:=eO.out
 have aD:=kD D.out M q0;have aF:=kD D.out M q1;have aH:=kD D.out M q2;have aJ:=kD D.out M q3;have aL:=kD D.out M q4;have aN:=kD D.out M q5;have aP:=kD D.out M q6;have aR:=kD D.out M q7;have aT:=kD D.out M q8
 clear M q0 q1 q2 q3 q4 q5 q6 q7 q8
 go_upto_region 4 with (go_at_call 97;refine (eQ.out _ D.out).mono ?_;rintro e w5 ⟨k5,n5,s5,cG,dS,cC,cI,dU,cE,b5,rfl,dN,dG⟩;have bU:=Qq dN;have cM:=Qq dG;clear dN dG)
 generalize bV:w5.alloc _=W6
 have bY:=eqB bV (Zg _ _)
 have dC:=eqH (b:=w5.heap.size) bV (Qw _ _)
 obtain ⟨G,aA,cR⟩:=Qqo (cM.out.thn bY) dC bY
 clear bV bY dC
 have fP:w.heap.size+1<W6.heap.size:=Qqq G.out.size
 clear c6 aD aF aH aJ aL aN aP aR aT
 have aV:=kB G.out aC.out
 have c1:=rA1 aV;have c6:=rA6 aV
 clear aV
 cases b5 with
 | false=>
  obtain ⟨v0,v1,v2,v3,v4⟩:=row5 aA.out
  have T:=kE G.out Y V.out
  obtain ⟨y0,y1,y2,y3,y4⟩:=row5 T
  obtain ⟨f0,f1,f2,f3,f4⟩:=frz5 T
  have cV:=Qq T
  clear T
  go_wp2_with fail
  show bodyPost _ _ _ _ _ (Zl W6 (w+1) k5 n5 (.string s5) (.slice cG dS cC) (.slice cI dU cE))
  refine Q7 (v:=.tuple #[.agg #[k5,n5,.string s5,.slice cG dS cC,.slice cI dU cE],.bool false]) (by simp [results,results147,go_sem,Zd cV.out]) rfl (Vz Qqj (D.out.thn G.out) (by rw [bT.out];exact Wq (f:=fun x=>Y1 d x ns vs) (bU.out.2 (by first | rfl | trivial))))
 | true=>
  obtain ⟨v0,v1,v2,v3,v4⟩:=row5 aA.out
  obtain ⟨M,q0,q1,q2,q3,q4,q5,q6,q7,q8⟩:=eP.out
  have aE:=kD (D.out.thn G.out) M q0;have aG:=kD (D.out.thn G.out) M q1;have aI:=kD (D.out.thn G.out) M q2;have aK:=kD (D.out.thn G.out) M q3;have aM:=kD (D.out.thn G.out) M q4;have aO:=kD (D.out.thn G.out) M q5;have aQ:=kD (D.out.thn G.out) M q6;have aS:=kD (D.out.thn G.out) M q7;have aU:=kD (D.out.thn G.out) M q8
  clear M q0 q1 q2 q3 q4 q5 q6 q7 q8
  go_upto_region 12 with (go_at_call 97;refine (eR.out _ (D.out.thn G.out)).mono ?_;rintro e w7 ⟨k7,n7,s7,cH,dT,cD,cJ,dV,cF,b7,rfl,dO,dH⟩;have cP:=Qq dO;have cN:=Qq dH;clear dO dH)
  generalize bW:w7.alloc _=W8
  have bZ:=eqB bW (Zg _ _)
  have dD:=eqH (b:=w7.heap.size) bW (Qw _ _)
  obtain ⟨bC,aB,cS⟩:=Qqo (cN.out.thn bZ) dD bZ
  clear bW bZ dD
  have fQ:w.heap.size+1<W8.heap.size:=Qqq bC.out.size
  clear aE aG aI aK aM aO aQ aS aU
  have O:=Qq (G.out.thn bC.out)
  clear c1 c6 v0 v1 v2 v3 v4
  have aW:=kB O.out aC.out
  have c1:=rA1 aW;have c6:=rA6 aW
  clear aW
  cases b7 with
  | false=>
   obtain ⟨u0,u1,u2,u3,u4⟩:=row5 aB.out
   have U:=kE O.out Y V.out
   obtain ⟨y0,y1,y2,y3,y4⟩:=row5 U
   obtain ⟨f0,f1,f2,f3,f4⟩:=frz5 U
   have cW:=Qq U
   clear U
   go_wp2_with fail
   show bodyPost _ _ _ _ _ (Zl W8 (w+1) k7 n7 (.string s7) (.slice cH dT cD) (.slice cJ dV cF))
   refine Q7 (v:=.tuple #[.agg #[k7,n7,.string s7,.slice cH dT cD,.slice cJ dV cF],.bool false]) (by simp [results,results147,go_sem,Zd cW.out]) rfl (Vz Qqj (D.out.thn O.out) (by
    obtain ⟨v,_,_,fE⟩:=bU.out.1 (by first | rfl | trivial)
    rw [bT.out,Ev (f:=fun x=>Y1 d x ns vs) Qqx Qqx Qqx fE]
    show (Y1 d x1 ns vs).bind _=none
    rw [cP.out.2 (by first | rfl | trivial)];rfl))
  | true=>
   obtain ⟨v,bA,bP,bR⟩:=bU.out.1 (by first | rfl | trivial)
   obtain ⟨fZ,gD,gB,gF,bJ,-,-,fS⟩:=Z9.cells bA
   simp only [vcs,List.cons.injEq,Value.int.injEq,Value.string.injEq,Qr,true_and,and_true] at bJ
   obtain ⟨rfl,rfl,rfl,⟨rfl,rfl,rfl⟩,rfl,rfl,rfl⟩:=bJ
   have cU:=Qq bA;have fL:=Qq bP
   clear bA bP
   obtain ⟨u,aZ,bO,bQ⟩:=cP.out.1 (by first | rfl | trivial)
   obtain ⟨fY,gC,gA,gE,bI,-,-,fR⟩:=Z9.cells aZ
   simp only [vcs,List.cons.injEq,Value.int.injEq,Value.string.injEq,Qr,true_and,and_true] at bI
   obtain ⟨rfl,rfl,rfl,⟨rfl,rfl,rfl⟩,rfl,rfl,rfl⟩:=bI
   have bD:Hid (r=if v.kind=1∧u.kind=1∧v.s.length+u.s.length≤4096 then some (B5 (v.s++u.s)) else none):=Qq (by
    rw [bT.out,Ev (f:=fun x=>Y1 d x ns vs) Qqx Qqx Qqx bR]
    show (Y1 d x1 ns vs).bind _=_
    rw [bQ]
    show two [43,43] v u=_
    unfold two
    rw [if_neg Qqx,if_neg Qqx,if_neg Qqx,if_pos rfl])
   clear bR bQ
   have cT:=Qq aZ;have fK:=Qq bO
   clear aZ bO
   have HC:=Qq (fun W (hW:Below W8 W8 W)=>Dv _ _ v u (Qqg v cG cC cI cE) (Qqg u cH cD cJ cF) W (cU.out.move (.of_below ((cR.out.thn bC.out).thn hW)) Qzx) (cT.out.move (.of_below (cS.out.thn hW)) Qzx))
   generalize Yz v u=c at HC
   have dP:=kB bC.out aA.out
   have cQ:=Qq dP
   clear dP
   obtain ⟨v0,v1,v2,v3,v4⟩:=row5 cQ.out
   obtain ⟨u0,u1,u2,u3,u4⟩:=row5 aB.out
   have hO:v.s.length≤1000000:=(Pq cU.out)
   have hP:u.s.length≤1000000:=(Pq cT.out)
   have bH:((⟨v.s.toArray⟩:ByteArray)++⟨u.s.toArray⟩)=⟨(v.s++u.s).toArray⟩:=ByteArray.ext Qqk
   have fO:∀ w,(Op.stringOp .add ⟨v.s.toArray⟩ ⟨u.s.toArray⟩).run prog w=.ok (.string ⟨(v.s++u.s).toArray⟩) w:=fun w=>by
    rw [run_string_add_sum w _ _ (by show v.s.toArray.size+u.s.toArray.size≤_;simp;omega),bH]
   clear bH
   go_upto_region 17 with (go_at_call 23;refine (HC.out _ (Qz _ _)).mono ?_;rintro e w9 ⟨rfl,dI⟩;have bS:=Qq (show Below W8 W8 w9 from dI.bl);clear dI)
   clear c1 c6
   have I:=Qq (O.out.thn bS.out)
   have dR:=kB I.out aC.out
   have dQ:=kB bS.out cQ.out
   have dL:=kB bS.out aB.out
   obtain ⟨eY,eW,eV⟩:=Qqo dR dQ dL
   clear dR dQ dL v0 v1 v2 v3 v4 u0 u1 u2 u3 u4
   have c1:=rA1 eY.out
   obtain ⟨v0,v1,v2,v3,v4⟩:=row5 eW.out
   obtain ⟨u0,u1,u2,u3,u4⟩:=row5 eV.out
   go_upto_region 27 with fail
   have hL:w5≠w.heap.size+1:=Qqq cM.out.size
   have hM:w7≠w.heap.size+1:=by have h1:=G.out.size;have h2:=cN.out.size;omega
   have fC:(v.kind==1)=false∨((v.kind==1)=true∧(u.kind==1)=false)∨((v.kind==1)=true∧(u.kind==1)=true∧decide ((v.s.length:Int)+(u.s.length:Int)≤4096)=false)∨((v.kind==1)=true∧(u.kind==1)=true∧(v.s.length:Int)+(u.s.length:Int)≤4096):=by
    cases (v.kind==1) <;> cases (u.kind==1) <;> simp <;> omega
   clear c1 v1 v3 v4 u1 u3 u4
   rcases fC with hq1 | ⟨hq1,hq2⟩ | ⟨hq1,hq2,hq3⟩ | ⟨hq1,hq2,hq3⟩
   focus
    have Z:Hid (r=none):=Qq (by rw [bD.out];refine if_neg ?_;rintro ⟨e1,_,_⟩;rw [e1] at hq1;cases hq1)
    have A:=kE I.out Y V.out
    obtain ⟨y0,y1,y2,y3,y4⟩:=row5 A
    obtain ⟨f0,f1,f2,f3,f4⟩:=frz5 A
    have J:=Qq A
    clear A
    go_region
    all_goals
     go_wp2_with fail
     show bodyPost _ _ _ _ _ (Zl w9 (w+1) (.int .i64 1) Qqd (.string ⟨(v.s++u.s).toArray⟩) Qqf Qqf).drew
     refine Q7 (v:=.tuple #[.agg #[.int .i64 1,Qqd,.string ⟨(v.s++u.s).toArray⟩,Qqf,Qqf],.bool false]) (by simp [results,results147,go_sem,Zd J.out]) rfl ((Vz Qqj (D.out.thn I.out) Z.out)).drew
   focus
    have Z:Hid (r=none):=Qq (by rw [bD.out];refine if_neg ?_;rintro ⟨_,e1,_⟩;rw [e1] at hq2;cases hq2)
    have A:=kE I.out Y V.out
    obtain ⟨y0,y1,y2,y3,y4⟩:=row5 A
    obtain ⟨f0,f1,f2,f3,f4⟩:=frz5 A
    have J:=Qq A
    clear A
    go_region
    all_goals
     go_wp2_with fail
     show bodyPost _ _ _ _ _ (Zl w9 (w+1) (.int .i64 1) Qqd (.string ⟨(v.s++u.s).toArray⟩) Qqf Qqf).drew
     refine Q7 (v:=.tuple #[.agg #[.int .i64 1,Qqd,.string ⟨(v.s++u.s).toArray⟩,Qqf,Qqf],.bool false]) (by simp [results,results147,go_sem,Zd J.out]) rfl ((Vz Qqj (D.out.thn I.out) Z.out)).drew
   focus
    have Z:Hid (r=none):=Qq (by rw [bD.out];refine if_neg ?_;rintro ⟨_,_,e1⟩;exact of_decide_eq_false hq3 Qqj)
    have A:=kE I.out Y V.out
    obtain ⟨y0,y1,y2,y3,y4⟩:=row5 A
    obtain ⟨f0,f1,f2,f3,f4⟩:=frz5 A
    have J:=Qq A
    clear A
    go_region
    all_goals
     go_wp2_with fail
     show bodyPost _ _ _ _ _ (Zl w9 (w+1) (.int .i64 1) Qqd (.string ⟨(v.s++u.s).toArray⟩) Qqf Qqf).drew
     refine Q7 (v:=.tuple #[.agg #[.int .i64 1,Qqd,.string ⟨(v.s++u.s).toArray⟩,Qqf,Qqf],.bool false]) (by simp [results,results147,go_sem,Zd J.out]) rfl ((Vz Qqj (D.out.thn I.out) Z.out)).drew
   focus
    have eU:Hid (r=some (.mk 1 0 (v.s++u.s) [] [])):=Qq (by rw [bD.out];exact if_pos ⟨by simpa using hq1,by simpa using hq2,Qqj⟩)
    have A:=kE I.out Y V.out
    obtain ⟨y0,y1,y2,y3,y4⟩:=row5 A
    obtain ⟨f0,f1,f2,f3,f4⟩:=frz5 A
    have J:=Qq A
    clear A
    go_region
    all_goals
     go_wp2_with fail
     show bodyPost _ _ _ _ _ (Zl w9 (w+1) (.int .i64 1) Qqd (.string ⟨(v.s++u.s).toArray⟩) Qqf Qqf).drew
     refine Q7 (v:=.tuple #[.agg #[.int .i64 1,Qqd,.string ⟨(v.s++u.s).toArray⟩,Qqf,Qqf],.bool true]) (by simp [results,results147,go_sem,Zd J.out]) rfl ((Kg Qqj (D.out.thn I.out) (.yes (Y8 (by rw [Ql];omega) (Sl.nil _ _ _) (Sl.nil _ _ _)) (.mk _ _ _ _ _ (fun h=>by cases h) (fun x h=>by simp at h)) eU.out))).drew
theorem Qje (nm:Bs) (n:Int) (s:Bs) (names binds:List Bs) (kids:List Ex) (a z:Int) (d:Nat) (hN:H9 14 nm names binds kids.length) (ih:∀ x ∈ kids,Xn d x):∀ (S:Nat→Prop) (ce:List Value) (nv vv:Value) (ns:List Bs) (vs:List Val) (w:World),Yv S w ce (.mk 14 nm n s names binds kids a z)→Sl Zh S w nv ns→Sl Ze S w vv vs→ns.length≤vs.length→vs.length+(d+1)≤1000→(∀ v ∈ vs,Y3 v) →
  Calls prog 147 #[ce,nv,vv] w (X6 S w (opV (fun x=>Y1 d x ns vs) nm kids)):=by
 obtain ⟨D,A⟩:=hN.op rfl
 unfold Ek at D
 simp only [Z3,Z2,or_false] at D
 rcases D with h | h | h | h | h | h | h | h | h | h | h
 ·exact Vh nm n s names binds kids a z d (by rw [A,h];rfl) (by simp [h]) ih
 ·exact Vh nm n s names binds kids a z d (by rw [A,h];rfl) (by simp [h]) ih
 ·exact Vh nm n s names binds kids a z d (by rw [A,h];rfl) (by simp [h]) ih
 ·exact Vh nm n s names binds kids a z d (by rw [A,h];rfl) (by simp [h]) ih
 ·exact Vh nm n s names binds kids a z d (by rw [A,h];rfl) (by simp [h]) ih
 ·exact Vh nm n s names binds kids a z d (by rw [A,h];rfl) (by simp [h]) ih
 ·exact Vh nm n s names binds kids a z d (by rw [A,h];rfl) (by simp [h]) ih
 ·exact C0 nm h n s names binds kids a z d (by rw [A,h];rfl) ih
 ·exact Qjr nm h n s names binds kids a z d (by rw [A,h];rfl) ih
 ·exact roper_or nm h n s names binds kids a z d (by rw [A,h];rfl) ih
 exact Qjm nm h n s names binds kids a z d (by rw [A,h];rfl) ih
theorem Em:∀ (d:Nat) (e:Ex),WfE d e→Xn d e
 | 0,e,h=>by cases h
 | d+1,.mk k nm n s names binds kids a z,h=>by
  cases h with
  | mk _ _ _ _ _ _ _ _ _ _ hN hk=>
   have ih:∀ x ∈ kids,Xn d x:=fun x hx=>Em d x (hk x hx)
   by_cases h0:k=0
   ·subst h0;exact Qjf nm n s names binds kids a z d ih
   by_cases h1:k=1
   ·subst h1
    by_cases hq:(s.length:Int)≤4096
    ·exact Nw nm n s names binds kids a z d ih hq
    exact Mr nm n s names binds kids a z d ih (by simpa using hq)
   by_cases h2:k=2
   ·subst h2;exact S8 nm n s names binds kids a z d ih
   by_cases h3:k=3
   ·subst h3;exact Am nm n s names binds kids a z d ih
   by_cases h11:k=11
   ·subst h11;exact Cy nm n s names binds kids a z d ih (hN.two rfl)
   by_cases h12:k=12
   ·subst h12;exact reval_if nm n s names binds kids a z d ih (hN.three rfl)
   by_cases h13:k=13
   ·subst h13;exact Pb nm n s names binds kids a z d (Cx nm n s names binds kids a z d ih (hN.mtch rfl).1 (hN.mtch rfl).2)
   by_cases h14:k=14
   ·subst h14;exact Lw nm n s names binds kids a z d (Qje nm n s names binds kids a z d hN ih)
   exact R6 k nm n s names binds kids a z d ih hN h0 h1 h2 h3 h11 h12 h13 h14
theorem Ow (k:Nat):Xn 8 (Gen.check k):=Em 8 _ (wf_check k)
theorem Qjb:Xn 8 Gen.yes:=Em 8 _ (wf_yes _)
end Go.Proofs.YtdpibdpbgokmoaaGreatDoor

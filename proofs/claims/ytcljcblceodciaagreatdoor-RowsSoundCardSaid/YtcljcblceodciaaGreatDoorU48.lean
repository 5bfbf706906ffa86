import Derived.Test.YtcljcblceodciaaGreatDoorU25
import Derived.Test.YtcljcblceodciaaGreatDoorU46
import Derived.Test.YtcljcblceodciaaGreatDoorU45
set_option maxRecDepth 100000
set_option maxHeartbeats 400000000
namespace Go.Proofs.YtcljcblceodciaaGreatDoor
open Go.RowKit Go.Shelf Go.Lib Tryz
theorem O5 {S:Nat->Prop} {w:World} {cs:List Value} {v:Val} (h:Z9 S w cs v):v.s.length<=1000000:=by
 obtain ⟨_,_,_,_,_,_,_,h4⟩:=Z9.cells h
 exact h4
theorem Ax (nm:Bs) (hnm:nm=[43,43]) (n:Int) (s:Bs) (names binds:List Bs) (kids:List Ex) (a z:Int) (d:Nat) (h2:kids.length=2) (ih:∀ x ∈ kids,Xl d x) :∀ (S:Nat->Prop) (ce:List Value) (nv vv:Value) (ns:List Bs) (vs:List Val) (w:World),Yx S w ce (.mk 14 nm n s names binds kids a z)->Sl Zh S w nv ns->Sl Zd S w vv vs->ns.length<=vs.length->vs.length+(d+1)<=1000->(∀ v ∈ vs,Y0 v) ->
  Calls prog 154 #[ce,nv,vv] w (Vj S w):=by
 subst hnm
 intro S ce nv vv ns vs w N dD dG bK hd hb
 have hx:Yx (fun b=>S b/\b<w) w ce (.mk 14 [43,43] n s names binds kids a z):=N.move (.refl _ _) (fun b hb h=>⟨h,hb⟩)
 have hn:=dD.up
 have hv:=dG.up
 obtain ⟨np,nc,rfl,_⟩:=hn.len
 obtain ⟨vp,vc,rfl,hF⟩:=hv.len
 have fM:=Qq hx
 obtain ⟨hL,bv,kv,rfl,hnm,hE,bV,bU,hk⟩:=Yy.1 hx
 obtain ⟨p1,c1,rfl,_⟩:=bV.len
 obtain ⟨p2,c2,rfl,_⟩:=bU.len
 obtain ⟨p3,c3,rfl,hB⟩:=hk.len
 obtain ⟨HN,HV,cJ,fL,fI,HK,HI,bD⟩:=Qjy hn hv hb bV bU hk ih bK
 clear N dD dG hx hn hv bV bU hk hb ih bK
 unfold sv at *
 rw [h2] at HK |-
 obtain ⟨x0,N⟩:∃ x,kids[0]?=some x:=⟨_,Qx C7⟩
 obtain ⟨hH,hJ,gD,gH,gF,gJ,fV,gN,gT,fX,gP,gV,fZ,gR,gX,gB,gL,dE,bI,aW,aC,aE,aG,aI,aK,aM,aO,aQ,aS⟩:=HK.out.ex N
 subst dE
 simp only [Nat.zero_mul,Nat.add_zero] at aC aE aG aI aK aM aO aQ aS
 have eI:=Qq (fun W (hW:Below w w W)=>HI.out x0 (Qy N) (fun b=>S b/\b<w) _ _ _ ns vs W (aW.move (.of_below hW) Qje) (HN.out.below hW) (HV.out.below hW) bD.out C7 cJ.out)
 have fB:=Qq aW;have fJ:=Qq (Qy N)
 have eG:=Qq (Qe bI (Qe aC (Qe aE (Qe aG (Qe aI (Qe aK (Qe aM (Qe aO (Qe aQ aS)))))))))
 clear aW N bI aC aE aG aI aK aM aO aQ aS
 obtain ⟨x1,bC⟩:∃ x,kids[1]?=some x:=⟨_,Qx C7⟩
 obtain ⟨hI,hK,gE,gI,gG,gK,fW,gO,gU,fY,gQ,gW,gA,gS,gY,gC,gM,bL,bJ,aX,aD,aF,aH,aJ,aL,aN,aP,aR,aT⟩:=HK.out.ex bC
 simp only [Zv,Addr.mk.injEq,and_true] at bL
 obtain ⟨rfl,rfl⟩:=bL
 simp only [Nat.one_mul] at aD aF aH aJ aL aN aP aR aT
 have eJ:=Qq (fun W (hW:Below w w W)=>HI.out x1 (Qy bC) (fun b=>S b/\b<w) _ _ _ ns vs W (aX.move (.of_below hW) Qje) (HN.out.below hW) (HV.out.below hW) bD.out C7 cJ.out)
 have fC:=Qq aX;have fK:=Qq (Qy bC)
 have eH:=Qq (Qe bJ (Qe aD (Qe aF (Qe aH (Qe aJ (Qe aL (Qe aN (Qe aP (Qe aR aT)))))))))
 clear aX bC bJ aD aF aH aJ aL aN aP aR aT
 go_enter func154,ntmps154
 go_upto_region 3 with fail
 generalize bB:(w.alloc _).alloc _=W1
 have cZ:=eqB bB (Zu _ _ _)
 have cY:=eqH (b:=w.heap.size) bB (Q5 _ _ _)
 have bR:=eqH (b:=w.heap.size+1) bB (Q6 _ _ _)
 obtain ⟨D,aB,V⟩:=Qjq cZ cY bR
 have Y:=Z8 bR
 clear bB cZ cY bR
 have bE:=((Qq (Qz W1 W1)).out.block _ (Z8 aB.out)).trans aB.out
 have c6:=rA6 bE
 clear bE
 obtain ⟨M,q0,q1,q2,q3,q4,q5,q6,q7,q8⟩:=eG.out
 have aC:=kD D.out M q0;have aE:=kD D.out M q1;have aG:=kD D.out M q2;have aI:=kD D.out M q3;have aK:=kD D.out M q4;have aM:=kD D.out M q5;have aO:=kD D.out M q6;have aQ:=kD D.out M q7;have aS:=kD D.out M q8
 clear M q0 q1 q2 q3 q4 q5 q6 q7 q8
 go_upto_region 4 with (go_at_call 109;refine (eI.out _ D.out).mono ?_;rintro e w5 ⟨k5,n5,s5,cA,dM,bW,cC,dO,bY,b5,rfl,dH,dA⟩;have eM:=Qq dH;have cH:=Qq dA;clear dH dA)
 generalize bP:w5.alloc _=W6
 have bS:=eqB bP (Zg _ _)
 have cW:=eqH (b:=w5.heap.size) bP (Qw _ _)
 obtain ⟨G,Z,cL⟩:=Qjq (cH.out.thn bS) cW bS
 clear bP bS cW
 have fE:w.heap.size+1<W6.heap.size:=C8 G.out.size
 clear c6 aC aE aG aI aK aM aO aQ aS
 have aU:=kB G.out aB.out
 have c1:=rA1 aU;have c6:=rA6 aU
 clear aU
 cases b5 with
 | false=>
  obtain ⟨v0,v1,v2,v3,v4⟩:=row5 Z.out
  have T:=kE G.out Y V.out
  obtain ⟨y0,y1,y2,y3,y4⟩:=row5 T
  obtain ⟨f0,f1,f2,f3,f4⟩:=frz5 T
  have cP:=Qq T
  clear T
  go_wp2_with fail
  show bodyPost _ _ _ _ _ (Zi W6 (w+1) k5 n5 (.string s5) (.slice cA dM bW) (.slice cC dO bY))
  refine Q7 (v:=.tuple #[.agg #[k5,n5,.string s5,.slice cA dM bW,.slice cC dO bY],.bool false]) (by simp [results,results154,go_sem,Ze cP.out]) rfl (Xr C7 (D.out.thn G.out))
 | true=>
  obtain ⟨v0,v1,v2,v3,v4⟩:=row5 Z.out
  obtain ⟨M,q0,q1,q2,q3,q4,q5,q6,q7,q8⟩:=eH.out
  have aD:=kD (D.out.thn G.out) M q0;have aF:=kD (D.out.thn G.out) M q1;have aH:=kD (D.out.thn G.out) M q2;have aJ:=kD (D.out.thn G.out) M q3;have aL:=kD (D.out.thn G.out) M q4;have aN:=kD (D.out.thn G.out) M q5;have aP:=kD (D.out.thn G.out) M q6;have aR:=kD (D.out.thn G.out) M q7;have aT:=kD (D.out.thn G.out) M q8
  clear M q0 q1 q2 q3 q4 q5 q6 q7 q8
  go_upto_region 12 with (go_at_call 109;refine (eJ.out _ (D.out.thn G.out)).mono ?_;rintro e w7 ⟨k7,n7,s7,cB,dN,bX,cD,dP,bZ,b7,rfl,dI,dB⟩;have eN:=Qq dI;have cI:=Qq dB;clear dI dB)
  generalize bQ:w7.alloc _=W8
  have bT:=eqB bQ (Zg _ _)
  have cX:=eqH (b:=w7.heap.size) bQ (Qw _ _)
  obtain ⟨bA,aA,cM⟩:=Qjq (cI.out.thn bT) cX bT
  clear bQ bT cX
  have fF:w.heap.size+1<W8.heap.size:=C8 bA.out.size
  clear aD aF aH aJ aL aN aP aR aT
  have O:=Qq (G.out.thn bA.out)
  clear c1 c6 v0 v1 v2 v3 v4
  have aV:=kB O.out aB.out
  have c1:=rA1 aV;have c6:=rA6 aV
  clear aV
  cases b7 with
  | false=>
   obtain ⟨u0,u1,u2,u3,u4⟩:=row5 aA.out
   have U:=kE O.out Y V.out
   obtain ⟨y0,y1,y2,y3,y4⟩:=row5 U
   obtain ⟨f0,f1,f2,f3,f4⟩:=frz5 U
   have cQ:=Qq U
   clear U
   go_wp2_with fail
   show bodyPost _ _ _ _ _ (Zi W8 (w+1) k7 n7 (.string s7) (.slice cB dN bX) (.slice cD dP bZ))
   refine Q7 (v:=.tuple #[.agg #[k7,n7,.string s7,.slice cB dN bX,.slice cD dP bZ],.bool false]) (by simp [results,results154,go_sem,Ze cQ.out]) rfl (Xr C7 (D.out.thn O.out))
  | true=>
   obtain ⟨v,aZ,bN⟩:=eM.out (by first | rfl | trivial)
   obtain ⟨fO,fS,fQ,fU,bH,-,-,fH⟩:=Z9.cells aZ
   simp only [vcs,List.cons.injEq,Value.int.injEq,Value.string.injEq,Qr,true_and,and_true] at bH
   obtain ⟨rfl,rfl,rfl,⟨rfl,rfl,rfl⟩,rfl,rfl,rfl⟩:=bH
   have cO:=Qq aZ;have fA:=Qq bN
   clear aZ bN
   obtain ⟨u,aY,bM⟩:=eN.out (by first | rfl | trivial)
   obtain ⟨fN,fR,fP,fT,bG,-,-,fG⟩:=Z9.cells aY
   simp only [vcs,List.cons.injEq,Value.int.injEq,Value.string.injEq,Qr,true_and,and_true] at bG
   obtain ⟨rfl,rfl,rfl,⟨rfl,rfl,rfl⟩,rfl,rfl,rfl⟩:=bG
   have cN:=Qq aY;have eZ:=Qq bM
   clear aY bM
   have HC:=Qq (fun W (hW:Below W8 W8 W)=>Eh _ _ v u (Cn v cA bW cC bY) (Cn u cB bX cD bZ) W (cO.out.move (.of_below ((cL.out.thn bA.out).thn hW)) Qje) (cN.out.move (.of_below (cM.out.thn hW)) Qje))
   generalize Yv v u=c at HC
   have dJ:=kB bA.out Z.out
   have cK:=Qq dJ
   clear dJ
   obtain ⟨v0,v1,v2,v3,v4⟩:=row5 cK.out
   obtain ⟨u0,u1,u2,u3,u4⟩:=row5 aA.out
   have hC:v.s.length<=1000000:=(O5 cO.out)
   have hD:u.s.length<=1000000:=(O5 cN.out)
   have bF:((⟨v.s.toArray⟩:ByteArray)++⟨u.s.toArray⟩)=⟨(v.s++u.s).toArray⟩:=ByteArray.ext Ca
   have fD:∀ w,(Op.stringOp .add ⟨v.s.toArray⟩ ⟨u.s.toArray⟩).run prog w=.ok (.string ⟨(v.s++u.s).toArray⟩) w:=fun w=>by
    rw [run_string_add_sum w _ _ (by show v.s.toArray.size+u.s.toArray.size<=_;simp;omega),bF]
   clear bF
   go_upto_region 17 with (go_at_call 32;refine (HC.out _ (Qz _ _)).mono ?_;rintro e w9 ⟨rfl,dC⟩;have bO:=Qq (show Below W8 W8 w9 from dC.bl);clear dC)
   clear c1 c6
   have I:=Qq (O.out.thn bO.out)
   have dL:=kB I.out aB.out
   have dK:=kB bO.out cK.out
   have dF:=kB bO.out aA.out
   obtain ⟨eP,eO,eL⟩:=Qjq dL dK dF
   clear dL dK dF v0 v1 v2 v3 v4 u0 u1 u2 u3 u4
   have c1:=rA1 eP.out
   obtain ⟨v0,v1,v2,v3,v4⟩:=row5 eO.out
   obtain ⟨u0,u1,u2,u3,u4⟩:=row5 eL.out
   go_upto_region 27 with fail
   have gZ:w5≠w.heap.size+1:=C8 cH.out.size
   have hA:w7≠w.heap.size+1:=by have h1:=G.out.size;have h2:=cI.out.size;omega
   have eS:(v.kind==1)=false\/((v.kind==1)=true/\(u.kind==1)=false)\/((v.kind==1)=true/\(u.kind==1)=true/\decide ((v.s.length:Int)+(u.s.length:Int)<=4096)=false)\/((v.kind==1)=true/\(u.kind==1)=true/\(v.s.length:Int)+(u.s.length:Int)<=4096):=by
    cases (v.kind==1) <;> cases (u.kind==1) <;> simp <;> omega
   clear c1 v1 v3 v4 u1 u3 u4
   rcases eS with hq1 | ⟨hq1,hq2⟩ | ⟨hq1,hq2,hq3⟩ | ⟨hq1,hq2,hq3⟩
   focus
    have A:=kE I.out Y V.out
    obtain ⟨y0,y1,y2,y3,y4⟩:=row5 A
    obtain ⟨f0,f1,f2,f3,f4⟩:=frz5 A
    have J:=Qq A
    clear A
    go_region
    all_goals
     go_wp2_with fail
     show bodyPost _ _ _ _ _ (Zi w9 (w+1) (.int .i64 1) Ci (.string ⟨(v.s++u.s).toArray⟩) Cm Cm).drew
     refine Q7 (v:=.tuple #[.agg #[.int .i64 1,Ci,.string ⟨(v.s++u.s).toArray⟩,Cm,Cm],.bool false]) (by simp [results,results154,go_sem,Ze J.out]) rfl ((Xr C7 (D.out.thn I.out))).drew
   focus
    have A:=kE I.out Y V.out
    obtain ⟨y0,y1,y2,y3,y4⟩:=row5 A
    obtain ⟨f0,f1,f2,f3,f4⟩:=frz5 A
    have J:=Qq A
    clear A
    go_region
    all_goals
     go_wp2_with fail
     show bodyPost _ _ _ _ _ (Zi w9 (w+1) (.int .i64 1) Ci (.string ⟨(v.s++u.s).toArray⟩) Cm Cm).drew
     refine Q7 (v:=.tuple #[.agg #[.int .i64 1,Ci,.string ⟨(v.s++u.s).toArray⟩,Cm,Cm],.bool false]) (by simp [results,results154,go_sem,Ze J.out]) rfl ((Xr C7 (D.out.thn I.out))).drew
   focus
    have A:=kE I.out Y V.out
    obtain ⟨y0,y1,y2,y3,y4⟩:=row5 A
    obtain ⟨f0,f1,f2,f3,f4⟩:=frz5 A
    have J:=Qq A
    clear A
    go_region
    all_goals
     go_wp2_with fail
     show bodyPost _ _ _ _ _ (Zi w9 (w+1) (.int .i64 1) Ci (.string ⟨(v.s++u.s).toArray⟩) Cm Cm).drew
     refine Q7 (v:=.tuple #[.agg #[.int .i64 1,Ci,.string ⟨(v.s++u.s).toArray⟩,Cm,Cm],.bool false]) (by simp [results,results154,go_sem,Ze J.out]) rfl ((Xr C7 (D.out.thn I.out))).drew
   focus
    have A:=kE I.out Y V.out
    obtain ⟨y0,y1,y2,y3,y4⟩:=row5 A
    obtain ⟨f0,f1,f2,f3,f4⟩:=frz5 A
    have J:=Qq A
    clear A
    go_region
    all_goals
     go_wp2_with fail
     show bodyPost _ _ _ _ _ (Zi w9 (w+1) (.int .i64 1) Ci (.string ⟨(v.s++u.s).toArray⟩) Cm Cm).drew
     refine Q7 (v:=.tuple #[.agg #[.int .i64 1,Ci,.string ⟨(v.s++u.s).toArray⟩,Cm,Cm],.bool true]) (by simp [results,results154,go_sem,Ze J.out]) rfl ((Ka C7 (D.out.thn I.out) (fun _=>⟨_,Y5 (by rw [Ql];omega) (Sl.nil _ _ _) (Sl.nil _ _ _),.mk _ _ _ _ _ (fun h=>by cases h) (fun x h=>by simp at h)⟩))).drew
theorem Aq (nm:Bs) (n:Int) (s:Bs) (names binds:List Bs) (kids:List Ex) (a z:Int) (d:Nat) (hN:Ee 14 nm names binds kids.length) (ih:∀ x ∈ kids,Xl d x):∀ (S:Nat->Prop) (ce:List Value) (nv vv:Value) (ns:List Bs) (vs:List Val) (w:World),Yx S w ce (.mk 14 nm n s names binds kids a z)->Sl Zh S w nv ns->Sl Zd S w vv vs->ns.length<=vs.length->vs.length+(d+1)<=1000->(∀ v ∈ vs,Y0 v) ->
  Calls prog 154 #[ce,nv,vv] w (Vj S w):=by
 obtain ⟨D,A⟩:=hN.op rfl
 unfold Ba at D
 simp only [Z3,Z2,or_false] at D
 rcases D with h | h | h | h | h | h | h | h | h | h | h
 ·exact Vd nm n s names binds kids a z d (by rw [A,h];rfl) (by simp [h]) ih
 ·exact Vd nm n s names binds kids a z d (by rw [A,h];rfl) (by simp [h]) ih
 ·exact Vd nm n s names binds kids a z d (by rw [A,h];rfl) (by simp [h]) ih
 ·exact Vd nm n s names binds kids a z d (by rw [A,h];rfl) (by simp [h]) ih
 ·exact Vd nm n s names binds kids a z d (by rw [A,h];rfl) (by simp [h]) ih
 ·exact Vd nm n s names binds kids a z d (by rw [A,h];rfl) (by simp [h]) ih
 ·exact Vd nm n s names binds kids a z d (by rw [A,h];rfl) (by simp [h]) ih
 ·exact Ax nm h n s names binds kids a z d (by rw [A,h];rfl) ih
 ·exact Tl nm h n s names binds kids a z d (by rw [A,h];rfl) ih
 ·exact roper_or nm h n s names binds kids a z d (by rw [A,h];rfl) ih
 exact Cy nm h n s names binds kids a z d (by rw [A,h];rfl) ih
theorem Bn:∀ (d:Nat) (e:Ex),WfE d e->Xl d e
 | 0,e,h=>by cases h
 | d+1,.mk k nm n s names binds kids a z,h=>by
  cases h with
  | mk _ _ _ _ _ _ _ _ _ _ hN hk=>
   have ih:∀ x ∈ kids,Xl d x:=fun x hx=>Bn d x (hk x hx)
   by_cases h0:k=0
   ·subst h0;exact Tb nm n s names binds kids a z d ih
   by_cases h1:k=1
   ·subst h1
    by_cases hq:(s.length:Int)<=4096
    ·exact M5 nm n s names binds kids a z d ih hq
    exact M0 nm n s names binds kids a z d ih (by simpa using hq)
   by_cases h2:k=2
   ·subst h2;exact R6 nm n s names binds kids a z d ih
   by_cases h3:k=3
   ·subst h3;exact A8 nm n s names binds kids a z d ih
   by_cases h11:k=11
   ·subst h11;exact C0 nm n s names binds kids a z d ih (hN.two rfl)
   by_cases h12:k=12
   ·subst h12;exact reval_if nm n s names binds kids a z d ih (hN.three rfl)
   by_cases h13:k=13
   ·subst h13;exact Nk nm n s names binds kids a z d (Wr nm n s names binds kids a z d ih (hN.mtch rfl).1 (hN.mtch rfl).2)
   by_cases h14:k=14
   ·subst h14;exact Hf nm n s names binds kids a z d (Aq nm n s names binds kids a z d hN ih)
   exact P8 k nm n s names binds kids a z d ih hN h0 h1 h2 h3 h11 h12 h13 h14
theorem O7 (k:Nat):Xl 8 (Gen.check k):=Bn 8 _ (wf_check k)
theorem Wl:Xl 8 Gen.yes:=Bn 8 _ (wf_yes _)
theorem Ey (c:UInt8) (h1:De c=true) (h2:tk Dl [c]=1) (h3:Bw [c]=false):Vy [c]:=
 ⟨Ca,Ca,by intro d hd;simp at hd;subst hd;exact h1,h2,h3⟩
theorem hue_gen:Us [Gen.hue]:=by
 intro u hu c A
 obtain rfl:=Z5.1 hu
 rcases Z3.1 A with rfl | A
 ·exact ⟨.inl rfl,⟨Cc,Cc,by intro c A;simp at A;subst A;decide,Cc⟩⟩
 obtain rfl:=Z5.1 A
 exact ⟨.inl rfl,⟨Cc,Cc,by intro c A;simp at A;subst A;decide,Cc⟩⟩
theorem t_gen (key:List Bs) (refs:List Rf) (x:Ex) (hr:refs.length<=1000):Ks ⟨[116],[⟨[97],Gen.whole⟩,⟨[98],Gen.whole⟩,⟨[99],Gen.text⟩,⟨[100],Gen.yesno⟩,⟨[101],Gen.hueT⟩],key,refs,x⟩ where
 few:=Ca
 refs:=hr
 words:=by
  intro c A
  simp only [Z3,Z2,or_false] at A
  rcases A with rfl | rfl | rfl | rfl | rfl
  all_goals exact Ey _ Cc Cc Cc
 once:=Ca
 types:=by
  intro c A
  simp only [Z3,Z2,or_false] at A
  rcases A with rfl | rfl | rfl | rfl | rfl
  ·exact .inl (.inl rfl)
  ·exact .inl (.inl rfl)
  ·exact .inl (.inr (.inl rfl))
  ·exact .inl (.inr (.inr rfl))
  exact .inr rfl
theorem u_gen:Ks ⟨[117],[⟨[107],Gen.whole⟩,⟨[110],Gen.text⟩],[[107]],[],Gen.yes⟩ where
 few:=Ca
 refs:=Ca
 words:=by
  intro c A
  simp only [Z3,Z2,or_false] at A
  rcases A with rfl | rfl
  all_goals exact Ey _ Cc Cc Cc
 once:=Ca
 types:=by
  intro c A
  simp only [Z3,Z2,or_false] at A
  rcases A with rfl | rfl
  ·exact .inl (.inl rfl)
  exact .inl (.inr (.inl rfl))
theorem v_gen:Ks ⟨[118],[⟨[120],Gen.whole⟩,⟨[121],Gen.whole⟩],[[120]],[⟨[121],[118]⟩,⟨[120],[117]⟩],Gen.yes⟩ where
 few:=Ca
 refs:=Ca
 words:=by
  intro c A
  simp only [Z3,Z2,or_false] at A
  rcases A with rfl | rfl
  all_goals exact Ey _ Cc Cc Cc
 once:=Ca
 types:=by
  intro c A
  simp only [Z3,Z2,or_false] at A
  rcases A with rfl | rfl
  all_goals exact .inl (.inl rfl)
theorem Em {k:Nat} {two ref third:Bool} {t:Tbl} (h:t ∈ (Gen.schema k two ref third).tables):Ks t/\t.key.length<=2/\(t.check=Gen.check k\/t.check=Gen.yes):=by
 unfold Gen.schema at h
 rcases Z4.1 h with h | h
 ·rcases Z3.1 h with rfl | h
  ·refine ⟨t_gen _ _ _ (by cases ref <;> simp),?_,.inl rfl⟩
   cases two <;> simp
  obtain rfl:=Z5.1 h
  exact ⟨u_gen,Ca,.inr rfl⟩
 cases third with
 | false=>simp at h
 | true=>
  obtain rfl:=Z5.1 h
  exact ⟨v_gen,Ca,.inr rfl⟩
theorem Fb (k:Nat) (two ref third:Bool):St (Gen.schema k two ref third) where
 sums:=hue_gen
 gen:=fun t D=>(Em D).1
 ok:=fun t D=>by
  obtain ⟨h1,h2,A⟩:=Em D
  refine ⟨C7,by have:=h1.few;omega,h1.types,?_⟩
  rcases A with A | A
  ·rw [A];exact O7 k
  rw [A];exact Wl
 few:=by cases third <;> simp [Gen.schema]
 once:=by cases third <;> simp [Gen.schema]
theorem Lh:∀ {l:List Tbl},(l.map Tbl.name).Nodup->∀ t ∈ l,Yq l t.name=some t
 | [],_,_,h=>by cases h
 | x::l,hd,t,h=>by
  unfold Yq
  rw [List.find?_cons]
  rw [List.map_cons,List.nodup_cons] at hd
  rcases Z3.1 h with rfl | h
  ·simp
  have hne:x.name≠t.name:=fun e=>hd.1 (by rw [e];exact List.mem_map_of_mem h)
  simp only [hne,decide_false]
  exact Lh hd.2 t h
theorem Ol {l:List Rel} (hd:(l.map Rel.table).Nodup) {i:Nat} {r:Rel} (h:l[i]?=some r):Yo l r.table=r.rows:=by
 obtain ⟨hi,he⟩:=Qj h
 have h1:Vu l r.table=some i:=by
  unfold Vu
  rw [List.findIdx?_eq_some_iff_getElem]
  refine ⟨hi,by simp [he],fun j hj=>?_⟩
  simp only [Qt,decide_eq_false_iff_not]
  intro e
  rw [<- he] at e
  exact (List.pairwise_iff_getElem.1 hd) j i (by simpa using (by omega:j<l.length)) (by simpa using hi) hj (by simpa using e)
 unfold Yo;rw [h1];simp [h]
theorem Al {s:Sc} {l:List Rel} {p5:Nat->Val->Bool} {nm:Nat->Bs} (hS:∀ t ∈ s.tables,Nr s t) (hd:(s.tables.map Tbl.name).Nodup) (hg:∀ r ∈ l,∀ v ∈ r.rows,Y4 v) {f:Ft} (hN:F6 s l=true)
  (hF:Um s.tables.length (Aj s l (fun i=>Ua s.sums (s.tables.getD i Tbl.zero)) p5 (fun i=>Dd (s.tables.getD i Tbl.zero))) nm f) (h0:f.code=0) (i:Nat) (t:Tbl) (ht:s.tables[i]?=some t):
  ∃ r,l[i]?=some r/\Yo l t.name=r.rows/\Yq s.tables t.name=some t/\∀ (k:Nat) (v:Val),r.rows[k]?=some v->Ua s.sums t v=true/\V6 s l t.name ((keyOf t.key v).getD [])=some v /\
   ∀ q ∈ t.refs,∃ x y o,Yt v q.column=some x/\Yq s.tables q.table=some o/\V6 s l q.table [x]=some y/\eqL eqv ((keyOf o.key y).getD []) [x]=true:=by
 have hz:∀ c,c<5->(Aj s l (fun i=>Ua s.sums (s.tables.getD i Tbl.zero)) p5 (fun i=>Dd (s.tables.getD i Tbl.zero)) c i).code=0:=by
  rcases hF with ⟨_,h⟩ | ⟨c,j,_,_,U,rfl,_⟩
  ·exact fun c hc=>h c i hc (Qj ht).1
  exact absurd h0 U
 obtain ⟨h1,h2⟩:=Jm hN
 have aB:=(Qj ht).1
 have G:l[i]?=some (l[i]'C7):=Qx C7
 generalize l[i]'C7=r at G
 have V:t.name=r.table:=by
  have:=h2 i t r ht G
  rw [Bool.and_eq_true] at this
  exact of_decide_eq_true this.2
 have A:l.map Rel.table=s.tables.map Tbl.name:=by
  refine List.ext_getElem? fun j=>?_
  rw [List.getElem?_map,List.getElem?_map]
  cases ha:s.tables[j]? with
  | none=>rw [List.getElem?_eq_none_iff] at ha;rw [List.getElem?_eq_none_iff.2 C7];rfl
  | some x=>
   have hj:=(Qj ha).1
   have hb:l[j]?=some (l[j]'C7):=Qx C7
   rw [hb]
   have:=h2 j x _ ha hb
   rw [Bool.and_eq_true] at this
   exact congrArg some (of_decide_eq_true this.2).symm
 have D:=Qy ht
 have J:=Lh hd t D
 have I:Yo l t.name=r.rows:=by
  rw [V]
  exact Ol (by rw [A];exact hd) G
 have T:∀ v ∈ r.rows,Y4 v:=hg r (Qy G)
 have N:(l.getD i ⟨[],[]⟩).rows=r.rows:=by rw [Qs,G];rfl
 have O:s.tables.getD i Tbl.zero=t:=by rw [Qs,ht];rfl
 have M:∀ v ∈ r.rows,Ua s.sums t v=true:=by
  have h:(Vi 9 (Ua s.sums (s.tables.getD i Tbl.zero)) (l.getD i ⟨[],[]⟩).rows).code=0:=hz 1 Cc
  rw [N,O] at h
  exact Er Cc h
 have hu:(Uk r.rows (ust r.rows.length (r.rows.map fun x=>kb (Dd t x)) r.rows.length)).code=0:=by
  have h:(Uk (l.getD i ⟨[],[]⟩).rows (ust (l.getD i ⟨[],[]⟩).rows.length ((l.getD i ⟨[],[]⟩).rows.map fun x=>kb (Dd (s.tables.getD i Tbl.zero) x)) (l.getD i ⟨[],[]⟩).rows.length)).code=0:=hz 2 Cc
  rw [N,O] at h
  exact h
 have Y:(Xg s l r.rows t.refs).code=0:=by
  have h:(Xg s l (l.getD i ⟨[],[]⟩).rows (s.tables.getD i Tbl.zero).refs).code=0:=hz 3 Cc
  rw [N,O] at h
  exact h
 refine ⟨r,G,I,J,fun k v Z=>⟨M v (Qy Z),look_own (hS t D) J I T M hu Z,fun q hq=>?_⟩⟩
 obtain ⟨x,y,hx,hy⟩:=T5 (Gi Y q hq v (Qy Z))
 obtain ⟨o,ho⟩:=Option.isSome_iff_exists.1 ((hS t D).refs q hq)
 exact ⟨x,y,o,hx,ho,hy,look_ref ho hy⟩
theorem Bj {k:Nat} {two ref third:Bool} {t:Tbl} (h:t ∈ (Gen.schema k two ref third).tables):Nr (Gen.schema k two ref third) t:=by
 have hu:(Yq (Gen.schema k two ref third).tables [117]).isSome=true:=by cases third <;> rfl
 unfold Gen.schema at h
 rcases Z4.1 h with h | h
 ·rcases Z3.1 h with rfl | h
  ·refine ⟨E8 (by simp only [List.pairwise_cons];decide),Ca,Ca,?_,by cases two <;> simp,by cases two <;> simp,?_⟩
   ·intro q D
    have G:q=[98]\/q=[97]:=by cases two <;> simp at D <;> simp [D]
    rcases G with rfl | rfl
    ·exact ⟨1,_,rfl,rfl,rfl⟩
    exact ⟨0,_,rfl,rfl,rfl⟩
   intro r A
   have I:r.table=[117]:=by cases ref <;> simp at A <;> simp [A]
   rw [I];exact hu
  obtain rfl:=Z5.1 h
  refine ⟨E8 Cc,Ca,Ca,?_,Ca,Ca,fun r A=>by simp at A⟩
  intro q D
  obtain rfl:=Z5.1 D
  exact ⟨0,_,rfl,rfl,rfl⟩
 cases third with
 | false=>simp at h
 | true=>
  obtain rfl:=Z5.1 h
  refine ⟨E8 Cc,Ca,Ca,?_,Ca,Ca,?_⟩
  ·intro q D
   obtain rfl:=Z5.1 D
   exact ⟨0,_,rfl,rfl,rfl⟩
  intro r A
  rcases Z3.1 A with rfl | A
  ·rfl
  obtain rfl:=Z5.1 A
  rfl
theorem Rl {k:Nat} {two ref third:Bool} {t:Tbl} (h:t ∈ (Gen.schema k two ref third).tables) {v:Val} (hv:Y4 v) (hty:Ua [Gen.hue] t v=true):∃ b,Dq t v b:=by
 unfold Gen.schema at h
 rcases Z4.1 h with h | h
 ·rcases Z3.1 h with rfl | h
  ·exact sat_t rfl rfl hv hty
  obtain rfl:=Z5.1 h
  exact Sw rfl hv
 cases third with
 | false=>simp at h
 | true=>
  obtain rfl:=Z5.1 h
  exact Sw rfl hv
open Classical in
noncomputable def satP (t:Tbl) (v:Val):Bool:=if h:∃ b,Dq t v b then h.choose else false
theorem satP_ok {t:Tbl} {v:Val} (h:∃ b,Dq t v b):Dq t v (satP t v):=by
 unfold satP
 rw [dif_pos h]
 exact h.choose_spec
def SndIs (s:Sc) (l:List Rel) (w:World) (e:Ending) (w':World):Prop:=
 ∃ (c:Int) (x1 x2 x3 x4 x5 x6 x7 x8 x9 x10 x11:Value),e=.returned (.agg #[c,x1,x2,x3,x4,x5,x6,x7,x8,x9,x10,x11])/\Below w w w'/\(c=0->l.length=s.tables.length/\∀ (i:Nat) (t:Tbl),s.tables[i]?=some t->∃ r,l[i]?=some r/\Yo l t.name=r.rows/\Yq s.tables t.name=some t /\
  ∀ (k:Nat) (v:Val),r.rows[k]?=some v->Ua s.sums t v=true/\V6 s l t.name ((keyOf t.key v).getD [])=some v /\
   ∀ q ∈ t.refs,∃ x y o,Yt v q.column=some x/\Yq s.tables q.table=some o/\V6 s l q.table [x]=some y/\eqL eqv ((keyOf o.key y).getD []) [x]=true)
theorem sndCheck {k:Nat} {two ref third:Bool} (S0 S1:Nat->Prop) (cs:List Value) (lv:Value) (l:List Rel) (w:World) (hs:Xt S0 w cs (Gen.schema k two ref third)) (hl:Sl Y6 S1 w lv l) (hkw:Xh w) (hg:∀ r ∈ l,(∀ v ∈ r.rows,Vr v)/\r.rows.length<=8):
  Calls prog 10 #[cs,lv] w (SndIs (Gen.schema k two ref third) l w):=by
 have hG:=Fb k two ref third
 have A:∀ t ∈ (Gen.schema k two ref third).tables,Nr (Gen.schema k two ref third) t:=fun t D=>Bj D
 have J:∀ t ∈ (Gen.schema k two ref third).tables,∀ v,Y4 v->Ua (Gen.schema k two ref third).sums t v=true->∃ b,Dq t v b:=fun t D v N h=>Rl D N h
 generalize Gen.schema k two ref third=s at hs hG A J |-
 have Y:Kn s.sums:=fun u hu c M=>(hG.sums u hu c M).1
 refine (T3 S0 S1 s cs lv l (fun i=>Ua s.sums (s.tables.getD i Tbl.zero)) (fun i=>satP (s.tables.getD i Tbl.zero)) (fun i=>Dd (s.tables.getD i Tbl.zero)) w hs hl hkw (fun t D=>(hG.ok t D).key) (fun i t r D V=>?_)).mono ?_
 ·have e2:s.tables.getD i Tbl.zero=t:=by rw [Qs,D];rfl
  have I:=Qy D
  have G:=hg r (Qy V)
  have O:=A t I
  simp only [e2]
  exact ⟨O.srt,O.few,O.some,fun x T=>⟨(G.1 x T).good,Mg s.sums x [] _ _ (Hm s.sums) (fun u _ y hy=>by
   obtain ⟨c,M,rfl⟩:=List.mem_map.1 hy
   exact Sq s.sums Y u c.type ((hG.ok t I).types c M))⟩,fun h=>Ry O (fun v N=>(G.1 v N).good) h,by have:=G.2;omega,(hG.ok t I).key,fun h x T=>satP_ok (J t I x (G.1 x T).good (h x T))⟩
 rintro e w' ⟨f,h1,h2,Z,rfl,hf,U⟩
 obtain ⟨p3,k3,p4,k4,q3,l3,q4,l4,rfl,_⟩:=Ud hf
 refine ⟨f.code,.string ⟨f.table.toArray⟩,.int .i64 f.row.kind,.int .i64 f.row.n,.string ⟨f.row.s.toArray⟩,.slice p3 f.row.names.length k3,.slice p4 f.row.kids.length k4,.int .i64 f.other.kind,.int .i64 f.other.n,.string ⟨f.other.s.toArray⟩,.slice q3 f.other.names.length l3,.slice q4 f.other.kids.length l4,rfl,U,fun M=>?_⟩
 cases hn:F6 s l with
 | false=>rw [h2 hn] at M;cases M
 | true=>
  exact ⟨(Jm hn).1.symm,fun i t D=>Al A hG.once (fun r V v N=>((hg r V).1 v N).good) hn (h1 hn) M i t D⟩
end Go.Proofs.YtcljcblceodciaaGreatDoor

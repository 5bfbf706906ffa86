import Derived.Test.YtdpibdpbgokmoaaGreatDoorA50
import Derived.Test.YtdpibdpbgokmoaaGreatDoorA37
set_option maxRecDepth 100000
set_option maxHeartbeats 400000000
namespace Go.Proofs.YtdpibdpbgokmoaaGreatDoor
open Go.RowKit Go.Shelf Go.Lib Tryz
theorem Rk {S:Nat->Prop} {w:World} {cs:List Value} {v:Val} (h:Z9 S w cs v):v.s.length<=1000000:=by
 obtain ⟨_,_,_,_,_,_,_,h4⟩:=Z9.cells h
 exact h4
theorem Cy (nm:Bs) (hnm:nm=[43,43]) (n:Int) (s:Bs) (names binds:List Bs) (kids:List Ex) (a z:Int) (d:Nat) (h2:kids.length=2) (ih:∀ x ∈ kids,Xu d x) :∀ (S:Nat->Prop) (ce:List Value) (nv vv:Value) (ns:List Bs) (vs:List Val) (w:World),Yx S w ce (.mk 14 nm n s names binds kids a z)->Sl Zh S w nv ns->Sl Zc S w vv vs->ns.length<=vs.length->vs.length+(d+1)<=1000->(∀ v ∈ vs,Y3 v) ->
  Calls prog 147 #[ce,nv,vv] w (X7 S w (opV (λx=>Y0 d x ns vs) nm kids)):=by
 subst hnm
 intro S ce nv vv ns vs w N dJ dM bM hd hb
 obtain ⟨r,hr⟩:=eX (opV (λx=>Y0 d x ns vs) [43,43] kids)
 rw [hr]
 have HR:=Qq hr;have H2:=Qq h2
 clear hr
 have hx:Yx (λb=>S b/\b<w) w ce (.mk 14 [43,43] n s names binds kids a z):=N.move (.refl _ _) (λb hb h=>⟨h,hb⟩)
 have hn:=dJ.up
 have hv:=dM.up
 obtain ⟨np,nc,rfl,_⟩:=hn.len
 obtain ⟨vp,vc,rfl,hR⟩:=hv.len
 have fX:=Qq hx
 obtain ⟨hX,bv,kv,rfl,hnm,hQ,cB,cA,hk⟩:=Yy.1 hx
 obtain ⟨p1,c1,rfl,_⟩:=cB.len
 obtain ⟨p2,c2,rfl,_⟩:=cA.len
 obtain ⟨p3,c3,rfl,hN⟩:=hk.len
 obtain ⟨HN,HV,cO,fW,fT,HK,HI,bF⟩:=AV hn hv hb cB cA hk ih bM
 clear N dJ dM hx hn hv cB cA hk hb ih bM
 unfold sv at *
 rw [h2] at HK |-
 obtain ⟨x0,N⟩:∃ x,kids[0]?=some x:=⟨_,Qx Ia⟩
 obtain ⟨hS,hU,gO,gS,gQ,gU,gG,gY,hE,gI,hA,hH,gK,hC,hJ,gM,gW,dK,bK,aX,aD,aF,aH,aJ,aL,aN,aP,aR,aT⟩:=HK.o.ex N
 subst dK
 simp only [Nat.zero_mul,Nat.add_zero] at aD aF aH aJ aL aN aP aR aT
 have eQ:=Qq (λW (hW:Below w w W)=>HI.o x0 (Qy N) (λb=>S b/\b<w) _ _ _ ns vs W (aX.move (.f hW) Ij) (HN.o.below hW) (HV.o.below hW) bF.o Ia cO.o)
 obtain ⟨fM,eS,fU⟩:=Im aX N (Qy N)
 have eO:=Qq (Qe bK (Qe aD (Qe aF (Qe aH (Qe aJ (Qe aL (Qe aN (Qe aP (Qe aR aT)))))))))
 clear aX N bK aD aF aH aJ aL aN aP aR aT
 obtain ⟨x1,bB⟩:∃ x,kids[1]?=some x:=⟨_,Qx Ia⟩
 obtain ⟨hT,hV,gP,gT,gR,gV,gH,gZ,hF,gJ,hB,hI,gL,hD,hK,gN,gX,bN,bL,aY,aE,aG,aI,aK,aM,aO,aQ,aS,aU⟩:=HK.o.ex bB
 simp only [Zv,Addr.mk.injEq,and_true] at bN
 obtain ⟨rfl,rfl⟩:=bN
 simp only [Nat.one_mul] at aE aG aI aK aM aO aQ aS aU
 have eR:=Qq (λW (hW:Below w w W)=>HI.o x1 (Qy bB) (λb=>S b/\b<w) _ _ _ ns vs W (aY.move (.f hW) Ij) (HN.o.below hW) (HV.o.below hW) bF.o Ia cO.o)
 have bT:Hid (r=opV (λx=>Y0 d x ns vs) [43,43] [x0,x1]):=Qq (by rw [<- HR.o,B0 H2.o eS.o bB]);have fN:=Qq aY;have fV:=Qq (Qy bB)
 have eP:=Qq (Qe bL (Qe aE (Qe aG (Qe aI (Qe aK (Qe aM (Qe aO (Qe aQ (Qe aS aU)))))))))
 clear aY bB bL aE aG aI aK aM aO aQ aS aU
 go_enter func147,ntmps147
 go_upto_region 3 with fail
 generalize bE:(w.alloc _).alloc _=W1
 have dF:=Iq bE (Zs _ _ _)
 have dE:=Ik (b:=w.heap.size) bE (Q5 _ _ _)
 have bX:=Ik (b:=w.heap.size+1) bE (Q6 _ _ _)
 obtain ⟨D,aC,V⟩:=Im dF dE bX
 have Y:=Z8 bX
 clear bE dF dE bX
 have bG:=((Qq (Qz W1 W1)).o.block _ (Z8 aC.o)).trans aC.o
 have c6:=AK bG
 clear bG
 obtain ⟨M,q0,q1,q2,q3,q4,q5,q6,q7,q8⟩:=eO.o
 have aD:=kD D.o M q0;have aF:=kD D.o M q1;have aH:=kD D.o M q2;have aJ:=kD D.o M q3;have aL:=kD D.o M q4;have aN:=kD D.o M q5;have aP:=kD D.o M q6;have aR:=kD D.o M q7;have aT:=kD D.o M q8
 clear M q0 q1 q2 q3 q4 q5 q6 q7 q8
 go_upto_region 4 with (go_at_call 97;refine (eQ.o _ D.o).mono ?_;rintro e w5 ⟨k5,n5,s5,cG,dS,cC,cI,dU,cE,b5,rfl,dN,dG⟩;have bU:=Qq dN;have cM:=Qq dG;clear dN dG)
 generalize bV:w5.alloc _=W6
 have bY:=Iq bV (Zg _ _)
 have dC:=Ik (b:=w5.heap.size) bV (Qw _ _)
 obtain ⟨G,aA,cR⟩:=Im (cM.o.n bY) dC bY
 clear bV bY dC
 have fP:w.heap.size+1<W6.heap.size:=Ix G.o.size
 clear c6 aD aF aH aJ aL aN aP aR aT
 have aV:=kB G.o aC.o
 have c1:=AA aV;have c6:=AK aV
 clear aV
 cases b5 with
 | false=>
  obtain ⟨v0,v1,v2,v3,v4⟩:=If aA.o
  have T:=kE G.o Y V.o
  obtain ⟨y0,y1,y2,y3,y4⟩:=If T
  obtain ⟨f0,f1,f2,f3,f4⟩:=Ip T
  have cV:=Qq T
  clear T
  go_wp2_with fail
  show bodyPost _ _ _ _ _ (Zl W6 (w+1) k5 n5 (.string s5) (.slice cG dS cC) (.slice cI dU cE))
  refine Q7 (v:=.tuple #[.agg #[k5,n5,.string s5,.slice cG dS cC,.slice cI dU cE],.bool false]) (by simp [results,results147,go_sem,Ze cV.o]) rfl (Vv Ia (D.o.n G.o) (by rw [bT.o];exact Ck (f:=λx=>Y0 d x ns vs) (bU.o.2 (by first | rfl | trivial))))
 | true=>
  obtain ⟨v0,v1,v2,v3,v4⟩:=If aA.o
  obtain ⟨M,q0,q1,q2,q3,q4,q5,q6,q7,q8⟩:=eP.o
  have aE:=kD (D.o.n G.o) M q0;have aG:=kD (D.o.n G.o) M q1;have aI:=kD (D.o.n G.o) M q2;have aK:=kD (D.o.n G.o) M q3;have aM:=kD (D.o.n G.o) M q4;have aO:=kD (D.o.n G.o) M q5;have aQ:=kD (D.o.n G.o) M q6;have aS:=kD (D.o.n G.o) M q7;have aU:=kD (D.o.n G.o) M q8
  clear M q0 q1 q2 q3 q4 q5 q6 q7 q8
  go_upto_region 12 with (go_at_call 97;refine (eR.o _ (D.o.n G.o)).mono ?_;rintro e w7 ⟨k7,n7,s7,cH,dT,cD,cJ,dV,cF,b7,rfl,dO,dH⟩;have cP:=Qq dO;have cN:=Qq dH;clear dO dH)
  generalize bW:w7.alloc _=W8
  have bZ:=Iq bW (Zg _ _)
  have dD:=Ik (b:=w7.heap.size) bW (Qw _ _)
  obtain ⟨bC,aB,cS⟩:=Im (cN.o.n bZ) dD bZ
  clear bW bZ dD
  have fQ:w.heap.size+1<W8.heap.size:=Ix bC.o.size
  clear aE aG aI aK aM aO aQ aS aU
  have O:=Qq (G.o.n bC.o)
  clear c1 c6 v0 v1 v2 v3 v4
  have aW:=kB O.o aC.o
  have c1:=AA aW;have c6:=AK aW
  clear aW
  cases b7 with
  | false=>
   obtain ⟨u0,u1,u2,u3,u4⟩:=If aB.o
   have U:=kE O.o Y V.o
   obtain ⟨y0,y1,y2,y3,y4⟩:=If U
   obtain ⟨f0,f1,f2,f3,f4⟩:=Ip U
   have cW:=Qq U
   clear U
   go_wp2_with fail
   show bodyPost _ _ _ _ _ (Zl W8 (w+1) k7 n7 (.string s7) (.slice cH dT cD) (.slice cJ dV cF))
   refine Q7 (v:=.tuple #[.agg #[k7,n7,.string s7,.slice cH dT cD,.slice cJ dV cF],.bool false]) (by simp [results,results147,go_sem,Ze cW.o]) rfl (Vv Ia (D.o.n O.o) (by
    obtain ⟨v,_,_,fE⟩:=bU.o.1 (by first | rfl | trivial)
    rw [bT.o,Hb (f:=λx=>Y0 d x ns vs) Ih Ih Ih fE]
    show (Y0 d x1 ns vs).bind _=none
    rw [cP.o.2 (by first | rfl | trivial)];rfl))
  | true=>
   obtain ⟨v,bA,bP,bR⟩:=bU.o.1 (by first | rfl | trivial)
   obtain ⟨fZ,gD,gB,gF,bJ,-,-,fS⟩:=Z9.cells bA
   simp only [Il,List.cons.injEq,Value.int.injEq,Value.string.injEq,Qr,true_and,and_true] at bJ
   obtain ⟨rfl,rfl,rfl,⟨rfl,rfl,rfl⟩,rfl,rfl,rfl⟩:=bJ
   have cU:=Qq bA;have fL:=Qq bP
   clear bA bP
   obtain ⟨u,aZ,bO,bQ⟩:=cP.o.1 (by first | rfl | trivial)
   obtain ⟨fY,gC,gA,gE,bI,-,-,fR⟩:=Z9.cells aZ
   simp only [Il,List.cons.injEq,Value.int.injEq,Value.string.injEq,Qr,true_and,and_true] at bI
   obtain ⟨rfl,rfl,rfl,⟨rfl,rfl,rfl⟩,rfl,rfl,rfl⟩:=bI
   have bD:Hid (r=if v.kind=1/\u.kind=1/\v.s.length+u.s.length<=4096 then some (Er (v.s++u.s)) else none):=Qq (by
    rw [bT.o,Hb (f:=λx=>Y0 d x ns vs) Ih Ih Ih bR]
    show (Y0 d x1 ns vs).bind _=_
    rw [bQ]
    show two [43,43] v u=_
    unfold two
    rw [if_neg Ih,if_neg Ih,if_neg Ih,if_pos rfl])
   clear bR bQ
   have cT:=Qq aZ;have fK:=Qq bO
   clear aZ bO
   have HC:=Qq (λW (hW:Below W8 W8 W)=>Mz _ _ v u (Is v cG cC cI cE) (Is u cH cD cJ cF) W (cU.o.move (.f ((cR.o.n bC.o).n hW)) Ij) (cT.o.move (.f (cS.o.n hW)) Ij))
   generalize Zu v u=c at HC
   have dP:=kB bC.o aA.o
   have cQ:=Qq dP
   clear dP
   obtain ⟨v0,v1,v2,v3,v4⟩:=If cQ.o
   obtain ⟨u0,u1,u2,u3,u4⟩:=If aB.o
   have hO:v.s.length<=1000000:=(Rk cU.o)
   have hP:u.s.length<=1000000:=(Rk cT.o)
   have bH:((⟨v.s.toArray⟩:ByteArray)++⟨u.s.toArray⟩)=⟨(v.s++u.s).toArray⟩:=ByteArray.ext Ib
   have fO:∀ w,(Op.stringOp .add ⟨v.s.toArray⟩ ⟨u.s.toArray⟩).run prog w=.ok (.string ⟨(v.s++u.s).toArray⟩) w:=λw=>by
    rw [run_string_add_sum w _ _ (by show v.s.toArray.size+u.s.toArray.size<=_;simp;omega),bH]
   clear bH
   go_upto_region 17 with (go_at_call 23;refine (HC.o _ (Qz _ _)).mono ?_;rintro e w9 ⟨rfl,dI⟩;have bS:=Qq (show Below W8 W8 w9 from dI.bl);clear dI)
   clear c1 c6
   have I:=Qq (O.o.n bS.o)
   have dR:=kB I.o aC.o
   have dQ:=kB bS.o cQ.o
   have dL:=kB bS.o aB.o
   obtain ⟨eY,eW,eV⟩:=Im dR dQ dL
   clear dR dQ dL v0 v1 v2 v3 v4 u0 u1 u2 u3 u4
   have c1:=AA eY.o
   obtain ⟨v0,v1,v2,v3,v4⟩:=If eW.o
   obtain ⟨u0,u1,u2,u3,u4⟩:=If eV.o
   go_upto_region 27 with fail
   have hL:w5≠w.heap.size+1:=Ix cM.o.size
   have hM:w7≠w.heap.size+1:=by have h1:=G.o.size;have h2:=cN.o.size;omega
   have fC:(v.kind==1)=false\/((v.kind==1)=true/\(u.kind==1)=false)\/((v.kind==1)=true/\(u.kind==1)=true/\decide ((v.s.length:Int)+(u.s.length:Int)<=4096)=false)\/((v.kind==1)=true/\(u.kind==1)=true/\(v.s.length:Int)+(u.s.length:Int)<=4096):=by
    cases (v.kind==1) <;> cases (u.kind==1) <;> simp <;> omega
   clear c1 v1 v3 v4 u1 u3 u4
   rcases fC with hq1 | ⟨hq1,hq2⟩ | ⟨hq1,hq2,hq3⟩ | ⟨hq1,hq2,hq3⟩
   focus
    have Z:Hid (r=none):=Qq (by rw [bD.o];refine if_neg ?_;rintro ⟨e1,_,_⟩;rw [e1] at hq1;cases hq1)
    have A:=kE I.o Y V.o
    obtain ⟨y0,y1,y2,y3,y4⟩:=If A
    obtain ⟨f0,f1,f2,f3,f4⟩:=Ip A
    have J:=Qq A
    clear A
    go_region
    all_goals
     go_wp2_with fail
     show bodyPost _ _ _ _ _ (Zl w9 (w+1) (.int .i64 1) Ic (.string ⟨(v.s++u.s).toArray⟩) Ie Ie).drew
     refine Q7 (v:=.tuple #[.agg #[.int .i64 1,Ic,.string ⟨(v.s++u.s).toArray⟩,Ie,Ie],.bool false]) (by simp [results,results147,go_sem,Ze J.o]) rfl ((Vv Ia (D.o.n I.o) Z.o)).drew
   focus
    have Z:Hid (r=none):=Qq (by rw [bD.o];refine if_neg ?_;rintro ⟨_,e1,_⟩;rw [e1] at hq2;cases hq2)
    have A:=kE I.o Y V.o
    obtain ⟨y0,y1,y2,y3,y4⟩:=If A
    obtain ⟨f0,f1,f2,f3,f4⟩:=Ip A
    have J:=Qq A
    clear A
    go_region
    all_goals
     go_wp2_with fail
     show bodyPost _ _ _ _ _ (Zl w9 (w+1) (.int .i64 1) Ic (.string ⟨(v.s++u.s).toArray⟩) Ie Ie).drew
     refine Q7 (v:=.tuple #[.agg #[.int .i64 1,Ic,.string ⟨(v.s++u.s).toArray⟩,Ie,Ie],.bool false]) (by simp [results,results147,go_sem,Ze J.o]) rfl ((Vv Ia (D.o.n I.o) Z.o)).drew
   focus
    have Z:Hid (r=none):=Qq (by rw [bD.o];refine if_neg ?_;rintro ⟨_,_,e1⟩;exact of_decide_eq_false hq3 Ia)
    have A:=kE I.o Y V.o
    obtain ⟨y0,y1,y2,y3,y4⟩:=If A
    obtain ⟨f0,f1,f2,f3,f4⟩:=Ip A
    have J:=Qq A
    clear A
    go_region
    all_goals
     go_wp2_with fail
     show bodyPost _ _ _ _ _ (Zl w9 (w+1) (.int .i64 1) Ic (.string ⟨(v.s++u.s).toArray⟩) Ie Ie).drew
     refine Q7 (v:=.tuple #[.agg #[.int .i64 1,Ic,.string ⟨(v.s++u.s).toArray⟩,Ie,Ie],.bool false]) (by simp [results,results147,go_sem,Ze J.o]) rfl ((Vv Ia (D.o.n I.o) Z.o)).drew
   focus
    have eU:Hid (r=some (.mk 1 0 (v.s++u.s) [] [])):=Qq (by rw [bD.o];exact if_pos ⟨by simpa using hq1,by simpa using hq2,Ia⟩)
    have A:=kE I.o Y V.o
    obtain ⟨y0,y1,y2,y3,y4⟩:=If A
    obtain ⟨f0,f1,f2,f3,f4⟩:=Ip A
    have J:=Qq A
    clear A
    go_region
    all_goals
     go_wp2_with fail
     show bodyPost _ _ _ _ _ (Zl w9 (w+1) (.int .i64 1) Ic (.string ⟨(v.s++u.s).toArray⟩) Ie Ie).drew
     refine Q7 (v:=.tuple #[.agg #[.int .i64 1,Ic,.string ⟨(v.s++u.s).toArray⟩,Ie,Ie],.bool true]) (by simp [results,results147,go_sem,Ze J.o]) rfl ((Dw Ia (D.o.n I.o) (.yes (Yb (by rw [Ql];omega) (Sl.nil _ _ _) (Sl.nil _ _ _)) (.mk _ _ _ _ _ (λh=>by cases h) (λx h=>by simp at h)) eU.o))).drew
theorem Cp (nm:Bs) (n:Int) (s:Bs) (names binds:List Bs) (kids:List Ex) (a z:Int) (d:Nat) (hN:L1 14 nm names binds kids.length) (ih:∀ x ∈ kids,Xu d x):∀ (S:Nat->Prop) (ce:List Value) (nv vv:Value) (ns:List Bs) (vs:List Val) (w:World),Yx S w ce (.mk 14 nm n s names binds kids a z)->Sl Zh S w nv ns->Sl Zc S w vv vs->ns.length<=vs.length->vs.length+(d+1)<=1000->(∀ v ∈ vs,Y3 v) ->
  Calls prog 147 #[ce,nv,vv] w (X7 S w (opV (λx=>Y0 d x ns vs) nm kids)):=by
 obtain ⟨D,A⟩:=hN.op rfl
 unfold Ha at D
 simp only [Z3,Z2,or_false] at D
 rcases D with h | h | h | h | h | h | h | h | h | h | h
 ·exact Vu nm n s names binds kids a z d (by rw [A,h];rfl) (by simp [h]) ih
 ·exact Vu nm n s names binds kids a z d (by rw [A,h];rfl) (by simp [h]) ih
 ·exact Vu nm n s names binds kids a z d (by rw [A,h];rfl) (by simp [h]) ih
 ·exact Vu nm n s names binds kids a z d (by rw [A,h];rfl) (by simp [h]) ih
 ·exact Vu nm n s names binds kids a z d (by rw [A,h];rfl) (by simp [h]) ih
 ·exact Vu nm n s names binds kids a z d (by rw [A,h];rfl) (by simp [h]) ih
 ·exact Vu nm n s names binds kids a z d (by rw [A,h];rfl) (by simp [h]) ih
 ·exact Cy nm h n s names binds kids a z d (by rw [A,h];rfl) ih
 ·exact Qzq nm h n s names binds kids a z d (by rw [A,h];rfl) ih
 ·exact roper_or nm h n s names binds kids a z d (by rw [A,h];rfl) ih
 exact Qzl nm h n s names binds kids a z d (by rw [A,h];rfl) ih
theorem Lv:∀ (d:Nat) (e:Ex),WfE d e->Xu d e
 | 0,e,h=>by cases h
 | d+1,.mk k nm n s names binds kids a z,h=>by
  cases h with
  | mk _ _ _ _ _ _ _ _ _ _ hN hk=>
   have ih:∀ x ∈ kids,Xu d x:=λx hx=>Lv d x (hk x hx)
   by_cases h0:k=0
   ·subst h0;exact Cb nm n s names binds kids a z d ih
   by_cases h1:k=1
   ·subst h1
    by_cases hq:(s.length:Int)<=4096
    ·exact Ni nm n s names binds kids a z d ih hq
    exact O2 nm n s names binds kids a z d ih (by simpa using hq)
   by_cases h2:k=2
   ·subst h2;exact Tk nm n s names binds kids a z d ih
   by_cases h3:k=3
   ·subst h3;exact Qjk nm n s names binds kids a z d ih
   by_cases h11:k=11
   ·subst h11;exact Qzi nm n s names binds kids a z d ih (hN.two rfl)
   by_cases h12:k=12
   ·subst h12;exact reval_if nm n s names binds kids a z d ih (hN.three rfl)
   by_cases h13:k=13
   ·subst h13;exact Rm nm n s names binds kids a z d (Cf nm n s names binds kids a z d ih (hN.mtch rfl).1 (hN.mtch rfl).2)
   by_cases h14:k=14
   ·subst h14;exact M4 nm n s names binds kids a z d (Cp nm n s names binds kids a z d hN ih)
   exact Wl k nm n s names binds kids a z d ih hN h0 h1 h2 h3 h11 h12 h13 h14
theorem Pf (k:Nat):Xu 8 (Gen.check k):=Lv 8 _ (wf_check k)
theorem Qjq:Xu 8 Gen.yes:=Lv 8 _ (wf_yes _)
theorem Lm (c:UInt8) (h1:Gx c=true) (h2:tk Fp [c]=1) (h3:Hz [c]=false):Vi [c]:=
 ⟨Ib,Ib,by intro d hd;simp at hd;subst hd;exact h1,h2,h3⟩
theorem hue_gen:Kw [Gen.hue]:=by
 intro u hu c A
 obtain rfl:=Z5.1 hu
 rcases Z3.1 A with rfl | A
 ·exact ⟨.inl rfl,⟨Ih,Ih,by intro c A;simp at A;subst A;decide,Ih⟩⟩
 obtain rfl:=Z5.1 A
 exact ⟨.inl rfl,⟨Ih,Ih,by intro c A;simp at A;subst A;decide,Ih⟩⟩
theorem t_gen (key:List Bs) (refs:List Rf) (x:Ex) (hr:refs.length<=1000):Gq ⟨[116],[⟨[97],Gen.whole⟩,⟨[98],Gen.whole⟩,⟨[99],Gen.text⟩,⟨[100],Gen.yesno⟩,⟨[101],Gen.hueT⟩],key,refs,x⟩ where
 few:=Ib
 refs:=hr
 words:=by
  intro c A
  simp only [Z3,Z2,or_false] at A
  rcases A with rfl | rfl | rfl | rfl | rfl
  all_goals exact Lm _ Ih Ih Ih
 once:=Ib
 types:=by
  intro c A
  simp only [Z3,Z2,or_false] at A
  rcases A with rfl | rfl | rfl | rfl | rfl
  ·exact .inl (.inl rfl)
  ·exact .inl (.inl rfl)
  ·exact .inl (.inr (.inl rfl))
  ·exact .inl (.inr (.inr rfl))
  exact .inr rfl
theorem u_gen:Gq ⟨[117],[⟨[107],Gen.whole⟩,⟨[110],Gen.text⟩],[[107]],[],Gen.yes⟩ where
 few:=Ib
 refs:=Ib
 words:=by
  intro c A
  simp only [Z3,Z2,or_false] at A
  rcases A with rfl | rfl
  all_goals exact Lm _ Ih Ih Ih
 once:=Ib
 types:=by
  intro c A
  simp only [Z3,Z2,or_false] at A
  rcases A with rfl | rfl
  ·exact .inl (.inl rfl)
  exact .inl (.inr (.inl rfl))
theorem v_gen:Gq ⟨[118],[⟨[120],Gen.whole⟩,⟨[121],Gen.whole⟩],[[120]],[⟨[121],[118]⟩,⟨[120],[117]⟩],Gen.yes⟩ where
 few:=Ib
 refs:=Ib
 words:=by
  intro c A
  simp only [Z3,Z2,or_false] at A
  rcases A with rfl | rfl
  all_goals exact Lm _ Ih Ih Ih
 once:=Ib
 types:=by
  intro c A
  simp only [Z3,Z2,or_false] at A
  rcases A with rfl | rfl
  all_goals exact .inl (.inl rfl)
theorem Lb {k:Nat} {two ref third:Bool} {t:Tbl} (h:t ∈ (Gen.schema k two ref third).tables):Gq t/\t.key.length<=2/\(t.check=Gen.check k\/t.check=Gen.yes):=by
 unfold Gen.schema at h
 rcases Z4.1 h with h | h
 ·rcases Z3.1 h with rfl | h
  ·refine ⟨t_gen _ _ _ (by cases ref <;> simp),?_,.inl rfl⟩
   cases two <;> simp
  obtain rfl:=Z5.1 h
  exact ⟨u_gen,Ib,.inr rfl⟩
 cases third with
 | false=>simp at h
 | true=>
  obtain rfl:=Z5.1 h
  exact ⟨v_gen,Ib,.inr rfl⟩
theorem Gg (k:Nat) (two ref third:Bool):ScGen (Gen.schema k two ref third) where
 sums:=hue_gen
 gen:=λt D=>(Lb D).1
 ok:=λt D=>by
  obtain ⟨h1,h2,A⟩:=Lb D
  refine ⟨Ia,by have:=h1.few;omega,h1.types,?_⟩
  rcases A with A | A
  ·rw [A];exact Pf k
  rw [A];exact Qjq
 few:=by cases third <;> simp [Gen.schema]
 once:=by cases third <;> simp [Gen.schema]
end Go.Proofs.YtdpibdpbgokmoaaGreatDoor

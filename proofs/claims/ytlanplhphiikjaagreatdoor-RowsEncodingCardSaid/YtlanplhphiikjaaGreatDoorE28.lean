import Derived.Test.YtlanplhphiikjaaGreatDoorE26
set_option maxRecDepth 100000
set_option maxHeartbeats 400000000
namespace Go.Proofs.YtlanplhphiikjaaGreatDoor
open Go.RowKit Go.Shelf Go.Lib Tryz
theorem Sl.valS {S:Nat->Prop} {w:World} {p:Option Addr} {n cap:Nat} {xs:List Val} (h:Sl Zc S w (.slice p n cap) xs) {i:Nat} {x:Val} (hx:xs[i]?=some x):
  ∃ b off p3 k3 p4 k4,p=some ⟨b,off,none⟩/\S b/\b<w.heap.size/\Za S w (vcs x p3 k3 p4 k4) x/\Qxw w b (off+i*5) x.kind/\Qxw w b (off+i*5+1) x.n/\Qxw w b (off+i*5+2) x.s /\
   Qxw w b (off+i*5+3) (.slice p3 x.names.length k3)/\Qxw w b (off+i*5+4) (.slice p4 x.kids.length k4):=by
 obtain ⟨p',c',h1,_,h3⟩:=h
 simp only [Qr] at h1
 obtain ⟨rfl,_,_⟩:=h1
 obtain ⟨b,off,e,hS,hb,hc⟩:=h3 (by intro e;subst e;simp at hx)
 obtain ⟨cs,A,h5⟩:=hc i x hx
 obtain ⟨p3,k3,p4,k4,rfl,_⟩:=Za.cells h5
 exact ⟨b,off,p3,k3,p4,k4,e,hS,hb,h5,A 0 _ rfl,A 1 _ rfl,A 2 _ rfl,A 3 _ rfl,A 4 _ rfl⟩
theorem Qjr (nm:Bs) (n:Int) (s:Bs) (names binds:List Bs) (kids:List Ex) (a z:Int) (d:Nat) (ih:∀ x ∈ kids,Xi d x) (hk1:kids.length=names.length+1) (hb1:binds.length=names.length):∀ (S:Nat->Prop) (ce:List Value) (nv vv:Value) (ns:List Bs) (vs:List Val) (w:World),Y1 S w ce (.mk 13 nm n s names binds kids a z)->Sl Zg S w nv ns->Sl Zc S w vv vs->ns.length<=vs.length->vs.length+(d+1)<=1000->(∀ v ∈ vs,Y0 v) ->
  Calls prog 246 #[ce,nv,vv] w (Xy S w (Ev (Y5 d) names binds kids ns vs)):=by
 intro S ce nv vv ns vs w Y eO eR cQ hd hb
 obtain ⟨r,hr⟩:=eX (Ev (Y5 d) names binds kids ns vs)
 rw [hr]
 have HR:=Qq hr
 clear hr
 have hx:Y1 (fun b=>S b/\b<w) w ce (.mk 13 nm n s names binds kids a z):=Y.move (.refl _ _) (fun b hb h=>⟨h,hb⟩)
 have hn:=eO.up
 have hv:=eR.up
 obtain ⟨np,nc,rfl,_⟩:=hn.len
 obtain ⟨vp,vc,rfl,jO⟩:=hv.len
 have iQ:=Qq hx
 obtain ⟨jT,bv,kv,rfl,jL,jM,dI,dG,hk⟩:=Yd.1 hx
 obtain ⟨p1,c1,rfl,_⟩:=dI.len
 obtain ⟨p2,c2,rfl,_⟩:=dG.len
 obtain ⟨p3,c3,rfl,hT⟩:=hk.len
 obtain ⟨HN,HV,cU,dV,dU,HK,HI,aO⟩:=Qxt hn hv hb dI dG hk ih cQ
 clear Y eO eR hx hn hv dI dG hk hb ih cQ
 unfold sv at *
 obtain ⟨m,hm⟩:=eX (names.length)
 rw [hm] at hk1 hb1
 have iM:m+1<=1000000:=Qvu
 rw [hk1] at HK |-;rw [hm] at dV |-;rw [hb1] at dU |-
 obtain ⟨HM,gF,fZ⟩:=Qxn hm hk1 hb1
 obtain ⟨x0,Y⟩:∃ x,kids[0]?=some x:=⟨_,Qx Qvu⟩
 obtain ⟨J,M,iV,iX,iW,iY,iR,jA,jD,iS,jB,jE,iT,jC,jF,iU,iZ,eQ,cO,bQ,aS,aU,aW,aY,bA,bC,bE,bG,bI⟩:=HK.out.ex Y
 subst eQ
 simp only [Nat.zero_mul,Nat.add_zero] at aS aU aW aY bA bC bE bG bI
 have gA:=Qq (fun W (hW:Below w w W)=>HI.out x0 (Qy Y) (fun b=>S b/\b<w) _ _ _ ns vs W (bQ.move (.of_below hW) Qyv) (HN.out.below hW) (HV.out.below hW) aO.out Qvu cU.out)
 obtain ⟨iL,cC,iP⟩:=Qxn bQ Y (Qy Y)
 have fY:=Qq (Qe cO (Qe aS (Qe aU (Qe aW (Qe aY (Qe bA (Qe bC (Qe bE (Qe bG bI)))))))))
 clear bQ Y cO aS aU aW aY bA bC bE bG bI
 clear hm hk1 hb1 hT
 have hQ:(0:Int)<(m:Int)+1:=Qvu
 go_enter func246,ntmps246
 go_upto_region 1 with fail
 generalize cE:(w.alloc _).alloc _=W1
 have hb1:=eqB cE (Zu _ _ _)
 have eK:=eqH (b:=w.heap.size) cE (Q5 _ _ _)
 have dE:=eqH (b:=w.heap.size+1) cE (Q6 _ _ _)
 obtain ⟨D,cD,aJ⟩:=Qxn hb1 eK dE
 have aC:=Z8 dE
 clear cE hb1 eK dE
 have cM:=((Qq (Qz W1 W1)).out.block _ (Z8 cD.out)).trans cD.out
 have c6:=rA6 cM
 clear cM
 obtain ⟨N,q0,q1,q2,q3,q4,q5,q6,q7,q8⟩:=fY.out
 have aS:=kD D.out N q0;have aU:=kD D.out N q1;have aW:=kD D.out N q2;have aY:=kD D.out N q3;have bA:=kD D.out N q4;have bC:=kD D.out N q5;have bE:=kD D.out N q6;have bG:=kD D.out N q7;have bI:=kD D.out N q8
 clear N q0 q1 q2 q3 q4 q5 q6 q7 q8
 go_upto_region 2 with (go_at_call 200;refine (gA.out _ D.out).mono ?_;rintro e w5 ⟨k5,n5,s5,aA,cG,Z,aB,cH,U,b5,rfl,eS,eL⟩;have cY:=Qq eS;have dT:=Qq eL;clear eS eL)
 generalize dD:w5.alloc _=W6
 have dF:=eqB dD (Ze _ _)
 have eI:=eqH (b:=w5.heap.size) dD (Qw _ _)
 obtain ⟨aH,aQ,cJ⟩:=Qxn (dT.out.thn dF) eI dF
 clear dD dF eI
 have iN:w.heap.size+1<W6.heap.size:=Qxj aH.out.size
 clear c6 aS aU aW aY bA bC bE bG bI hQ
 obtain ⟨v0,v1,v2,v3,v4⟩:=row5 aQ.out
 have iA:b5=false\/(b5=true/\(k5 != 3)=true)\/(b5=true/\k5=3):=by
  cases b5 with
  | false=>exact .inl rfl
  | true=>
   by_cases h:k5=3
   ·exact .inr (.inr ⟨rfl,h⟩)
   exact .inr (.inl ⟨rfl,by simpa using h⟩)
 rcases iA with rfl | ⟨rfl,hq⟩ | ⟨rfl,hk3⟩
 ·clear v0 v1 v2 v3 v4
  obtain ⟨v0,v1,v2,v3,v4⟩:=row5 aQ.out
  have I:=kE aH.out aC aJ.out
  obtain ⟨y0,y1,y2,y3,y4⟩:=row5 I
  obtain ⟨f0,f1,f2,f3,f4⟩:=frz5 I
  have aR:=Qq I
  clear I
  go_wp2_with fail
  show bodyPost _ _ _ _ _ (Zp W6 (w+1) k5 n5 (.string s5) (.slice aA cG Z) (.slice aB cH U))
  refine Q7 (v:=.tuple #[.agg #[k5,n5,.string s5,.slice aA cG Z,.slice aB cH U],.bool false]) (by simp [results,results246,go_sem,Zd aR.out]) rfl (Xs Qvu (D.out.thn aH.out) (by rw [<- HR.out];exact matV_no cC.out (cY.out.2 rfl)))
 ·have gL:Hid (r=none):=Qq (by
   obtain ⟨v,bP,dJ,cF⟩:=cY.out.1 rfl
   rw [<- HR.out]
   exact Qjs cC.out cF (by rw [bP.head.1];simpa using hq))
  have I:=kE aH.out aC aJ.out
  obtain ⟨y0,y1,y2,y3,y4⟩:=row5 I
  obtain ⟨f0,f1,f2,f3,f4⟩:=frz5 I
  have aR:=Qq I
  clear I
  go_wp2_with fail
  show bodyPost _ _ _ _ _ (Zp W6 (w+1) k5 n5 (.string s5) (.slice aA cG Z) (.slice aB cH U))
  refine Q7 (v:=.tuple #[.agg #[k5,n5,.string s5,.slice aA cG Z,.slice aB cH U],.bool false]) (by simp [results,results246,go_sem,Zd aR.out]) rfl (Xs Qvu (D.out.thn aH.out) gL.out)
 obtain ⟨v,bP,dJ,cF⟩:=cY.out.1 rfl
 obtain ⟨a3,b3,a4,b4,eM,-,eT,jP⟩:=Za.cells bP
 simp only [vcs,List.cons.injEq,Value.int.injEq,Value.string.injEq,Qr,true_and,and_true] at eM
 obtain ⟨rfl,rfl,rfl,⟨rfl,rfl,rfl⟩,rfl,rfl,rfl⟩:=eM
 have hq:(v.kind != 3)=false:=by rw [hk3];rfl
 obtain ⟨gR,gS,gQ⟩:=Qxn bP dJ eT
 have gE:=Qq hk3;have dX:=Qq cF
 clear bP dJ eT hk3 cF
 go_upto_region 5 with fail
 clear hq v0 v1 v2 v3 v4
 go_loopw [10] (fun i wr=>∃ j:Nat,j<=m/\i=.int .i64 j/\Aside (∀ y ∈ names.take j,y≠v.s)/\Aside (Below W6 W6 wr)) (fun i _=>m - (intOf i).toNat)
 case atStart=>exact ⟨0,Q8 _,rfl,(by intro y hy;simp at hy),Qz _ _⟩
 obtain ⟨j,hj,rfl,eP,eF⟩:=hrel
 have cV:=Qq (show ∀ y ∈ names.take j,y≠v.s from eP)
 clear eP
 have aM:=Qq (show Below W6 W6 wr from eF)
 clear eF
 have aD:=Qq (aH.out.thn aM.out)
 have aN:=Qq (D.out.thn aD.out)
 have cL:=kB aM.out aQ.out
 have aP:=Qq cL
 clear cL
 have aE:=kB aD.out cD.out
 have c4:=rA4 aE;have c5:=rA5 aE;have c6:=rA6 aE
 clear aE
 by_cases hlt2:j<m
 ·have jG:(0:Int)<=(j:Int):=Qvu
  have jH:(j:Int)<(m:Int):=Qvu
  obtain ⟨y,hy⟩:∃ y,names[j]?=some y:=⟨_,Qx (by rw [HM.out];omega)⟩
  obtain ⟨nb,iO,rfl,iD,-⟩:=(dV.out.below aN.out).str hy
  have HY:=Qq hy
  clear hy
  have v2:=rA2 aP.out
  by_cases he:y=v.s
  ·subst he
   have hq:(v.s != v.s)=false:=Qxz
   have hX:(v.s==v.s)=true:=Qxz
   obtain ⟨z,hz⟩:∃ z,binds[j]?=some z:=⟨_,Qx (by rw [fZ.out];omega)⟩
   obtain ⟨bb,cK,hO,bU,iF⟩:=dU.out.str hz
   subst hO
   have cN:=Qv _ _ bU
   have hP:bb≠w.heap.size+1:=by have h:bb<w.heap.size:=cN;omega
   have gT:=Qq bU;have gU:=Qq hz
   clear hz bU
   go_upto_region 7 with fail
   go_quiet (fail)
   obtain ⟨wq,dK⟩:=eX (wr.drewN nq)
   have aL:Below wr wr wq:=by rw [<- dK];exact Zn _ _
   rw [dK]
   have aI:=Qq (aD.out.thn aL);have A:=Qq (aN.out.thn aL)
   have eJ:=kB aL aP.out
   have dA:=Qq eJ
   have hU:w.heap.size+1<wq.heap.size:=Qxj aI.out.size
   have dW:=Qq (gR.out.move (.of_below (cJ.out.thn (aM.out.thn aL))) Qyv)
   have cI:=Qq (gQ.out.below (cJ.out.thn (aM.out.thn aL)))
   clear dK aL eJ iD hq c4 c5 c6 v2
   have bK:=kB aI.out cD.out
   have c5:=rA5 bK;have c6:=rA6 bK
   clear bK
   have eV:=kD A.out cN gT.out
   obtain ⟨x1,bS⟩:∃ x,kids[j+1]?=some x:=⟨_,Qx (by rw [gF.out];omega)⟩
   obtain ⟨jR,jS,hA,hC,hB,hD,gW,hH,hK,gX,hI,hL,gY,hJ,hM,gZ,hF,cR,cP,bR,aT,aV,aX,aZ,bB,bD,bF,bH,bJ⟩:=HK.out.ex bS
   simp only [Zv,Addr.mk.injEq,and_true] at cR
   obtain ⟨rfl,rfl⟩:=cR
   have gB:=Qq (fun W (hW:Below w w W)=>HI.out x1 (Qy bS) (fun b=>S b/\b<w) _ _ _ ns vs W (bR.move (.of_below hW) Qyv) (HN.out.below hW) (HV.out.below hW) aO.out Qvu cU.out)
   obtain ⟨cW,dY,gG⟩:=Qxn (HR.out.symm.trans (matV_at (f:=Y5 d) cC.out dX.out gE.out (Wg HY.out cV.out) bS gU.out)) bR (Qy bS)
   have dS:=Qq (Qe cP (Qe aT (Qe aV (Qe aX (Qe aZ (Qe bB (Qe bD (Qe bF (Qe bH bJ)))))))))
   clear bR bS cP aT aV aX aZ bB bD bF bH bJ
   obtain ⟨N,q0,q1,q2,q3,q4,q5,q6,q7,q8⟩:=dS.out
   have aT:=kD A.out N q0;have aV:=kD A.out N q1;have aX:=kD A.out N q2;have aZ:=kD A.out N q3;have bB:=kD A.out N q4;have bD:=kD A.out N q5;have bF:=kD A.out N q6;have bH:=kD A.out N q7;have bJ:=kD A.out N q8
   clear N q0 q1 q2 q3 q4 q5 q6 q7 q8
   have jQ:IntKind.i64.wrap ((j:Int)+1)=(j:Int)+1:=by rw [IntKind.wrap_i64];omega
   have jI:(0:Int)<=(j:Int)+1:=Qvu
   have jJ:(j:Int)+1<(m:Int)+1:=Qvu
   have jK:((j:Int)+1).toNat=j+1:=Qvu
   cases z with
   | nil=>
    go_wp2_with (go_at_call 200;refine (gB.out _ A.out).mono ?_;rintro e w7 ⟨k7,n7,s7,bZ,bX,bV,cA,bY,bW,b7,rfl,bO,aK⟩;have O:=kE (aI.out.thn aK) aC aJ.out;obtain ⟨y0,y1,y2,y3,y4⟩:=row5 O;obtain ⟨f0,f1,f2,f3,f4⟩:=frz5 O;have dB:=Qq O;clear O;have cZ:=Qq bO;have cT:=Qq aK;clear bO aK)
    show bodyPost _ _ _ _ _ (Zp w7 (w+1) k7 n7 (.string s7) (.slice bZ bX bV) (.slice cA bY bW))
    refine Q7 (v:=.tuple #[.agg #[k7,n7,.string s7,.slice bZ bX bV,.slice cA bY bW],.bool b7]) (by simp [results,results246,go_sem,Zd dB.out]) rfl (Xy.of_eq (cW.out.trans (if_pos Qxv)) (J5 A.out Qvu hU cZ.out cT.out))
   | cons c z=>
    by_cases h1:v.kids.length=1
    ·obtain ⟨y,hy⟩:∃ y,v.kids[0]?=some y:=⟨_,Qx Qvu⟩
     obtain ⟨ub,cS,t3,l3,t4,l4,iB,eH,jN,eU,u0,u1,u2,u3,u4⟩:=cI.out.valS hy
     subst iB
     have cX:Hid (r=Y5 d x1 (ns++[c::z]) (vs++[y])):=Qq (by
      obtain ⟨y',eN⟩:=List.length_eq_one_iff.1 h1
      rw [eN] at hy
      obtain rfl:y'=y:=Qb hy
      rw [cW.out,if_neg Qxz,eN])
     rw [h1] at dA dW cI
     simp only [Nat.zero_mul,Nat.add_zero] at u0 u1 u2 u3 u4
     have bN:ub≠w.heap.size+1:=by rcases eH with h | h;exact (by have:=h.2;omega);exact (by have h':W1.heap.size<=ub:=h;omega)
     have hE:=Qq (fun W (hW:Below wq wq W)=>Lf d x1 (HI.out x1 gG.out) (fun c=>(S c/\c<w)\/W1<=c) _ _ _ ns vs (c::z) y (Qxf y t3 l3 t4 l4) W (dY.out.move (.of_below (A.out.thn hW)) (fun _ _ h=>.inl h)) ((HN.out.below (A.out.thn hW)).mono (fun _ _ h=>.inl h)) ((HV.out.below (A.out.thn hW)).mono (fun _ _ h=>.inl h)) aO.out Qvu cU.out iF (eU.move (.of_below hW) Qyv) (gS.out.kids y (Qy hy)))
     unfold sv at hE
     have hY:((1:Int) != 1)=false:=rfl
     have v4:=rA4 dA.out
     go_upto_region 12 with fail
     have T:J≠w.heap.size+1:=by have:=dS.out.1;omega
     have hN:w5≠w.heap.size+1:=Qxj dT.out.size
     refine let_mvar% ?Lq1:=fun w':World=>Qxw w' w 5 (Qxa bb cK m c2)/\Qxw w' w 6 (Qxa J M (m+1) c3)/\Qxw w' bb (cK+j) (.string ⟨(c::z).toArray⟩)/\Qxw w' w5 4 (Qxa ub cS 1 U)/\Qxw w' J (M+(j+1)*9) hA/\Qxw w' J (M+(j+1)*9+1) (.string hC)/\Qxw w' J (M+(j+1)*9+2) hB/\Qxw w' J (M+(j+1)*9+3) (.string hD)/\Qxw w' J (M+(j+1)*9+4) (.slice gW hH hK)/\Qxw w' J (M+(j+1)*9+5) (.slice gX hI hL)/\Qxw w' J (M+(j+1)*9+6) (.slice gY hJ hM)/\Qxw w' J (M+(j+1)*9+7) gZ/\Qxw w' J (M+(j+1)*9+8) hF/\Qyg w' ub cS y.kind y.n y.s (.slice t3 y.names.length l3) (.slice t4 y.kids.length l4);?_
     have HS:∀ w',Below wq wq w'->?Lq1 w':=by
      intro w' h
      have V:∀ {b j:Nat} {u:Value},wq.cell? ⟨b,j,none⟩=some u->w'.cell? ⟨b,j,none⟩=some u:=fun hc=>kC h hc
      exact ⟨V c5,V c6,V eV,V v4,V aT,V aV,V aX,V aZ,V bB,V bD,V bF,V bH,V bJ,V u0,V u1,V u2,V u3,V u4⟩
     have HP:∀ w' x0 x1 x2 x3 x4,?Lq1 w'->?Lq1 (Zp w' (w+1) x0 x1 x2 x3 x4):=fun w' x0 x1 x2 x3 x4 h=>⟨Zh Qvu h.1,Zh Qvu h.2.1,Zh hP h.2.2.1,Zh hN h.2.2.2.1,Zh T h.2.2.2.2.1,Zh T h.2.2.2.2.2.1,Zh T h.2.2.2.2.2.2.1,Zh T h.2.2.2.2.2.2.2.1,Zh T h.2.2.2.2.2.2.2.2.1,Zh T h.2.2.2.2.2.2.2.2.2.1,Zh T h.2.2.2.2.2.2.2.2.2.2.1,Zh T h.2.2.2.2.2.2.2.2.2.2.2.1,Zh T h.2.2.2.2.2.2.2.2.2.2.2.2.1,Zh bN h.2.2.2.2.2.2.2.2.2.2.2.2.2.1,Zh bN h.2.2.2.2.2.2.2.2.2.2.2.2.2.2.1,Zh bN h.2.2.2.2.2.2.2.2.2.2.2.2.2.2.2.1,Zh bN h.2.2.2.2.2.2.2.2.2.2.2.2.2.2.2.2.1,Zh bN h.2.2.2.2.2.2.2.2.2.2.2.2.2.2.2.2.2⟩
     unfold Zp at HP
     obtain ⟨gN,gO,gK⟩:=Qxn (HS wq.drew (Qz _ _).drew) HS HP
     clear HS HP c5 c6 eV v4 aT aV aX aZ bB bD bF bH bJ u0 u1 u2 u3 u4 eH eU hy
     go_region_held3 ?Lq1 (first | with_reducible exact gN.out | with_reducible exact eG | with_reducible exact gK.out _ _ _ _ _ _ eG)
      (first
       | (go_at_call 245;refine (hE.out _ (Qz _ _).drew).mono ?_;rintro e w7 ⟨k7,n7,s7,bZ,bX,bV,cA,bY,bW,b7,rfl,bO,aK⟩;have bM:=(Qz _ wq).drew.thn aK;have eG:=gO.out w7 bM;have bL:=aI.out.thn bM;have O:=kE (bL) aC aJ.out;obtain ⟨y0,y1,y2,y3,y4⟩:=row5 O;obtain ⟨f0,f1,f2,f3,f4⟩:=frz5 O;have dB:=Qq O;clear O;have cZ:=Qq bO;have cT:=Qq bL;clear bO aK bL bM))
     all_goals
      go_wp2_with fail
      show bodyPost _ _ _ _ _ (Zp w7 (w+1) k7 n7 (.string s7) (.slice bZ bX bV) (.slice cA bY bW))
      refine Q7 (v:=.tuple #[.agg #[k7,n7,.string s7,.slice bZ bX bV,.slice cA bY bW],.bool b7]) (by simp [results,results246,go_sem,Zd dB.out]) rfl (Xy.of_eq cX.out (J5 D.out Qvu aC (cZ.out.map fun v h1=>h1.move (.refl _ _) (fun c _ hc=>by
        rcases hc with hc | hc
        ·exact hc
        exact .inr (by have:=aI.out.size;have h':wq.heap.size<=c:=hc;omega))) cT.out))
    have cX:Hid (r=none):=Qq (by
     rw [cW.out,if_neg Qxz]
     split
     ·rename_i e;rw [e] at h1;exact absurd rfl h1
     rfl)
    have hY:((v.kids.length:Int) != 1)=true:=by simp;omega
    obtain ⟨v0,v1,v2,v3,v4⟩:=row5 dA.out
    have aF:=kE aI.out aC aJ.out
    obtain ⟨y0,y1,y2,y3,y4⟩:=row5 aF
    obtain ⟨f0,f1,f2,f3,f4⟩:=frz5 aF
    have dZ:=Qq aF
    clear aF
    go_wp2_with fail
    show bodyPost _ _ _ _ _ (Qxl wq (w+1) v aA Z aB U)
    refine Q7 (v:=.tuple #[.agg (Qxf v aA Z aB U),.bool false]) (by simp [results,results246,go_sem,Zd dZ.out]) rfl (Xs Qvu A.out cX.out)
  have hq:(y != v.s)=true:=by rw [bne_iff_ne];exact he
  have hX:(y==v.s)=false:=by rw [<- Qt,beq_iff_eq];exact he
  have gI:Hid (∀ x ∈ names.take (j+1),x≠v.s):=Qq (by
   intro x hx
   rw [Bv HY.out] at hx
   rcases Z4.1 hx with h | h
   ·exact cV.out x h
   rw [Z5.1 h];exact he)
  clear he
  go_upto_region 7 with fail
  go_quiet (fail)
  go_wp2_with fail
  go_roundw
  case measure=>simp [intOf];omega
  case rel=>exact ⟨j+1,Qvu,by go_num,gI.out,aM.out.thn (Zn _ _)⟩
 have hR:j=m:=Qvu
 subst hR
 obtain ⟨v0,v1,v2,v3,v4⟩:=row5 aP.out
 have aG:=kE aD.out aC aJ.out
 obtain ⟨y0,y1,y2,y3,y4⟩:=row5 aG
 obtain ⟨f0,f1,f2,f3,f4⟩:=frz5 aG
 have eA:=Qq aG
 clear aG
 go_wp2_with fail
 show bodyPost _ _ _ _ _ (Qxl wr (w+1) v aA Z aB U)
 refine Q7 (v:=.tuple #[.agg (Qxf v aA Z aB U),.bool false]) (by simp [results,results246,go_sem,Zd eA.out]) rfl (Xs Qvu aN.out (by
  have h9:=cV.out
  rw [<- HM.out,List.take_length] at h9
  rw [<- HR.out];exact Qkj cC.out dX.out (Ph h9)))
theorem Al (X:World) (p:Addr):X.drew.cell? p=X.cell? p:=rfl
theorem Ye {W:World} {R b j:Nat} {x0 x1 x2 x3 x4 u:Value} (h:b≠R) (hc:W.cell? ⟨b,j,none⟩=some u):(Zp W R x0 x1 x2 x3 x4).drew.cell? ⟨b,j,none⟩=some u:=(Al _ _).trans (Zh h hc)
theorem Qje (nm:Bs) (hnm:nm=[110,111,116]) (n:Int) (s:Bs) (names binds:List Bs) (kids:List Ex) (a z:Int) (d:Nat) (h2:kids.length=1) (ih:∀ x ∈ kids,Xi d x) :∀ (S:Nat->Prop) (ce:List Value) (nv vv:Value) (ns:List Bs) (vs:List Val) (w:World),Y1 S w ce (.mk 14 nm n s names binds kids a z)->Sl Zg S w nv ns->Sl Zc S w vv vs->ns.length<=vs.length->vs.length+(d+1)<=1000->(∀ v ∈ vs,Y0 v) ->
  Calls prog 247 #[ce,nv,vv] w (Xy S w (opV (fun x=>Y5 d x ns vs) nm kids)):=by
 subst hnm
 intro S ce nv vv ns vs w I bO bQ aU hd hb
 obtain ⟨r,hr⟩:=eX (opV (fun x=>Y5 d x ns vs) [110,111,116] kids)
 rw [hr]
 have HR:=Qq hr;have H2:=Qq h2
 clear hr
 have hx:Y1 (fun b=>S b/\b<w) w ce (.mk 14 [110,111,116] n s names binds kids a z):=I.move (.refl _ _) (fun b hb h=>⟨h,hb⟩)
 have hn:=bO.up
 have hv:=bQ.up
 obtain ⟨np,nc,rfl,_⟩:=hn.len
 obtain ⟨vp,vc,rfl,dJ⟩:=hv.len
 have cR:=Qq hx
 obtain ⟨dM,bv,kv,rfl,hnm,dI,bD,bC,hk⟩:=Yd.1 hx
 obtain ⟨p1,c1,rfl,_⟩:=bD.len
 obtain ⟨p2,c2,rfl,_⟩:=bC.len
 obtain ⟨p3,c3,rfl,dH⟩:=hk.len
 obtain ⟨HN,HV,bX,cQ,cN,HK,HI,bH⟩:=Qxt hn hv hb bD bC hk ih aU
 clear I bO bQ hx hn hv bD bC hk hb ih aU
 unfold sv at *
 rw [h2] at HK |-
 obtain ⟨x0,I⟩:∃ x,kids[0]?=some x:=⟨_,Qx Qvu⟩
 obtain ⟨dK,dL,cW,cY,cX,cZ,cS,dB,dE,cT,dC,dF,cU,dD,dG,cV,dA,bP,aT,aG,U,V,Y,Z,aA,aB,aC,aD,aE⟩:=HK.out.ex I
 subst bP
 simp only [Nat.zero_mul,Nat.add_zero] at U V Y Z aA aB aC aD aE
 have bY:=Qq (fun W (hW:Below w w W)=>HI.out x0 (Qy I) (fun b=>S b/\b<w) _ _ _ ns vs W (aG.move (.of_below hW) Qyv) (HN.out.below hW) (HV.out.below hW) bH.out Qvu bX.out)
 have aV:Hid (r=(Y5 d x0 ns vs).bind fun u=>if u.kind=2 then some (Jy (decide (u.n=0))) else none):=Qq (HR.out.symm.trans (opV_not (f:=fun x=>Y5 d x ns vs) H2.out I rfl));obtain ⟨cL,cO,cP⟩:=Qxn aG I (Qy I)
 have bV:=Qq (Qe aT (Qe U (Qe V (Qe Y (Qe Z (Qe aA (Qe aB (Qe aC (Qe aD aE)))))))))
 clear aG I aT U V Y Z aA aB aC aD aE
 go_enter func247,ntmps247
 go_upto_region 3 with fail
 generalize aI:(w.alloc _).alloc _=W1
 have bM:=eqB aI (Zu _ _ _)
 have bL:=eqH (b:=w.heap.size) aI (Q5 _ _ _)
 have bA:=eqH (b:=w.heap.size+1) aI (Q6 _ _ _)
 obtain ⟨D,aX,aY⟩:=Qxn bM bL bA
 have aJ:=Z8 bA
 clear aI bM bL bA
 have aR:=((Qq (Qz W1 W1)).out.block _ (Z8 aX.out)).trans aX.out
 have c6:=rA6 aR
 clear aR
 obtain ⟨qb,q0,q1,q2,q3,q4,q5,q6,q7,q8⟩:=bV.out
 have U:=kD D.out qb q0;have V:=kD D.out qb q1;have Y:=kD D.out qb q2;have Z:=kD D.out qb q3;have aA:=kD D.out qb q4;have aB:=kD D.out qb q5;have aC:=kD D.out qb q6;have aD:=kD D.out qb q7;have aE:=kD D.out qb q8
 clear qb q0 q1 q2 q3 q4 q5 q6 q7 q8
 go_upto_region 4 with (go_at_call 200;refine (bY.out _ D.out).mono ?_;rintro e w5 ⟨k5,n5,s5,aP,aN,aL,aQ,aO,aM,b5,rfl,bR,bN⟩;have aW:=Qq bR;have bW:=Qq bN;clear bR bN)
 generalize aZ:w5.alloc _=W6
 have bB:=eqB aZ (Ze _ _)
 have bK:=eqH (b:=w5.heap.size) aZ (Qw _ _)
 obtain ⟨J,O,cK⟩:=Qxn (bW.out.thn bB) bK bB
 clear aZ bB bK
 have cM:w.heap.size+1<W6.heap.size:=Qxj J.out.size
 clear c6 U V Y Z aA aB aC aD aE
 have aF:=kB J.out aX.out
 have c1:=rA1 aF;have c6:=rA6 aF
 clear aF
 have cF:b5=false\/(b5=true/\(k5 != 2)=true)\/(b5=true/\k5=2):=by
  cases b5 with
  | false=>exact .inl rfl
  | true=>
   by_cases h:k5=2
   ·exact .inr (.inr ⟨rfl,h⟩)
   exact .inr (.inl ⟨rfl,by simpa using h⟩)
 rcases cF with rfl | ⟨rfl,hq⟩ | ⟨rfl,rfl⟩
 focus
  obtain ⟨v0,v1,v2,v3,v4⟩:=row5 O.out
  have A:=kE J.out aJ aY.out
  obtain ⟨y0,y1,y2,y3,y4⟩:=row5 A
  obtain ⟨f0,f1,f2,f3,f4⟩:=frz5 A
  have T:=Qq A
  clear A
  go_wp2_with fail
  show bodyPost _ _ _ _ _ (Zp W6 (w+1) k5 n5 (.string s5) (.slice aP aN aL) (.slice aQ aO aM))
  refine Q7 (v:=.tuple #[.agg #[k5,n5,.string s5,.slice aP aN aL,.slice aQ aO aM],.bool false]) (by simp [results,results247,go_sem,Zd T.out]) rfl (Xs Qvu (D.out.thn J.out) (by rw [aV.out,aW.out.2 (by first | rfl | trivial)];rfl))
 focus
  have bZ:Hid (r=none):=Qq (by
   obtain ⟨v,aK,cH,bE⟩:=aW.out.1 (by first | rfl | trivial)
   rw [aV.out,bE]
   exact if_neg (by rw [aK.head.1];simpa using hq))
  obtain ⟨v0,v1,v2,v3,v4⟩:=row5 O.out
  have A:=kE J.out aJ aY.out
  obtain ⟨y0,y1,y2,y3,y4⟩:=row5 A
  obtain ⟨f0,f1,f2,f3,f4⟩:=frz5 A
  have T:=Qq A
  clear A
  go_wp2_with fail
  show bodyPost _ _ _ _ _ (Zp W6 (w+1) k5 n5 (.string s5) (.slice aP aN aL) (.slice aQ aO aM))
  refine Q7 (v:=.tuple #[.agg #[k5,n5,.string s5,.slice aP aN aL,.slice aQ aO aM],.bool false]) (by simp [results,results247,go_sem,Zd T.out]) rfl (Xs Qvu (D.out.thn J.out) bZ.out)
 focus
  obtain ⟨v0,v1,v2,v3,v4⟩:=row5 O.out
  have cA:Hid (r=some (Jy (decide (n5=0)))):=Qq (by
   obtain ⟨v,aK,cH,bE⟩:=aW.out.1 (by first | rfl | trivial)
   rw [aV.out,bE]
   show (if v.kind=2 then _ else none)=_
   rw [if_pos aK.head.1,aK.head.2.1])
  have hq:((2:Int) != 2)=false:=rfl
  go_wp2_with (go_at_call 244;refine (Ed _ _).mono ?_;rintro e cJ ⟨X,hX,rfl,aS⟩;have bI:=Qq hX;clear hX;have M:=J.out.thn aS;have N:=kE (M) aJ aY.out;obtain ⟨y0,y1,y2,y3,y4⟩:=row5 N;obtain ⟨f0,f1,f2,f3,f4⟩:=frz5 N;have bJ:=Qq N;clear N;have bG:=Qq M;clear aS M)
  show bodyPost _ _ _ _ _ (Zp cJ (w+1) (.int .i64 2) X Qxd Qxe Qxe)
  refine Q7 (v:=.tuple #[.agg #[.int .i64 2,X,Qxd,Qxe,Qxe],.bool true]) (by simp [results,results247,go_sem,Zd bJ.out]) rfl (J5 D.out Qvu aJ (.yes (Yi (s:=[]) Qxz (Sl.nil _ _ _) (Sl.nil _ _ _)) (G5 bI.out) (by rw [cA.out,bI.out];unfold Jy;simp)) bG.out)
theorem Qkv (nm:Bs) (hnm:nm=[97,110,100]) (n:Int) (s:Bs) (names binds:List Bs) (kids:List Ex) (a z:Int) (d:Nat) (h2:kids.length=2) (ih:∀ x ∈ kids,Xi d x) :∀ (S:Nat->Prop) (ce:List Value) (nv vv:Value) (ns:List Bs) (vs:List Val) (w:World),Y1 S w ce (.mk 14 nm n s names binds kids a z)->Sl Zg S w nv ns->Sl Zc S w vv vs->ns.length<=vs.length->vs.length+(d+1)<=1000->(∀ v ∈ vs,Y0 v) ->
  Calls prog 247 #[ce,nv,vv] w (Xy S w (opV (fun x=>Y5 d x ns vs) nm kids)):=by
 subst hnm
 intro S ce nv vv ns vs w V dR dU bY hd hb
 obtain ⟨r,hr⟩:=eX (opV (fun x=>Y5 d x ns vs) [97,110,100] kids)
 rw [hr]
 have HR:=Qq hr;have H2:=Qq h2
 clear hr
 have hx:Y1 (fun b=>S b/\b<w) w ce (.mk 14 [97,110,100] n s names binds kids a z):=V.move (.refl _ _) (fun b hb h=>⟨h,hb⟩)
 have hn:=dR.up
 have hv:=dU.up
 obtain ⟨np,nc,rfl,_⟩:=hn.len
 obtain ⟨vp,vc,rfl,gX⟩:=hv.len
 have fQ:=Qq hx
 obtain ⟨hC,bv,kv,rfl,hnm,gW,cQ,cP,hk⟩:=Yd.1 hx
 obtain ⟨p1,c1,rfl,_⟩:=cQ.len
 obtain ⟨p2,c2,rfl,_⟩:=cP.len
 obtain ⟨p3,c3,rfl,gV⟩:=hk.len
 obtain ⟨HN,HV,dD,fP,fM,HK,HI,bR⟩:=Qxt hn hv hb cQ cP hk ih bY
 clear V dR dU hx hn hv cQ cP hk hb ih bY
 unfold sv at *
 rw [h2] at HK |-
 obtain ⟨x0,V⟩:∃ x,kids[0]?=some x:=⟨_,Qx Qvu⟩
 obtain ⟨gY,hA,fZ,gD,gB,gF,fR,gJ,gP,fT,gL,gR,fV,gN,gT,fX,gH,dS,bW,bK,aP,aR,aT,aV,aX,aZ,bB,bD,bF⟩:=HK.out.ex V
 subst dS
 simp only [Nat.zero_mul,Nat.add_zero] at aP aR aT aV aX aZ bB bD bF
 have eT:=Qq (fun W (hW:Below w w W)=>HI.out x0 (Qy V) (fun b=>S b/\b<w) _ _ _ ns vs W (bK.move (.of_below hW) Qyv) (HN.out.below hW) (HV.out.below hW) bR.out Qvu dD.out)
 obtain ⟨fI,eV,fN⟩:=Qxn bK V (Qy V)
 have eQ:=Qq (Qe bW (Qe aP (Qe aR (Qe aT (Qe aV (Qe aX (Qe aZ (Qe bB (Qe bD bF)))))))))
 clear bK V bW aP aR aT aV aX aZ bB bD bF
 obtain ⟨x1,bM⟩:∃ x,kids[1]?=some x:=⟨_,Qx Qvu⟩
 obtain ⟨gZ,hB,gA,gE,gC,gG,fS,gK,gQ,fU,gM,gS,fW,gO,gU,fY,gI,bZ,bX,bL,aQ,aS,aU,aW,aY,bA,bC,bE,bG⟩:=HK.out.ex bM
 simp only [Zv,Addr.mk.injEq,and_true] at bZ
 obtain ⟨rfl,rfl⟩:=bZ
 simp only [Nat.one_mul] at aQ aS aU aW aY bA bC bE bG
 have eU:=Qq (fun W (hW:Below w w W)=>HI.out x1 (Qy bM) (fun b=>S b/\b<w) _ _ _ ns vs W (bL.move (.of_below hW) Qyv) (HN.out.below hW) (HV.out.below hW) bR.out Qvu dD.out)
 have bN:Hid (r=(Y5 d x0 ns vs).bind fun u=>if u.kind=2 then (if u.n=0 then some u else (Y5 d x1 ns vs).bind fun v=>if v.kind=2 then some v else none) else none):=Qq (HR.out.symm.trans (opV_and (f:=fun x=>Y5 d x ns vs) H2.out eV.out bM rfl));have fJ:=Qq bL;have fO:=Qq (Qy bM)
 have eR:=Qq (Qe bX (Qe aQ (Qe aS (Qe aU (Qe aW (Qe aY (Qe bA (Qe bC (Qe bE bG)))))))))
 clear bL bM bX aQ aS aU aW aY bA bC bE bG
 go_enter func247,ntmps247
 go_upto_region 3 with fail
 generalize bP:(w.alloc _).alloc _=W1
 have dO:=eqB bP (Zu _ _ _)
 have dN:=eqH (b:=w.heap.size) bP (Q5 _ _ _)
 have cM:=eqH (b:=w.heap.size+1) bP (Q6 _ _ _)
 obtain ⟨A,bO,aG⟩:=Qxn dO dN cM
 have aH:=Z8 cM
 clear bP dO dN cM
 have bU:=((Qq (Qz W1 W1)).out.block _ (Z8 bO.out)).trans bO.out
 have c6:=rA6 bU
 clear bU
 obtain ⟨O,q0,q1,q2,q3,q4,q5,q6,q7,q8⟩:=eQ.out
 have aP:=kD A.out O q0;have aR:=kD A.out O q1;have aT:=kD A.out O q2;have aV:=kD A.out O q3;have aX:=kD A.out O q4;have aZ:=kD A.out O q5;have bB:=kD A.out O q6;have bD:=kD A.out O q7;have bF:=kD A.out O q8
 clear O q0 q1 q2 q3 q4 q5 q6 q7 q8
 go_upto_region 4 with (go_at_call 200;refine (eT.out _ A.out).mono ?_;rintro e w5 ⟨k5,n5,s5,aM,aK,aI,aN,aL,aJ,b5,rfl,dV,dP⟩;have aO:=Qq dV;have eS:=Qq dP;clear dV dP)
 generalize cK:w5.alloc _=W6
 have cN:=eqB cK (Ze _ _)
 have dL:=eqH (b:=w5.heap.size) cK (Qw _ _)
 obtain ⟨J,aF,dE⟩:=Qxn (eS.out.thn cN) dL cN
 clear cK cN dL
 have fK:w.heap.size+1<W6.heap.size:=Qxj J.out.size
 clear c6 aP aR aT aV aX aZ bB bD bF
 have bH:=kB J.out bO.out
 have c1:=rA1 bH;have c6:=rA6 bH
 clear bH
 have fE:b5=false\/(b5=true/\(k5 != 2)=true)\/(b5=true/\k5=2):=by
  cases b5 with
  | false=>exact .inl rfl
  | true=>
   by_cases h:k5=2
   ·exact .inr (.inr ⟨rfl,h⟩)
   exact .inr (.inl ⟨rfl,by simpa using h⟩)
 rcases fE with rfl | ⟨rfl,hq⟩ | ⟨rfl,rfl⟩
 focus
  obtain ⟨v0,v1,v2,v3,v4⟩:=row5 aF.out
  have D:=kE J.out aH aG.out
  obtain ⟨y0,y1,y2,y3,y4⟩:=row5 D
  obtain ⟨f0,f1,f2,f3,f4⟩:=frz5 D
  have T:=Qq D
  clear D
  go_wp2_with fail
  show bodyPost _ _ _ _ _ (Zp W6 (w+1) k5 n5 (.string s5) (.slice aM aK aI) (.slice aN aL aJ))
  refine Q7 (v:=.tuple #[.agg #[k5,n5,.string s5,.slice aM aK aI,.slice aN aL aJ],.bool false]) (by simp [results,results247,go_sem,Zd T.out]) rfl (Xs Qvu (A.out.thn J.out) (by rw [bN.out,aO.out.2 (by first | rfl | trivial)];rfl))
 focus
  have eZ:Hid (r=none):=Qq (by
   obtain ⟨v,cR,dX,fG⟩:=aO.out.1 (by first | rfl | trivial)
   rw [bN.out,fG]
   exact if_neg (by rw [cR.head.1];simpa using hq))
  obtain ⟨v0,v1,v2,v3,v4⟩:=row5 aF.out
  have D:=kE J.out aH aG.out
  obtain ⟨y0,y1,y2,y3,y4⟩:=row5 D
  obtain ⟨f0,f1,f2,f3,f4⟩:=frz5 D
  have T:=Qq D
  clear D
  go_wp2_with fail
  show bodyPost _ _ _ _ _ (Zp W6 (w+1) k5 n5 (.string s5) (.slice aM aK aI) (.slice aN aL aJ))
  refine Q7 (v:=.tuple #[.agg #[k5,n5,.string s5,.slice aM aK aI,.slice aN aL aJ],.bool false]) (by simp [results,results247,go_sem,Zd T.out]) rfl (Xs Qvu (A.out.thn J.out) eZ.out)
 have fC:n5=0\/n5=1:=by
  obtain ⟨v,cR,dX,_⟩:=aO.out.1 rfl
  obtain ⟨h1,h2,_⟩:=cR.head
  rw [<- h2]
  have:=dX.bool h1
  omega
 have hq:((2:Int) != 2)=false:=rfl
 rcases fC with rfl | rfl
 focus
  obtain ⟨v0,v1,v2,v3,v4⟩:=row5 aF.out
  have D:=kE J.out aH aG.out
  obtain ⟨y0,y1,y2,y3,y4⟩:=row5 D
  obtain ⟨f0,f1,f2,f3,f4⟩:=frz5 D
  have T:=Qq D
  clear D
  go_wp2_with fail
  show bodyPost _ _ _ _ _ (Zp W6 (w+1) (.int .i64 2) Qxc (.string s5) (.slice aM aK aI) (.slice aN aL aJ))
  refine Q7 (v:=.tuple #[.agg #[.int .i64 2,Qxc,.string s5,.slice aM aK aI,.slice aN aL aJ],.bool true]) (by simp [results,results247,go_sem,Zd T.out]) rfl (Dj Qvu (A.out.thn J.out) (by
   obtain ⟨v,h1,h2,h3⟩:=aO.out.1 (by first | rfl | trivial)
   refine .yes (h1.move (.of_below dE.out) (fun c _ hc=>?_)) h2 (by
    rw [bN.out,h3]
    show (if v.kind=2 then (if v.n=0 then some v else _) else none)=_
    rw [if_pos h1.head.1,if_pos h1.head.2.1])
   rcases hc with hc | hc
   ·exact .inl hc
   exact .inr (by have h':W1.heap.size<=c:=hc;omega)))
 focus
  obtain ⟨v0,v1,v2,v3,v4⟩:=row5 aF.out
  have cG:Hid (r=(Y5 d x1 ns vs).bind fun v=>if v.kind=2 then some v else none):=Qq (by
   obtain ⟨v,h1,h2,h3⟩:=aO.out.1 (by first | rfl | trivial)
   rw [bN.out,h3]
   show (if v.kind=2 then (if v.n=0 then some v else _) else none)=_
   rw [if_pos h1.head.1,if_neg (by rw [h1.head.2.1];decide)])
  obtain ⟨O,q0,q1,q2,q3,q4,q5,q6,q7,q8⟩:=eR.out
  have aQ:=kD (A.out.thn J.out) O q0;have aS:=kD (A.out.thn J.out) O q1;have aU:=kD (A.out.thn J.out) O q2;have aW:=kD (A.out.thn J.out) O q3;have aY:=kD (A.out.thn J.out) O q4;have bA:=kD (A.out.thn J.out) O q5;have bC:=kD (A.out.thn J.out) O q6;have bE:=kD (A.out.thn J.out) O q7;have bG:=kD (A.out.thn J.out) O q8
  clear O q0 q1 q2 q3 q4 q5 q6 q7 q8
  go_upto_region 12 with (go_at_call 200;refine (eU.out _ (A.out.thn J.out)).mono ?_;rintro e w7 ⟨k7,n7,s7,aC,aA,Y,aD,aB,Z,b7,rfl,dW,dQ⟩;have cI:=Qq dW;have cD:=Qq dQ;clear dW dQ)
  generalize cL:w7.alloc _=W8
  have cO:=eqB cL (Ze _ _)
  have dM:=eqH (b:=w7.heap.size) cL (Qw _ _)
  obtain ⟨dC,bS,dF⟩:=Qxn (cD.out.thn cO) dM cO
  clear cL cO dM
  have fL:w.heap.size+1<W8.heap.size:=Qxj dC.out.size
  clear aQ aS aU aW aY bA bC bE bG
  have N:=Qq (J.out.thn dC.out)
  clear c1 c6 v0 v1 v2 v3 v4 hq
  have bI:=kB N.out bO.out
  have c1:=rA1 bI;have c6:=rA6 bI
  clear bI
  cases b7 with
  | false=>
   obtain ⟨u0,u1,u2,u3,u4⟩:=row5 bS.out
   have I:=kE N.out aH aG.out
   obtain ⟨y0,y1,y2,y3,y4⟩:=row5 I
   obtain ⟨f0,f1,f2,f3,f4⟩:=frz5 I
   have U:=Qq I
   clear I
   go_wp2_with fail
   show bodyPost _ _ _ _ _ (Zp W8 (w+1) k7 n7 (.string s7) (.slice aC aA Y) (.slice aD aB Z))
   refine Q7 (v:=.tuple #[.agg #[k7,n7,.string s7,.slice aC aA Y,.slice aD aB Z],.bool false]) (by simp [results,results247,go_sem,Zd U.out]) rfl (Xs Qvu (A.out.thn N.out) (by rw [cG.out,cI.out.2 (by first | rfl | trivial)];rfl))
  | true=>
   obtain ⟨u0,u1,u2,u3,u4⟩:=row5 bS.out
   go_upto_region 15 with fail
   by_cases hk:k7=2
   focus
    subst hk
    have hq:((2:Int)==2)=true:=rfl
    have I:=kE N.out aH aG.out
    obtain ⟨y0,y1,y2,y3,y4⟩:=row5 I
    obtain ⟨f0,f1,f2,f3,f4⟩:=frz5 I
    have U:=Qq I
    clear I
    have M:w7≠w.heap.size+1:=by have h1:=J.out.size;have h2:=cD.out.size;omega
    refine let_mvar% ?Lq2:=fun w':World=>(Qyd w' w7 (.int .i64 2) n7 (.string s7) (.slice aC aA Y) (.slice aD aB Z):Prop);?_
    have cH:=Qq (show ?Lq2 W8.drew from ⟨u0,u1,u2,u3,u4⟩)
    have HP:∀ x0 x1 x2 x3 x4,?Lq2 (Zp W8 (w+1) x0 x1 x2 x3 x4).drew:=fun x0 x1 x2 x3 x4=>⟨Ye M u0,Ye M u1,Ye M u2,Ye M u3,Ye M u4⟩
    unfold Zp at HP
    have cF:=Qq HP
    clear HP M u0 u1 u2 u3 u4
    go_region_held3 ?Lq2 (first | with_reducible exact cH.out | with_reducible exact cF.out _ _ _ _ _) (fail)
    all_goals
     go_wp2_with fail
     show bodyPost _ _ _ _ _ (Zp W8 (w+1) (.int .i64 2) n7 (.string s7) (.slice aC aA Y) (.slice aD aB Z)).drew
     refine Q7 (v:=.tuple #[.agg #[.int .i64 2,n7,.string s7,.slice aC aA Y,.slice aD aB Z],.bool true]) (by simp [results,results247,go_sem,Zd U.out]) rfl (Dj Qvu (A.out.thn N.out) (by
      obtain ⟨v,h1,h2,h3⟩:=cI.out.1 (by first | rfl | trivial)
      refine .yes (h1.move (.of_below dF.out) (fun c _ hc=>?_)) h2 (by
       rw [cG.out,h3]
       exact if_pos h1.head.1)
      rcases hc with hc | hc
      ·exact .inl hc
      exact .inr (by have h':W6.heap.size<=c:=hc;omega))).drew
   focus
    have hq:(k7==2)=false:=by rw [<- Qt,beq_iff_eq];exact hk
    have eY:Hid (r=none):=Qq (by
     obtain ⟨v,h1,h2,h3⟩:=cI.out.1 (by first | rfl | trivial)
     rw [cG.out,h3]
     exact if_neg (by rw [h1.head.1];exact hk))
    clear hk
    have I:=kE N.out aH aG.out
    obtain ⟨y0,y1,y2,y3,y4⟩:=row5 I
    obtain ⟨f0,f1,f2,f3,f4⟩:=frz5 I
    have U:=Qq I
    clear I
    have M:w7≠w.heap.size+1:=by have h1:=J.out.size;have h2:=cD.out.size;omega
    refine let_mvar% ?Lq1:=fun w':World=>(Qyd w' w7 k7 n7 (.string s7) (.slice aC aA Y) (.slice aD aB Z):Prop);?_
    have cH:=Qq (show ?Lq1 W8.drew from ⟨u0,u1,u2,u3,u4⟩)
    have HP:∀ x0 x1 x2 x3 x4,?Lq1 (Zp W8 (w+1) x0 x1 x2 x3 x4).drew:=fun x0 x1 x2 x3 x4=>⟨Ye M u0,Ye M u1,Ye M u2,Ye M u3,Ye M u4⟩
    unfold Zp at HP
    have cF:=Qq HP
    clear HP M u0 u1 u2 u3 u4
    go_region_held3 ?Lq1 (first | with_reducible exact cH.out | with_reducible exact cF.out _ _ _ _ _) (fail)
    all_goals
     go_wp2_with fail
     show bodyPost _ _ _ _ _ (Zp W8 (w+1) k7 n7 (.string s7) (.slice aC aA Y) (.slice aD aB Z)).drew
     refine Q7 (v:=.tuple #[.agg #[k7,n7,.string s7,.slice aC aA Y,.slice aD aB Z],.bool false]) (by simp [results,results247,go_sem,Zd U.out]) rfl (Xs Qvu (A.out.thn N.out) eY.out).drew
theorem roper_or (nm:Bs) (hnm:nm=[111,114]) (n:Int) (s:Bs) (names binds:List Bs) (kids:List Ex) (a z:Int) (d:Nat) (h2:kids.length=2) (ih:∀ x ∈ kids,Xi d x) :∀ (S:Nat->Prop) (ce:List Value) (nv vv:Value) (ns:List Bs) (vs:List Val) (w:World),Y1 S w ce (.mk 14 nm n s names binds kids a z)->Sl Zg S w nv ns->Sl Zc S w vv vs->ns.length<=vs.length->vs.length+(d+1)<=1000->(∀ v ∈ vs,Y0 v) ->
  Calls prog 247 #[ce,nv,vv] w (Xy S w (opV (fun x=>Y5 d x ns vs) nm kids)):=by
 subst hnm
 intro S ce nv vv ns vs w V dR dU bY hd hb
 obtain ⟨r,hr⟩:=eX (opV (fun x=>Y5 d x ns vs) [111,114] kids)
 rw [hr]
 have HR:=Qq hr;have H2:=Qq h2
 clear hr
 have hx:Y1 (fun b=>S b/\b<w) w ce (.mk 14 [111,114] n s names binds kids a z):=V.move (.refl _ _) (fun b hb h=>⟨h,hb⟩)
 have hn:=dR.up
 have hv:=dU.up
 obtain ⟨np,nc,rfl,_⟩:=hn.len
 obtain ⟨vp,vc,rfl,gX⟩:=hv.len
 have fQ:=Qq hx
 obtain ⟨hC,bv,kv,rfl,hnm,gW,cQ,cP,hk⟩:=Yd.1 hx
 obtain ⟨p1,c1,rfl,_⟩:=cQ.len
 obtain ⟨p2,c2,rfl,_⟩:=cP.len
 obtain ⟨p3,c3,rfl,gV⟩:=hk.len
 obtain ⟨HN,HV,dD,fP,fM,HK,HI,bR⟩:=Qxt hn hv hb cQ cP hk ih bY
 clear V dR dU hx hn hv cQ cP hk hb ih bY
 unfold sv at *
 rw [h2] at HK |-
 obtain ⟨x0,V⟩:∃ x,kids[0]?=some x:=⟨_,Qx Qvu⟩
 obtain ⟨gY,hA,fZ,gD,gB,gF,fR,gJ,gP,fT,gL,gR,fV,gN,gT,fX,gH,dS,bW,bK,aP,aR,aT,aV,aX,aZ,bB,bD,bF⟩:=HK.out.ex V
 subst dS
 simp only [Nat.zero_mul,Nat.add_zero] at aP aR aT aV aX aZ bB bD bF
 have eT:=Qq (fun W (hW:Below w w W)=>HI.out x0 (Qy V) (fun b=>S b/\b<w) _ _ _ ns vs W (bK.move (.of_below hW) Qyv) (HN.out.below hW) (HV.out.below hW) bR.out Qvu dD.out)
 obtain ⟨fI,eV,fN⟩:=Qxn bK V (Qy V)
 have eQ:=Qq (Qe bW (Qe aP (Qe aR (Qe aT (Qe aV (Qe aX (Qe aZ (Qe bB (Qe bD bF)))))))))
 clear bK V bW aP aR aT aV aX aZ bB bD bF
 obtain ⟨x1,bM⟩:∃ x,kids[1]?=some x:=⟨_,Qx Qvu⟩
 obtain ⟨gZ,hB,gA,gE,gC,gG,fS,gK,gQ,fU,gM,gS,fW,gO,gU,fY,gI,bZ,bX,bL,aQ,aS,aU,aW,aY,bA,bC,bE,bG⟩:=HK.out.ex bM
 simp only [Zv,Addr.mk.injEq,and_true] at bZ
 obtain ⟨rfl,rfl⟩:=bZ
 simp only [Nat.one_mul] at aQ aS aU aW aY bA bC bE bG
 have eU:=Qq (fun W (hW:Below w w W)=>HI.out x1 (Qy bM) (fun b=>S b/\b<w) _ _ _ ns vs W (bL.move (.of_below hW) Qyv) (HN.out.below hW) (HV.out.below hW) bR.out Qvu dD.out)
 have bN:Hid (r=(Y5 d x0 ns vs).bind fun u=>if u.kind=2 then (if u.n=1 then some u else (Y5 d x1 ns vs).bind fun v=>if v.kind=2 then some v else none) else none):=Qq (HR.out.symm.trans (opV_or (f:=fun x=>Y5 d x ns vs) H2.out eV.out bM rfl));have fJ:=Qq bL;have fO:=Qq (Qy bM)
 have eR:=Qq (Qe bX (Qe aQ (Qe aS (Qe aU (Qe aW (Qe aY (Qe bA (Qe bC (Qe bE bG)))))))))
 clear bL bM bX aQ aS aU aW aY bA bC bE bG
 go_enter func247,ntmps247
 go_upto_region 3 with fail
 generalize bP:(w.alloc _).alloc _=W1
 have dO:=eqB bP (Zu _ _ _)
 have dN:=eqH (b:=w.heap.size) bP (Q5 _ _ _)
 have cM:=eqH (b:=w.heap.size+1) bP (Q6 _ _ _)
 obtain ⟨A,bO,aG⟩:=Qxn dO dN cM
 have aH:=Z8 cM
 clear bP dO dN cM
 have bU:=((Qq (Qz W1 W1)).out.block _ (Z8 bO.out)).trans bO.out
 have c6:=rA6 bU
 clear bU
 obtain ⟨O,q0,q1,q2,q3,q4,q5,q6,q7,q8⟩:=eQ.out
 have aP:=kD A.out O q0;have aR:=kD A.out O q1;have aT:=kD A.out O q2;have aV:=kD A.out O q3;have aX:=kD A.out O q4;have aZ:=kD A.out O q5;have bB:=kD A.out O q6;have bD:=kD A.out O q7;have bF:=kD A.out O q8
 clear O q0 q1 q2 q3 q4 q5 q6 q7 q8
 go_upto_region 4 with (go_at_call 200;refine (eT.out _ A.out).mono ?_;rintro e w5 ⟨k5,n5,s5,aM,aK,aI,aN,aL,aJ,b5,rfl,dV,dP⟩;have aO:=Qq dV;have eS:=Qq dP;clear dV dP)
 generalize cK:w5.alloc _=W6
 have cN:=eqB cK (Ze _ _)
 have dL:=eqH (b:=w5.heap.size) cK (Qw _ _)
 obtain ⟨J,aF,dE⟩:=Qxn (eS.out.thn cN) dL cN
 clear cK cN dL
 have fK:w.heap.size+1<W6.heap.size:=Qxj J.out.size
 clear c6 aP aR aT aV aX aZ bB bD bF
 have bH:=kB J.out bO.out
 have c1:=rA1 bH;have c6:=rA6 bH
 clear bH
 have fE:b5=false\/(b5=true/\(k5 != 2)=true)\/(b5=true/\k5=2):=by
  cases b5 with
  | false=>exact .inl rfl
  | true=>
   by_cases h:k5=2
   ·exact .inr (.inr ⟨rfl,h⟩)
   exact .inr (.inl ⟨rfl,by simpa using h⟩)
 rcases fE with rfl | ⟨rfl,hq⟩ | ⟨rfl,rfl⟩
 focus
  obtain ⟨v0,v1,v2,v3,v4⟩:=row5 aF.out
  have D:=kE J.out aH aG.out
  obtain ⟨y0,y1,y2,y3,y4⟩:=row5 D
  obtain ⟨f0,f1,f2,f3,f4⟩:=frz5 D
  have T:=Qq D
  clear D
  go_wp2_with fail
  show bodyPost _ _ _ _ _ (Zp W6 (w+1) k5 n5 (.string s5) (.slice aM aK aI) (.slice aN aL aJ))
  refine Q7 (v:=.tuple #[.agg #[k5,n5,.string s5,.slice aM aK aI,.slice aN aL aJ],.bool false]) (by simp [results,results247,go_sem,Zd T.out]) rfl (Xs Qvu (A.out.thn J.out) (by rw [bN.out,aO.out.2 (by first | rfl | trivial)];rfl))
 focus
  have eZ:Hid (r=none):=Qq (by
   obtain ⟨v,cR,dX,fG⟩:=aO.out.1 (by first | rfl | trivial)
   rw [bN.out,fG]
   exact if_neg (by rw [cR.head.1];simpa using hq))
  obtain ⟨v0,v1,v2,v3,v4⟩:=row5 aF.out
  have D:=kE J.out aH aG.out
  obtain ⟨y0,y1,y2,y3,y4⟩:=row5 D
  obtain ⟨f0,f1,f2,f3,f4⟩:=frz5 D
  have T:=Qq D
  clear D
  go_wp2_with fail
  show bodyPost _ _ _ _ _ (Zp W6 (w+1) k5 n5 (.string s5) (.slice aM aK aI) (.slice aN aL aJ))
  refine Q7 (v:=.tuple #[.agg #[k5,n5,.string s5,.slice aM aK aI,.slice aN aL aJ],.bool false]) (by simp [results,results247,go_sem,Zd T.out]) rfl (Xs Qvu (A.out.thn J.out) eZ.out)
 have fC:n5=1\/n5=0:=by
  obtain ⟨v,cR,dX,_⟩:=aO.out.1 rfl
  obtain ⟨h1,h2,_⟩:=cR.head
  rw [<- h2]
  have:=dX.bool h1
  omega
 have hq:((2:Int) != 2)=false:=rfl
 rcases fC with rfl | rfl
 focus
  obtain ⟨v0,v1,v2,v3,v4⟩:=row5 aF.out
  have D:=kE J.out aH aG.out
  obtain ⟨y0,y1,y2,y3,y4⟩:=row5 D
  obtain ⟨f0,f1,f2,f3,f4⟩:=frz5 D
  have T:=Qq D
  clear D
  go_wp2_with fail
  show bodyPost _ _ _ _ _ (Zp W6 (w+1) (.int .i64 2) (.int .i64 1) (.string s5) (.slice aM aK aI) (.slice aN aL aJ))
  refine Q7 (v:=.tuple #[.agg #[.int .i64 2,.int .i64 1,.string s5,.slice aM aK aI,.slice aN aL aJ],.bool true]) (by simp [results,results247,go_sem,Zd T.out]) rfl (Dj Qvu (A.out.thn J.out) (by
   obtain ⟨v,h1,h2,h3⟩:=aO.out.1 (by first | rfl | trivial)
   refine .yes (h1.move (.of_below dE.out) (fun c _ hc=>?_)) h2 (by
    rw [bN.out,h3]
    show (if v.kind=2 then (if v.n=1 then some v else _) else none)=_
    rw [if_pos h1.head.1,if_pos h1.head.2.1])
   rcases hc with hc | hc
   ·exact .inl hc
   exact .inr (by have h':W1.heap.size<=c:=hc;omega)))
 focus
  obtain ⟨v0,v1,v2,v3,v4⟩:=row5 aF.out
  have cG:Hid (r=(Y5 d x1 ns vs).bind fun v=>if v.kind=2 then some v else none):=Qq (by
   obtain ⟨v,h1,h2,h3⟩:=aO.out.1 (by first | rfl | trivial)
   rw [bN.out,h3]
   show (if v.kind=2 then (if v.n=1 then some v else _) else none)=_
   rw [if_pos h1.head.1,if_neg (by rw [h1.head.2.1];decide)])
  obtain ⟨O,q0,q1,q2,q3,q4,q5,q6,q7,q8⟩:=eR.out
  have aQ:=kD (A.out.thn J.out) O q0;have aS:=kD (A.out.thn J.out) O q1;have aU:=kD (A.out.thn J.out) O q2;have aW:=kD (A.out.thn J.out) O q3;have aY:=kD (A.out.thn J.out) O q4;have bA:=kD (A.out.thn J.out) O q5;have bC:=kD (A.out.thn J.out) O q6;have bE:=kD (A.out.thn J.out) O q7;have bG:=kD (A.out.thn J.out) O q8
  clear O q0 q1 q2 q3 q4 q5 q6 q7 q8
  go_upto_region 12 with (go_at_call 200;refine (eU.out _ (A.out.thn J.out)).mono ?_;rintro e w7 ⟨k7,n7,s7,aC,aA,Y,aD,aB,Z,b7,rfl,dW,dQ⟩;have cI:=Qq dW;have cD:=Qq dQ;clear dW dQ)
  generalize cL:w7.alloc _=W8
  have cO:=eqB cL (Ze _ _)
  have dM:=eqH (b:=w7.heap.size) cL (Qw _ _)
  obtain ⟨dC,bS,dF⟩:=Qxn (cD.out.thn cO) dM cO
  clear cL cO dM
  have fL:w.heap.size+1<W8.heap.size:=Qxj dC.out.size
  clear aQ aS aU aW aY bA bC bE bG
  have N:=Qq (J.out.thn dC.out)
  clear c1 c6 v0 v1 v2 v3 v4 hq
  have bI:=kB N.out bO.out
  have c1:=rA1 bI;have c6:=rA6 bI
  clear bI
  cases b7 with
  | false=>
   obtain ⟨u0,u1,u2,u3,u4⟩:=row5 bS.out
   have I:=kE N.out aH aG.out
   obtain ⟨y0,y1,y2,y3,y4⟩:=row5 I
   obtain ⟨f0,f1,f2,f3,f4⟩:=frz5 I
   have U:=Qq I
   clear I
   go_wp2_with fail
   show bodyPost _ _ _ _ _ (Zp W8 (w+1) k7 n7 (.string s7) (.slice aC aA Y) (.slice aD aB Z))
   refine Q7 (v:=.tuple #[.agg #[k7,n7,.string s7,.slice aC aA Y,.slice aD aB Z],.bool false]) (by simp [results,results247,go_sem,Zd U.out]) rfl (Xs Qvu (A.out.thn N.out) (by rw [cG.out,cI.out.2 (by first | rfl | trivial)];rfl))
  | true=>
   obtain ⟨u0,u1,u2,u3,u4⟩:=row5 bS.out
   go_upto_region 15 with fail
   by_cases hk:k7=2
   focus
    subst hk
    have hq:((2:Int)==2)=true:=rfl
    have I:=kE N.out aH aG.out
    obtain ⟨y0,y1,y2,y3,y4⟩:=row5 I
    obtain ⟨f0,f1,f2,f3,f4⟩:=frz5 I
    have U:=Qq I
    clear I
    have M:w7≠w.heap.size+1:=by have h1:=J.out.size;have h2:=cD.out.size;omega
    refine let_mvar% ?Lq2:=fun w':World=>(Qyd w' w7 (.int .i64 2) n7 (.string s7) (.slice aC aA Y) (.slice aD aB Z):Prop);?_
    have cH:=Qq (show ?Lq2 W8.drew from ⟨u0,u1,u2,u3,u4⟩)
    have HP:∀ x0 x1 x2 x3 x4,?Lq2 (Zp W8 (w+1) x0 x1 x2 x3 x4).drew:=fun x0 x1 x2 x3 x4=>⟨Ye M u0,Ye M u1,Ye M u2,Ye M u3,Ye M u4⟩
    unfold Zp at HP
    have cF:=Qq HP
    clear HP M u0 u1 u2 u3 u4
    go_region_held3 ?Lq2 (first | with_reducible exact cH.out | with_reducible exact cF.out _ _ _ _ _) (fail)
    all_goals
     go_wp2_with fail
     show bodyPost _ _ _ _ _ (Zp W8 (w+1) (.int .i64 2) n7 (.string s7) (.slice aC aA Y) (.slice aD aB Z)).drew
     refine Q7 (v:=.tuple #[.agg #[.int .i64 2,n7,.string s7,.slice aC aA Y,.slice aD aB Z],.bool true]) (by simp [results,results247,go_sem,Zd U.out]) rfl (Dj Qvu (A.out.thn N.out) (by
      obtain ⟨v,h1,h2,h3⟩:=cI.out.1 (by first | rfl | trivial)
      refine .yes (h1.move (.of_below dF.out) (fun c _ hc=>?_)) h2 (by
       rw [cG.out,h3]
       exact if_pos h1.head.1)
      rcases hc with hc | hc
      ·exact .inl hc
      exact .inr (by have h':W6.heap.size<=c:=hc;omega))).drew
   focus
    have hq:(k7==2)=false:=by rw [<- Qt,beq_iff_eq];exact hk
    have eY:Hid (r=none):=Qq (by
     obtain ⟨v,h1,h2,h3⟩:=cI.out.1 (by first | rfl | trivial)
     rw [cG.out,h3]
     exact if_neg (by rw [h1.head.1];exact hk))
    clear hk
    have I:=kE N.out aH aG.out
    obtain ⟨y0,y1,y2,y3,y4⟩:=row5 I
    obtain ⟨f0,f1,f2,f3,f4⟩:=frz5 I
    have U:=Qq I
    clear I
    have M:w7≠w.heap.size+1:=by have h1:=J.out.size;have h2:=cD.out.size;omega
    refine let_mvar% ?Lq1:=fun w':World=>(Qyd w' w7 k7 n7 (.string s7) (.slice aC aA Y) (.slice aD aB Z):Prop);?_
    have cH:=Qq (show ?Lq1 W8.drew from ⟨u0,u1,u2,u3,u4⟩)
    have HP:∀ x0 x1 x2 x3 x4,?Lq1 (Zp W8 (w+1) x0 x1 x2 x3 x4).drew:=fun x0 x1 x2 x3 x4=>⟨Ye M u0,Ye M u1,Ye M u2,Ye M u3,Ye M u4⟩
    unfold Zp at HP
    have cF:=Qq HP
    clear HP M u0 u1 u2 u3 u4
    go_region_held3 ?Lq1 (first | with_reducible exact cH.out | with_reducible exact cF.out _ _ _ _ _) (fail)
    all_goals
     go_wp2_with fail
     show bodyPost _ _ _ _ _ (Zp W8 (w+1) k7 n7 (.string s7) (.slice aC aA Y) (.slice aD aB Z)).drew
     refine Q7 (v:=.tuple #[.agg #[k7,n7,.string s7,.slice aC aA Y,.slice aD aB Z],.bool false]) (by simp [results,results247,go_sem,Zd U.out]) rfl (Xs Qvu (A.out.thn N.out) eY.out).drew
theorem Rg {S:Nat->Prop} {w:World} {cs:List Value} {v:Val} (h:Za S w cs v):v.s.length<=1000000:=by
 obtain ⟨_,_,_,_,_,_,_,h4⟩:=Za.cells h
 exact h4
theorem Qvk (nm:Bs) (hnm:nm=[43,43]) (n:Int) (s:Bs) (names binds:List Bs) (kids:List Ex) (a z:Int) (d:Nat) (h2:kids.length=2) (ih:∀ x ∈ kids,Xi d x) :∀ (S:Nat->Prop) (ce:List Value) (nv vv:Value) (ns:List Bs) (vs:List Val) (w:World),Y1 S w ce (.mk 14 nm n s names binds kids a z)->Sl Zg S w nv ns->Sl Zc S w vv vs->ns.length<=vs.length->vs.length+(d+1)<=1000->(∀ v ∈ vs,Y0 v) ->
  Calls prog 247 #[ce,nv,vv] w (Xy S w (opV (fun x=>Y5 d x ns vs) nm kids)):=by
 subst hnm
 intro S ce nv vv ns vs w O dK dN bN hd hb
 obtain ⟨r,hr⟩:=eX (opV (fun x=>Y5 d x ns vs) [43,43] kids)
 rw [hr]
 have HR:=Qq hr;have H2:=Qq h2
 clear hr
 have hx:Y1 (fun b=>S b/\b<w) w ce (.mk 14 [43,43] n s names binds kids a z):=O.move (.refl _ _) (fun b hb h=>⟨h,hb⟩)
 have hn:=dK.up
 have hv:=dN.up
 obtain ⟨np,nc,rfl,_⟩:=hn.len
 obtain ⟨vp,vc,rfl,hS⟩:=hv.len
 have fY:=Qq hx
 obtain ⟨hY,bv,kv,rfl,hnm,hR,cC,cB,hk⟩:=Yd.1 hx
 obtain ⟨p1,c1,rfl,_⟩:=cC.len
 obtain ⟨p2,c2,rfl,_⟩:=cB.len
 obtain ⟨p3,c3,rfl,hO⟩:=hk.len
 obtain ⟨HN,HV,cP,fX,fU,HK,HI,bG⟩:=Qxt hn hv hb cC cB hk ih bN
 clear O dK dN hx hn hv cC cB hk hb ih bN
 unfold sv at *
 rw [h2] at HK |-
 obtain ⟨x0,O⟩:∃ x,kids[0]?=some x:=⟨_,Qx Qvu⟩
 obtain ⟨hT,hV,gP,gT,gR,gV,gH,gZ,hF,gJ,hB,hI,gL,hD,hK,gN,gX,dL,bL,aY,aE,aG,aI,aK,aM,aO,aQ,aS,aU⟩:=HK.out.ex O
 subst dL
 simp only [Nat.zero_mul,Nat.add_zero] at aE aG aI aK aM aO aQ aS aU
 have eR:=Qq (fun W (hW:Below w w W)=>HI.out x0 (Qy O) (fun b=>S b/\b<w) _ _ _ ns vs W (aY.move (.of_below hW) Qyv) (HN.out.below hW) (HV.out.below hW) bG.out Qvu cP.out)
 obtain ⟨fN,eT,fV⟩:=Qxn aY O (Qy O)
 have eP:=Qq (Qe bL (Qe aE (Qe aG (Qe aI (Qe aK (Qe aM (Qe aO (Qe aQ (Qe aS aU)))))))))
 clear aY O bL aE aG aI aK aM aO aQ aS aU
 obtain ⟨x1,bC⟩:∃ x,kids[1]?=some x:=⟨_,Qx Qvu⟩
 obtain ⟨hU,hX,gQ,gU,gS,gW,gI,hA,hH,gK,hC,hJ,gM,hE,hL,gO,gY,bO,bM,aZ,aF,aH,aJ,aL,aN,aP,aR,aT,aV⟩:=HK.out.ex bC
 simp only [Zv,Addr.mk.injEq,and_true] at bO
 obtain ⟨rfl,rfl⟩:=bO
 simp only [Nat.one_mul] at aF aH aJ aL aN aP aR aT aV
 have eS:=Qq (fun W (hW:Below w w W)=>HI.out x1 (Qy bC) (fun b=>S b/\b<w) _ _ _ ns vs W (aZ.move (.of_below hW) Qyv) (HN.out.below hW) (HV.out.below hW) bG.out Qvu cP.out)
 have bU:Hid (r=opV (fun x=>Y5 d x ns vs) [43,43] [x0,x1]):=Qq (by rw [<- HR.out,Gt H2.out eT.out bC]);have fO:=Qq aZ;have fW:=Qq (Qy bC)
 have eQ:=Qq (Qe bM (Qe aF (Qe aH (Qe aJ (Qe aL (Qe aN (Qe aP (Qe aR (Qe aT aV)))))))))
 clear aZ bC bM aF aH aJ aL aN aP aR aT aV
 go_enter func247,ntmps247
 go_upto_region 3 with fail
 generalize bF:(w.alloc _).alloc _=W1
 have dG:=eqB bF (Zu _ _ _)
 have dF:=eqH (b:=w.heap.size) bF (Q5 _ _ _)
 have bY:=eqH (b:=w.heap.size+1) bF (Q6 _ _ _)
 obtain ⟨D,aD,Y⟩:=Qxn dG dF bY
 have Z:=Z8 bY
 clear bF dG dF bY
 have bH:=((Qq (Qz W1 W1)).out.block _ (Z8 aD.out)).trans aD.out
 have c6:=rA6 bH
 clear bH
 obtain ⟨N,q0,q1,q2,q3,q4,q5,q6,q7,q8⟩:=eP.out
 have aE:=kD D.out N q0;have aG:=kD D.out N q1;have aI:=kD D.out N q2;have aK:=kD D.out N q3;have aM:=kD D.out N q4;have aO:=kD D.out N q5;have aQ:=kD D.out N q6;have aS:=kD D.out N q7;have aU:=kD D.out N q8
 clear N q0 q1 q2 q3 q4 q5 q6 q7 q8
 go_upto_region 4 with (go_at_call 200;refine (eR.out _ D.out).mono ?_;rintro e w5 ⟨k5,n5,s5,cH,dT,cD,cJ,dV,cF,b5,rfl,dO,dH⟩;have bV:=Qq dO;have cN:=Qq dH;clear dO dH)
 generalize bW:w5.alloc _=W6
 have bZ:=eqB bW (Ze _ _)
 have dD:=eqH (b:=w5.heap.size) bW (Qw _ _)
 obtain ⟨I,aB,cS⟩:=Qxn (cN.out.thn bZ) dD bZ
 clear bW bZ dD
 have fQ:w.heap.size+1<W6.heap.size:=Qxj I.out.size
 clear c6 aE aG aI aK aM aO aQ aS aU
 have aW:=kB I.out aD.out
 have c1:=rA1 aW;have c6:=rA6 aW
 clear aW
 cases b5 with
 | false=>
  obtain ⟨v0,v1,v2,v3,v4⟩:=row5 aB.out
  have U:=kE I.out Z Y.out
  obtain ⟨y0,y1,y2,y3,y4⟩:=row5 U
  obtain ⟨f0,f1,f2,f3,f4⟩:=frz5 U
  have cW:=Qq U
  clear U
  go_wp2_with fail
  show bodyPost _ _ _ _ _ (Zp W6 (w+1) k5 n5 (.string s5) (.slice cH dT cD) (.slice cJ dV cF))
  refine Q7 (v:=.tuple #[.agg #[k5,n5,.string s5,.slice cH dT cD,.slice cJ dV cF],.bool false]) (by simp [results,results247,go_sem,Zd cW.out]) rfl (Xs Qvu (D.out.thn I.out) (by rw [bU.out];exact Cb (f:=fun x=>Y5 d x ns vs) (bV.out.2 (by first | rfl | trivial))))
 | true=>
  obtain ⟨v0,v1,v2,v3,v4⟩:=row5 aB.out
  obtain ⟨N,q0,q1,q2,q3,q4,q5,q6,q7,q8⟩:=eQ.out
  have aF:=kD (D.out.thn I.out) N q0;have aH:=kD (D.out.thn I.out) N q1;have aJ:=kD (D.out.thn I.out) N q2;have aL:=kD (D.out.thn I.out) N q3;have aN:=kD (D.out.thn I.out) N q4;have aP:=kD (D.out.thn I.out) N q5;have aR:=kD (D.out.thn I.out) N q6;have aT:=kD (D.out.thn I.out) N q7;have aV:=kD (D.out.thn I.out) N q8
  clear N q0 q1 q2 q3 q4 q5 q6 q7 q8
  go_upto_region 12 with (go_at_call 200;refine (eS.out _ (D.out.thn I.out)).mono ?_;rintro e w7 ⟨k7,n7,s7,cI,dU,cE,cK,dW,cG,b7,rfl,dP,dI⟩;have cQ:=Qq dP;have cO:=Qq dI;clear dP dI)
  generalize bX:w7.alloc _=W8
  have cA:=eqB bX (Ze _ _)
  have dE:=eqH (b:=w7.heap.size) bX (Qw _ _)
  obtain ⟨bD,aC,cT⟩:=Qxn (cO.out.thn cA) dE cA
  clear bX cA dE
  have fR:w.heap.size+1<W8.heap.size:=Qxj bD.out.size
  clear aF aH aJ aL aN aP aR aT aV
  have T:=Qq (I.out.thn bD.out)
  clear c1 c6 v0 v1 v2 v3 v4
  have aX:=kB T.out aD.out
  have c1:=rA1 aX;have c6:=rA6 aX
  clear aX
  cases b7 with
  | false=>
   obtain ⟨u0,u1,u2,u3,u4⟩:=row5 aC.out
   have V:=kE T.out Z Y.out
   obtain ⟨y0,y1,y2,y3,y4⟩:=row5 V
   obtain ⟨f0,f1,f2,f3,f4⟩:=frz5 V
   have cX:=Qq V
   clear V
   go_wp2_with fail
   show bodyPost _ _ _ _ _ (Zp W8 (w+1) k7 n7 (.string s7) (.slice cI dU cE) (.slice cK dW cG))
   refine Q7 (v:=.tuple #[.agg #[k7,n7,.string s7,.slice cI dU cE,.slice cK dW cG],.bool false]) (by simp [results,results247,go_sem,Zd cX.out]) rfl (Xs Qvu (D.out.thn T.out) (by
    obtain ⟨v,_,_,fF⟩:=bV.out.1 (by first | rfl | trivial)
    rw [bU.out,Hm (f:=fun x=>Y5 d x ns vs) Qxv Qxv Qxv fF]
    show (Y5 d x1 ns vs).bind _=none
    rw [cQ.out.2 (by first | rfl | trivial)];rfl))
  | true=>
   obtain ⟨v,bB,bQ,bS⟩:=bV.out.1 (by first | rfl | trivial)
   obtain ⟨gA,gE,gC,gG,bK,-,-,fT⟩:=Za.cells bB
   simp only [vcs,List.cons.injEq,Value.int.injEq,Value.string.injEq,Qr,true_and,and_true] at bK
   obtain ⟨rfl,rfl,rfl,⟨rfl,rfl,rfl⟩,rfl,rfl,rfl⟩:=bK
   have cV:=Qq bB;have fM:=Qq bQ
   clear bB bQ
   obtain ⟨u,bA,bP,bR⟩:=cQ.out.1 (by first | rfl | trivial)
   obtain ⟨fZ,gD,gB,gF,bJ,-,-,fS⟩:=Za.cells bA
   simp only [vcs,List.cons.injEq,Value.int.injEq,Value.string.injEq,Qr,true_and,and_true] at bJ
   obtain ⟨rfl,rfl,rfl,⟨rfl,rfl,rfl⟩,rfl,rfl,rfl⟩:=bJ
   have bE:Hid (r=if v.kind=1/\u.kind=1/\v.s.length+u.s.length<=4096 then some (Cc (v.s++u.s)) else none):=Qq (by
    rw [bU.out,Hm (f:=fun x=>Y5 d x ns vs) Qxv Qxv Qxv bS]
    show (Y5 d x1 ns vs).bind _=_
    rw [bR]
    show two [43,43] v u=_
    unfold two
    rw [if_neg Qxv,if_neg Qxv,if_neg Qxv,if_pos rfl])
   clear bS bR
   have cU:=Qq bA;have fL:=Qq bP
   clear bA bP
   have HC:=Qq (fun W (hW:Below W8 W8 W)=>Lt _ _ v u (Qxf v cH cD cJ cF) (Qxf u cI cE cK cG) W (cV.out.move (.of_below ((cS.out.thn bD.out).thn hW)) Qyv) (cU.out.move (.of_below (cT.out.thn hW)) Qyv))
   generalize Yk v u=c at HC
   have dQ:=kB bD.out aB.out
   have cR:=Qq dQ
   clear dQ
   obtain ⟨v0,v1,v2,v3,v4⟩:=row5 cR.out
   obtain ⟨u0,u1,u2,u3,u4⟩:=row5 aC.out
   have hP:v.s.length<=1000000:=(Rg cV.out)
   have hQ:u.s.length<=1000000:=(Rg cU.out)
   have bI:((⟨v.s.toArray⟩:ByteArray)++⟨u.s.toArray⟩)=⟨(v.s++u.s).toArray⟩:=ByteArray.ext Qxz
   have fP:∀ w,(Op.stringOp .add ⟨v.s.toArray⟩ ⟨u.s.toArray⟩).run prog w=.ok (.string ⟨(v.s++u.s).toArray⟩) w:=fun w=>by
    rw [run_string_add_sum w _ _ (by show v.s.toArray.size+u.s.toArray.size<=_;simp;omega),bI]
   clear bI
   go_upto_region 17 with (go_at_call 74;refine (HC.out _ (Qz _ _)).mono ?_;rintro e w9 ⟨rfl,dJ⟩;have bT:=Qq (show Below W8 W8 w9 from dJ.bl);clear dJ)
   clear c1 c6
   have J:=Qq (T.out.thn bT.out)
   have dS:=kB J.out aD.out
   have dR:=kB bT.out cR.out
   have dM:=kB bT.out aC.out
   obtain ⟨eZ,eY,eW⟩:=Qxn dS dR dM
   clear dS dR dM v0 v1 v2 v3 v4 u0 u1 u2 u3 u4
   have c1:=rA1 eZ.out
   obtain ⟨v0,v1,v2,v3,v4⟩:=row5 eY.out
   obtain ⟨u0,u1,u2,u3,u4⟩:=row5 eW.out
   go_upto_region 27 with fail
   have hM:w5≠w.heap.size+1:=Qxj cN.out.size
   have hN:w7≠w.heap.size+1:=by have h1:=I.out.size;have h2:=cO.out.size;omega
   have fD:(v.kind==1)=false\/((v.kind==1)=true/\(u.kind==1)=false)\/((v.kind==1)=true/\(u.kind==1)=true/\decide ((v.s.length:Int)+(u.s.length:Int)<=4096)=false)\/((v.kind==1)=true/\(u.kind==1)=true/\(v.s.length:Int)+(u.s.length:Int)<=4096):=by
    cases (v.kind==1) <;> cases (u.kind==1) <;> simp <;> omega
   clear c1 v1 v3 v4 u1 u3 u4
   rcases fD with hq1 | ⟨hq1,hq2⟩ | ⟨hq1,hq2,hq3⟩ | ⟨hq1,hq2,hq3⟩
   focus
    have aA:Hid (r=none):=Qq (by rw [bE.out];refine if_neg ?_;rintro ⟨e1,_,_⟩;rw [e1] at hq1;cases hq1)
    have A:=kE J.out Z Y.out
    obtain ⟨y0,y1,y2,y3,y4⟩:=row5 A
    obtain ⟨f0,f1,f2,f3,f4⟩:=frz5 A
    have M:=Qq A
    clear A
    go_region
    all_goals
     go_wp2_with fail
     show bodyPost _ _ _ _ _ (Zp w9 (w+1) (.int .i64 1) Qxc (.string ⟨(v.s++u.s).toArray⟩) Qxe Qxe).drew
     refine Q7 (v:=.tuple #[.agg #[.int .i64 1,Qxc,.string ⟨(v.s++u.s).toArray⟩,Qxe,Qxe],.bool false]) (by simp [results,results247,go_sem,Zd M.out]) rfl ((Xs Qvu (D.out.thn J.out) aA.out)).drew
   focus
    have aA:Hid (r=none):=Qq (by rw [bE.out];refine if_neg ?_;rintro ⟨_,e1,_⟩;rw [e1] at hq2;cases hq2)
    have A:=kE J.out Z Y.out
    obtain ⟨y0,y1,y2,y3,y4⟩:=row5 A
    obtain ⟨f0,f1,f2,f3,f4⟩:=frz5 A
    have M:=Qq A
    clear A
    go_region
    all_goals
     go_wp2_with fail
     show bodyPost _ _ _ _ _ (Zp w9 (w+1) (.int .i64 1) Qxc (.string ⟨(v.s++u.s).toArray⟩) Qxe Qxe).drew
     refine Q7 (v:=.tuple #[.agg #[.int .i64 1,Qxc,.string ⟨(v.s++u.s).toArray⟩,Qxe,Qxe],.bool false]) (by simp [results,results247,go_sem,Zd M.out]) rfl ((Xs Qvu (D.out.thn J.out) aA.out)).drew
   focus
    have aA:Hid (r=none):=Qq (by rw [bE.out];refine if_neg ?_;rintro ⟨_,_,e1⟩;exact of_decide_eq_false hq3 Qvu)
    have A:=kE J.out Z Y.out
    obtain ⟨y0,y1,y2,y3,y4⟩:=row5 A
    obtain ⟨f0,f1,f2,f3,f4⟩:=frz5 A
    have M:=Qq A
    clear A
    go_region
    all_goals
     go_wp2_with fail
     show bodyPost _ _ _ _ _ (Zp w9 (w+1) (.int .i64 1) Qxc (.string ⟨(v.s++u.s).toArray⟩) Qxe Qxe).drew
     refine Q7 (v:=.tuple #[.agg #[.int .i64 1,Qxc,.string ⟨(v.s++u.s).toArray⟩,Qxe,Qxe],.bool false]) (by simp [results,results247,go_sem,Zd M.out]) rfl ((Xs Qvu (D.out.thn J.out) aA.out)).drew
   focus
    have eV:Hid (r=some (.mk 1 0 (v.s++u.s) [] [])):=Qq (by rw [bE.out];exact if_pos ⟨by simpa using hq1,by simpa using hq2,Qvu⟩)
    have A:=kE J.out Z Y.out
    obtain ⟨y0,y1,y2,y3,y4⟩:=row5 A
    obtain ⟨f0,f1,f2,f3,f4⟩:=frz5 A
    have M:=Qq A
    clear A
    go_region
    all_goals
     go_wp2_with fail
     show bodyPost _ _ _ _ _ (Zp w9 (w+1) (.int .i64 1) Qxc (.string ⟨(v.s++u.s).toArray⟩) Qxe Qxe).drew
     refine Q7 (v:=.tuple #[.agg #[.int .i64 1,Qxc,.string ⟨(v.s++u.s).toArray⟩,Qxe,Qxe],.bool true]) (by simp [results,results247,go_sem,Zd M.out]) rfl ((Dj Qvu (D.out.thn J.out) (.yes (Yi (by rw [Ql];omega) (Sl.nil _ _ _) (Sl.nil _ _ _)) (.mk _ _ _ _ _ (fun h=>by cases h) (fun x h=>by simp at h)) eV.out))).drew
end Go.Proofs.YtlanplhphiikjaaGreatDoor

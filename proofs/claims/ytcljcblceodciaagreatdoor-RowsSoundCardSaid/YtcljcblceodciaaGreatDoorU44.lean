import Derived.Test.YtcljcblceodciaaGreatDoorU34
import Derived.Test.YtcljcblceodciaaGreatDoorU33
import Derived.Test.YtcljcblceodciaaGreatDoorU43
set_option maxRecDepth 100000
set_option maxHeartbeats 400000000
namespace Go.Proofs.YtcljcblceodciaaGreatDoor
open Go.RowKit Go.Shelf Go.Lib Tryz
theorem Sl.valS {S:Nat->Prop} {w:World} {p:Option Addr} {n cap:Nat} {xs:List Val} (h:Sl Zd S w (.slice p n cap) xs) {i:Nat} {x:Val} (hx:xs[i]?=some x):
  ∃ b off p3 k3 p4 k4,p=some ⟨b,off,none⟩/\S b/\b<w.heap.size/\Z9 S w (vcs x p3 k3 p4 k4) x/\Cf w b (off+i*5) x.kind/\Cf w b (off+i*5+1) x.n/\Cf w b (off+i*5+2) x.s /\
   Cf w b (off+i*5+3) (.slice p3 x.names.length k3)/\Cf w b (off+i*5+4) (.slice p4 x.kids.length k4):=by
 obtain ⟨p',c',h1,_,h3⟩:=h
 simp only [Qr] at h1
 obtain ⟨rfl,_,_⟩:=h1
 obtain ⟨b,off,e,hS,hb,hc⟩:=h3 (by intro e;subst e;simp at hx)
 obtain ⟨cs,A,h5⟩:=hc i x hx
 obtain ⟨p3,k3,p4,k4,rfl,_⟩:=Z9.cells h5
 exact ⟨b,off,p3,k3,p4,k4,e,hS,hb,h5,A 0 _ rfl,A 1 _ rfl,A 2 _ rfl,A 3 _ rfl,A 4 _ rfl⟩
theorem Wr (nm:Bs) (n:Int) (s:Bs) (names binds:List Bs) (kids:List Ex) (a z:Int) (d:Nat) (ih:∀ x ∈ kids,Xl d x) (hk1:kids.length=names.length+1) (hb1:binds.length=names.length):∀ (S:Nat->Prop) (ce:List Value) (nv vv:Value) (ns:List Bs) (vs:List Val) (w:World),Yx S w ce (.mk 13 nm n s names binds kids a z)->Sl Zh S w nv ns->Sl Zd S w vv vs->ns.length<=vs.length->vs.length+(d+1)<=1000->(∀ v ∈ vs,Y0 v) ->
  Calls prog 153 #[ce,nv,vv] w (Vj S w):=by
 intro S ce nv vv ns vs w aB eB eE cL hd hb
 have hx:Yx (fun b=>S b/\b<w) w ce (.mk 13 nm n s names binds kids a z):=aB.move (.refl _ _) (fun b hb h=>⟨h,hb⟩)
 have hn:=eB.up
 have hv:=eE.up
 obtain ⟨np,nc,rfl,_⟩:=hn.len
 obtain ⟨vp,vc,rfl,iX⟩:=hv.len
 have hZ:=Qq hx
 obtain ⟨jC,bv,kv,rfl,iU,iV,cZ,cX,hk⟩:=Yy.1 hx
 obtain ⟨p1,c1,rfl,_⟩:=cZ.len
 obtain ⟨p2,c2,rfl,_⟩:=cX.len
 obtain ⟨p3,c3,rfl,hB⟩:=hk.len
 obtain ⟨HN,HV,cP,dK,dJ,HK,HI,aN⟩:=Qjy hn hv hb cZ cX hk ih cL
 clear aB eB eE hx hn hv cZ cX hk hb ih cL
 unfold sv at *
 obtain ⟨m,hm⟩:=eX (names.length)
 rw [hm] at hk1 hb1
 have hU:m+1<=1000000:=C7
 rw [hk1] at HK |-;rw [hm] at dK |-;rw [hb1] at dJ |-
 obtain ⟨HM,fQ,fL⟩:=Qjq hm hk1 hb1
 obtain ⟨x0,aB⟩:∃ x,kids[0]?=some x:=⟨_,Qx C7⟩
 obtain ⟨I,J,iE,iG,iF,iH,iA,iJ,iM,iB,iK,iN,iC,iL,iO,iD,iI,eC,cJ,bO,aR,aT,aV,aX,aZ,bB,bD,bF,bH⟩:=HK.out.ex aB
 subst eC
 simp only [Nat.zero_mul,Nat.add_zero] at aR aT aV aX aZ bB bD bF bH
 have fM:=Qq (fun W (hW:Below w w W)=>HI.out x0 (Qy aB) (fun b=>S b/\b<w) _ _ _ ns vs W (bO.move (.of_below hW) Qje) (HN.out.below hW) (HV.out.below hW) aN.out C7 cP.out)
 have hT:=Qq bO;have hY:=Qq (Qy aB)
 have fK:=Qq (Qe cJ (Qe aR (Qe aT (Qe aV (Qe aX (Qe aZ (Qe bB (Qe bD (Qe bF bH)))))))))
 clear bO aB cJ aR aT aV aX aZ bB bD bF bH
 clear hm hk1 hb1 hB
 have gY:(0:Int)<(m:Int)+1:=C7
 go_enter func153,ntmps153
 go_upto_region 1 with fail
 generalize bZ:(w.alloc _).alloc _=W1
 have hb1:=eqB bZ (Zu _ _ _)
 have dY:=eqH (b:=w.heap.size) bZ (Q5 _ _ _)
 have cV:=eqH (b:=w.heap.size+1) bZ (Q6 _ _ _)
 obtain ⟨D,bY,aI⟩:=Qjq hb1 dY cV
 have aA:=Z8 cV
 clear bZ hb1 dY cV
 have cH:=((Qq (Qz W1 W1)).out.block _ (Z8 bY.out)).trans bY.out
 have c6:=rA6 cH
 clear cH
 obtain ⟨M,q0,q1,q2,q3,q4,q5,q6,q7,q8⟩:=fK.out
 have aR:=kD D.out M q0;have aT:=kD D.out M q1;have aV:=kD D.out M q2;have aX:=kD D.out M q3;have aZ:=kD D.out M q4;have bB:=kD D.out M q5;have bD:=kD D.out M q6;have bF:=kD D.out M q7;have bH:=kD D.out M q8
 clear M q0 q1 q2 q3 q4 q5 q6 q7 q8
 go_upto_region 2 with (go_at_call 109;refine (fM.out _ D.out).mono ?_;rintro e w5 ⟨k5,n5,s5,Y,cB,V,Z,cC,T,b5,rfl,eF,dZ⟩;have fZ:=Qq eF;have dI:=Qq dZ;clear eF dZ)
 generalize cU:w5.alloc _=W6
 have cW:=eqB cU (Zg _ _)
 have dW:=eqH (b:=w5.heap.size) cU (Qw _ _)
 obtain ⟨aG,aP,cE⟩:=Qjq (dI.out.thn cW) dW cW
 clear cU cW dW
 have hV:w.heap.size+1<W6.heap.size:=C8 aG.out.size
 clear c6 aR aT aV aX aZ bB bD bF bH gY
 obtain ⟨v0,v1,v2,v3,v4⟩:=row5 aP.out
 have hI:b5=false\/(b5=true/\(k5 != 3)=true)\/(b5=true/\k5=3):=by
  cases b5 with
  | false=>exact .inl rfl
  | true=>
   by_cases h:k5=3
   ·exact .inr (.inr ⟨rfl,h⟩)
   exact .inr (.inl ⟨rfl,by simpa using h⟩)
 rcases hI with rfl | ⟨rfl,hq⟩ | ⟨rfl,hk3⟩
 ·clear v0 v1 v2 v3 v4
  obtain ⟨v0,v1,v2,v3,v4⟩:=row5 aP.out
  have G:=kE aG.out aA aI.out
  obtain ⟨y0,y1,y2,y3,y4⟩:=row5 G
  obtain ⟨f0,f1,f2,f3,f4⟩:=frz5 G
  have aQ:=Qq G
  clear G
  go_wp2_with fail
  show bodyPost _ _ _ _ _ (Zi W6 (w+1) k5 n5 (.string s5) (.slice Y cB V) (.slice Z cC T))
  refine Q7 (v:=.tuple #[.agg #[k5,n5,.string s5,.slice Y cB V,.slice Z cC T],.bool false]) (by simp [results,results153,go_sem,Ze aQ.out]) rfl (Xr C7 (D.out.thn aG.out))
 ·skip
  have G:=kE aG.out aA aI.out
  obtain ⟨y0,y1,y2,y3,y4⟩:=row5 G
  obtain ⟨f0,f1,f2,f3,f4⟩:=frz5 G
  have aQ:=Qq G
  clear G
  go_wp2_with fail
  show bodyPost _ _ _ _ _ (Zi W6 (w+1) k5 n5 (.string s5) (.slice Y cB V) (.slice Z cC T))
  refine Q7 (v:=.tuple #[.agg #[k5,n5,.string s5,.slice Y cB V,.slice Z cC T],.bool false]) (by simp [results,results153,go_sem,Ze aQ.out]) rfl (Xr C7 (D.out.thn aG.out))
 obtain ⟨v,dA,eG⟩:=fZ.out rfl
 obtain ⟨a3,b3,a4,b4,eA,-,eH,iY⟩:=Z9.cells dA
 simp only [vcs,List.cons.injEq,Value.int.injEq,Value.string.injEq,Qr,true_and,and_true] at eA
 obtain ⟨rfl,rfl,rfl,⟨rfl,rfl,rfl⟩,rfl,rfl,rfl⟩:=eA
 have hq:(v.kind != 3)=false:=by rw [hk3];rfl
 obtain ⟨gB,gC,gA⟩:=Qjq dA eG eH
 clear dA eG eH hk3
 go_upto_region 5 with fail
 clear hq v0 v1 v2 v3 v4
 go_loopw [10] (fun i wr=>∃ j:Nat,j<=m/\i=.int .i64 j/\Aside (Below W6 W6 wr)) (fun i _=>m - (intOf i).toNat)
 case atStart=>exact ⟨0,Q8 _,rfl,Qz _ _⟩
 obtain ⟨j,hj,rfl,dT⟩:=hrel
 have aL:=Qq (show Below W6 W6 wr from dT)
 clear dT
 have aC:=Qq (aG.out.thn aL.out)
 have aM:=Qq (D.out.thn aC.out)
 have cG:=kB aL.out aP.out
 have aO:=Qq cG
 clear cG
 have aD:=kB aC.out bY.out
 have c4:=rA4 aD;have c5:=rA5 aD;have c6:=rA6 aD
 clear aD
 by_cases hlt2:j<m
 ·have iP:(0:Int)<=(j:Int):=C7
  have iQ:(j:Int)<(m:Int):=C7
  obtain ⟨y,hy⟩:∃ y,names[j]?=some y:=⟨_,Qx (by rw [HM.out];omega)⟩
  obtain ⟨nb,hX,rfl,hM,-⟩:=(dK.out.below aM.out).str hy
  clear hy
  have v2:=rA2 aO.out
  by_cases he:y=v.s
  ·subst he
   have hq:(v.s != v.s)=false:=Ca
   have hF:(v.s==v.s)=true:=Ca
   obtain ⟨z,hz⟩:∃ z,binds[j]?=some z:=⟨_,Qx (by rw [fL.out];omega)⟩
   obtain ⟨bb,cF,gW,bQ,hN⟩:=dJ.out.str hz
   subst gW
   have cI:=Qv _ _ bQ
   have gX:bb≠w.heap.size+1:=by have h:bb<w.heap.size:=cI;omega
   have gD:=Qq bQ
   clear hz bQ
   go_upto_region 7 with fail
   go_quiet (fail)
   obtain ⟨wq,dB⟩:=eX (wr.drewN nq)
   have aK:Below wr wr wq:=by rw [<- dB];exact Yz _ _
   rw [dB]
   have aH:=Qq (aC.out.thn aK);have A:=Qq (aM.out.thn aK)
   have dX:=kB aK aO.out
   have cR:=Qq dX
   have hC:w.heap.size+1<wq.heap.size:=C8 aH.out.size
   have dL:=Qq (gB.out.move (.of_below (cE.out.thn (aL.out.thn aK))) Qje)
   have cD:=Qq (gA.out.below (cE.out.thn (aL.out.thn aK)))
   clear dB aK dX hM hq c4 c5 c6 v2
   have bJ:=kB aH.out bY.out
   have c5:=rA5 bJ;have c6:=rA6 bJ
   clear bJ
   have eJ:=kD A.out cI gD.out
   obtain ⟨x1,cA⟩:∃ x,kids[j+1]?=some x:=⟨_,Qx (by rw [fQ.out];omega)⟩
   obtain ⟨jA,jB,gJ,gL,gK,gM,gF,gO,gR,gG,gP,gS,gH,gQ,gT,gI,gN,cM,cK,bP,aS,aU,aW,aY,bA,bC,bE,bG,bI⟩:=HK.out.ex cA
   simp only [Zv,Addr.mk.injEq,and_true] at cM
   obtain ⟨rfl,rfl⟩:=cM
   have fN:=Qq (fun W (hW:Below w w W)=>HI.out x1 (Qy cA) (fun b=>S b/\b<w) _ _ _ ns vs W (bP.move (.of_below hW) Qje) (HN.out.below hW) (HV.out.below hW) aN.out C7 cP.out)
   have dM:=Qq bP;have fR:=Qq (Qy cA)
   have dH:=Qq (Qe cK (Qe aS (Qe aU (Qe aW (Qe aY (Qe bA (Qe bC (Qe bE (Qe bG bI)))))))))
   clear bP cA cK aS aU aW aY bA bC bE bG bI
   obtain ⟨M,q0,q1,q2,q3,q4,q5,q6,q7,q8⟩:=dH.out
   have aS:=kD A.out M q0;have aU:=kD A.out M q1;have aW:=kD A.out M q2;have aY:=kD A.out M q3;have bA:=kD A.out M q4;have bC:=kD A.out M q5;have bE:=kD A.out M q6;have bG:=kD A.out M q7;have bI:=kD A.out M q8
   clear M q0 q1 q2 q3 q4 q5 q6 q7 q8
   have iZ:IntKind.i64.wrap ((j:Int)+1)=(j:Int)+1:=by rw [IntKind.wrap_i64];omega
   have iR:(0:Int)<=(j:Int)+1:=C7
   have iS:(j:Int)+1<(m:Int)+1:=C7
   have iT:((j:Int)+1).toNat=j+1:=C7
   cases z with
   | nil=>
    go_wp2_with (go_at_call 109;refine (fN.out _ A.out).mono ?_;rintro e w7 ⟨k7,n7,s7,bV,bT,bR,bW,bU,bS,b7,rfl,bN,aJ⟩;have N:=kE (aH.out.thn aJ) aA aI.out;obtain ⟨y0,y1,y2,y3,y4⟩:=row5 N;obtain ⟨f0,f1,f2,f3,f4⟩:=frz5 N;have cS:=Qq N;clear N;have cQ:=Qq bN;have cO:=Qq aJ;clear bN aJ)
    show bodyPost _ _ _ _ _ (Zi w7 (w+1) k7 n7 (.string s7) (.slice bV bT bR) (.slice bW bU bS))
    refine Q7 (v:=.tuple #[.agg #[k7,n7,.string s7,.slice bV bT bR,.slice bW bU bS],.bool b7]) (by simp [results,results153,go_sem,Ze cS.out]) rfl (Ui A.out C7 hC cQ.out cO.out)
   | cons c z=>
    by_cases h1:v.kids.length=1
    ·obtain ⟨y,hy⟩:∃ y,v.kids[0]?=some y:=⟨_,Qx C7⟩
     obtain ⟨ub,cN,t3,l3,t4,l4,hJ,dV,iW,eI,u0,u1,u2,u3,u4⟩:=cD.out.valS hy
     subst hJ
     rw [h1] at cR dL cD
     simp only [Nat.zero_mul,Nat.add_zero] at u0 u1 u2 u3 u4
     have bM:ub≠w.heap.size+1:=by rcases dV with h | h;exact (by have:=h.2;omega);exact (by have h':W1.heap.size<=ub:=h;omega)
     have hE:=Qq (fun W (hW:Below wq wq W)=>Ev d x1 (HI.out x1 fR.out) (fun c=>(S c/\c<w)\/W1<=c) _ _ _ ns vs (c::z) y (Cn y t3 l3 t4 l4) W (dM.out.move (.of_below (A.out.thn hW)) (fun _ _ h=>.inl h)) ((HN.out.below (A.out.thn hW)).mono (fun _ _ h=>.inl h)) ((HV.out.below (A.out.thn hW)).mono (fun _ _ h=>.inl h)) aN.out C7 cP.out hN (eI.move (.of_below hW) Qje) (gC.out.kids y (Qy hy)))
     unfold sv at hE
     have hH:((1:Int) != 1)=false:=rfl
     have v4:=rA4 cR.out
     go_upto_region 12 with fail
     have O:I≠w.heap.size+1:=by have:=dH.out.1;omega
     have gV:w5≠w.heap.size+1:=C8 dI.out.size
     refine let_mvar% ?Lq1:=fun w':World=>Cf w' w 5 (Cg bb cF m c2)/\Cf w' w 6 (Cg I J (m+1) c3)/\Cf w' bb (cF+j) (.string ⟨(c::z).toArray⟩)/\Cf w' w5 4 (Cg ub cN 1 T)/\Cf w' I (J+(j+1)*9) gJ/\Cf w' I (J+(j+1)*9+1) (.string gL)/\Cf w' I (J+(j+1)*9+2) gK/\Cf w' I (J+(j+1)*9+3) (.string gM)/\Cf w' I (J+(j+1)*9+4) (.slice gF gO gR)/\Cf w' I (J+(j+1)*9+5) (.slice gG gP gS)/\Cf w' I (J+(j+1)*9+6) (.slice gH gQ gT)/\Cf w' I (J+(j+1)*9+7) gI/\Cf w' I (J+(j+1)*9+8) gN/\Qjr w' ub cN y.kind y.n y.s (.slice t3 y.names.length l3) (.slice t4 y.kids.length l4);?_
     have HS:∀ w',Below wq wq w'->?Lq1 w':=by
      intro w' h
      have U:∀ {b j:Nat} {u:Value},wq.cell? ⟨b,j,none⟩=some u->w'.cell? ⟨b,j,none⟩=some u:=fun hc=>kC h hc
      exact ⟨U c5,U c6,U eJ,U v4,U aS,U aU,U aW,U aY,U bA,U bC,U bE,U bG,U bI,U u0,U u1,U u2,U u3,U u4⟩
     have HP:∀ w' x0 x1 x2 x3 x4,?Lq1 w'->?Lq1 (Zi w' (w+1) x0 x1 x2 x3 x4):=fun w' x0 x1 x2 x3 x4 h=>⟨Zn C7 h.1,Zn C7 h.2.1,Zn gX h.2.2.1,Zn gV h.2.2.2.1,Zn O h.2.2.2.2.1,Zn O h.2.2.2.2.2.1,Zn O h.2.2.2.2.2.2.1,Zn O h.2.2.2.2.2.2.2.1,Zn O h.2.2.2.2.2.2.2.2.1,Zn O h.2.2.2.2.2.2.2.2.2.1,Zn O h.2.2.2.2.2.2.2.2.2.2.1,Zn O h.2.2.2.2.2.2.2.2.2.2.2.1,Zn O h.2.2.2.2.2.2.2.2.2.2.2.2.1,Zn bM h.2.2.2.2.2.2.2.2.2.2.2.2.2.1,Zn bM h.2.2.2.2.2.2.2.2.2.2.2.2.2.2.1,Zn bM h.2.2.2.2.2.2.2.2.2.2.2.2.2.2.2.1,Zn bM h.2.2.2.2.2.2.2.2.2.2.2.2.2.2.2.2.1,Zn bM h.2.2.2.2.2.2.2.2.2.2.2.2.2.2.2.2.2⟩
     unfold Zi at HP
     obtain ⟨fW,fX,fU⟩:=Qjq (HS wq.drew (Qz _ _).drew) HS HP
     clear HS HP c5 c6 eJ v4 aS aU aW aY bA bC bE bG bI u0 u1 u2 u3 u4 dV eI hy
     go_region_held3 ?Lq1 (first | with_reducible exact fW.out | with_reducible exact dU | with_reducible exact fU.out _ _ _ _ _ _ dU)
      (first
       | (go_at_call 152;refine (hE.out _ (Qz _ _).drew).mono ?_;rintro e w7 ⟨k7,n7,s7,bV,bT,bR,bW,bU,bS,b7,rfl,bN,aJ⟩;have bL:=(Qz _ wq).drew.thn aJ;have dU:=fX.out w7 bL;have bK:=aH.out.thn bL;have N:=kE (bK) aA aI.out;obtain ⟨y0,y1,y2,y3,y4⟩:=row5 N;obtain ⟨f0,f1,f2,f3,f4⟩:=frz5 N;have cS:=Qq N;clear N;have cQ:=Qq bN;have cO:=Qq bK;clear bN aJ bK bL))
     all_goals
      go_wp2_with fail
      show bodyPost _ _ _ _ _ (Zi w7 (w+1) k7 n7 (.string s7) (.slice bV bT bR) (.slice bW bU bS))
      refine Q7 (v:=.tuple #[.agg #[k7,n7,.string s7,.slice bV bT bR,.slice bW bU bS],.bool b7]) (by simp [results,results153,go_sem,Ze cS.out]) rfl (Ui D.out C7 aA (fun hb=>by
        obtain ⟨v,h1,h2⟩:=cQ.out hb
        refine ⟨v,h1.move (.refl _ _) (fun c _ hc=>?_),h2⟩
        rcases hc with hc | hc
        ·exact hc
        exact .inr (by have:=aH.out.size;have h':wq.heap.size<=c:=hc;omega)) cO.out)
    have hH:((v.kids.length:Int) != 1)=true:=by simp;omega
    obtain ⟨v0,v1,v2,v3,v4⟩:=row5 cR.out
    have aE:=kE aH.out aA aI.out
    obtain ⟨y0,y1,y2,y3,y4⟩:=row5 aE
    obtain ⟨f0,f1,f2,f3,f4⟩:=frz5 aE
    have dN:=Qq aE
    clear aE
    go_wp2_with fail
    show bodyPost _ _ _ _ _ (Cu wq (w+1) v Y V Z T)
    refine Q7 (v:=.tuple #[.agg (Cn v Y V Z T),.bool false]) (by simp [results,results153,go_sem,Ze dN.out]) rfl (Xr C7 A.out)
  have hq:(y != v.s)=true:=by rw [bne_iff_ne];exact he
  have hF:(y==v.s)=false:=by rw [<- Qt,beq_iff_eq];exact he
  clear he
  go_upto_region 7 with fail
  go_quiet (fail)
  go_wp2_with fail
  go_roundw
  case measure=>simp [intOf];omega
  case rel=>exact ⟨j+1,C7,by go_num,aL.out.thn (Yz _ _)⟩
 have gZ:j=m:=C7
 subst gZ
 obtain ⟨v0,v1,v2,v3,v4⟩:=row5 aO.out
 have aF:=kE aC.out aA aI.out
 obtain ⟨y0,y1,y2,y3,y4⟩:=row5 aF
 obtain ⟨f0,f1,f2,f3,f4⟩:=frz5 aF
 have dO:=Qq aF
 clear aF
 go_wp2_with fail
 show bodyPost _ _ _ _ _ (Cu wr (w+1) v Y V Z T)
 refine Q7 (v:=.tuple #[.agg (Cn v Y V Z T),.bool false]) (by simp [results,results153,go_sem,Ze dO.out]) rfl (Xr C7 aM.out)
theorem Nv (S:Nat->Prop) (v:Value) (l:List Int) (w:World) (hs:Xd S w v l) (hi:Uh l):
  Calls prog 26 #[v,Ci] w (Uo w (Gen.check (Yl l 0 13).toNat)):=by
 obtain ⟨h1,h2⟩:=Ju l 0 13 C7
 obtain ⟨z,A⟩:=eX (Yl l 0 13)
 rw [A] at h1 h2
 have h:z=0\/z=1\/z=2\/z=3\/z=4\/z=5\/z=6\/z=7\/z=8\/z=9\/z=10\/z=11\/z=12:=C7
 rcases h with h | h | h | h | h | h | h | h | h | h | h | h | h
 ·rw [A,h];exact M6 S v l w hs hi (by rw [A,h])
 ·rw [A,h];exact Mj S v l w hs hi (by rw [A,h])
 ·rw [A,h];exact M9 S v l w hs hi (by rw [A,h])
 ·rw [A,h];exact Av S v l w hs hi (by rw [A,h])
 ·rw [A,h];exact Ti S v l w hs hi (by rw [A,h])
 ·rw [A,h];exact Tm S v l w hs hi (by rw [A,h])
 ·rw [A,h];exact Wi S v l w hs hi (by rw [A,h])
 ·rw [A,h];exact Te S v l w hs hi (by rw [A,h])
 ·rw [A,h];exact T8 S v l w hs hi (by rw [A,h])
 ·rw [A,h];exact Wf S v l w hs hi (by rw [A,h])
 ·rw [A,h];exact Pk S v l w hs hi (by rw [A,h])
 ·rw [A,h];exact Rm S v l w hs hi (by rw [A,h])
 rw [A,h];exact Oh S v l w hs hi (by rw [A,h])
theorem sat_no (S0 S1:Nat->Prop) (t:Tbl) (v:Val) (ct cr:List Value) (w:World) (ht0:Zm.R S0 w ct t) (hr0:Z9 S1 w cr v) (hsi:Uy t.check=false):
  Calls prog 44 #[ct,cr] w fun e w'=>e=.returned (.bool false)/\Below w w w':=by
 have ht:Zm.R (fun b=>b<w) w ct t:=Zm.mono ht0 (fun b hb _=>hb)
 obtain ⟨V,U,Z,Y,aH,aG,k9,aI,n9,aJ,aD,aA,N,aE,aB,O,aF,aC,T,a9,z9,A,_,_,_,_,I⟩:=Zt ht
 simp only [tcs] at A
 subst A
 obtain ⟨p3,k3,p4,k4,A,_⟩:=Z9.cells hr0
 simp only [vcs] at A
 subst A
 have G:=Qq (fun W (hb:Below w w W)=>hsi ▸ My t.check _ _ W (Yx.move I (.of_below hb) Qje))
 clear ht ht0 hr0 I hsi
 go_enter_defers func44,ntmps44
 go_wp2_with fail
 refine (G.out _ (Xm _ _ _ _)).mono ?_
 rintro e w1 ⟨rfl,D⟩
 have J:=(D.block (w+1+1) Ca).trans (Zl w _ _ _)
 have M:=Qq ((Xm w _ _ _).thn D)
 have H2:=Qq J
 have f0:=fA 0 J;have r0:=rA0 J
 clear D J G
 go_wp2_with fail
 have hc:(w1.setCell ⟨w+1+1,0,none⟩ (.bool false)).cell? ⟨w+1+1,0,none⟩=some (.bool false):=by
  rw [Qk _ _ 0 _ _ _ (Qi _ _ _ _ _ _ H2.out)]
  rfl
 have hb:Below w w (w1.setCell ⟨w+1+1,0,none⟩ (.bool false)):=M.out.setCell (p:=⟨w+1+1,0,none⟩) (by show w<=w.heap.size+1+1;omega) _
 simp [bodyPostD,Leaves,results,results44,go_sem,hc,hb]
end Go.Proofs.YtcljcblceodciaaGreatDoor

import Derived.Test.YtcljcblceodciaaGreatDoorU30
set_option maxRecDepth 100000
set_option maxHeartbeats 400000000
namespace Go.Proofs.YtcljcblceodciaaGreatDoor
open Go.RowKit Go.Shelf Go.Lib Tryz
def put7 (W:World) (R:Nat) (a0 a1 a2 a3 a4 a5 a6:Value):World:=(((((((W.setCell ⟨R,0,none⟩ a0).setCell ⟨R,1,none⟩ a1).setCell ⟨R,2,none⟩ a2).setCell ⟨R,3,none⟩ a3).setCell ⟨R,4,none⟩ a4).setCell ⟨R,5,none⟩ a5).setCell ⟨R,6,none⟩ a6)
theorem R8 {B R:Nat} {w W:World} {a0 a1 a2 a3 a4 a5 a6:Value} (h:Below B w W) (hR:B<=R):Below B w (put7 W R a0 a1 a2 a3 a4 a5 a6):=
 ((((((h.setCell (p:=⟨R,0,none⟩) hR _).setCell (p:=⟨R,1,none⟩) hR _).setCell (p:=⟨R,2,none⟩) hR _).setCell (p:=⟨R,3,none⟩) hR _).setCell (p:=⟨R,4,none⟩) hR _).setCell (p:=⟨R,5,none⟩) hR _).setCell (p:=⟨R,6,none⟩) hR _
theorem Bk {w w':World} {nm:Bs} {kids:List Val} {p:Option Addr} {c:Nat} (hc:Gf nm) (hl:kids.length<=1) (hk:∀ x ∈ kids,Y4 x) (hs:nm.length<=1000000) (hv:Sl Zd (fun b=>w<=b) w' (.slice p kids.length c) kids) (hb:Below w w w'):Kg w (.returned (.agg #[.int .i64 3,Ci,nm,Cm,.slice p kids.length c])) w':=
 ⟨.mk 3 0 nm [] kids,none,0,p,c,rfl,.make nm kids hc hl hk,hl,Y5 hs (Sl.nil _ _ _) hv,hb⟩
theorem R3 (s:Sc) (hsg:Us s.sums) (nm:Bs) (tn:Int) (names:List Bs) (kids:List Ty) (n:Int) (hn0:0<=n) (hn1:n<=1000000) (S0 S1:Nat->Prop) (cs ct:List Value) (w:World) (hs:Xt S0 w cs s) (ht:X5 S1 w ct (.mk 3 nm tn names kids)):
  Calls prog 87 #[cs,ct,n] w (Kg w):=by
 have bO:=Qq hs
 obtain ⟨uv,tv,rfl,hu,cR⟩:=hs
 obtain ⟨up,uc,rfl,_⟩:=hu.len
 obtain ⟨tp,tc,rfl,_⟩:=cR.len
 obtain ⟨q3,l3,q4,l4,rfl,_⟩:=ht.cells'
 obtain ⟨m,hm⟩:=eX (s.sums.length)
 rw [hm] at hu bO |-
 have fG:m<=1000000:=by obtain ⟨_,_,_,h⟩:=hu.len;omega
 obtain ⟨HU,HM,HG⟩:=Qjq hu hm hsg
 have cP:0<=n.tdiv 7/\n.tdiv 7<=1000000:=by
  rw [Int.tdiv_eq_ediv_of_nonneg hn0];omega
 obtain ⟨q7,eE⟩:=eX (n.tdiv 7)
 rw [eE] at cP
 obtain ⟨cQ,eT⟩:=cP
 clear hu cR ht hm hsg
 go_enter func87,ntmps87
 go_wp2_with fail
 generalize T:(((w.alloc _).alloc _).alloc _).alloc _=W1
 have cG:=eqB T (Yj (Yj (Yj (Zg w _) _) _) _)
 have cC:=eqH (b:=w.heap.size) T (Zb (Zb (Zb (Y3 rfl _) _) _) _)
 have cD:=eqH (b:=w.heap.size+1) T (Zb (Zb (Y3 Ca _) _) _)
 have cE:=eqH (b:=w.heap.size+1+1) T (Zb (Y3 Ca _) _)
 have cB:=eqH (b:=w.heap.size+1+1+1) T (Y3 Ca _)
 obtain ⟨dA,bN,dG,aD,eV⟩:=Qjk cG cC cD cE cB
 clear T cG cC cD cB cE
 go_loopw [8,9,10] (fun t8 _ _ wr=>∃ k:Nat,k<=m/\t8=.int .i64 k/\Aside (Below W1 W1 wr)) (fun t8 _ _ _=>m - (intOf t8).toNat)
 case atStart=>exact ⟨0,Q8 _,rfl,Qz _ _⟩
 obtain ⟨k,hk,rfl,cA⟩:=hrel
 have O:=Qq (show Below W1 W1 wr from cA)
 have aV:=Qq (dA.out.thn O.out)
 clear cA
 have bH:=Z8 aD.out
 have bB:=kB O.out bN.out
 have bC:=kB O.out dG.out
 have cF:=kE O.out bH aD.out
 obtain ⟨aW,V,eW⟩:=Qjq cF bB bC
 have c0:=rA0 bB;have b1:=rA1 bC
 clear bB bC cF
 by_cases hlt2:k<m
 ·have fE:(0:Int)<=(k:Int):=C7
  have fF:(k:Int)<(m:Int):=C7
  obtain ⟨u,hu⟩:∃ u,s.sums[k]?=some u:=⟨_,Qx (by rw [HM.out];exact hlt2)⟩
  obtain ⟨ub,aO,fM,eG,fI,_,_,eF,bF⟩:=(HU.out.below aV.out).elem hu
  subst eG
  obtain ⟨eZ,cS,fH,bG⟩:=eF
  subst cS
  obtain ⟨cp,cc,aN,dV⟩:=bG.len
  obtain ⟨p,hp⟩:=eX (u.ctors.length)
  rw [hp] at aN dV
  subst aN
  have d0:=bF 0 _ rfl;have d1:=bF 1 _ rfl
  rw [show Ug.k=2 from rfl] at d0 d1
  rw [Nat.add_zero] at d0
  unfold sv at d0
  obtain ⟨dC,HP,dE⟩:=Qjq bG hp (HG.out u (Qy hu))
  clear hu bF bG hp
  by_cases he:u.name=nm
  ·have hq:(u.name==nm)=true:=by rw [he];simp
   clear he
   by_cases hp0:p=0
   ·have hg:¬ (0:Int)<(p:Int):=C7
    go_upto_region 12 with fail
    go_quiet (fail)
    go_wp2_with fail
    go_roundw
    case measure=>simp [intOf];omega
    case rel=>exact ⟨k+1,C7,by go_num,O.out.thn (Yz _ _)⟩
   have hg:(0:Int)<(p:Int):=C7
   obtain ⟨m8,eB⟩:=eX (n.tmod (p:Int))
   have cI:=Ds n p hn0 hg
   rw [eB] at cI
   obtain ⟨eR,eS⟩:=cI
   obtain ⟨j,rfl⟩:∃ j:Nat,m8=(j:Int):=⟨m8.toNat,C7⟩
   have dX:j<p:=C7
   obtain ⟨c,hc⟩:∃ c,u.ctors[j]?=some c:=⟨_,Qx (by rw [HP.out];exact dX)⟩
   obtain ⟨cb,A,eY,dW,fD,_,_,⟨fL,cL,cM,aA⟩,D⟩:=dC.out.elem hc
   subst dW;subst cL
   obtain ⟨tk,ts,bJ,t3,n3,k3,t4,n4,k4,rfl⟩:=aA.cells
   have e0:=D 0 _ rfl;have e1:=D 1 _ rfl;have e2:=D 2 _ rfl;have e3:=D 3 _ rfl;have e4:=D 4 _ rfl;have e5:=D 5 _ rfl;have e6:=D 6 _ rfl
   rw [show Gk.k=7 from rfl] at e0 e1 e2 e3 e4 e5 e6
   rw [Nat.add_zero] at e0
   unfold sv at e0
   have dI:=Qq aA;have aT:=Qq (dE.out c (Qy hc))
   clear hc D aA
   go_upto_region 12 with fail
   go_quiet (fail)
   obtain ⟨U,bI⟩:=eX (wr.drewN nq)
   have bE:Below wr wr U:=by rw [<- bI];exact Yz _ _
   rw [bI]
   have aR:=Qq bE
   have I:∀ {b j:Nat} {x:Value},wr.cell? ⟨b,j,none⟩=some x->U.cell? ⟨b,j,none⟩=some x:=fun hx=>kC bE hx
   have c0:=I c0;have d1:=I d1;have e0:=I e0;have e1:=I e1;have e2:=I e2;have e3:=I e3;have e4:=I e4;have e5:=I e5;have e6:=I e6
   clear I bI bE hq d0 b1
   go_upto_region 13 with fail
   refine let_mvar% ?Lq1:=fun w':World=>Cf w' w 0 (Cg ub aO m uc)/\Cf w' ub (aO+k*2+1) (Cg cb A p cc)/\Cf w' cb (A+j*7) c.name/\Cf w' cb (A+j*7+1) (.bool c.has)/\Cf w' cb (A+j*7+2) tk/\Cf w' cb (A+j*7+3) (.string ts)/\Cf w' cb (A+j*7+4) bJ/\Cf w' cb (A+j*7+5) (.slice t3 n3 k3)/\Cf w' cb (A+j*7+6) (.slice t4 n4 k4)/\Below U U w';?_
   have HS:∀ w',Below U U w'->?Lq1 w':=by
    intro w' h
    have I:∀ {b j:Nat} {u:Value},U.cell? ⟨b,j,none⟩=some u->w'.cell? ⟨b,j,none⟩=some u:=fun hc=>kC h hc
    exact ⟨I c0,I d1,I e0,I e1,I e2,I e3,I e4,I e5,I e6,h⟩
   obtain ⟨bM,V,aS,aL,aB,bP⟩:=U1 HS (fun w' h=>h.2.2.2.2.2.2.2.2.2)
   have HP:=fun w' x0 x1 x2 x3 x4 x5 x6 h=>bP.out (put7 w' U x0 x1 x2 x3 x4 x5 x6) (R8 (aL.out w' h) (Q9 _))
   unfold put7 at HP
   have bL:=Qq HP
   clear HS HP c0 d1 e0 e1 e2 e3 e4 e5 e6
   go_cut [9] from 33 to 89 (fun t9 wx=>∃ G,t9=.pointer (some ⟨G,0,none⟩)/\wx.heap[G]?=some (.cells #[c.name,.bool c.has,tk,.string ts,bJ,.slice t3 n3 k3,.slice t4 n4 k4] 70 (0,0))/\Below U U wx/\U.heap.size<=G)
   case first=>
    go_region_held3 ?Lq1 (first | with_reducible exact bM.out | with_reducible exact aS.out _ (aB.out _ _ V.out) | with_reducible exact aB.out _ _ V.out | with_reducible exact bL.out _ _ _ _ _ _ _ _ (aS.out _ (aB.out _ _ V.out))) (fail)
    all_goals
     go_wp2_with fail
     go_meet
     exact ⟨U.heap.size,rfl,Qw _ _,(Zg _ _).drew,Q9 _⟩
   obtain ⟨G,rfl,hG,aG,fB⟩:=hcut
   have aC:=Qq (O.out.thn (aR.out.thn aG));have bR:=Qq (aV.out.thn (aR.out.thn aG))
   have dH:=Qq (dI.out.move (.of_below (aR.out.thn aG)) Qje)
   have fC:=Z8 hG
   have HG:=Qq hG
   clear bM V aS aL aB bL bP aG
   have g0:=rA0 hG;have g1:=rA1 hG;have g2:=rA2 hG;have g3:=rA3 hG;have g4:=rA4 hG;have g5:=rA5 hG;have g6:=rA6 hG
   clear hG
   have dZ:w.heap.size+1+1<wc.heap.size:=C8 aC.out.size
   cases hhas:c.has with
   | false=>
    rw [hhas] at g1
    go_upto_region 17 with fail
    generalize hV:wc.alloc _=V1
    have J:=eqB hV (Zg _ _)
    have hv:=eqH (b:=wc.heap.size) hV (Qw _ _)
    have aE:=kE (aC.out.thn J) bH aD.out
    obtain ⟨v0,v1,v2,v3,v4⟩:=row5 hv
    obtain ⟨y0,y1,y2,y3,y4⟩:=row5 aE
    obtain ⟨f0,f1,f2,f3,f4⟩:=frz5 aE
    have dO:=Qq aE;have aQ:=Qq (bR.out.thn J)
    clear hV hv aE J g0 g1 g2 g3 g4 g5 g6
    go_wp2_with fail
    show bodyPost _ _ _ _ _ (Zi V1 (w+1+1) (.int .i64 3) Ci c.name Cm Cm)
    exact Q7 (v:=.agg #[.int .i64 3,Ci,c.name,Cm,Cm]) (by simp [results,results87,go_sem,Ze dO.out]) rfl (Bk (kids:=[]) aT.out.2 (Q8 _) (fun x h=>by simp at h) cM (Sl.nil _ _ _) (Zc aQ.out C7))
   | true=>
    rw [hhas] at g1
    have bA:=kB aC.out bN.out
    obtain ⟨s0,s1⟩:=row2 bA
    have eP:=Qq bA
    clear bA
    go_upto_region 15 with fail
    generalize hV:wc.alloc _=V1
    have J:=eqB hV (Zg _ _)
    have hv:=eqH (b:=wc.heap.size) hV (Qw _ _)
    obtain ⟨aQ,bQ,aU⟩:=Qjq (aC.out.thn J) (bR.out.thn J) hv
    have dK:=Qq (Gg s c.arg aT.out.1 q7 cQ S0 _ _ [tk,.string ts,bJ,.slice t3 n3 k3,.slice t4 n4 k4] V1 (bO.out.below bQ.out) (dH.out.move (.of_below J) Qje))
    have M:∀ {b j:Nat} {x:Value},wc.cell? ⟨b,j,none⟩=some x->V1.cell? ⟨b,j,none⟩=some x:=fun hx=>kC J hx
    have g1:=M g1;have g2:=M g2;have g3:=M g3;have g4:=M g4;have g5:=M g5;have g6:=M g6;have s0:=M s0;have s1:=M s1
    clear hV hv J M g0
    go_upto_region 17 with (go_at_call 87;refine dK.out.mono ?_;rintro e N ⟨v,r3,o3,r4,o4,rfl,cN,_,cU,aF⟩;unfold vcs;have fJ:wc.heap.size<N.heap.size:=Qa (Z8 aU.out) aF.size;have aI:=kB aF aU.out;have v4:=Qk _ _ 4 _ _ _ aI;have dP:=fA 4 aI;simp only [Qf,Qg,Qh] at v4;obtain ⟨dJ,dL,dD,aP⟩:=Qjz aI cU cN aF;clear aI cU cN aF)
    generalize Y:World.alloc _ _=W9
    have cJ:Below wc N (N.setCell ⟨wc,4,none⟩ (.slice (some ⟨N,0,none⟩) 1 1)):=(Qz _ _).setCell (p:=⟨wc,4,none⟩) (Q9 _) _
    have aK:(N.setCell ⟨wc,4,none⟩ (.slice (some ⟨N,0,none⟩) 1 1)).heap.size=N.heap.size:=Ca
    have fK:=aP.out.size
    have eQ:=Z8 aU.out
    have Z:Below wc N W9:=by rw [<- Y];exact cJ.alloc (by rw [aK];omega) _
    have cV:W9.heap[wc.heap.size]?=some (.cells #[.int .i64 3,Ci,c.name,Cm,Cg N 0 1 1] 36 (0,0)):=by
     rw [<- Y]
     exact Zb (Qi _ _ 4 _ _ _ dJ.out) _
    have cO:W9.heap[N.heap.size]?=some (.cells (Cn v r3 o3 r4 o4) 36 (0,0)):=by
     rw [<- Y]
     exact Y3 aK _
    have cH:Below w w W9:=(bQ.out.thn aP.out).trans (Z.mono C7)
    have aJ:W9.heap[w.heap.size+1+1]?=some (.cells zV 36 (0,0)):=kE Z dZ (((aQ.out.thn aP.out).block _ bH).trans aD.out)
    have cW:Z9 (fun b=>V1<=b/\b<N) W9 (vcs v r3 o3 r4 o4) v:=(dL.out.move (S':=fun b=>V1<=b/\b<N) (.refl _ _) (fun b hb h=>⟨h,hb⟩)).move (fun b hb dY=>by
     rw [<- Y,Below.heap_alloc _ _ _ (by rw [aK];exact dY),Za (show b≠wc from by have h1:V1.heap.size<=b:=hb.1;omega)]) Qje
    obtain ⟨v0,v1,v2,v3,v4⟩:=row5 cV
    obtain ⟨y0,y1,y2,y3,y4⟩:=row5 aJ
    obtain ⟨f0,f1,f2,f3,f4⟩:=frz5 aJ
    obtain ⟨dM,dF,dB,dN⟩:=Qjz cW cO cH aJ
    clear Y cV cO cH aJ cW Z dP cJ aK
    have eU:w.heap.size+1+1<N.heap.size:=C7
    go_wp2_with fail
    show bodyPost _ _ _ _ _ (Zi W9 (w+1+1) (.int .i64 3) Ci c.name Cm (Cg N 0 1 1))
    refine Q7 (v:=.agg #[.int .i64 3,Ci,c.name,Cm,Cg N 0 1 1]) (by simp [results,results87,go_sem,Ze dN.out]) rfl (Bk (kids:=[v]) aT.out.2 Ca (fun x h=>by simp only [Z3,Z2,or_false] at h;subst h;exact dD.out) cM ?_ (Zc dB.out C7))
    exact Y2 (xs:=[v]) ((Zf C7).trans dF.out) (by show w<=N.heap.size;omega) (Cs.one (r:=Zd) ((dM.out.move (fun b hb _=>Zf (by have:=hb.1;omega)) (fun b _ h=>by show w<=b;have:=h.1;omega)))) rfl rfl Ca
  have hq:(u.name==nm)=false:=by rw [<- Qt,beq_iff_eq];exact he
  clear he
  go_upto_region 12 with fail
  go_quiet (fail)
  go_wp2_with fail
  go_roundw
  case measure=>simp [intOf];omega
  case rel=>exact ⟨k+1,C7,by go_num,O.out.thn (Yz _ _)⟩
 have hq:¬ (k:Int)<(m:Int):=C7
 obtain ⟨y0,y1,y2,y3,y4⟩:=row5 aW.out
 obtain ⟨f0,f1,f2,f3,f4⟩:=frz5 aW.out
 go_wp2_with fail
 show bodyPost _ _ _ _ _ (Zi wr (w+1+1) Ci Ci Cl Cm Cm)
 exact Q7 (v:=.agg zV) (by simp [results,results87,go_sem,Ze aW.out]) rfl (J6 (s:=[]) (.int 0 Cc) Ca (Zc aV.out C7))
theorem T8 (S:Nat->Prop) (v:Value) (l:List Int) (w:World) (hs:Xd S w v l) (hi:Uh l) (hk:Yl l 0 13=8):
  Calls prog 26 #[v,Ci] w (Uo w (Gen.check 8)):=by
 have HP:=Qq (fun W (hb:Below w w W)=>Yn S v l 0 13 W (hs.below hb) hi C7 C7)
 rw [hk] at HP
 obtain ⟨p,cap,rfl,_⟩:=hs.len
 clear hs hi hk
 go_enter func26,ntmps26
 go_upto_region 8 with fail
 generalize aJ:(((((((w.alloc _).alloc _).alloc _).alloc _).alloc _).alloc _).alloc _).alloc _=W8
 have aZ:=eqB aJ (Yj (Yj (Yj (Yj (Yj (Yj (Yj (Zg w _) _) _) _) _) _) _) _)
 have cK:W8=w.heap.size+8:=by rw [<- aJ];simp
 have r8:=eqH (b:=w.heap.size) aJ (Zb (Zb (Zb (Zb (Zb (Zb (Zb (Y3 rfl _) _) _) _) _) _) _) _)
 have G:=((((Yp.row (show W8.heap[w.heap.size+1]?=some (.cells #[.int .i64 3,.string ⟨#[97]⟩,Ci,Cl,Cm,Cm,Cm,Ci,Ci] 46 (0,0)) from by rw [<- aJ];exact Zb (Zb (Zb (Zb (Zb (Zb (Y3 Ca _) _) _) _) _) _) _)).app (Yp.row (show W8.heap[w.heap.size+1+1]?=some (.cells #[.int .i64 3,.string ⟨#[98]⟩,Ci,Cl,Cm,Cm,Cm,Ci,Ci] 46 (0,0)) from by rw [<- aJ];exact Zb (Zb (Zb (Zb (Zb (Y3 Ca _) _) _) _) _) _))).app (Yp.row (show W8.heap[w.heap.size+1+1+1+1+1+1]?=some (.cells #[Ci,Cl,.int .i64 1,Cl,Cm,Cm,Cm,Ci,Ci] 46 (0,0)) from by rw [<- aJ];exact Zb (Y3 Ca _) _))).app (Yp.row (show W8.heap[w.heap.size+1+1+1+1]?=some (.cells zQ 46 (0,0)) from by rw [<- aJ];exact Zb (Zb (Zb (Y3 Ca _) _) _) _)))
 have hG:=(U6 (U6 (U6 (X8 (show w<w.heap.size+1 by omega) (.int .i64 3) (.string ⟨#[97]⟩) (.int .i64 0) (.string ⟨#[]⟩) (.slice none 0 0) (.slice none 0 0) (.slice none 0 0) (.int .i64 0) (.int .i64 0)) (X8 (show w<w.heap.size+1+1 by omega) (.int .i64 3) (.string ⟨#[98]⟩) (.int .i64 0) (.string ⟨#[]⟩) (.slice none 0 0) (.slice none 0 0) (.slice none 0 0) (.int .i64 0) (.int .i64 0))) (X8 (show w<w.heap.size+1+1+1+1+1+1 by omega) (.int .i64 0) (.string ⟨#[]⟩) (.int .i64 1) (.string ⟨#[]⟩) (.slice none 0 0) (.slice none 0 0) (.slice none 0 0) (.int .i64 0) (.int .i64 0))) (X8 (show w<w.heap.size+1+1+1+1 by omega) (.int .i64 3) (.string ⟨#[100]⟩) (.int .i64 0) (.string ⟨#[]⟩) (.slice none 0 0) (.slice none 0 0) (.slice none 0 0) (.int .i64 0) (.int .i64 0)))
 have aW:=Qq aZ;have HR:=Qq r8
 clear aJ aZ r8 cK
 go_upto_region 26 with (go_at_call 27;refine (HP.out _ aW.out).mono ?_;rintro e w' ⟨rfl,rfl⟩)
 refine let_mvar% ?Lq1:=fun w':World=>(Qjh w' (w+1) (.int .i64 3) (.string ⟨#[97]⟩) Ci Cl Cm Cm Cm Ci Ci ((Qjh w' (w+1+1) (.int .i64 3) (.string ⟨#[98]⟩) Ci Cl Cm Cm Cm Ci Ci ((Qjh w' (w+1+1+1+1+1+1) Ci Cl (.int .i64 1) Cl Cm Cm Cm Ci Ci ((Qjo w' (w+1+1+1+1) (.int .i64 3) (.string ⟨#[100]⟩) Ci Cl Cm Cm Cm Ci Ci:Prop)):Prop)):Prop)):Prop);?_
 have HS:=Qq (fun w' (h:Yp (J0 (w+1) (.int .i64 3) (.string ⟨#[97]⟩) (.int .i64 0) (.string ⟨#[]⟩) (.slice none 0 0) (.slice none 0 0) (.slice none 0 0) (.int .i64 0) (.int .i64 0)++J0 (w+1+1) (.int .i64 3) (.string ⟨#[98]⟩) (.int .i64 0) (.string ⟨#[]⟩) (.slice none 0 0) (.slice none 0 0) (.slice none 0 0) (.int .i64 0) (.int .i64 0)++J0 (w+1+1+1+1+1+1) (.int .i64 0) (.string ⟨#[]⟩) (.int .i64 1) (.string ⟨#[]⟩) (.slice none 0 0) (.slice none 0 0) (.slice none 0 0) (.int .i64 0) (.int .i64 0)++J0 (w+1+1+1+1) (.int .i64 3) (.string ⟨#[100]⟩) (.int .i64 0) (.string ⟨#[]⟩) (.slice none 0 0) (.slice none 0 0) (.slice none 0 0) (.int .i64 0) (.int .i64 0)) w')=>(show ?Lq1 w' from Yp.spread h))
 have HG:=Qq hG
 have aX:=Qq (fun w' z0 z1 z2 z3 z4 z5 z6 z7 z8 (h:Yp _ w')=>HS.out _ (h.put9 HG.out z0 z1 z2 z3 z4 z5 z6 z7 z8))
 unfold put9 at aX
 have J:=aW
 clear hG
 obtain ⟨aN,aO,aP,aB,aQ,aR⟩:=Qjv True.intro True.intro True.intro True.intro True.intro True.intro
 go_region_held3 ?Lq1 (first | with_reducible exact HS.out _ G | with_reducible exact HS.out _ G.drew | with_reducible exact HS.out _ (G.alloc _) | with_reducible exact HS.out _ (G.alloc _).drew | with_reducible exact HS.out _ ((G.alloc _).alloc _) | with_reducible exact HS.out _ ((G.alloc _).alloc _).drew | with_reducible exact HS.out _ (((G.alloc _).alloc _).alloc _) | with_reducible exact aX.out _ _ _ _ _ _ _ _ _ _ G)
  (first
   | (have hn:=M.out;clear hn;(repeat (first
      | (have hk:=aB.out;clear aB hk;generalize aA:World.alloc _ (Obj.cells zQ 46 _)=WD;have D:=Vb aA;have aG:=J2 aA;have aH:=Dj aA HR.out;have Y:=G.later D;clear G;have G:=Y;clear Y;have T:=Qq (Ye D HR.out);clear HR;have HR:=T;clear T;have N:=Qq (J.out.thn D);clear J;have J:=N;clear N;(try (have A:=Qq (Ye D O.out);clear O;have O:=A;clear A));(try (have A:=Qq (U.out.move (.of_below D) Qje);clear U;have U:=A;clear A));(try (have A:=Qq (V.out.move (.of_below D) Qje);clear V;have V:=A;clear A));(try (have A:=Qq (M.out.move (.of_below D) Qje);clear M;have M:=A;clear A));(try (have A:=Qq (I.out.move (.of_below D) Qje);clear I;have I:=A;clear A));have Z:=Qq aG;have aL:=Qq aH;clear aA D aG aH;have hN:=(show Yx (fun b=>w<b) WD [.int .i64 14,.string ⟨#[110,111,116]⟩,Ci,Cl,Cm,Cm,Cg _ 0 1 1,Ci,Ci] (Gen.op [110,111,116] [Gen.d]) from (Xj (nm:=[110,111,116]) (s:=[]) Ca Ca (Sl.nil _ _ _) (Sl.nil _ _ _) (Y2 (xs:=[Gen.d]) Z.out aL.out (Cs.one (r:=Xp) (Yk 3 [100] 0 [] Ca Ca)) rfl rfl Ca)));have I:=Qq hN;clear hN)
      | (have hn:=M.out;clear hn;have hk:=aQ.out;clear aQ hk;generalize aS:World.alloc _ (Obj.cells #[bO,.string bS,bQ,.string bU,.slice bG bY cE,.slice bI cA cG,.slice bK cC cI,bM,bW,bP,.string bT,bR,.string bV,.slice bH bZ cF,.slice bJ cB cH,.slice bL cD cJ,bN,bX] 46 _)=WK;have aI:=Vb aS;have bA:=J2 aS;have bB:=Dj aS HR.out;have Y:=G.later aI;clear G;have G:=Y;clear Y;have T:=Qq (Ye aI HR.out);clear HR;have HR:=T;clear T;have N:=Qq (J.out.thn aI);clear J;have J:=N;clear N;(try (have A:=Qq (Ye aI Z.out);clear Z;have Z:=A;clear A));(try (have A:=Qq (U.out.move (.of_below aI) Qje);clear U;have U:=A;clear A));(try (have A:=Qq (V.out.move (.of_below aI) Qje);clear V;have V:=A;clear A));(try (have A:=Qq (M.out.move (.of_below aI) Qje);clear M;have M:=A;clear A));(try (have A:=Qq (I.out.move (.of_below aI) Qje);clear I;have I:=A;clear A));have O:=Qq bA;have bF:=Qq bB;clear aS aI bA bB)
      | fail));have hn:=O.out;clear hn;have hk:=aR.out;clear aR hk;obtain ⟨⟨f0,f1,f2,f3,f4,f5,f6,f7,f8⟩,y0,y1,y2,y3,y4,y5,y6,y7,y8⟩:=Tc HR.out;go_simp)
   | (have hk:=aN.out;go_at_call 84;(repeat (first
      | (have hk:=aB.out;clear aB hk;generalize aA:World.alloc _ (Obj.cells zQ 46 _)=WD;have D:=Vb aA;have aG:=J2 aA;have aH:=Dj aA HR.out;have Y:=G.later D;clear G;have G:=Y;clear Y;have T:=Qq (Ye D HR.out);clear HR;have HR:=T;clear T;have N:=Qq (J.out.thn D);clear J;have J:=N;clear N;(try (have A:=Qq (Ye D O.out);clear O;have O:=A;clear A));(try (have A:=Qq (U.out.move (.of_below D) Qje);clear U;have U:=A;clear A));(try (have A:=Qq (V.out.move (.of_below D) Qje);clear V;have V:=A;clear A));(try (have A:=Qq (M.out.move (.of_below D) Qje);clear M;have M:=A;clear A));(try (have A:=Qq (I.out.move (.of_below D) Qje);clear I;have I:=A;clear A));have Z:=Qq aG;have aL:=Qq aH;clear aA D aG aH;have hN:=(show Yx (fun b=>w<b) WD [.int .i64 14,.string ⟨#[110,111,116]⟩,Ci,Cl,Cm,Cm,Cg _ 0 1 1,Ci,Ci] (Gen.op [110,111,116] [Gen.d]) from (Xj (nm:=[110,111,116]) (s:=[]) Ca Ca (Sl.nil _ _ _) (Sl.nil _ _ _) (Y2 (xs:=[Gen.d]) Z.out aL.out (Cs.one (r:=Xp) (Yk 3 [100] 0 [] Ca Ca)) rfl rfl Ca)));have I:=Qq hN;clear hN)
      | fail));refine (V0 w [45] _ _ _ _ _ Ca (by exact (Yk 3 [97] 0 [] Ca Ca)) (by exact (Yk 3 [98] 0 [] Ca Ca)) (by exact Z8 HR.out)).mono ?_;rintro e W1 ⟨bO,bS,bQ,bU,bG,bY,cE,bI,cA,cG,bK,cC,cI,bM,bW,rfl,bC,aD⟩;clear aN hk;(try (have aK:=Vh aD;clear aD;have aD:=aK;clear aK));have Y:=G.later aD;clear G;have G:=Y;clear Y;have T:=Qq (Ye aD HR.out);clear HR;have HR:=T;clear T;have N:=Qq (J.out.thn aD);clear J;have J:=N;clear N;(try (have A:=Qq (Ye aD Z.out);clear Z;have Z:=A;clear A));(try (have A:=Qq (Ye aD O.out);clear O;have O:=A;clear A));(try (have A:=Qq (V.out.move (.of_below aD) Qje);clear V;have V:=A;clear A));(try (have A:=Qq (M.out.move (.of_below aD) Qje);clear M;have M:=A;clear A));(try (have A:=Qq (I.out.move (.of_below aD) Qje);clear I;have I:=A;clear A));have U:=Qq bC;clear bC aD)
   | (have hn:=U.out;clear hn;have hk:=aO.out;go_at_call 84;(repeat (first
      | (have hk:=aB.out;clear aB hk;generalize aA:World.alloc _ (Obj.cells zQ 46 _)=WD;have D:=Vb aA;have aG:=J2 aA;have aH:=Dj aA HR.out;have Y:=G.later D;clear G;have G:=Y;clear Y;have T:=Qq (Ye D HR.out);clear HR;have HR:=T;clear T;have N:=Qq (J.out.thn D);clear J;have J:=N;clear N;(try (have A:=Qq (Ye D O.out);clear O;have O:=A;clear A));(try (have A:=Qq (U.out.move (.of_below D) Qje);clear U;have U:=A;clear A));(try (have A:=Qq (V.out.move (.of_below D) Qje);clear V;have V:=A;clear A));(try (have A:=Qq (M.out.move (.of_below D) Qje);clear M;have M:=A;clear A));(try (have A:=Qq (I.out.move (.of_below D) Qje);clear I;have I:=A;clear A));have Z:=Qq aG;have aL:=Qq aH;clear aA D aG aH;have hN:=(show Yx (fun b=>w<b) WD [.int .i64 14,.string ⟨#[110,111,116]⟩,Ci,Cl,Cm,Cm,Cg _ 0 1 1,Ci,Ci] (Gen.op [110,111,116] [Gen.d]) from (Xj (nm:=[110,111,116]) (s:=[]) Ca Ca (Sl.nil _ _ _) (Sl.nil _ _ _) (Y2 (xs:=[Gen.d]) Z.out aL.out (Cs.one (r:=Xp) (Yk 3 [100] 0 [] Ca Ca)) rfl rfl Ca)));have I:=Qq hN;clear hN)
      | fail));refine (V0 w [60] _ _ _ _ _ Ca (by exact (Yk 3 [97] 0 [] Ca Ca)) (by exact (Yk 0 [] 1 [] Ca Ca)) (by exact Z8 HR.out)).mono ?_;rintro e W2 ⟨cP,cR,cQ,cS,cL,cU,cX,cM,cV,cY,cN,cW,cZ,cO,cT,rfl,bD,aE⟩;clear aO hk;(try (have aK:=Vh aE;clear aE;have aE:=aK;clear aK));have Y:=G.later aE;clear G;have G:=Y;clear Y;have T:=Qq (Ye aE HR.out);clear HR;have HR:=T;clear T;have N:=Qq (J.out.thn aE);clear J;have J:=N;clear N;(try (have A:=Qq (Ye aE Z.out);clear Z;have Z:=A;clear A));(try (have A:=Qq (Ye aE O.out);clear O;have O:=A;clear A));(try (have A:=Qq (U.out.move (.of_below aE) Qje);clear U;have U:=A;clear A));(try (have A:=Qq (M.out.move (.of_below aE) Qje);clear M;have M:=A;clear A));(try (have A:=Qq (I.out.move (.of_below aE) Qje);clear I;have I:=A;clear A));have V:=Qq bD;clear bD aE)
   | (have hn:=V.out;clear hn;have hk:=aP.out;go_at_call 84;(repeat (first
      | (have hk:=aB.out;clear aB hk;generalize aA:World.alloc _ (Obj.cells zQ 46 _)=WD;have D:=Vb aA;have aG:=J2 aA;have aH:=Dj aA HR.out;have Y:=G.later D;clear G;have G:=Y;clear Y;have T:=Qq (Ye D HR.out);clear HR;have HR:=T;clear T;have N:=Qq (J.out.thn D);clear J;have J:=N;clear N;(try (have A:=Qq (Ye D O.out);clear O;have O:=A;clear A));(try (have A:=Qq (U.out.move (.of_below D) Qje);clear U;have U:=A;clear A));(try (have A:=Qq (V.out.move (.of_below D) Qje);clear V;have V:=A;clear A));(try (have A:=Qq (M.out.move (.of_below D) Qje);clear M;have M:=A;clear A));(try (have A:=Qq (I.out.move (.of_below D) Qje);clear I;have I:=A;clear A));have Z:=Qq aG;have aL:=Qq aH;clear aA D aG aH;have hN:=(show Yx (fun b=>w<b) WD [.int .i64 14,.string ⟨#[110,111,116]⟩,Ci,Cl,Cm,Cm,Cg _ 0 1 1,Ci,Ci] (Gen.op [110,111,116] [Gen.d]) from (Xj (nm:=[110,111,116]) (s:=[]) Ca Ca (Sl.nil _ _ _) (Sl.nil _ _ _) (Y2 (xs:=[Gen.d]) Z.out aL.out (Cs.one (r:=Xp) (Yk 3 [100] 0 [] Ca Ca)) rfl rfl Ca)));have I:=Qq hN;clear hN)
      | fail));refine (V0 w [97,110,100] _ _ _ _ _ Ca (by exact V.out) (by exact I.out) (by exact Z8 HR.out)).mono ?_;rintro e W3 ⟨bP,bT,bR,bV,bH,bZ,cF,bJ,cB,cH,bL,cD,cJ,bN,bX,rfl,bE,aF⟩;clear aP hk;(try (have aK:=Vh aF;clear aF;have aF:=aK;clear aK));have Y:=G.later aF;clear G;have G:=Y;clear Y;have T:=Qq (Ye aF HR.out);clear HR;have HR:=T;clear T;have N:=Qq (J.out.thn aF);clear J;have J:=N;clear N;(try (have A:=Qq (Ye aF Z.out);clear Z;have Z:=A;clear A));(try (have A:=Qq (Ye aF O.out);clear O;have O:=A;clear A));(try (have A:=Qq (U.out.move (.of_below aF) Qje);clear U;have U:=A;clear A));(try (have A:=Qq (V.out.move (.of_below aF) Qje);clear V;have V:=A;clear A));(try (have A:=Qq (I.out.move (.of_below aF) Qje);clear I;have I:=A;clear A));have M:=Qq bE;clear bE aF)
   | fail)
 all_goals
  go_wp2_with fail
  show bodyPost _ _ _ _ _ (put9 _ w (.int .i64 11) (.string ⟨#[97]⟩) Ci Cl Cm Cm (Cg _ 0 2 2) Ci Ci)
  exact Q7 (v:=.agg #[.int .i64 11,.string ⟨#[97]⟩,Ci,Cl,Cm,Cm,Cg _ 0 2 2,Ci,Ci]) (by simp [results,results26,go_sem,Xb HR.out]) rfl (U3 (Xj (nm:=[97]) (s:=[]) Ca Ca (Sl.nil _ _ _) (Sl.nil _ _ _) (Y2 (xs:=[Gen.op [45] [Gen.a,Gen.b],Gen.op [97,110,100] [Gen.op [60] [Gen.a,Gen.one],Gen.op [110,111,116] [Gen.d]]]) O.out bF.out ((Cs.one (r:=Xp) U.out).app (Cs.one (r:=Xp) M.out)) rfl rfl Ca)) J.out rfl)
def Mi (n1 n2:Bs) (r0 r1:Option Val) (r2:Val->Option Val):Option Val:=match r0 with
 | some v=>if v.kind=3 then (if v.s=n1 then r1 else if v.s=n2 then (match v.kids with
  | [x]=>r2 x
  | _=>none) else none) else none
 | none=>none
theorem idx_two {n1 n2 x:Bs}:Vx (fun y=>decide (y=x)) [n1,n2]=if n1=x then 0 else if n2=x then 1 else -1:=by
 unfold Vx
 simp only [List.findIdx?_cons,List.findIdx?_nil]
 by_cases h1:n1=x
 ·simp [h1]
 by_cases h2:n2=x
 ·subst h2;simp [h1]
 simp [h1,h2]
theorem ev_match (nm:Bs) (n:Int) (s:Bs) (n1 n2 b2:Bs) (x y t:Ex) (a z:Int) (env:List (Bs × Val)) (r0 r1:Option Val) (r2:Val->Option Val) (hne:b2≠[]) (hx:EvO x env r0) (hy:EvO y env r1) (ht:∀ u,EvO t ((b2,u)::env) (r2 u)):EvO (.mk 13 nm n s [n1,n2] [[],b2] [x,y,t] a z) env (Mi n1 n2 r0 r1 r2):=by
 obtain ⟨R,M⟩:=eX (Mi n1 n2 r0 r1 r2)
 rw [M]
 intro S0 S' cs p w bL cL cK cI
 have bX:=Qq cL
 clear cL
 have he:Xk (fun b=>S0 b/\b<w) w p env:=cI.move (.refl _ _) (fun b hb h=>⟨h,hb⟩)
 obtain ⟨nv,bv,kv,rfl,dZ,eA,hn,hb,hk⟩:=Yy.1 cK
 obtain ⟨np,nc,rfl,_⟩:=hn.len
 obtain ⟨bp,bc,rfl,_⟩:=hb.len
 obtain ⟨kp,kc,rfl,dK⟩:=hk.len
 obtain ⟨q,rfl⟩:=he.ptr
 obtain ⟨HE,HK,bY,bE⟩:=Qjz he hk hn hb
 obtain ⟨kl,U⟩:=eX ([x,y,t].length)
 rw [U] at HK dK
 have aR:=Qq U
 clear cK he cI hn hb hk
 unfold sv
 rw [U]
 clear U
 go_enter func103,ntmps103
 go_upto_region 3 with fail
 generalize aC:((w.alloc _).alloc _).alloc _=T
 have I:=eqB aC (Xm _ _ _ _)
 have h0:=eqH (b:=w.heap.size) aC (Zp _ _ _ _)
 have h1:=eqH (b:=w.heap.size+1) aC (Zo _ _ _ _)
 have h2:=eqH (b:=w.heap.size+1+1) aC (Zl _ _ _ _)
 have eB:w.heap.size+1+1<T.heap.size:=Z8 h2
 have c0:=rA0 h0;have c1:=rA1 h0;have c2:=rA2 h0;have c3:=rA3 h0;have c4:=rA4 h0;have c5:=rA5 h0;have c6:=rA6 h0
 obtain ⟨H0,H1,H2,aM⟩:=Qjz h0 h1 h2 I
 have aB:=Qq (fun (k:Nat) e9 r9 (hke:[x,y,t][k]?=some e9) (hev:EvO e9 env r9) W (hbw:Below T T W) (x9:Nat) (hxl:w<=x9) (hxW:x9<W)=>K9 w (w+1) k (fun b=>S0 b/\b≠w+1+1/\b≠x9) S' kp kc [x,y,t] e9 (.pointer q) env r9 W
  (by rw [aR.out];exact (Qk _ _ 6 _ _ _ (kB hbw h0)).trans rfl) (by rw [aR.out];exact (HK.out.below I).below hbw) ((Qk _ _ 0 _ _ _ (kB hbw h1)).trans rfl) (fun b hb=>⟨bL b (C9 I.size hbw.size),by have:=hbw.size;omega,C7⟩) (bX.out.below (I.thn hbw)) ((HE.out.move (.of_below I) Qje).move (.of_below hbw) (fun b _ h=>⟨h.1,by have:=h.2;omega,by have:=h.2;omega⟩)) hke hev)
 have aA:Hid (∀ W,Below T T W->Calls prog 140 #[Ci,Ch w,Ch (w+1)] W (Xy (fun b=>S0 b/\b≠w+1+1/\b≠w+1) W r0)):=Qq (fun W hW=>aB.out 0 x r0 rfl hx W hW (w+1) C7 (C8 hW.size))
 have bV:Hid (∀ W,Below T T W->Calls prog 140 #[.int .i64 1,Ch w,Ch (w+1)] W (Xy (fun b=>S0 b/\b≠w+1+1/\b≠w+1+1) W r1)):=Qq (fun W hW=>aB.out 1 y r1 rfl hy W hW (w+1+1) C7 (C8 hW.size))
 have bU:=Qq (fun (v:Bs) W (hW:Below T T W)=>Dn S' (.slice np 2 nc) [n1,n2] v W ((bY.out.below I).below hW))
 unfold sv at bU
 obtain ⟨bb,dR,dI,aF,_⟩:=(bE.out.below I).str (i:=0) (x:=[]) rfl
 obtain ⟨dU,dF,aZ,aY,aX⟩:=(bE.out.below I).str (i:=1) (x:=b2) rfl
 subst dI
 simp only [Zv,Addr.mk.injEq,and_true] at aZ
 obtain ⟨rfl,rfl⟩:=aZ
 rw [Nat.add_zero] at aF
 obtain ⟨cZ,bT,HT,cA⟩:=Qjz hne aX ht bL
 have HC:=Qq (fun W (h:Below T T W)=>Qe (kC h c4) (Qe (kC h c5) (Qe (kC h aF) (kC h aY))))
 clear h0 h1 h2 I aC aB hx hy ht hne aX bL c1 c2 c3 c4 c5 c6 bY bE aF aY
 cases r0 with
 | none=>
  obtain rfl:none=R:=M
  go_wp2_with (go_at_call 140;refine (aA.out _ (Qz _ _)).mono ?_;rintro e w4 ⟨rfl,hb⟩)
  exact ⟨rfl,rfl,aM.out.thn hb⟩
 | some u=>
  by_cases hk:u.kind=3
  ·have aS:=Qq (fun cu W (hu:Z9 (fun b=>S0 b/\b≠w+1+1/\b≠w+1) W cu u)=>En 3 _ u cu W hu hk)
   have A:(if u.s=n1 then r1 else if u.s=n2 then (match u.kids with | [x]=>r2 x | _=>none) else none)=R:=by rw [<- M];unfold Mi;dsimp only;rw [if_pos hk]
   clear M hk
   go_upto_region 48 with (first
    | (go_at_call 139;refine (aS.out _ _ HU.out).mono ?_;rintro e w5 ⟨rfl,hb⟩;have cC:=Qq (Z9.move HU.out (.of_below hb) Qje);have cW:=Qq (Z.out.thn hb);clear hb;clear aS)
    | (go_at_call 140;refine (aA.out _ (Qz _ _)).mono ?_;rintro e w4 ⟨cu,rfl,hu,hb⟩;obtain ⟨a3,dD,a4,dE,D,_⟩:=Z9.cells hu;simp only [vcs] at D;subst D;have HU:=Qq hu;have Z:=Qq ((Qz T T).thn hb);clear hu hb;clear aA))
   generalize bN:World.alloc w5 _=Y
   have bP:=eqB bN (Zg _ _)
   have bO:=eqH (b:=w5.heap.size) bN (Qw _ _)
   have x2:=rA2 bO;have x4:=rA4 bO
   have G:=Qq (cW.out.thn bP)
   have cD:=Qq (Z9.move cC.out (.of_below bP) Qje)
   have bI:=Qq (kB G.out H2.out)
   have aP:=Qq (aM.out.thn G.out)
   obtain ⟨d4,d5,q0,q1⟩:=HC.out Y G.out
   have HI:=Qq (bU.out u.s Y G.out)
   rw [idx_two] at HI
   have eC:w.heap.size+1+1<Y.heap.size:=Z8 bI.out
   clear bN bP bO
   by_cases hs1:n1=u.s
   ·rw [if_pos hs1.symm] at A
    obtain rfl:r1=R:=A
    rw [if_pos hs1] at HI
    have HM:=Qq X9
    clear hs1 x4
    go_wp2_with (first
     | (go_at_call 142;refine (HM.out _).mono ?_;rintro e w' ⟨rfl,rfl⟩)
     | (go_at_call 127;refine HI.out.mono ?_;rintro e w' ⟨rfl,rfl⟩))
    cases r1 with
    | none=>
     refine (bV.out _ G.out).mono ?_
     rintro e w8 ⟨rfl,bQ⟩
     exact ⟨rfl,rfl,aP.out.thn bQ⟩
    | some r=>
     refine (bV.out _ G.out).mono ?_
     rintro e w4 ⟨cr,rfl,O,N⟩
     obtain ⟨q3,l3,q4,l4,D,_⟩:=Z9.cells O
     simp only [vcs] at D
     subst D
     have M:=kB N bI.out
     have bD:=Qq (aP.out.thn N)
     have bH:=Qq O
     have HR:=Qq M
     have fz:=fun j=>Qn _ _ j _ _ M
     obtain ⟨f0,f1,f2,f3,f4⟩:=Qjw fz
     have rr:=fun j=>Qk _ _ j _ _ _ M
     obtain ⟨r0,r1,r2,r3,r4⟩:=Qjw rr
     simp only [Qf,Qg,Qh] at r0 r1 r2 r3 r4
     clear fz rr O N M
     go_wp2_with fail
     show bodyPost _ _ _ _ _ (Cu w4 (w+1+1) r q3 l3 q4 l4)
     refine Q7 (v:=.agg (Cn r q3 l3 q4 l4)) (by simp [results,results103,go_sem,Ze HR.out]) rfl ⟨_,rfl,?_,Zc bD.out C7⟩
     exact Z9.move bH.out (fun b hb _=>Zf (by have:=hb.2.1;omega)) (fun _ _ h=>h.1)
   rw [if_neg (fun e=>hs1 e.symm)] at A
   rw [if_neg hs1] at HI
   by_cases hs2:n2=u.s
   ·rw [if_pos hs2.symm] at A
    rw [if_pos hs2] at HI
    have dV:(!List.isEmpty b2)=true:=by have h:=cZ.out;cases b2 with | nil=>exact absurd rfl h | cons _ _=>rfl
    by_cases hl:u.kids.length=1
    ·obtain ⟨x0,cM⟩:∃ x0,u.kids=[x0]:=List.length_eq_one_iff.1 hl
     rw [cM] at A
     have bZ:=Qq (show r2 x0=R from A)
     clear A
     obtain ⟨eH,eF,eI,eG,bA,_,cG,_⟩:=Z9.cells cD.out
     simp only [vcs,List.cons.injEq,Qr,and_true,true_and] at bA
     obtain ⟨⟨rfl,rfl⟩,rfl,rfl⟩:=bA
     obtain ⟨kb,dT,dN,rfl,dX,dW,_,bR,V⟩:=cG.elem (i:=0) (x:=x0) (by rw [cM];rfl)
     obtain ⟨z3,aI,z4,aJ,bB,_⟩:=Z9.cells (show Z9 _ _ dN x0 from bR)
     simp only [vcs] at bB
     subst bB
     have y0:=V 0 _ rfl;have y1:=V 1 _ rfl;have y2:=V 2 _ rfl;have y3:=V 3 _ rfl;have y4:=V 4 _ rfl
     simp only [show Zd.k=5 from rfl,Nat.add_zero,Nat.zero_mul] at y0 y1 y2 y3 y4
     rw [hl] at x4
     have v0:=rA0 ((kB G.out H1.out))
     have HM:=Qq X9
     have bW:=Qq (show Z9 _ Y (vcs x0 z3 aI z4 aJ) x0 from bR)
     clear hs1 hs2 bR V cG hl cD cC HU
     go_upto_region 52 with (first
      | (go_at_call 142;refine (HM.out _).mono ?_;rintro e w' ⟨rfl,rfl⟩)
      | (go_at_call 127;refine HI.out.mono ?_;rintro e w' ⟨rfl,rfl⟩))
     go_still_tail 10,Cd
     change wpList _ _ _ _ _ Y.drew
     have aO:=Qq (show Below Y Y Y.drew from (Qz _ _).drew)
     generalize Y.drew=w7 at aO
     clear x2 x4 y0 y1 y2 y3 y4 v0 d4 d5 q0 q1
     have aU:∀ o,(World.alloc w7 o).heap[w.heap.size+1]?=some (.cells #[.pointer q] 129 (0,0)):=fun o=>((G.out.thn (aO.out.thn (Zg w7 o))).block _ (Z8 H1.out)).trans H1.out
     have v0:=Qk _ _ 0 _ _ _ (aU (.cells #[.pointer q,b2,x0.kind,x0.n,x0.s,.slice z3 x0.names.length aI,.slice z4 x0.kids.length aJ] 131 (0,0)))
     have f0:=fA 0 (aU (.cells #[.pointer q,b2,x0.kind,x0.n,x0.s,.slice z3 x0.names.length aI,.slice z4 x0.kids.length aJ] 131 (0,0)))
     simp only [Qf,Qg] at v0
     have dC:=Qq aU
     clear aU
     go_upto_region 53 with fail
     generalize aD:World.alloc w7 _=w8
     have aN:Hid (Below Y Y w8):=Qq (by rw [<- aD];exact aO.out.thn (Zg _ _))
     have bJ:Hid (w8.heap[w7.heap.size]?=some (.cells #[.pointer q,b2,x0.kind,x0.n,x0.s,.slice z3 x0.names.length aI,.slice z4 x0.kids.length aJ] 131 (0,0))):=Qq (by rw [<- aD];exact Qw _ _)
     have cE:Hid (w8.heap[w.heap.size+1]?=some (.cells #[.pointer q] 129 (0,0))):=Qq (by rw [<- aD];exact dC.out _)
     rw [aD] at v0 f0
     clear aD
     generalize aE:World.setCell w8 _ _=w9
     have cH:w9.heap[w.heap.size+1]?=some (.cells #[Ch w7] 129 (0,0)):=by rw [<- aE];exact Qi _ _ _ _ _ _ cE.out
     have aG:∀ b,b≠w.heap.size+1->w9.heap[b]?=w8.heap[b]?:=fun b hb=>by rw [<- aE];exact Za hb
     have J:Below w w w9:=by rw [<- aE];exact (aM.out.thn (G.out.thn aN.out)).setCell (by show w<=w.heap.size+1;omega) _
     have eE:w9.heap.size=w8.heap.size:=by rw [<- aE];simp [World.setCell]
     clear aE v0 f0
     have dS:=aO.out.size
     have eD:w7.heap.size<w8.heap.size:=Z8 bJ.out
     have dB:Hid (w9.heap[w.heap.size+1+1]?=_):=Qq ((aG _ C7).trans (kB aN.out bI.out))
     have aW:=Qq J
     have hA:Uf (fun b=>S0 b/\b≠w+1+1/\b≠w+1) Y w9:=fun b hb dL=>(aG b hb.2.2).trans (aN.out.block b dL)
     have cJ:Xk (fun b=>S0 b/\b≠w+1+1/\b≠w+1+1) w9 (.pointer (some ⟨w7,0,none⟩)) ((b2,x0)::env):=.cons _ q b2 x0 z3 aI z4 aJ env ⟨cA.out _ C7,C7,C7⟩ ((aG _ C7).trans bJ.out) bT.out (Z9.move bW.out hA (fun b _ h=>⟨h.1,h.2.1,h.2.1⟩)) (HE.out.move (.of_below J) (fun b _ h=>⟨h.1,by have:=h.2;omega,by have:=h.2;omega⟩))
     have bF:=Qq (K9 w (w+1) 2 (fun b=>S0 b/\b≠w+1+1/\b≠w+1+1) S' kp kc [x,y,t] t (.pointer (some ⟨w7,0,none⟩)) ((b2,x0)::env) (r2 x0) w9
      (by rw [aR.out];exact (Qk _ _ 6 _ _ _ ((aG _ C7).trans (kB (G.out.thn aN.out) H0.out))).trans rfl) (by rw [aR.out];exact HK.out.below J) ((Qk _ _ 0 _ _ _ cH).trans rfl) (fun b hb=>⟨cA.out b C7,C7,C7⟩) (bX.out.below J) cJ rfl (HT.out x0))
     clear cH aG J hA cJ bW HE HK bJ cE
     rw [bZ.out] at bF
     clear bZ
     go_wp2_with fail
     cases R with
     | none=>
      refine (bF.out).mono ?_
      rintro e w8 ⟨rfl,bQ⟩
      exact ⟨rfl,rfl,aW.out.thn bQ⟩
     | some r=>
      refine (bF.out).mono ?_
      rintro e w4 ⟨cr,rfl,O,N⟩
      obtain ⟨q3,l3,q4,l4,D,_⟩:=Z9.cells O
      simp only [vcs] at D
      subst D
      have M:=kB N dB.out
      have bD:=Qq (aW.out.thn N)
      have bH:=Qq O
      have HR:=Qq M
      have fz:=fun j=>Qn _ _ j _ _ M
      obtain ⟨f0,f1,f2,f3,f4⟩:=Qjw fz
      have rr:=fun j=>Qk _ _ j _ _ _ M
      obtain ⟨r0,r1,r2,r3,r4⟩:=Qjw rr
      simp only [Qf,Qg,Qh] at r0 r1 r2 r3 r4
      clear fz rr O N M
      go_wp2_with fail
      show bodyPost _ _ _ _ _ (Cu w4 (w+1+1) r q3 l3 q4 l4)
      refine Q7 (v:=.agg (Cn r q3 l3 q4 l4)) (by simp [results,results103,go_sem,Ze HR.out]) rfl ⟨_,rfl,?_,Zc bD.out C7⟩
      exact Z9.move bH.out (fun b hb _=>Zf (by have:=hb.2.1;omega)) (fun _ _ h=>h.1)
    obtain rfl:none=R:=by
     rw [<- A];split
     ·exfalso;apply hl;rename_i h9;rw [h9];rfl
     rfl
    have HM:=Qq X9
    have cY:=Qq Fl
    have dY:((u.kids.length:Int)==1)=false:=by rw [beq_eq_false_iff_ne];omega
    clear hs1 hs2 A hl
    go_wp2_with (first
     | (go_at_call 142;refine (cY.out _).mono ?_;rintro e w' ⟨rfl,rfl⟩)
     | (go_at_call 142;refine (HM.out _).mono ?_;rintro e w' ⟨rfl,rfl⟩)
     | (go_at_call 127;refine HI.out.mono ?_;rintro e w' ⟨rfl,rfl⟩))
    exact ⟨rfl,rfl,aP.out⟩
   rw [if_neg (fun e=>hs2 e.symm)] at A
   obtain rfl:none=R:=A
   rw [if_neg hs2] at HI
   have HM:=Qq Fl
   clear hs1 hs2 x4
   go_wp2_with (first
    | (go_at_call 142;refine (HM.out _).mono ?_;rintro e w' ⟨rfl,rfl⟩)
    | (go_at_call 127;refine HI.out.mono ?_;rintro e w' ⟨rfl,rfl⟩))
   exact ⟨rfl,rfl,aP.out⟩
  have aS:=Qq (fun cu W (hu:Z9 (fun b=>S0 b/\b≠w+1+1/\b≠w+1) W cu u)=>of_no 3 _ u cu W hu hk)
  obtain rfl:none=R:=by rw [<- M];unfold Mi;dsimp only;rw [if_neg hk]
  clear M hk
  go_wp2_with (first
   | (go_at_call 139;refine (aS.out _ _ HU.out).mono ?_;rintro e w5 ⟨rfl,hb⟩)
   | (go_at_call 140;refine (aA.out _ (Qz _ _)).mono ?_;rintro e w4 ⟨cu,rfl,hu,hb⟩;obtain ⟨a3,dD,a4,dE,D,_⟩:=Z9.cells hu;simp only [vcs] at D;subst D;have HU:=Qq hu;have Z:=Qq ((Qz T T).thn hb);clear hu hb;clear aA))
  exact ⟨rfl,rfl,aM.out.thn (Z.out.thn hb)⟩
end Go.Proofs.YtcljcblceodciaaGreatDoor

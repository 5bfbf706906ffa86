import Derived.Test.YtcljcblceodciaaGreatDoorU32
set_option maxRecDepth 100000
set_option maxHeartbeats 400000000
namespace Go.Proofs.YtcljcblceodciaaGreatDoor
open Go.RowKit Go.Shelf Go.Lib Tryz
theorem Wi (S:Nat->Prop) (v:Value) (l:List Int) (w:World) (hs:Xd S w v l) (hi:Uh l) (hk:Yl l 0 13=6):
  Calls prog 26 #[v,Ci] w (Uo w (Gen.check 6)):=by
 have HP:=Qq (fun W (hb:Below w w W)=>Yn S v l 0 13 W (hs.below hb) hi C7 C7)
 rw [hk] at HP
 obtain ⟨p,cap,rfl,_⟩:=hs.len
 clear hs hi hk
 go_enter func26,ntmps26
 go_upto_region 8 with fail
 generalize aH:(((((((w.alloc _).alloc _).alloc _).alloc _).alloc _).alloc _).alloc _).alloc _=W8
 have bC:=eqB aH (Yj (Yj (Yj (Yj (Yj (Yj (Yj (Zg w _) _) _) _) _) _) _) _)
 have bX:W8=w.heap.size+8:=by rw [<- aH];simp
 have r8:=eqH (b:=w.heap.size) aH (Zb (Zb (Zb (Zb (Zb (Zb (Zb (Y3 rfl _) _) _) _) _) _) _) _)
 have D:=(((Yp.row (show W8.heap[w.heap.size+1+1+1+1+1]?=some (.cells #[.int .i64 3,.string ⟨#[101]⟩,Ci,Cl,Cm,Cm,Cm,Ci,Ci] 46 (0,0)) from by rw [<- aH];exact Zb (Zb (Y3 Ca _) _) _)).app (Yp.row (show W8.heap[w.heap.size+1+1+1+1+1+1+1]?=some (.cells #[.int .i64 2,Cl,.int .i64 1,Cl,Cm,Cm,Cm,Ci,Ci] 46 (0,0)) from by rw [<- aH];exact Y3 Ca _))).app (Yp.row (show W8.heap[w.heap.size+1+1]?=some (.cells #[.int .i64 3,.string ⟨#[98]⟩,Ci,Cl,Cm,Cm,Cm,Ci,Ci] 46 (0,0)) from by rw [<- aH];exact Zb (Zb (Zb (Zb (Zb (Y3 Ca _) _) _) _) _) _)))
 have hG:=(U6 (U6 (X8 (show w<w.heap.size+1+1+1+1+1 by omega) (.int .i64 3) (.string ⟨#[101]⟩) (.int .i64 0) (.string ⟨#[]⟩) (.slice none 0 0) (.slice none 0 0) (.slice none 0 0) (.int .i64 0) (.int .i64 0)) (X8 (show w<w.heap.size+1+1+1+1+1+1+1 by omega) (.int .i64 2) (.string ⟨#[]⟩) (.int .i64 1) (.string ⟨#[]⟩) (.slice none 0 0) (.slice none 0 0) (.slice none 0 0) (.int .i64 0) (.int .i64 0))) (X8 (show w<w.heap.size+1+1 by omega) (.int .i64 3) (.string ⟨#[98]⟩) (.int .i64 0) (.string ⟨#[]⟩) (.slice none 0 0) (.slice none 0 0) (.slice none 0 0) (.int .i64 0) (.int .i64 0)))
 have aU:=Qq bC;have Z:=Qq r8
 clear aH bC r8 bX
 go_upto_region 20 with (go_at_call 27;refine (HP.out _ aU.out).mono ?_;rintro e w' ⟨rfl,rfl⟩)
 refine let_mvar% ?Lq1:=fun w':World=>(Qjh w' (w+1+1+1+1+1) (.int .i64 3) (.string ⟨#[101]⟩) Ci Cl Cm Cm Cm Ci Ci ((Qjh w' (w+1+1+1+1+1+1+1) (.int .i64 2) Cl (.int .i64 1) Cl Cm Cm Cm Ci Ci ((Qjo w' (w+1+1) (.int .i64 3) (.string ⟨#[98]⟩) Ci Cl Cm Cm Cm Ci Ci:Prop)):Prop)):Prop);?_
 have HS:=Qq (fun w' (h:Yp (J0 (w+1+1+1+1+1) (.int .i64 3) (.string ⟨#[101]⟩) (.int .i64 0) (.string ⟨#[]⟩) (.slice none 0 0) (.slice none 0 0) (.slice none 0 0) (.int .i64 0) (.int .i64 0)++J0 (w+1+1+1+1+1+1+1) (.int .i64 2) (.string ⟨#[]⟩) (.int .i64 1) (.string ⟨#[]⟩) (.slice none 0 0) (.slice none 0 0) (.slice none 0 0) (.int .i64 0) (.int .i64 0)++J0 (w+1+1) (.int .i64 3) (.string ⟨#[98]⟩) (.int .i64 0) (.string ⟨#[]⟩) (.slice none 0 0) (.slice none 0 0) (.slice none 0 0) (.int .i64 0) (.int .i64 0)) w')=>(show ?Lq1 w' from Yp.spread h))
 have HG:=Qq hG
 have aX:=Qq (fun w' z0 z1 z2 z3 z4 z5 z6 z7 z8 (h:Yp _ w')=>HS.out _ (h.put9 HG.out z0 z1 z2 z3 z4 z5 z6 z7 z8))
 unfold put9 at aX
 have G:=aU
 clear hG
 obtain ⟨aK,aE,aD,aL,aM⟩:=Qjk True.intro True.intro True.intro True.intro True.intro
 go_region_held3 ?Lq1 (first | with_reducible exact HS.out _ D | with_reducible exact HS.out _ D.drew | with_reducible exact HS.out _ (D.alloc _) | with_reducible exact HS.out _ (D.alloc _).drew | with_reducible exact HS.out _ ((D.alloc _).alloc _) | with_reducible exact HS.out _ ((D.alloc _).alloc _).drew | with_reducible exact HS.out _ (((D.alloc _).alloc _).alloc _) | with_reducible exact aX.out _ _ _ _ _ _ _ _ _ _ D)
  (first
   | (have hn:=I.out;clear hn;(repeat (first
      | (have hk:=aE.out;clear aE hk;generalize aB:World.alloc _ (Obj.cells #[.string ⟨#[82,101,100]⟩,.string ⟨#[68,97,114,107]⟩] 9 _)=WN;have Y:=Vb aB;have aP:=J2 aB;have aR:=Dj aB Z.out;have O:=D.later Y;clear D;have D:=O;clear O;have N:=Qq (Ye Y Z.out);clear Z;have Z:=N;clear N;have J:=Qq (G.out.thn Y);clear G;have G:=J;clear J;(try (have A:=Qq (Ye Y T.out);clear T;have T:=A;clear A));(try (have A:=Qq (Ye Y M.out);clear M;have M:=A;clear A));(try (have A:=Qq (I.out.move (.of_below Y) Qje);clear I;have I:=A;clear A));obtain ⟨U,aW,aG⟩:=Qjq aP aR (F9 aB);clear aB Y aP aR)
      | (have hk:=aD.out;clear aD hk;generalize aA:World.alloc _ (Obj.cells #[Cl,.string ⟨#[110]⟩] 9 _)=WB;have V:=Vb aA;have aO:=J2 aA;have aQ:=Dj aA Z.out;have O:=D.later V;clear D;have D:=O;clear O;have N:=Qq (Ye V Z.out);clear Z;have Z:=N;clear N;have J:=Qq (G.out.thn V);clear G;have G:=J;clear J;(try (have A:=Qq (Ye V U.out);clear U;have U:=A;clear A));(try (have A:=Qq (Ye V M.out);clear M;have M:=A;clear A));(try (have A:=Qq (I.out.move (.of_below V) Qje);clear I;have I:=A;clear A));obtain ⟨T,aV,aF⟩:=Qjq aO aQ (F9 aA);clear aA V aO aQ)
      | (have hn:=I.out;clear hn;have hk:=aL.out;clear aL hk;generalize aN:World.alloc _ (Obj.cells #[.int .i64 3,.string ⟨#[101]⟩,Ci,Cl,Cm,Cm,Cm,Ci,Ci,.int .i64 2,Cl,.int .i64 1,Cl,Cm,Cm,Cm,Ci,Ci,bM,.string bO,bN,.string bP,.slice bI bR bU,.slice bJ bS bV,.slice bK bT bW,bL,bQ] 46 _)=WK;have aI:=Vb aN;have bD:=J2 aN;have bE:=Dj aN Z.out;have O:=D.later aI;clear D;have D:=O;clear O;have N:=Qq (Ye aI Z.out);clear Z;have Z:=N;clear N;have J:=Qq (G.out.thn aI);clear G;have G:=J;clear J;(try (have A:=Qq (Ye aI U.out);clear U;have U:=A;clear A));(try (have A:=Qq (Ye aI T.out);clear T;have T:=A;clear A));(try (have A:=Qq (I.out.move (.of_below aI) Qje);clear I;have I:=A;clear A));obtain ⟨M,bH,aJ⟩:=Qjq bD bE (F9 aN);clear aN aI bD bE)
      | fail));have hn:=U.out;clear hn;have hn:=T.out;clear hn;have hn:=M.out;clear hn;have hk:=aM.out;clear aM hk;obtain ⟨⟨f0,f1,f2,f3,f4,f5,f6,f7,f8⟩,y0,y1,y2,y3,y4,y5,y6,y7,y8⟩:=Tc Z.out;go_simp)
   | (have hk:=aK.out;go_at_call 84;(repeat (first
      | (have hk:=aE.out;clear aE hk;generalize aB:World.alloc _ (Obj.cells #[.string ⟨#[82,101,100]⟩,.string ⟨#[68,97,114,107]⟩] 9 _)=WN;have Y:=Vb aB;have aP:=J2 aB;have aR:=Dj aB Z.out;have O:=D.later Y;clear D;have D:=O;clear O;have N:=Qq (Ye Y Z.out);clear Z;have Z:=N;clear N;have J:=Qq (G.out.thn Y);clear G;have G:=J;clear J;(try (have A:=Qq (Ye Y T.out);clear T;have T:=A;clear A));(try (have A:=Qq (Ye Y M.out);clear M;have M:=A;clear A));(try (have A:=Qq (I.out.move (.of_below Y) Qje);clear I;have I:=A;clear A));obtain ⟨U,aW,aG⟩:=Qjq aP aR (F9 aB);clear aB Y aP aR)
      | (have hk:=aD.out;clear aD hk;generalize aA:World.alloc _ (Obj.cells #[Cl,.string ⟨#[110]⟩] 9 _)=WB;have V:=Vb aA;have aO:=J2 aA;have aQ:=Dj aA Z.out;have O:=D.later V;clear D;have D:=O;clear O;have N:=Qq (Ye V Z.out);clear Z;have Z:=N;clear N;have J:=Qq (G.out.thn V);clear G;have G:=J;clear J;(try (have A:=Qq (Ye V U.out);clear U;have U:=A;clear A));(try (have A:=Qq (Ye V M.out);clear M;have M:=A;clear A));(try (have A:=Qq (I.out.move (.of_below V) Qje);clear I;have I:=A;clear A));obtain ⟨T,aV,aF⟩:=Qjq aO aQ (F9 aA);clear aA V aO aQ)
      | fail));refine (V0 w [60] _ _ _ _ _ Ca (by exact (Yk 3 [110] 0 [] Ca Ca)) (by exact (Yk 3 [98] 0 [] Ca Ca)) (by exact Z8 Z.out)).mono ?_;rintro e W1 ⟨bM,bO,bN,bP,bI,bR,bU,bJ,bS,bV,bK,bT,bW,bL,bQ,rfl,bF,aC⟩;clear aK hk;(try (have bB:=Vh aC;clear aC;have aC:=bB;clear bB));have O:=D.later aC;clear D;have D:=O;clear O;have N:=Qq (Ye aC Z.out);clear Z;have Z:=N;clear N;have J:=Qq (G.out.thn aC);clear G;have G:=J;clear J;(try (have A:=Qq (Ye aC U.out);clear U;have U:=A;clear A));(try (have A:=Qq (Ye aC T.out);clear T;have T:=A;clear A));(try (have A:=Qq (Ye aC M.out);clear M;have M:=A;clear A));have I:=Qq bF;clear bF aC)
   | fail)
 all_goals
  go_wp2_with fail
  show bodyPost _ _ _ _ _ (put9 _ w (.int .i64 13) Cl Ci Cl (Cg _ 0 2 2) (Cg _ 0 2 2) (Cg _ 0 3 3) Ci Ci)
  exact Q7 (v:=.agg #[.int .i64 13,Cl,Ci,Cl,Cg _ 0 2 2,Cg _ 0 2 2,Cg _ 0 3 3,Ci,Ci]) (by simp [results,results26,go_sem,Xb Z.out]) rfl (U3 (Xj (nm:=[]) (s:=[]) Ca Ca (Y2 (xs:=[[82,101,100],[68,97,114,107]]) (Pc U.out (by have h1:=aG.out;have h2:=aF.out;have h3:=aJ.out;omega)) (by have A:=aW.out;have h1:=aG.out;have h2:=aF.out;have h3:=aJ.out;show w.heap.size<_;omega) (N6 _ _ [82,101,100] [68,97,114,107] Ca Ca) rfl rfl Ca) (Y2 (xs:=[[],[110]]) (Pc T.out (by have h1:=aG.out;have h2:=aF.out;have h3:=aJ.out;omega)) (by have A:=aV.out;have h1:=aG.out;have h2:=aF.out;have h3:=aJ.out;show w.heap.size<_;omega) (N6 _ _ [] [110] Ca Ca) rfl rfl Ca) (Y2 (xs:=[Gen.e,Gen.yes,Gen.op [60] [Gen.var [110],Gen.b]]) (Pc M.out (by have h1:=aG.out;have h2:=aF.out;have h3:=aJ.out;omega)) (by have A:=bH.out;have h1:=aG.out;have h2:=aF.out;have h3:=aJ.out;show w.heap.size<_;omega) (((Cs.one (r:=Xp) (Yk 3 [101] 0 [] Ca Ca)).app (Cs.one (r:=Xp) (Yk 2 [] 1 [] Ca Ca))).app (Cs.one (r:=Xp) I.out)) rfl rfl Ca)) G.out rfl)
theorem Nu (S:Nat->Prop) (v:Value) (l:List Int) (k:Nat) (two ref third:Bool) (w:World) (hs:Xd S w v l) (hi:Uh l)
  (hC:∀ W,Below w w W->Calls prog 26 #[v,Ci] W (Uo W (Gen.check k)))
  (h1:two=(Yl l 1 3==0)) (h2:ref=decide (0<Yl l 2 3)) (h3:third=(Yl l 3 2==0)):
  Calls prog 6 #[v] w (NewSc w (Gen.schema k two ref third)):=by
 have HP:=Qq (fun (i:Nat) (m:Int) (hm:1<=m) (hm2:m<=1000000000) W (hb:Below w w W)=>Yn S v l i m W (hs.below hb) hi hm hm2)
 have HC:=Qq hC
 obtain ⟨z1,cY⟩:=eX (Yl l 1 3)
 obtain ⟨z2,cZ⟩:=eX (Yl l 2 3)
 obtain ⟨z3,dA⟩:=eX (Yl l 3 2)
 have fW:Hid (∀ W,Below w w W->Calls prog 27 #[v,.int .i64 1,.int .i64 3] W fun e w'=>e=.returned (.int .i64 z1)/\W=w'):=Qq (fun W hb=>by have:=HP.out 1 3 C7 C7 W hb;rw [cY] at this;exact this)
 have fX:Hid (∀ W,Below w w W->Calls prog 27 #[v,.int .i64 2,.int .i64 3] W fun e w'=>e=.returned (.int .i64 z2)/\W=w'):=Qq (fun W hb=>by have:=HP.out 2 3 C7 C7 W hb;rw [cZ] at this;exact this)
 have fY:Hid (∀ W,Below w w W->Calls prog 27 #[v,.int .i64 3,.int .i64 2] W fun e w'=>e=.returned (.int .i64 z3)/\W=w'):=Qq (fun W hb=>by have:=HP.out 3 2 C7 C7 W hb;rw [dA] at this;exact this)
 rw [cY] at h1;rw [cZ] at h2;rw [dA] at h3
 obtain ⟨H1,H2,H3⟩:=Qjq h1 h2 h3
 obtain ⟨p,cap,rfl,_⟩:=hs.len
 clear hs hi hC h1 h2 h3 HP cY cZ dA
 obtain ⟨i0,j1,j2,j3,j4⟩:=Y7 (P:=prog) (t:=48) (z:=.agg zT) (n:=13) (b:=224) Cd
 obtain ⟨HJ,fL,fM,fN⟩:=Qjz j1 j2 j3 j4
 clear j1 j2 j3 j4
 go_enter func6,ntmps6
 go_upto_region 4 with fail
 generalize D:World.alloc (World.alloc (World.alloc (World.alloc (World.alloc w _) _) _) _) _=W3
 have bK:=eqB D (Yj (Yj (Yj (Yj (Zg w _) _) _) _) _)
 have cH:W3=w.heap.size+5:=by rw [<- D];simp
 have g0:=eqH (b:=w.heap.size) D (Zb (Zb (Zb (Zb (Y3 rfl _) _) _) _) _)
 have g1:=eqH (b:=w.heap.size+1) D (Zb (Zb (Zb (Y3 Ca _) _) _) _)
 have g2:=eqH (b:=w.heap.size+1+1) D (Zb (Zb (Y3 Ca _) _) _)
 have g3:=eqH (b:=w.heap.size+1+1+1) D (Zb (Y3 Ca _) _)
 have g4:=eqH (b:=w.heap.size+1+1+1+1) D (Y3 Ca _)
 clear D
 have fI:=Qq (HC.out (W3.alloc (.cells #[.string ⟨#[97]⟩] 9)) (Yj bK _))
 have hk:=Y3 rfl (W:=W3) (.cells #[.string ⟨#[97]⟩] 9)
 have aC:=Qq cH
 obtain ⟨G0,G1,G2,G3,G4,GK,fG⟩:=Qjx g0 g1 g2 g3 g4 hk bK
 clear g0 g1 g2 g3 g4 hk bK cH
 go_upto_region 5 with (go_at_call 26;refine fI.out.mono ?_;rintro e I ⟨hQ,rfl,bM,eI⟩;obtain ⟨aJ,aL,aK,aM,aF,aO,aR,aG,aP,aS,aH,aQ,aT,aI,aN,eJ⟩:=Yx.cells bM;subst eJ;have fK:=Qq bM;have V:=Qq eI;clear bM eI)
 have hJ:w.heap.size+6<=I.heap.size:=by have:=V.out.size;have:=aC.out;simp at *;omega
 have cW:W3.heap.size<I.heap.size:=by have:=V.out.size;simp at this;omega
 have q0:=J9 V.out (by simp;have:=aC.out;omega) (Zb G0.out _);have q1:=J9 V.out (by simp;have:=aC.out;omega) (Zb G1.out _);have q2:=J9 V.out (by simp;have:=aC.out;omega) (Zb G2.out _);have q3:=J9 V.out (by simp;have:=aC.out;omega) (Zb G3.out _);have q4:=J9 V.out (by simp;have:=aC.out;omega) (Zb G4.out _);have qk:=J9 V.out Ca GK.out
 have u0:=Z8 q0;have u1:=Z8 q1;have u2:=Z8 q2;have u4:=Z8 q4
 have bG:=Qq ((Yj fG.out _).thn V.out)
 obtain ⟨Q0,Q1,Q2,Q3,Q4,QK⟩:=Qjv q0 q1 q2 q3 q4 qk
 obtain ⟨a0,a1,a2,a3,a4⟩:=row5 q1
 obtain ⟨c0,c1,c2,c3,c4⟩:=row5 q2
 clear q0 q1 q2 q3 q4 qk
 go_upto_if 35 with (go_at_call 27;refine (fW.out _ (Yj (Yj bG.out _) _)).mono ?_;rintro e w' ⟨rfl,rfl⟩)
 generalize D:World.alloc (World.alloc I _) _=W6
 have cG:=eqB D (Yj (Zg I _) _)
 have cI:W6=I.heap.size+2:=by rw [<- D];simp
 have k0:=eqH (b:=I.heap.size) D (Zb (Y3 rfl _) _)
 have k1:=eqH (b:=I.heap.size+1) D (Y3 Ca _)
 clear D
 obtain ⟨cO,dL,cM,hM⟩:=Qjz k0 k1 cG cI
 have hI:I.heap.size+1<W6.heap.size:=C7
 clear k0 k1 cG cI
 go_cut [] from 34 (fun wx=>∃ kp kn kc,wx.heap[I.heap.size]?=some (.cells #[.string ⟨#[116]⟩,Cg (I+1) 0 5 5,.slice kp kn kc,Cm,aJ,.string aL,aK,.string aM,.slice aF aO aR,.slice aG aP aS,.slice aH aQ aT,aI,aN] 48 (0,0))/\wx.heap[I.heap.size+1]?=some (.cells #[.string ⟨#[97]⟩,Ci,Cl,Ci,Cm,Cm,.string ⟨#[98]⟩,Ci,Cl,Ci,Cm,Cm,.string ⟨#[99]⟩,.int .i64 1,Cl,Ci,Cm,Cm,.string ⟨#[100]⟩,.int .i64 2,Cl,Ci,Cm,Cm,.string ⟨#[101]⟩,.int .i64 3,.string ⟨#[72,117,101]⟩,Ci,Cm,Cm] 76 (0,0))/\Sl Zh (fun x=>w<x/\x≠I) wx (.slice kp kn kc) (if two then [[98],[97]] else [[97]]:List Bs)/\Below I I wx/\I+2<=wx.heap.size)
 case first=>
  by_cases ht:z1=0
  ·have h1:two=true:=by rw [H1.out,ht];rfl
   have hq:(z1==0)=true:=by rw [ht];rfl
   have k0:=cO.out
   have f2:=fA 2 k0;have y2:=rA2 k0
   have gM:=Z8 k0
   have eP:I.heap.size≠W6.heap.size:=C7
   clear k0
   go_wp2_with fail
   go_meet
   generalize Y:W6.setCell _ _=WX
   have hx:WX.heap[I.heap.size]?=some (.cells #[.string ⟨#[116]⟩,Cg (I+1) 0 5 5,Cg W6 0 2 2,Cm,aJ,.string aL,aK,.string aM,.slice aF aO aR,.slice aG aP aS,.slice aH aQ aT,aI,aN] 48 (0,0)):=by rw [<- Y,Qi _ _ _ _ _ _ cO.out];rfl
   have gR:WX.heap[I.heap.size+1]?=some (.cells #[.string ⟨#[97]⟩,Ci,Cl,Ci,Cm,Cm,.string ⟨#[98]⟩,Ci,Cl,Ci,Cm,Cm,.string ⟨#[99]⟩,.int .i64 1,Cl,Ci,Cm,Cm,.string ⟨#[100]⟩,.int .i64 2,Cl,Ci,Cm,Cm,.string ⟨#[101]⟩,.int .i64 3,.string ⟨#[72,117,101]⟩,Ci,Cm,Cm] 76 (0,0)):=by rw [<- Y,Za (show I+1≠I.heap.size by omega)];exact dL.out
   have dB:WX.heap.size=W6.heap.size:=by rw [<- Y];simp [World.setCell]
   have cS:Below I I WX:=by rw [<- Y];exact cM.out.setCell (p:=⟨I,2,none⟩) (Q9 _) _
   rw [h1]
   exact ⟨_,_,_,Zb hx _,Zb gR _,Y2 (Y3 dB _) ⟨C7,C7⟩ (N6 _ _ [98] [97] Ca Ca) rfl rfl Ca,cS.alloc C7 _,by simp;omega⟩
  have h1:two=false:=by rw [H1.out];simpa using ht
  have hq:(z1==0)=false:=by simpa using ht
  go_wp2_with fail
  go_meet
  rw [h1]
  exact ⟨_,_,_,cO.out,dL.out,Y2 (J9 cM.out cW QK.out) ⟨by have:=aC.out;omega,C7⟩ (Ky [97] Ca) rfl rfl Ca,cM.out,C7⟩
 obtain ⟨kp,kn,kc,hT,eC,eD,hB,hZ⟩:=hcut
 obtain ⟨T,rfl⟩:∃ T,T=wc:=⟨_,rfl⟩
 obtain ⟨HT,fJ,fT,fH⟩:=Qjz hT eC eD hB;have hU:I.heap.size+2<=T.heap.size:=hZ
 have dK:=Qq (bG.out.thn hB)
 have q1:=J9 hB u1 Q1.out;have q2:=J9 hB u2 Q2.out;have q4:=J9 hB u4 Q4.out
 have t0:=Z8 q1;have t2:=Z8 q2
 clear a0 a1 a2 a3 a4 c0 c1 c2 c3 c4 hT eC eD hB hZ u0 u1 u2 u4
 obtain ⟨a0,a1,a2,a3,a4⟩:=row5 q1
 obtain ⟨c0,c1,c2,c3,c4⟩:=row5 q2
 have hO:=Qq q1;have hP:=Qq q4
 clear q1 q2 q4
 go_upto_if 48 with (go_at_call 27;refine (fX.out _ (Yj (Yj (Yj dK.out _) _) _)).mono ?_;rintro e w' ⟨rfl,rfl⟩)
 generalize D:World.alloc (World.alloc (World.alloc T _) _) _=W9
 have bA:=eqB D (Yj (Yj (Zg T _) _) _)
 have cJ:W9=T.heap.size+3:=by rw [<- D];simp
 have k2:=eqH (b:=T.heap.size) D (Zb (Zb (Y3 rfl _) _) _)
 have k3:=eqH (b:=T.heap.size+1) D (Zb (Y3 Ca _) _)
 have k4:=eqH (b:=T.heap.size+1+1) D (Y3 Ca _)
 clear D
 obtain ⟨fO,fP,fQ,dJ,hN⟩:=Qjk k2 k3 k4 bA cJ
 have cQ:=Qq (kB bA HT.out)
 have hW:T.heap.size+3<=W9.heap.size:=C7
 have cC:=Qq (fH.out.trans (bA.mono C7))
 clear k2 k3 k4 bA cJ
 go_cut [] from 47 (fun wx=>∃ rp rn rc,wx.heap[I.heap.size]?=some (.cells #[.string ⟨#[116]⟩,Cg (I+1) 0 5 5,.slice kp kn kc,.slice rp rn rc,aJ,.string aL,aK,.string aM,.slice aF aO aR,.slice aG aP aS,.slice aH aQ aT,aI,aN] 48 (0,0))/\Sl Kz (fun x=>w<x/\x≠I) wx (.slice rp rn rc) (if ref then [⟨[98],[117]⟩] else []:List Rf)/\(∀ c,c≠I.heap.size->c<W9.heap.size->wx.heap[c]?=W9.heap[c]?)/\Below I I wx/\W9<=wx.heap.size)
 case first=>
  by_cases ht:0<z2
  ·have h2:ref=true:=by rw [H2.out];simpa using ht
   have k0:=cQ.out
   have f3:=fA 3 k0;have y3:=rA3 k0
   have gM:=Z8 k0
   have eP:I.heap.size≠W9.heap.size:=C7
   clear k0
   go_wp2_with fail
   go_meet
   generalize Y:W9.setCell _ _=WX
   have hx:WX.heap[I.heap.size]?=some (.cells #[.string ⟨#[116]⟩,Cg (I+1) 0 5 5,.slice kp kn kc,Cg W9 0 1 1,aJ,.string aL,aK,.string aM,.slice aF aO aR,.slice aG aP aS,.slice aH aQ aT,aI,aN] 48 (0,0)):=by rw [<- Y,Qi _ _ _ _ _ _ cQ.out];rfl
   have dB:WX.heap.size=W9.heap.size:=by rw [<- Y];simp [World.setCell]
   have gN:∀ c,c≠I.heap.size->WX.heap[c]?=W9.heap[c]?:=fun c hc=>by rw [<- Y,Za hc]
   have cS:Below I I WX:=by rw [<- Y];exact cC.out.setCell (p:=⟨I,3,none⟩) (Q9 _) _
   rw [h2]
   exact ⟨_,_,_,Zb hx _,Y2 (r:=Kz) (xs:=[(⟨[98],[117]⟩:Rf)]) (Y3 dB _) ⟨C7,C7⟩ (Cs.one (r:=Kz) (x:=(⟨[98],[117]⟩:Rf)) (c:=[.string ⟨#[98]⟩,.string ⟨#[117]⟩]) ⟨rfl,Ca,Ca⟩) rfl rfl Ca,fun c h1 h2=>((Zg WX _).block c C7).trans (gN c h1),cS.alloc C7 _,by simp;omega⟩
  have h2:ref=false:=by rw [H2.out];simpa using ht
  go_wp2_with fail
  go_meet
  rw [h2]
  exact ⟨_,_,_,cQ.out,Sl.nil _ _ _,fun c _ _=>rfl,cC.out,Q9 _⟩
 obtain ⟨rp,rn,rc,hT,eE,M,hB,hZ⟩:=hcut
 obtain ⟨A,rfl⟩:∃ A,A=wc:=⟨_,rfl⟩
 have eB:A.heap[I.heap.size+1]?=some (.cells #[.string ⟨#[97]⟩,Ci,Cl,Ci,Cm,Cm,.string ⟨#[98]⟩,Ci,Cl,Ci,Cm,Cm,.string ⟨#[99]⟩,.int .i64 1,Cl,Ci,Cm,Cm,.string ⟨#[100]⟩,.int .i64 2,Cl,Ci,Cm,Cm,.string ⟨#[101]⟩,.int .i64 3,.string ⟨#[72,117,101]⟩,Ci,Cm,Cm] 76 (0,0)):=(M _ C7 C7).trans (kE dJ.out C7 fJ.out)
 have eS:A.heap[T.heap.size]?=some (.cells #[.string ⟨#[107]⟩,Ci,Cl,Ci,Cm,Cm,.string ⟨#[110]⟩,.int .i64 1,Cl,Ci,Cm,Cm] 76 (0,0)):=(M _ C7 C7).trans fO.out
 have eT:A.heap[T.heap.size+1]?=some (.cells #[.string ⟨#[107]⟩] 9 (0,0)):=(M _ C7 C7).trans fP.out
 have cX:A.heap[T.heap.size+1+1]?=some (.cells #[.string ⟨#[117]⟩,Cg T 0 2 2,Cg (T+1) 0 1 1,Cm,.int .i64 2,Cl,.int .i64 1,Cl,Cm,Cm,Cm,Ci,Ci] 48 (0,0)):=(M _ C7 C7).trans fQ.out
 have eN:Sl Zh (fun x=>w<x/\x≠I) A (.slice kp kn kc) (if two then [[98],[97]] else [[97]]:List Bs):=fT.out.frame (fun c hc aW=>(M c hc.2 C7).trans (dJ.out.block c aW))
 have hue:=J9 hB (Z8 Q4.out) Q4.out;have bC:=J9 hB (Z8 Q1.out) Q1.out;have eK:=J9 hB (Z8 Q3.out) Q3.out;have O:=J9 hB (Z8 Q0.out) Q0.out
 have eG:Zm.R (fun x=>w<x/\x<A) A [.string ⟨#[116]⟩,Cg (I+1) 0 5 5,.slice kp kn kc,.slice rp rn rc,aJ,.string aL,aK,.string aM,.slice aF aO aR,.slice aG aP aS,.slice aH aQ aT,aI,aN] ⟨[116],[⟨[97],Gen.whole⟩,⟨[98],Gen.whole⟩,⟨[99],Gen.text⟩,⟨[100],Gen.yesno⟩,⟨[101],Gen.hueT⟩],if two then [[98],[97]] else [[97]],if ref then [⟨[98],[117]⟩] else [],Gen.check k⟩:=by
  refine ⟨_,_,_,_,rfl,Ca,?_,eN.mono (fun c hb h=>⟨h.1,hb⟩),eE.mono (fun c hb h=>⟨h.1,hb⟩),(fK.out.move (.of_below hB) (fun c hb h=>⟨by have h':(W3.alloc (.cells #[.string ⟨#[97]⟩] 9)).heap.size<=c:=h;have:=aC.out;simp at h';omega,C7⟩))⟩
  exact Y2 eB ⟨C7,C7⟩ (((((Cs.one (r:=X6) (Vn [97] 0 [] Ca Ca)).app (Cs.one (r:=X6) (Vn [98] 0 [] Ca Ca))).app (Cs.one (r:=X6) (Vn [99] 1 [] Ca Ca))).app (Cs.one (r:=X6) (Vn [100] 2 [] Ca Ca))).app (Cs.one (r:=X6) (Vn [101] 3 [72,117,101] Ca Ca))) rfl rfl Ca
 have eH:Zm.R (fun x=>w<x/\x<A) A [.string ⟨#[117]⟩,Cg T 0 2 2,Cg (T+1) 0 1 1,Cm,.int .i64 2,Cl,.int .i64 1,Cl,Cm,Cm,Cm,Ci,Ci] ⟨[117],[⟨[107],Gen.whole⟩,⟨[110],Gen.text⟩],[[107]],[],Gen.yes⟩:=by
  refine ⟨_,_,_,_,rfl,Ca,?_,?_,Sl.nil _ _ _,Lm _ _ none none none 0 0 0⟩
  ·exact Y2 eS ⟨C7,C7⟩ ((Cs.one (r:=X6) (Vn [107] 0 [] Ca Ca)).app (Cs.one (r:=X6) (Vn [110] 1 [] Ca Ca))) rfl rfl Ca
  exact Y2 eT ⟨C7,C7⟩ (Ky [107] Ca) rfl rfl Ca
 obtain ⟨dU,dV,hD,bW,fZ,gA⟩:=Qjv eG eH hB eK O bC
 have bE:=Qq (bG.out.thn hB)
 have z0:=Z8 hT;have z2:=Z8 cX;have z4:=Z8 hue;have z5:=Z8 O
 clear a0 a1 a2 a3 a4 c0 c1 c2 c3 c4 eG eH eB eS eT eN eE M hB eK O bC t0 t2
 obtain ⟨p0,p1,p2,p3,p4,p5,p6,p7,p8,p9,gU,gV,gW⟩:=row13 hT
 obtain ⟨q0,q1,q2,q3,q4,q5,q6,q7,q8,q9,gX,gY,gZ⟩:=row13 cX
 obtain ⟨m0,m1⟩:=row2 hue
 clear hT cX hue
 go_upto_if 60 with (go_at_call 27;refine (fY.out _ (Yj (Yj (Yj bE.out _) _) _)).mono ?_;rintro e w' ⟨rfl,rfl⟩)
 generalize D:World.alloc (World.alloc (World.alloc A _) _) _=G
 have aA:=eqB D (Yj (Yj (Zg A _) _) _)
 have bP:G=A.heap.size+3:=by rw [<- D];simp
 have k5:=eqH (b:=A.heap.size) D (Zb (Zb (Y3 rfl _) _) _)
 have k6:=eqH (b:=A.heap.size+1) D (Zb (Y3 Ca _) _)
 have k7:=eqH (b:=A.heap.size+1+1) D (Y3 Ca _)
 clear D
 obtain ⟨dN,dO,cP,aB,hF⟩:=Qjk k5 k6 k7 aA bP
 have bF:=Qq (bE.out.thn aA)
 have hK:A.heap.size+3<=G.heap.size:=C7
 have O:=kE aA z5 fZ.out
 have y0:=Qk _ _ 0 _ _ _ O;have y1:=Qk _ _ 1 _ _ _ O;have dZ:=fA 0 O;have eA:=fA 1 O
 simp only [Qf,Qg,Qh] at y0 y1
 have cD:=Qq O
 clear aA bP O p0 p1 p2 p3 p4 p5 p6 p7 p8 p9 gU gV gW q0 q1 q2 q3 q4 q5 q6 q7 q8 q9 gX gY gZ m0 m1
 by_cases ht:z3=0
 ·have h3:third=true:=by rw [H3.out,ht];rfl
  have hq:(z3==0)=true:=by rw [ht];rfl
  have bC:=kB aB.out gA.out
  have hS:=Z8 bC
  have k7:=cP.out
  clear y0 y1 dZ eA
  obtain ⟨a0,a1,a2,a3,a4⟩:=row5 bC
  obtain ⟨s0,s1⟩:=row2 k7
  have gP:=Z8 k7
  clear bC k7
  go_upto_region 14 with fail
  generalize D:World.alloc (World.alloc (World.alloc (World.alloc G _) _) _) _=N
  have J:=eqB D (Yj (Yj (Yj (Zg G _) _) _) _)
  have bQ:N=G.heap.size+4:=by rw [<- D];simp
  have k8:=eqH (b:=G.heap.size) D (Zb (Zb (Zb (Y3 rfl _) _) _) _)
  have k9:=eqH (b:=G.heap.size+1) D (Zb (Zb (Y3 Ca _) _) _)
  have eU:=eqH (b:=G.heap.size+1+1) D (Zb (Y3 Ca _) _)
  have eV:=eqH (b:=G.heap.size+1+1+1) D (Y3 Ca _)
  clear D
  obtain ⟨cB,hH,fR,fS,dM⟩:=Qjk J bQ k8 k9 eU
  have cN:=Qq (bF.out.thn J)
  have hL:G.heap.size+4<=N.heap.size:=C7
  have bX:=kE J gP cP.out
  have eM:=kB J dO.out
  have bO:=kB J cD.out
  have dP:=Qq bX;have dS:=Qq bO
  have Z:=aB.out.thn J
  have aY:Zm.R (fun x=>(fun x=>w.heap.size<x/\x≠A.heap.size+1+1) x/\x≠A+1) N [.string ⟨#[116]⟩,Cg (I+1) 0 5 5,.slice kp kn kc,.slice rp rn rc,aJ,.string aL,aK,.string aM,.slice aF aO aR,.slice aG aP aS,.slice aH aQ aT,aI,aN] ⟨[116],[⟨[97],Gen.whole⟩,⟨[98],Gen.whole⟩,⟨[99],Gen.text⟩,⟨[100],Gen.yesno⟩,⟨[101],Gen.hueT⟩],if two then [[98],[97]] else [[97]],if ref then [⟨[98],[117]⟩] else [],Gen.check k⟩:=Zm.mono (Zm.frame dU.out (fun c hc aW=>Z.block c aW)) (fun c _ h=>⟨⟨h.1,by have:=h.2;omega⟩,by have:=h.2;omega⟩)
  have aZ:Zm.R (fun x=>(fun x=>w.heap.size<x/\x≠A.heap.size+1+1) x/\x≠A+1) N [.string ⟨#[117]⟩,Cg T 0 2 2,Cg (T+1) 0 1 1,Cm,.int .i64 2,Cl,.int .i64 1,Cl,Cm,Cm,Cm,Ci,Ci] ⟨[117],[⟨[107],Gen.whole⟩,⟨[110],Gen.text⟩],[[107]],[],Gen.yes⟩:=Zm.mono (Zm.frame dV.out (fun c hc aW=>Z.block c aW)) (fun c _ h=>⟨⟨h.1,by have:=h.2;omega⟩,by have:=h.2;omega⟩)
  have dQ:=Qq (Sz (r:=Zm) (S:=(fun x=>w<x/\x≠A+1+1)) (B:=A.heap.size) (n:=2) (xs:=[⟨[116],[⟨[97],Gen.whole⟩,⟨[98],Gen.whole⟩,⟨[99],Gen.text⟩,⟨[100],Gen.yesno⟩,⟨[101],Gen.hueT⟩],if two then [[98],[97]] else [[97]],if ref then [⟨[98],[117]⟩] else [],Gen.check k⟩,⟨[117],[⟨[107],Gen.whole⟩,⟨[110],Gen.text⟩],[[107]],[],Gen.yes⟩]) eM (Nat.le_succ _) ((Cs.one (r:=Zm) aY).app (Cs.one (r:=Zm) aZ)) rfl rfl Ca)
  have hV:Zm.R (But (fun x=>w<x/\x≠A+1+1) (.slice (some ⟨A+1,0,none⟩) 2 2)) N [.string ⟨#[118]⟩,Cg G 0 2 2,Cg (G+1) 0 1 1,Cg (G+1+1) 0 2 2,.int .i64 2,Cl,.int .i64 1,Cl,Cm,Cm,Cm,Ci,Ci] ⟨[118],[⟨[120],Gen.whole⟩,⟨[121],Gen.whole⟩],[[120]],[⟨[121],[118]⟩,⟨[120],[117]⟩],Gen.yes⟩:=by
   refine ⟨_,_,_,_,rfl,Ca,?_,?_,?_,Lm _ _ none none none 0 0 0⟩
   ·exact Y2 fR.out ⟨⟨C7,C7⟩,fun e=>by have e':G=A.heap.size+1:=Qb e;omega⟩ ((Cs.one (r:=X6) (Vn [120] 0 [] Ca Ca)).app (Cs.one (r:=X6) (Vn [121] 0 [] Ca Ca))) rfl rfl Ca
   ·exact Y2 fS.out ⟨⟨C7,C7⟩,fun e=>by have e':G+1=A.heap.size+1:=Qb e;omega⟩ (Ky [120] Ca) rfl rfl Ca
   exact Y2 (r:=Kz) (xs:=[(⟨[121],[118]⟩:Rf),⟨[120],[117]⟩]) dM.out ⟨⟨C7,C7⟩,fun e=>by have e':G+1+1=A.heap.size+1:=Qb e;omega⟩ ((Cs.one (r:=Kz) (x:=(⟨[121],[118]⟩:Rf)) (c:=[.string ⟨#[121]⟩,.string ⟨#[118]⟩]) ⟨rfl,Ca,Ca⟩).app (Cs.one (r:=Kz) (x:=(⟨[120],[117]⟩:Rf)) (c:=[.string ⟨#[120]⟩,.string ⟨#[117]⟩]) ⟨rfl,Ca,Ca⟩)) rfl rfl Ca
  have HV:=Qq hV
  have eO:w.heap.size<N.heap.size:=Z8 bO
  have cT:A.heap.size+1+1<N.heap.size:=Z8 bX
  have eR:some (A.heap.size+1+1)≠(Value.slice (some ⟨A+1,0,none⟩) 2 2).ownBlock:=fun e=>by have e':A+1+1=A.heap.size+1:=Qb e;omega
  have eQ:some w.heap.size≠(Value.slice (some ⟨A+1,0,none⟩) 2 2).ownBlock:=fun e=>by have e':w=A.heap.size+1:=Qb e;omega
  have fV:=Qq eR;have fU:=Qq eQ
  clear a0 a1 a2 a3 a4 s0 s1 k8 k9 eU J bQ aY aZ hV eM bO Z eR eQ
  obtain ⟨s0,s1⟩:=row2 bX
  obtain ⟨v0,v1,v2,v3,v4,v5,v6,v7,v8,v9,hX,hY,iA⟩:=row13 eV
  clear bX eV
  go_wp2_with (at_builtin;refine Yg (r:=Zm) Cc rfl (.tmp 73) (.tmp 75) _ rfl 48 i0 (.agg zT) 224 underlying24 HJ.out fL.out fM.out fN.out rfl C7 (fun x=>w<x/\x≠A+1+1) A N (.slice (some ⟨A+1,0,none⟩) 2 2) [⟨[116],[⟨[97],Gen.whole⟩,⟨[98],Gen.whole⟩,⟨[99],Gen.text⟩,⟨[100],Gen.yesno⟩,⟨[101],Gen.hueT⟩],if two then [[98],[97]] else [[97]],if ref then [⟨[98],[117]⟩] else [],Gen.check k⟩,⟨[117],[⟨[107],Gen.whole⟩,⟨[110],Gen.text⟩],[[107]],[],Gen.yes⟩] _ [.string ⟨#[118]⟩,Cg G 0 2 2,Cg (G+1) 0 1 1,Cg (G+1+1) 0 2 2,.int .i64 2,Cl,.int .i64 1,Cl,Cm,Cm,Cm,Ci,Ci] ⟨[118],[⟨[120],Gen.whole⟩,⟨[121],Gen.whole⟩],[[120]],[⟨[121],[118]⟩,⟨[120],[117]⟩],Gen.yes⟩ rfl dQ.out rfl HV.out (by simp [Value.oneCell']) 2 rfl C7 C7 ?_;intro eW dX gI dC cE aX;have aE:=(aX.other _ cT fV.out).trans dP.out;have s0:=Qk _ _ 0 _ _ _ aE;have s1:=Qk _ _ 1 _ _ _ aE;have hR:=fA 1 aE;have U:=(aX.other _ eO fU.out).trans dS.out;have y0:=Qk _ _ 0 _ _ _ U;have y1:=Qk _ _ 1 _ _ _ U;have dZ:=fA 0 U;have eA:=fA 1 U;simp only [Qf,Qg,Qh] at s0 s1 y0 y1;obtain ⟨hE,dT,dR,bH⟩:=Qjz aE U cE aX;have cU:w≠A.heap.size+1+1:=C7;clear aE U cE aX)
  generalize aV:((dC.setCell _ _).setCell _ _).setCell _ _=WF
  have cV:WF.heap[w.heap.size]?=some (.cells #[Cg A 0 1 1,.slice eW (2+1) dX] 26 (0,0)):=by
   rw [<- aV]
   exact Qi _ _ 1 _ _ _ (Qi _ _ 0 _ _ _ ((Za cU).trans dT.out))
  have aD:∀ b,b≠w.heap.size->b≠A.heap.size+1+1->WF.heap[b]?=dC.heap[b]?:=fun b hb gL=>by rw [<- aV,Za hb,Za hb,Za gL]
  have cR:Below w w WF:=by
   rw [<- aV]
   exact ((((cN.out.trans (bH.out.below.mono C7)).setCell (p:=⟨A+1+1,1,none⟩) (by show w<=A.heap.size+1+1;omega) _).setCell (p:=⟨w,0,none⟩) (Q9 _) _).setCell (p:=⟨w,1,none⟩) (Q9 _) _)
  have bN:=Z8 bW.out
  have M:∀ b,b≠A.heap.size+1->b<N.heap.size->dC.heap[b]?=N.heap[b]?:=fun b hb aW=>bH.out.other b aW (fun e=>hb (Qb e))
  have o5:WF.heap[A.heap.size]?=_:=(aD _ C7 C7).trans ((M _ C7 C7).trans (kE cB.out C7 dN.out))
  have oc:WF.heap[w.heap.size+1+1+1]?=_:=(aD _ C7 C7).trans ((M _ C7 C7).trans (kE cB.out C7 ((aB.out.block _ bN).trans bW.out)))
  have eF:=dR.out.sl' (S':=(fun x=>w<x/\x≠A+1+1)) Ca (fun b hb=>by
   rcases bH.out.at' with e | ⟨g,e,hg⟩
   ·rw [e] at hb
    have e':A.heap.size+1=b:=Qb hb
    exact ⟨C7,C7⟩
   rw [e] at hb
   have e':g=b:=Qb hb
   exact ⟨C7,C7⟩) Qje
  have gJ:=(eF.frame (w':=WF) (fun b hb _=>aD b (by have:=hb.1;omega) hb.2)).mono (S':=fun b=>w<=b) (fun b _ h=>Nat.le_of_lt h.1)
  have cF:=fun j=>Qk _ _ j _ _ _ cV
  have bI:=cF 0;have bJ:=cF 1
  simp only [Qf,Qg,Qh] at bI bJ
  refine Q7 (v:=.agg #[Cg A 0 1 1,.slice eW (2+1) dX]) (by simp [results,results6,go_sem,bI,bJ]) rfl ⟨_,rfl,⟨_,_,rfl,?_,?_⟩,cR⟩
  ·refine Y2 (r:=Ug) (xs:=[Gen.hue]) o5 (by show w.heap.size<=_;omega) (Cs.one (r:=Ug) (c:=[.string ⟨#[72,117,101]⟩,.slice (some ⟨w+1+1+1,0,none⟩) 2 2]) ⟨_,rfl,by simp [Gen.hue],?_⟩) rfl rfl Ca
   exact Y2 (r:=Gk) (xs:=Gen.hue.ctors) oc (by show w.heap.size<=_;omega) ((Cs.one (r:=Gk) (Lu [82,101,100] false 0 Ca)).app (Cs.one (r:=Gk) (Lu [68,97,114,107] true 0 Ca))) rfl rfl (by simp [Gen.hue])
  rw [h3]
  exact gJ
 have h3:third=false:=by rw [H3.out];simpa using ht
 have hq:(z3==0)=false:=by simpa using ht
 have k7:=cP.out
 obtain ⟨s0,s1⟩:=row2 k7
 clear k7
 go_wp2_with fail
 generalize aV:(G.setCell _ _).setCell _ _=WF
 have cV:WF.heap[w.heap.size]?=some (.cells #[Cg A 0 1 1,Cg (A+1) 0 2 2] 26 (0,0)):=by
  rw [<- aV]
  exact Qi _ _ 1 _ _ _ (Qi _ _ 0 _ _ _ cD.out)
 have aD:∀ b,b≠w.heap.size->WF.heap[b]?=G.heap[b]?:=fun b hb=>by rw [<- aV,Za hb,Za hb]
 have cR:Below w w WF:=by rw [<- aV];exact (bF.out.setCell (p:=⟨w,0,none⟩) (Q9 _) _).setCell (p:=⟨w,1,none⟩) (Q9 _) _
 have bN:=Z8 bW.out
 have o5:=(aD _ C7).trans dN.out;have o6:=(aD _ C7).trans dO.out
 have oc:=(aD (w+1+1+1) C7).trans (kE aB.out bN bW.out)
 have eL:∀ c,w.heap.size<c/\c<A.heap.size->WF.heap[c]?=A.heap[c]?:=fun c hc=>(aD c C7).trans (aB.out.block c hc.2)
 have aY:Zm.R (fun x=>w<=x) WF [.string ⟨#[116]⟩,Cg (I+1) 0 5 5,.slice kp kn kc,.slice rp rn rc,aJ,.string aL,aK,.string aM,.slice aF aO aR,.slice aG aP aS,.slice aH aQ aT,aI,aN] ⟨[116],[⟨[97],Gen.whole⟩,⟨[98],Gen.whole⟩,⟨[99],Gen.text⟩,⟨[100],Gen.yesno⟩,⟨[101],Gen.hueT⟩],if two then [[98],[97]] else [[97]],if ref then [⟨[98],[117]⟩] else [],Gen.check k⟩:=Zm.mono (Zm.frame dU.out (fun c hc _=>eL c hc)) (fun c _ h=>by have:=h.1;show w<=c;omega)
 have aZ:Zm.R (fun x=>w<=x) WF [.string ⟨#[117]⟩,Cg T 0 2 2,Cg (T+1) 0 1 1,Cm,.int .i64 2,Cl,.int .i64 1,Cl,Cm,Cm,Cm,Ci,Ci] ⟨[117],[⟨[107],Gen.whole⟩,⟨[110],Gen.text⟩],[[107]],[],Gen.yes⟩:=Zm.mono (Zm.frame dV.out (fun c hc _=>eL c hc)) (fun c _ h=>by have:=h.1;show w<=c;omega)
 have cF:=fun j=>Qk _ _ j _ _ _ cV
 have bI:=cF 0;have bJ:=cF 1
 simp only [Qf,Qg,Qh] at bI bJ
 refine Q7 (v:=.agg #[Cg A 0 1 1,Cg (A+1) 0 2 2]) (by simp [results,results6,go_sem,bI,bJ]) rfl ⟨_,rfl,⟨_,_,rfl,?_,?_⟩,cR⟩
 ·refine Y2 (r:=Ug) (xs:=[Gen.hue]) o5 (by show w.heap.size<=_;omega) (Cs.one (r:=Ug) (c:=[.string ⟨#[72,117,101]⟩,.slice (some ⟨w+1+1+1,0,none⟩) 2 2]) ⟨_,rfl,by simp [Gen.hue],?_⟩) rfl rfl Ca
  exact Y2 (r:=Gk) (xs:=Gen.hue.ctors) oc (by show w.heap.size<=_;omega) ((Cs.one (r:=Gk) (Lu [82,101,100] false 0 Ca)).app (Cs.one (r:=Gk) (Lu [68,97,114,107] true 0 Ca))) rfl rfl (by simp [Gen.hue])
 rw [h3]
 exact Y2 (r:=Zm) (xs:=[⟨[116],[⟨[97],Gen.whole⟩,⟨[98],Gen.whole⟩,⟨[99],Gen.text⟩,⟨[100],Gen.yesno⟩,⟨[101],Gen.hueT⟩],if two then [[98],[97]] else [[97]],if ref then [⟨[98],[117]⟩] else [],Gen.check k⟩,⟨[117],[⟨[107],Gen.whole⟩,⟨[110],Gen.text⟩],[[107]],[],Gen.yes⟩]) o6 (by show w.heap.size<=_;omega) ((Cs.one (r:=Zm) aY).app (Cs.one (r:=Zm) aZ)) rfl rfl Ca
structure Js (w:World) (g n cap:Nat) (css F:List (List Value)) (k:Nat) (wr:World):Prop where
 gr:w.grownBy wr (some g)
 row:∃ Z:Array Value,wr.heap[g]?=some (.cells Z 36 (0,0))/\Z.size=cap*5/\Z.toList.take (F.length*5)=F.flatten/\∀ m,k*5<=m->m<n*5->Z[m]?=css.flatten[m]?
theorem H8 {w wr w':World} {g:Nat} (h:w.grownBy wr (some g)) (hb:Below wr wr w'):w.grownBy w' (some g):=
 ⟨hb.os.trans h.os,hb.tape.trans h.tape,hb.output.trans h.output,Qc h.size hb.size,fun k hk A=>(hb.block k (Qa hk h.size)).trans (h.block k hk A)⟩
theorem Js.keep {w wr w':World} {g n cap k:Nat} {css F:List (List Value)} (h:Js w g n cap css F k wr) (hb:Below wr wr w'):Js w g n cap css F k w':=by
 obtain ⟨Z,h1,h2⟩:=h.row
 exact ⟨H8 h.gr hb,Z,(hb.block g (Z8 h1)).trans h1,h2⟩
theorem Js.skip {w wr:World} {g n cap k:Nat} {css F:List (List Value)} (h:Js w g n cap css F k wr):Js w g n cap css F (k+1) wr:=by
 obtain ⟨Z,h1,h2,h3,h4⟩:=h.row
 exact ⟨h.gr,Z,h1,h2,h3,fun m hm hn=>h4 m C7 hn⟩
theorem Js.put {w wr:World} {g n cap k:Nat} {css F:List (List Value)} {c:List Value} (h:Js w g n cap css F k wr) (hc:c.length=5) (h1:∀ v ∈ c,v.oneCell'=true) (hF:F.length<k) (hk:k<n) (hn:n<=cap):Js w g n cap css (F++[c]) (k+1) (wr.setCells g (F.length*5) c):=by
 obtain ⟨Z,hZ,hs,ht,hr⟩:=h.row
 have A:Z.toList.length=cap*5:=by simpa using hs
 rw [Mb wr g (F.length*5) c Z _ hZ C7 h1]
 refine ⟨⟨h.gr.os,h.gr.tape,h.gr.output,by simpa [World.setRow] using h.gr.size,fun j hj D=>(setRow_other _ _ _ _ (fun e=>D (by rw [e]))).trans (h.gr.block j hj D)⟩,_,setRow_heap _ _ _ _ _ _ hZ,?_,?_,fun m hm J=>?_⟩
 ·simp only [List.size_toArray,Ql,Qm,Zq,A,hc];rw [Z0 C7];omega
 ·have G:(Z.toList.take (F.length*5)).length=F.length*5:=by rw [Qm,A,Z0 C7]
  have I:(F++[c]).length*5=(Z.toList.take (F.length*5)++c).length:=by rw [Ql,Ql,G,hc];simp;omega
  rw [I,List.toList_toArray,List.take_left,ht,List.flatten_append];simp
 have G:(Z.toList.take (F.length*5)++c).length=F.length*5+5:=by rw [Ql,Qm,A,Z0 C7,hc]
 rw [<- hr m C7 J,Qf,Zx (by rw [G];omega),G,List.getElem?_drop,hc,show F.length*5+5+(m - (F.length*5+5))=m by omega]
 simp
def Tx (w:World) (rows:List Val) (e:Ending) (w':World):Prop:=∃ p cap,e=.returned (.slice p rows.length cap)/\Sl Zd (fun _=>True) w' (.slice p rows.length cap) rows/\Below w w w'
theorem As (S:Nat->Prop) (v:Value) (l:List Rel) (x:Bs) (w:World) (hs:Sl Y6 S w v l):
  Calls prog 13 #[v,sv x] w (Tx w (Yo l x)):=by
 have G:=Qq (G5 S v l x w hs)
 rcases Jz l x with ⟨M,J⟩ | ⟨i,r,M,J,N⟩
 ·have I:Yo l x=[]:=by unfold Yo;rw [M]
  rw [I]
  rw [J] at G
  clear M J I
  obtain ⟨p,cap,rfl,hl⟩:=hs.len
  clear hs
  unfold sv at G |-
  go_enter func13,ntmps13
  go_wp2_with fail
  refine G.out.mono ?_
  rintro e w1 ⟨rfl,A⟩
  go_wp2_with fail
  go_ret
  exact ⟨none,0,rfl,Sl.nil _ _ _,A⟩
 have I:Yo l x=r.rows:=by unfold Yo;rw [M];simp [N]
 rw [I]
 rw [J] at G
 clear M J I
 obtain ⟨p,cap,rfl,hl⟩:=hs.len
 have aD:=(Qj N).1
 obtain ⟨b,aE,cs,rfl,Y,_,_,⟨rv,rfl,_,D⟩,hc⟩:=hs.elem N
 have T:=hc 1 _ rfl
 rw [show Y6.k=2 from rfl] at T
 obtain ⟨q,qc,rfl,Z⟩:=D.len
 have O:=Qq (fun W (hW:Below w w W)=>Fc S _ r.rows W (D.below hW))
 have aA:(0:Int)<=(i:Int):=C7
 have aB:(i:Int)<(l.length:Int):=C7
 have aC:decide ((i:Int)<0)=false:=Ca
 have HL:=Qq Z
 clear hs N hc D
 unfold sv at G |-
 go_enter func13,ntmps13
 go_wp2_with fail
 refine G.out.mono ?_
 rintro e w1 ⟨rfl,A⟩
 have k1:=kD A Y T
 have HC:=Qq (O.out w1 A)
 clear T
 go_wp2_with fail
 refine HC.out.mono ?_
 rintro e w2 ⟨p2,c2,css,rfl,U,V⟩
 go_wp2_with fail
 go_ret
 exact ⟨p2,c2,rfl,U.sl (C8 HL.out) (fun _ _=>trivial) (fun _ _ _=>trivial),A.thn V⟩
end Go.Proofs.YtcljcblceodciaaGreatDoor

import Derived.Test.YtdpibdpbgokmoaaGreatDoorC36
set_option maxRecDepth 100000
set_option maxHeartbeats 400000000
namespace Go.Proofs.YtdpibdpbgokmoaaGreatDoor
open Go.RowKit Go.Shelf Go.Lib Tryz
theorem sat_no (S0 S1:Nat→Prop) (t:Tbl) (v:Val) (ct cr:List Value) (w:World) (ht0:Zn.R S0 w ct t) (hr0:Z9 S1 w cr v) (hsi:Vx t.check=false):
  Calls prog 37 #[ct,cr] w fun e w'=>e=.returned (.bool false)∧Below w w w':=by
 have ht:Zn.R (fun b=>b<w) w ct t:=Zn.mono ht0 (fun b hb _=>hb)
 obtain ⟨V,U,Z,Y,aH,aG,k9,aI,n9,aJ,aD,aA,N,aE,aB,O,aF,aC,T,a9,z9,A,_,_,_,_,I⟩:=Yj ht
 simp only [tcs] at A
 subst A
 obtain ⟨p3,k3,p4,k4,A,_⟩:=Z9.cells hr0
 simp only [vcs] at A
 subst A
 have G:=Qq (fun W (hb:Below w w W)=>hsi ▸ Ng t.check _ _ W (Yv.move I (.of_below hb) Qzx))
 clear ht ht0 hr0 I hsi
 go_enter_defers func37,ntmps37
 go_wp2_with fail
 refine (G.out _ (Xm _ _ _ _)).mono ?_
 rintro e w1 ⟨rfl,D⟩
 have J:=(D.block (w+1+1) Qqk).trans (Zi w _ _ _)
 have M:=Qq ((Xm w _ _ _).thn D)
 have H2:=Qq J
 have f0:=fA 0 J;have r0:=rA0 J
 clear D J G
 go_wp2_with fail
 have hc:(w1.setCell ⟨w+1+1,0,none⟩ (.bool false)).cell? ⟨w+1+1,0,none⟩=some (.bool false):=by
  rw [Qk _ _ 0 _ _ _ (Qi _ _ _ _ _ _ H2.out)]
  rfl
 have hb:Below w w (w1.setCell ⟨w+1+1,0,none⟩ (.bool false)):=M.out.setCell (p:=⟨w+1+1,0,none⟩) (by show w≤w.heap.size+1+1;omega) _
 simp [bodyPostD,Leaves,results,results37,go_sem,hc,hb]
theorem Qjy (S:Nat→Prop) (v:Value) (l:List Int) (w:World) (hs:Xc S w v l) (hi:Ub l) (hk:Yp l 0 13=7):
  Calls prog 17 #[v,Qqd] w (Jv w (Gen.check 7)):=by
 have HP:=Qq (fun W (hb:Below w w W)=>Yr S v l 0 13 W (hs.below hb) hi Qqj Qqj)
 rw [hk] at HP
 obtain ⟨p,cap,rfl,_⟩:=hs.len
 clear hs hi hk
 go_enter func17,ntmps17
 go_upto_region 8 with fail
 generalize aG:(((((((w.alloc _).alloc _).alloc _).alloc _).alloc _).alloc _).alloc _).alloc _=W8
 have cT:=eqB aG (Zu (Zu (Zu (Zu (Zu (Zu (Zu (Zg w _) _) _) _) _) _) _) _)
 have cX:W8=w.heap.size+8:=by rw [← aG];simp
 have r8:=eqH (b:=w.heap.size) aG (Zb (Zb (Zb (Zb (Zb (Zb (Zb (Y6 rfl _) _) _) _) _) _) _) _)
 have ha:=eqH (b:=w.heap.size+1) aG (Zb (Zb (Zb (Zb (Zb (Zb (Y6 Qqk _) _) _) _) _) _) _)
 have hb:=eqH (b:=w.heap.size+1+1) aG (Zb (Zb (Zb (Zb (Zb (Y6 Qqk _) _) _) _) _) _)
 have bF:=eqH (b:=w.heap.size+1+1+1+1+1+1) aG (Zb (Y6 Qqk _) _)
 have aM:w.heap.size<W8.heap.size:=Qqj
 have dR:w.heap.size≠W8.heap.size:=Qqj
 have dP:=Qq cX
 clear cX
 have bV:=Qq cT;have dE:=Qq r8
 clear aG cT r8
 obtain ⟨a0,a1,a2,a3,a4,a5,a6,a7,a8⟩:=row9 ha
 clear ha
 obtain ⟨b0,b1,b2,b3,b4,b5,b6,b7,b8⟩:=row9 hb
 clear hb
 obtain ⟨O,T,U,V,Y,Z,aA,aB,aC⟩:=row9 bF
 clear bF
 go_upto_region 22 with (go_at_call 18;refine (HP.out _ bV.out).mono ?_;rintro e w' ⟨rfl,rfl⟩)
 obtain ⟨aS,aT,aU,aV⟩:=Qqp True.intro True.intro True.intro True.intro
 go_upto_region 23 with (have hk:=aU.out;clear aU hk;generalize aW:World.alloc W8 _=W9;have A:=eqB aW (Zg _ _);have bE:=eqH (b:=W8.heap.size) aW (Qw _ _);have a0:=kC A a0;have a1:=kC A a1;have a2:=kC A a2;have a3:=kC A a3;have a4:=kC A a4;have a5:=kC A a5;have a6:=kC A a6;have a7:=kC A a7;have a8:=kC A a8;have b0:=kC A b0;have b1:=kC A b1;have b2:=kC A b2;have b3:=kC A b3;have b4:=kC A b4;have b5:=kC A b5;have b6:=kC A b6;have b7:=kC A b7;have b8:=kC A b8;have O:=kC A O;have T:=kC A T;have U:=kC A U;have V:=kC A V;have Y:=kC A Y;have Z:=kC A Z;have aA:=kC A aA;have aB:=kC A aB;have aC:=kC A aC;have bW:=Qq bE;have bD:=Qq A;clear aW bE A)
 generalize hW:(World.alloc W9 _).alloc _=aK
 have I:=eqB hW (Zt _ _ _)
 have cR:=eqH (b:=W9.heap.size) hW (Zb (Y6 rfl _) _)
 have cP:=eqH (b:=W9.heap.size+1) hW (Y6 Qqk _)
 clear hW
 have O:=kC I O
 have T:=kC I T
 have U:=kC I U
 have V:=kC I V
 have Y:=kC I Y
 have Z:=kC I Z
 have aA:=kC I aA
 have aB:=kC I aB
 have aC:=kC I aC
 obtain ⟨r0,r1,r2,r3,r4,r5,r6,r7,r8⟩:=row9 cP
 have dB:=Qq (kB I bW.out)
 have aN:=Qq (bD.out.thn I);have cZ:=Qq cR
 clear I cR cP a0 b0 a1 b1 a2 b2 a3 b3 a4 b4 a5 b5 a6 b6 a7 b7 a8 b8
 go_upto_region 24 with (have hk:=aV.out;clear aV hk;generalize aH:World.alloc aK _=aO;have D:=eqB aH (Zg _ _);have aP:=eqH (b:=aK.heap.size) aH (Qw _ _);have r0:=kC D r0;have r1:=kC D r1;have r2:=kC D r2;have r3:=kC D r3;have r4:=kC D r4;have r5:=kC D r5;have r6:=kC D r6;have r7:=kC D r7;have r8:=kC D r8;have O:=kC D O;have T:=kC D T;have U:=kC D U;have V:=kC D V;have Y:=kC D Y;have Z:=kC D Z;have aA:=kC D aA;have aB:=kC D aB;have aC:=kC D aC;have bH:=Qq aP;have aF:=Qq D;clear aH aP D)
 generalize hW:(World.alloc aO _).alloc _=aL
 have G:=eqB hW (Zt _ _ _)
 have cS:=eqH (b:=aO.heap.size) hW (Zb (Y6 rfl _) _)
 have cQ:=eqH (b:=aO.heap.size+1) hW (Y6 Qqk _)
 clear hW
 have r0:=kC G r0
 have r1:=kC G r1
 have r2:=kC G r2
 have r3:=kC G r3
 have r4:=kC G r4
 have r5:=kC G r5
 have r6:=kC G r6
 have r7:=kC G r7
 have r8:=kC G r8
 obtain ⟨t0,t1,t2,t3,t4,t5,t6,t7,t8⟩:=row9 cQ
 have dC:=Qq (kB G bH.out)
 have bC:=Qq (aF.out.thn G);have dA:=Qq cS
 have aE:=Qq (aN.out.thn (aF.out.thn G))
 have dO:w.heap.size<W9.heap.size:=Qa aM bD.out.size
 have cV:w.heap.size<aO.heap.size:=Qa aM (aN.out.thn aF.out).size
 clear G cS cQ O T U V Y Z aA aB aC
 have cU:w.heap.size<aK.heap.size:=Qa aM aN.out.size
 have aY:w.heap.size<aL.heap.size:=Qa aM aE.out.size
 have aZ:∀ W,Below aK aK W→Yv (fun b=>w<b) W [.int .i64 6,Qqe,Qqd,Qqe,Qqb W8 0 2 2,Qqf,Qqb W9 0 2 2,Qqd,Qqd] Gen.rec:=fun W hW=>Xz (nm:=[]) (s:=[]) Qqk Qqk (Y4 (xs:=[[121],[120]]) (kB hW dB.out) aM (Oa _ _ [121] [120] Qqk Qqk) rfl rfl Qqk) (Sl.nil _ _ _) (Y4 (xs:=[Gen.a,Gen.b]) (kB hW cZ.out) dO ((Cs.one (r:=Xp) (Yk 3 [97] 0 [] Qqk Qqk)).app (Cs.one (r:=Xp) (Yk 3 [98] 0 [] Qqk Qqk))) rfl rfl Qqk)
 have bG:∀ W,Below aL aL W→Yv (fun b=>w<b) W [.int .i64 7,Qqe,Qqd,Qqe,Qqb aK 0 1 1,Qqf,Qqb aO 0 2 2,Qqd,Qqd] Gen.wth:=fun W hW=>Xz (nm:=[]) (s:=[]) Qqk Qqk (Y4 (xs:=[[120]]) (kB hW dC.out) cU (Ku [120] Qqk) rfl rfl Qqk) (Sl.nil _ _ _) (Y4 (xs:=[Gen.rec,Gen.one]) (kB hW dA.out) cV ((Cs.one (r:=Xp) (aZ W (bC.out.thn hW))).app (Cs.one (r:=Xp) (Yk 0 [] 1 [] Qqk Qqk))) rfl rfl Qqk)
 have bX:=Qq aZ;have bY:=Qq bG
 clear aZ bG
 go_wp2_with (first
   | (have hk:=aS.out;clear aS hk;generalize aI:World.alloc aL _=bK;have J:=eqB aI (Zg _ _);have aQ:=eqH (b:=aL.heap.size) aI (Qw _ _);have r0:=kC J r0;have r1:=kC J r1;have r2:=kC J r2;have r3:=kC J r3;have r4:=kC J r4;have r5:=kC J r5;have r6:=kC J r6;have r7:=kC J r7;have r8:=kC J r8;have bI:=Qq aQ;have M:=Qq J;clear aI aQ J)
   | (have hk:=aT.out;clear aT hk;generalize aJ:World.alloc bK _=dQ;have aX:=eqB aJ (Zg _ _);have aR:=eqH (b:=bK.heap.size) aJ (Qw _ _);have bJ:=Qq aR;have N:=Qq aX;clear aJ aR aX)
   | (go_at_call 63;refine (Vg w [60] _ _ [.int .i64 8,.string ⟨#[120]⟩,Qqd,Qqe,Qqf,Qqf,Qqb aL 0 1 1,Qqd,Qqd] [.int .i64 8,.string ⟨#[121]⟩,Qqd,Qqe,Qqf,Qqf,Qqb bK 0 1 1,Qqd,Qqd] _ Qqk (Xz (nm:=[120]) (s:=[]) Qqk Qqk (Sl.nil _ _ _) (Sl.nil _ _ _) (Y4 (xs:=[Gen.wth]) (kB N.out bI.out) aY (Cs.one (r:=Xp) (x:=Gen.wth) (show Yv _ _ _ _ from bY.out _ (M.out.thn N.out))) rfl rfl Qqk)) (Xz (nm:=[121]) (s:=[]) Qqk Qqk (Sl.nil _ _ _) (Sl.nil _ _ _) (Y4 (xs:=[Gen.rec]) bJ.out (Qa aY M.out.size) (Cs.one (r:=Xp) (x:=Gen.rec) (show Yv _ _ _ _ from bX.out _ (bC.out.thn (M.out.thn N.out)))) rfl rfl Qqk)) (Qa aY (M.out.thn N.out).size)).mono ?_;rintro e w1 ⟨cE,cG,cF,cH,cA,cJ,cM,cB,cK,cN,cC,cL,cO,cD,cI,rfl,cW,bL⟩;have bA:=(((aE.out.thn (M.out.thn N.out)).thn bL).block _ aM).trans dE.out;obtain ⟨y0,y1,y2,y3,y4,y5,y6,y7,y8⟩:=row9 bA;obtain ⟨f0,f1,f2,f3,f4,f5,f6,f7,f8⟩:=frz9 bA;have dD:=Qq bA;clear bA;have H1:=Qq cW;have cY:=Qq bL;clear cW bL))
 show bodyPost _ _ _ _ _ (put9 w1 w cE (.string cG) cF (.string cH) (.slice cA cJ cM) (.slice cB cK cN) (.slice cC cL cO) cD cI)
 exact Q7 (v:=.agg (Qqi cE cG cF cH cA cJ cM cB cK cN cC cL cO cD cI)) (by simp [results,results17,go_sem,Xe dD.out]) rfl (U8 H1.out (bV.out.thn (aE.out.thn (M.out.thn (N.out.thn cY.out)))) rfl)
theorem Cz (S:Nat→Prop) (v:Value) (l:List Int) (w:World) (hs:Xc S w v l) (hi:Ub l) (hk:Yp l 0 13=8):
  Calls prog 17 #[v,Qqd] w (Jv w (Gen.check 8)):=by
 have HP:=Qq (fun W (hb:Below w w W)=>Yr S v l 0 13 W (hs.below hb) hi Qqj Qqj)
 rw [hk] at HP
 obtain ⟨p,cap,rfl,_⟩:=hs.len
 clear hs hi hk
 go_enter func17,ntmps17
 go_upto_region 8 with fail
 generalize aJ:(((((((w.alloc _).alloc _).alloc _).alloc _).alloc _).alloc _).alloc _).alloc _=W8
 have aZ:=eqB aJ (Zu (Zu (Zu (Zu (Zu (Zu (Zu (Zg w _) _) _) _) _) _) _) _)
 have cK:W8=w.heap.size+8:=by rw [← aJ];simp
 have r8:=eqH (b:=w.heap.size) aJ (Zb (Zb (Zb (Zb (Zb (Zb (Zb (Y6 rfl _) _) _) _) _) _) _) _)
 have G:=((((Yu.row (show W8.heap[w.heap.size+1]?=some (.cells #[.int .i64 3,.string ⟨#[97]⟩,Qqd,Qqe,Qqf,Qqf,Qqf,Qqd,Qqd] 46 (0,0)) from by rw [← aJ];exact Zb (Zb (Zb (Zb (Zb (Zb (Y6 Qqk _) _) _) _) _) _) _)).app (Yu.row (show W8.heap[w.heap.size+1+1]?=some (.cells #[.int .i64 3,.string ⟨#[98]⟩,Qqd,Qqe,Qqf,Qqf,Qqf,Qqd,Qqd] 46 (0,0)) from by rw [← aJ];exact Zb (Zb (Zb (Zb (Zb (Y6 Qqk _) _) _) _) _) _))).app (Yu.row (show W8.heap[w.heap.size+1+1+1+1+1+1]?=some (.cells #[Qqd,Qqe,.int .i64 1,Qqe,Qqf,Qqf,Qqf,Qqd,Qqd] 46 (0,0)) from by rw [← aJ];exact Zb (Y6 Qqk _) _))).app (Yu.row (show W8.heap[w.heap.size+1+1+1+1]?=some (.cells zQ 46 (0,0)) from by rw [← aJ];exact Zb (Zb (Zb (Y6 Qqk _) _) _) _)))
 have hG:=(Ua (Ua (Ua (Xa (show w<w.heap.size+1 by omega) (.int .i64 3) (.string ⟨#[97]⟩) (.int .i64 0) (.string ⟨#[]⟩) (.slice none 0 0) (.slice none 0 0) (.slice none 0 0) (.int .i64 0) (.int .i64 0)) (Xa (show w<w.heap.size+1+1 by omega) (.int .i64 3) (.string ⟨#[98]⟩) (.int .i64 0) (.string ⟨#[]⟩) (.slice none 0 0) (.slice none 0 0) (.slice none 0 0) (.int .i64 0) (.int .i64 0))) (Xa (show w<w.heap.size+1+1+1+1+1+1 by omega) (.int .i64 0) (.string ⟨#[]⟩) (.int .i64 1) (.string ⟨#[]⟩) (.slice none 0 0) (.slice none 0 0) (.slice none 0 0) (.int .i64 0) (.int .i64 0))) (Xa (show w<w.heap.size+1+1+1+1 by omega) (.int .i64 3) (.string ⟨#[100]⟩) (.int .i64 0) (.string ⟨#[]⟩) (.slice none 0 0) (.slice none 0 0) (.slice none 0 0) (.int .i64 0) (.int .i64 0)))
 have aW:=Qq aZ;have HR:=Qq r8
 clear aJ aZ r8 cK
 go_upto_region 26 with (go_at_call 18;refine (HP.out _ aW.out).mono ?_;rintro e w' ⟨rfl,rfl⟩)
 refine let_mvar% ?Lq1:=fun w':World=>(Qza w' (w+1) (.int .i64 3) (.string ⟨#[97]⟩) Qqd Qqe Qqf Qqf Qqf Qqd Qqd ((Qza w' (w+1+1) (.int .i64 3) (.string ⟨#[98]⟩) Qqd Qqe Qqf Qqf Qqf Qqd Qqd ((Qza w' (w+1+1+1+1+1+1) Qqd Qqe (.int .i64 1) Qqe Qqf Qqf Qqf Qqd Qqd ((Qzf w' (w+1+1+1+1) (.int .i64 3) (.string ⟨#[100]⟩) Qqd Qqe Qqf Qqf Qqf Qqd Qqd:Prop)):Prop)):Prop)):Prop);?_
 have HS:=Qq (fun w' (h:Yu (Jc (w+1) (.int .i64 3) (.string ⟨#[97]⟩) (.int .i64 0) (.string ⟨#[]⟩) (.slice none 0 0) (.slice none 0 0) (.slice none 0 0) (.int .i64 0) (.int .i64 0)++Jc (w+1+1) (.int .i64 3) (.string ⟨#[98]⟩) (.int .i64 0) (.string ⟨#[]⟩) (.slice none 0 0) (.slice none 0 0) (.slice none 0 0) (.int .i64 0) (.int .i64 0)++Jc (w+1+1+1+1+1+1) (.int .i64 0) (.string ⟨#[]⟩) (.int .i64 1) (.string ⟨#[]⟩) (.slice none 0 0) (.slice none 0 0) (.slice none 0 0) (.int .i64 0) (.int .i64 0)++Jc (w+1+1+1+1) (.int .i64 3) (.string ⟨#[100]⟩) (.int .i64 0) (.string ⟨#[]⟩) (.slice none 0 0) (.slice none 0 0) (.slice none 0 0) (.int .i64 0) (.int .i64 0)) w')=>(show ?Lq1 w' from Yu.spread h))
 have HG:=Qq hG
 have aX:=Qq (fun w' z0 z1 z2 z3 z4 z5 z6 z7 z8 (h:Yu _ w')=>HS.out _ (h.put9 HG.out z0 z1 z2 z3 z4 z5 z6 z7 z8))
 unfold put9 at aX
 have J:=aW
 clear hG
 obtain ⟨aN,aO,aP,aB,aQ,aR⟩:=Qqs True.intro True.intro True.intro True.intro True.intro True.intro
 go_region_held3 ?Lq1 (first | with_reducible exact HS.out _ G | with_reducible exact HS.out _ G.drew | with_reducible exact HS.out _ (G.alloc _) | with_reducible exact HS.out _ (G.alloc _).drew | with_reducible exact HS.out _ ((G.alloc _).alloc _) | with_reducible exact HS.out _ ((G.alloc _).alloc _).drew | with_reducible exact HS.out _ (((G.alloc _).alloc _).alloc _) | with_reducible exact aX.out _ _ _ _ _ _ _ _ _ _ G)
  (first
   | (have hn:=M.out;clear hn;(repeat (first
      | (have hk:=aB.out;clear aB hk;generalize aA:World.alloc _ (Obj.cells zQ 46 _)=WD;have D:=Vf aA;have aG:=Je aA;have aH:=Dw aA HR.out;have Y:=G.later D;clear G;have G:=Y;clear Y;have T:=Qq (Yh D HR.out);clear HR;have HR:=T;clear T;have N:=Qq (J.out.thn D);clear J;have J:=N;clear N;(try (have A:=Qq (Yh D O.out);clear O;have O:=A;clear A));(try (have A:=Qq (U.out.move (.of_below D) Qzx);clear U;have U:=A;clear A));(try (have A:=Qq (V.out.move (.of_below D) Qzx);clear V;have V:=A;clear A));(try (have A:=Qq (M.out.move (.of_below D) Qzx);clear M;have M:=A;clear A));(try (have A:=Qq (I.out.move (.of_below D) Qzx);clear I;have I:=A;clear A));have Z:=Qq aG;have aL:=Qq aH;clear aA D aG aH;have hN:=(show Yv (fun b=>w<b) WD [.int .i64 14,.string ⟨#[110,111,116]⟩,Qqd,Qqe,Qqf,Qqf,Qqb _ 0 1 1,Qqd,Qqd] (Gen.op [110,111,116] [Gen.d]) from (Xz (nm:=[110,111,116]) (s:=[]) Qqk Qqk (Sl.nil _ _ _) (Sl.nil _ _ _) (Y4 (xs:=[Gen.d]) Z.out aL.out (Cs.one (r:=Xp) (Yk 3 [100] 0 [] Qqk Qqk)) rfl rfl Qqk)));have I:=Qq hN;clear hN)
      | (have hn:=M.out;clear hn;have hk:=aQ.out;clear aQ hk;generalize aS:World.alloc _ (Obj.cells #[bO,.string bS,bQ,.string bU,.slice bG bY cE,.slice bI cA cG,.slice bK cC cI,bM,bW,bP,.string bT,bR,.string bV,.slice bH bZ cF,.slice bJ cB cH,.slice bL cD cJ,bN,bX] 46 _)=WK;have aI:=Vf aS;have bA:=Je aS;have bB:=Dw aS HR.out;have Y:=G.later aI;clear G;have G:=Y;clear Y;have T:=Qq (Yh aI HR.out);clear HR;have HR:=T;clear T;have N:=Qq (J.out.thn aI);clear J;have J:=N;clear N;(try (have A:=Qq (Yh aI Z.out);clear Z;have Z:=A;clear A));(try (have A:=Qq (U.out.move (.of_below aI) Qzx);clear U;have U:=A;clear A));(try (have A:=Qq (V.out.move (.of_below aI) Qzx);clear V;have V:=A;clear A));(try (have A:=Qq (M.out.move (.of_below aI) Qzx);clear M;have M:=A;clear A));(try (have A:=Qq (I.out.move (.of_below aI) Qzx);clear I;have I:=A;clear A));have O:=Qq bA;have bF:=Qq bB;clear aS aI bA bB)
      | fail));have hn:=O.out;clear hn;have hk:=aR.out;clear aR hk;obtain ⟨⟨f0,f1,f2,f3,f4,f5,f6,f7,f8⟩,y0,y1,y2,y3,y4,y5,y6,y7,y8⟩:=C5 HR.out;go_simp)
   | (have hk:=aN.out;go_at_call 63;(repeat (first
      | (have hk:=aB.out;clear aB hk;generalize aA:World.alloc _ (Obj.cells zQ 46 _)=WD;have D:=Vf aA;have aG:=Je aA;have aH:=Dw aA HR.out;have Y:=G.later D;clear G;have G:=Y;clear Y;have T:=Qq (Yh D HR.out);clear HR;have HR:=T;clear T;have N:=Qq (J.out.thn D);clear J;have J:=N;clear N;(try (have A:=Qq (Yh D O.out);clear O;have O:=A;clear A));(try (have A:=Qq (U.out.move (.of_below D) Qzx);clear U;have U:=A;clear A));(try (have A:=Qq (V.out.move (.of_below D) Qzx);clear V;have V:=A;clear A));(try (have A:=Qq (M.out.move (.of_below D) Qzx);clear M;have M:=A;clear A));(try (have A:=Qq (I.out.move (.of_below D) Qzx);clear I;have I:=A;clear A));have Z:=Qq aG;have aL:=Qq aH;clear aA D aG aH;have hN:=(show Yv (fun b=>w<b) WD [.int .i64 14,.string ⟨#[110,111,116]⟩,Qqd,Qqe,Qqf,Qqf,Qqb _ 0 1 1,Qqd,Qqd] (Gen.op [110,111,116] [Gen.d]) from (Xz (nm:=[110,111,116]) (s:=[]) Qqk Qqk (Sl.nil _ _ _) (Sl.nil _ _ _) (Y4 (xs:=[Gen.d]) Z.out aL.out (Cs.one (r:=Xp) (Yk 3 [100] 0 [] Qqk Qqk)) rfl rfl Qqk)));have I:=Qq hN;clear hN)
      | fail));refine (Vg w [45] _ _ _ _ _ Qqk (by exact (Yk 3 [97] 0 [] Qqk Qqk)) (by exact (Yk 3 [98] 0 [] Qqk Qqk)) (by exact Z8 HR.out)).mono ?_;rintro e W1 ⟨bO,bS,bQ,bU,bG,bY,cE,bI,cA,cG,bK,cC,cI,bM,bW,rfl,bC,aD⟩;clear aN hk;(try (have aK:=Vm aD;clear aD;have aD:=aK;clear aK));have Y:=G.later aD;clear G;have G:=Y;clear Y;have T:=Qq (Yh aD HR.out);clear HR;have HR:=T;clear T;have N:=Qq (J.out.thn aD);clear J;have J:=N;clear N;(try (have A:=Qq (Yh aD Z.out);clear Z;have Z:=A;clear A));(try (have A:=Qq (Yh aD O.out);clear O;have O:=A;clear A));(try (have A:=Qq (V.out.move (.of_below aD) Qzx);clear V;have V:=A;clear A));(try (have A:=Qq (M.out.move (.of_below aD) Qzx);clear M;have M:=A;clear A));(try (have A:=Qq (I.out.move (.of_below aD) Qzx);clear I;have I:=A;clear A));have U:=Qq bC;clear bC aD)
   | (have hn:=U.out;clear hn;have hk:=aO.out;go_at_call 63;(repeat (first
      | (have hk:=aB.out;clear aB hk;generalize aA:World.alloc _ (Obj.cells zQ 46 _)=WD;have D:=Vf aA;have aG:=Je aA;have aH:=Dw aA HR.out;have Y:=G.later D;clear G;have G:=Y;clear Y;have T:=Qq (Yh D HR.out);clear HR;have HR:=T;clear T;have N:=Qq (J.out.thn D);clear J;have J:=N;clear N;(try (have A:=Qq (Yh D O.out);clear O;have O:=A;clear A));(try (have A:=Qq (U.out.move (.of_below D) Qzx);clear U;have U:=A;clear A));(try (have A:=Qq (V.out.move (.of_below D) Qzx);clear V;have V:=A;clear A));(try (have A:=Qq (M.out.move (.of_below D) Qzx);clear M;have M:=A;clear A));(try (have A:=Qq (I.out.move (.of_below D) Qzx);clear I;have I:=A;clear A));have Z:=Qq aG;have aL:=Qq aH;clear aA D aG aH;have hN:=(show Yv (fun b=>w<b) WD [.int .i64 14,.string ⟨#[110,111,116]⟩,Qqd,Qqe,Qqf,Qqf,Qqb _ 0 1 1,Qqd,Qqd] (Gen.op [110,111,116] [Gen.d]) from (Xz (nm:=[110,111,116]) (s:=[]) Qqk Qqk (Sl.nil _ _ _) (Sl.nil _ _ _) (Y4 (xs:=[Gen.d]) Z.out aL.out (Cs.one (r:=Xp) (Yk 3 [100] 0 [] Qqk Qqk)) rfl rfl Qqk)));have I:=Qq hN;clear hN)
      | fail));refine (Vg w [60] _ _ _ _ _ Qqk (by exact (Yk 3 [97] 0 [] Qqk Qqk)) (by exact (Yk 0 [] 1 [] Qqk Qqk)) (by exact Z8 HR.out)).mono ?_;rintro e W2 ⟨cP,cR,cQ,cS,cL,cU,cX,cM,cV,cY,cN,cW,cZ,cO,cT,rfl,bD,aE⟩;clear aO hk;(try (have aK:=Vm aE;clear aE;have aE:=aK;clear aK));have Y:=G.later aE;clear G;have G:=Y;clear Y;have T:=Qq (Yh aE HR.out);clear HR;have HR:=T;clear T;have N:=Qq (J.out.thn aE);clear J;have J:=N;clear N;(try (have A:=Qq (Yh aE Z.out);clear Z;have Z:=A;clear A));(try (have A:=Qq (Yh aE O.out);clear O;have O:=A;clear A));(try (have A:=Qq (U.out.move (.of_below aE) Qzx);clear U;have U:=A;clear A));(try (have A:=Qq (M.out.move (.of_below aE) Qzx);clear M;have M:=A;clear A));(try (have A:=Qq (I.out.move (.of_below aE) Qzx);clear I;have I:=A;clear A));have V:=Qq bD;clear bD aE)
   | (have hn:=V.out;clear hn;have hk:=aP.out;go_at_call 63;(repeat (first
      | (have hk:=aB.out;clear aB hk;generalize aA:World.alloc _ (Obj.cells zQ 46 _)=WD;have D:=Vf aA;have aG:=Je aA;have aH:=Dw aA HR.out;have Y:=G.later D;clear G;have G:=Y;clear Y;have T:=Qq (Yh D HR.out);clear HR;have HR:=T;clear T;have N:=Qq (J.out.thn D);clear J;have J:=N;clear N;(try (have A:=Qq (Yh D O.out);clear O;have O:=A;clear A));(try (have A:=Qq (U.out.move (.of_below D) Qzx);clear U;have U:=A;clear A));(try (have A:=Qq (V.out.move (.of_below D) Qzx);clear V;have V:=A;clear A));(try (have A:=Qq (M.out.move (.of_below D) Qzx);clear M;have M:=A;clear A));(try (have A:=Qq (I.out.move (.of_below D) Qzx);clear I;have I:=A;clear A));have Z:=Qq aG;have aL:=Qq aH;clear aA D aG aH;have hN:=(show Yv (fun b=>w<b) WD [.int .i64 14,.string ⟨#[110,111,116]⟩,Qqd,Qqe,Qqf,Qqf,Qqb _ 0 1 1,Qqd,Qqd] (Gen.op [110,111,116] [Gen.d]) from (Xz (nm:=[110,111,116]) (s:=[]) Qqk Qqk (Sl.nil _ _ _) (Sl.nil _ _ _) (Y4 (xs:=[Gen.d]) Z.out aL.out (Cs.one (r:=Xp) (Yk 3 [100] 0 [] Qqk Qqk)) rfl rfl Qqk)));have I:=Qq hN;clear hN)
      | fail));refine (Vg w [97,110,100] _ _ _ _ _ Qqk (by exact V.out) (by exact I.out) (by exact Z8 HR.out)).mono ?_;rintro e W3 ⟨bP,bT,bR,bV,bH,bZ,cF,bJ,cB,cH,bL,cD,cJ,bN,bX,rfl,bE,aF⟩;clear aP hk;(try (have aK:=Vm aF;clear aF;have aF:=aK;clear aK));have Y:=G.later aF;clear G;have G:=Y;clear Y;have T:=Qq (Yh aF HR.out);clear HR;have HR:=T;clear T;have N:=Qq (J.out.thn aF);clear J;have J:=N;clear N;(try (have A:=Qq (Yh aF Z.out);clear Z;have Z:=A;clear A));(try (have A:=Qq (Yh aF O.out);clear O;have O:=A;clear A));(try (have A:=Qq (U.out.move (.of_below aF) Qzx);clear U;have U:=A;clear A));(try (have A:=Qq (V.out.move (.of_below aF) Qzx);clear V;have V:=A;clear A));(try (have A:=Qq (I.out.move (.of_below aF) Qzx);clear I;have I:=A;clear A));have M:=Qq bE;clear bE aF)
   | fail)
 all_goals
  go_wp2_with fail
  show bodyPost _ _ _ _ _ (put9 _ w (.int .i64 11) (.string ⟨#[97]⟩) Qqd Qqe Qqf Qqf (Qqb _ 0 2 2) Qqd Qqd)
  exact Q7 (v:=.agg #[.int .i64 11,.string ⟨#[97]⟩,Qqd,Qqe,Qqf,Qqf,Qqb _ 0 2 2,Qqd,Qqd]) (by simp [results,results17,go_sem,Xe HR.out]) rfl (U8 (Xz (nm:=[97]) (s:=[]) Qqk Qqk (Sl.nil _ _ _) (Sl.nil _ _ _) (Y4 (xs:=[Gen.op [45] [Gen.a,Gen.b],Gen.op [97,110,100] [Gen.op [60] [Gen.a,Gen.one],Gen.op [110,111,116] [Gen.d]]]) O.out bF.out ((Cs.one (r:=Xp) U.out).app (Cs.one (r:=Xp) M.out)) rfl rfl Qqk)) J.out rfl)
theorem Tg (a b c d e f g h i j k l:Value) (w:World):(Instr.field 38 (.agg #[a,b,c,d,e,f,g,h,i,j,k,l]) 0).run prog w=.ok a w:=by
 simp [Instr.field,go_sem,part,asAgg]
theorem pair_bd {a b:Int} (h:(-1000≤a∧a≤1000)∧-1000≤b∧b≤1000):∀ p ∈ [((1:Int),(3:Int)),(a,b)],(-1000≤p.1∧p.1≤1000)∧-1000≤p.2∧p.2≤1000:=by
 intro p hp
 simp at hp
 rcases hp with rfl | rfl
 ·decide
 exact h
def LvSt (w:World) (l:List (Int × Int)) (e:Ending) (w':World):Prop:=∃ p cap,e=.returned (.slice p 2 cap)∧Sl Y7 (fun _=>True) w' (.slice p 2 cap) (Law.st l)∧Below w w w'
def CodeIs (w:World) (q:Int) (e:Ending) (w':World):Prop:=∃ a1 a2 a3 a4 a5 a6 a7 a8 a9 a10 a11:Value,e=.returned (.agg #[q,a1,a2,a3,a4,a5,a6,a7,a8,a9,a10,a11])∧Below w w w'
theorem B2 (S0 S1:Nat→Prop) (cs:List Value) (lv:Value) (l:List (Int × Int)) (q:Int) (w:World) (hs:Xu S0 w cs Law.sc) (hl:Sl Y7 S1 w lv (Law.st l)) (hkw:Xl w) (hll:l.length≤1000) (hb:∀ p ∈ l,(-1000≤p.1∧p.1≤1000)∧-1000≤p.2∧p.2≤1000)
  (hi:Ue (l.map fun p=>Law.rT p.1 p.2)=true) (hq:∀ f,U0 Law.sc.tables.length (Law.cf l) (fun i=>((Law.sc.tables[i]?).getD Tbl.zero).name) f→f.code=q):
  Calls prog 9 #[cs,lv] w (CodeIs w q):=by
 refine (To S0 S1 Law.sc cs lv (Law.st l) _ _ _ w hs hl hkw Qqx (Law.st_ok l hll hb)).mono ?_
 rintro e w' ⟨f,h1,_,D,rfl,hf,A⟩
 obtain ⟨p3,k3,p4,k4,q3,l3,q4,l4,rfl,_⟩:=Vc hf
 have:=hq f (h1 (Law.st_norm l hi))
 refine ⟨.string ⟨f.table.toArray⟩,.int .i64 f.row.kind,.int .i64 f.row.n,.string ⟨f.row.s.toArray⟩,.slice p3 f.row.names.length k3,.slice p4 f.row.kids.length k4,.int .i64 f.other.kind,.int .i64 f.other.n,.string ⟨f.other.s.toArray⟩,.slice q3 f.other.names.length l3,.slice q4 f.other.kids.length l4,?_,A⟩
 rw [← this]
 rfl
theorem A8 (w:World) (hkw:Xl w):Calls prog 11 #[] w fun e w'=>e=.returned (.bool true)∧Below w w w':=by
 have mixed:(prog).follows .mixedOrders=true:=Qqy
 go_enter func11,ntmps11
 go_upto_region 6 with fail
 obtain ⟨W6,G⟩:=eX ((World.alloc (World.alloc (World.alloc (World.alloc (World.alloc (World.alloc (World.alloc (World.alloc (World.alloc (World.alloc (World.alloc (World.alloc w (.cells zY 56)) (.cells #[.string ⟨#[107]⟩,Qqd,Qqe,Qqd,Qqf,Qqf] 64)) (.cells #[.string ⟨#[107]⟩] 9)) (.cells #[.string ⟨#[117]⟩,Qqb (w+1) 0 1 1,Qqb (w+1+1) 0 1 1,Qqf,.int .i64 2,Qqe,.int .i64 1,Qqe,Qqf,Qqf,Qqf,Qqd,Qqd] 48)) (.cells #[.int .i64 3,.string ⟨#[97]⟩,Qqd,Qqe,Qqf,Qqf,Qqf,Qqd,Qqd,.int .i64 3,.string ⟨#[98]⟩,Qqd,Qqe,Qqf,Qqf,Qqf,Qqd,Qqd] 46)) (.cells #[.int .i64 14,.string ⟨#[60]⟩,Qqd,Qqe,Qqf,Qqf,Qqb (w+1+1+1+1) 0 2 2,Qqd,Qqd] 46)) (.cells #[.string ⟨#[97]⟩,Qqd,Qqe,Qqd,Qqf,Qqf,.string ⟨#[98]⟩,Qqd,Qqe,Qqd,Qqf,Qqf] 64)) (.cells #[.string ⟨#[97]⟩] 9)) (.cells #[.string ⟨#[98]⟩,.string ⟨#[117]⟩] 67)) (.cells #[.string ⟨#[116]⟩,Qqb (w+1+1+1+1+1+1) 0 2 2,Qqb (w+1+1+1+1+1+1+1) 0 1 1,Qqb (w+1+1+1+1+1+1+1+1) 0 1 1,.int .i64 14,.string ⟨#[60]⟩,Qqd,Qqe,Qqf,Qqf,Qqb (w+1+1+1+1) 0 2 2,Qqd,Qqd] 48)) (.cells #[.string ⟨#[116]⟩,Qqb (w+1+1+1+1+1+1) 0 2 2,Qqb (w+1+1+1+1+1+1+1) 0 1 1,Qqb (w+1+1+1+1+1+1+1+1) 0 1 1,.int .i64 14,.string ⟨#[60]⟩,Qqd,Qqe,Qqf,Qqf,Qqb (w+1+1+1+1) 0 2 2,Qqd,Qqd,.string ⟨#[117]⟩,Qqb (w+1) 0 1 1,Qqb (w+1+1) 0 1 1,Qqf,.int .i64 2,Qqe,.int .i64 1,Qqe,Qqf,Qqf,Qqf,Qqd,Qqd] 48)) (.cells #[Qqf,Qqb (w+1+1+1+1+1+1+1+1+1+1) 0 2 2] 26)))
 have k1:=eqH (b:=w.heap.size+1) G (Zb (Zb (Zb (Zb (Zb (Zb (Zb (Zb (Zb (Zb (Y6 Qqk _) _) _) _) _) _) _) _) _) _) _)
 have k2:=eqH (b:=w.heap.size+1+1) G (Zb (Zb (Zb (Zb (Zb (Zb (Zb (Zb (Zb (Y6 Qqk _) _) _) _) _) _) _) _) _) _)
 have k4:=eqH (b:=w.heap.size+1+1+1+1) G (Zb (Zb (Zb (Zb (Zb (Zb (Zb (Y6 Qqk _) _) _) _) _) _) _) _)
 have k6:=eqH (b:=w.heap.size+1+1+1+1+1+1) G (Zb (Zb (Zb (Zb (Zb (Y6 Qqk _) _) _) _) _) _)
 have k7:=eqH (b:=w.heap.size+1+1+1+1+1+1+1) G (Zb (Zb (Zb (Zb (Y6 Qqk _) _) _) _) _)
 have k8:=eqH (b:=w.heap.size+1+1+1+1+1+1+1+1) G (Zb (Zb (Zb (Y6 Qqk _) _) _) _)
 have bD:=eqH (b:=w.heap.size+1+1+1+1+1+1+1+1+1+1) G (Zb (Y6 Qqk _) _)
 have bE:=eqH (b:=w.heap.size+1+1+1+1+1+1+1+1+1+1+1) G (Y6 Qqk _)
 have aZ:=eqB G (Zu (Zu (Zu (Zu (Zu (Zu (Zu (Zu (Zu (Zu (Zu (Zg w _) _) _) _) _) _) _) _) _) _) _) _)
 rw [G]
 have bC:Xu (fun b=>b<W6) W6 [Qqf,Qqb (w+1+1+1+1+1+1+1+1+1+1) 0 2 2] Law.sc:=by
  refine ⟨_,_,rfl,Sl.nil _ _ _,?_⟩
  refine Y4 (xs:=Law.sc.tables) bD (Z8 bD) ((Cs.one (r:=Zn) (c:=[.string ⟨#[116]⟩,.slice (some ⟨w+1+1+1+1+1+1,0,none⟩) 2 2,.slice (some ⟨w+1+1+1+1+1+1+1,0,none⟩) 1 1,.slice (some ⟨w+1+1+1+1+1+1+1+1,0,none⟩) 1 1,.int .i64 14,.string ⟨#[60]⟩,.int .i64 0,.string ⟨#[]⟩,.slice none 0 0,.slice none 0 0,.slice (some ⟨w+1+1+1+1,0,none⟩) 2 2,.int .i64 0,.int .i64 0]) (x:=Law.tT) ⟨_,_,_,_,rfl,by simp [Law.tT],?_,?_,?_,?_⟩).app (Cs.one (r:=Zn) (c:=[.string ⟨#[117]⟩,.slice (some ⟨w+1,0,none⟩) 1 1,.slice (some ⟨w+1+1,0,none⟩) 1 1,.slice none 0 0,.int .i64 2,.string ⟨#[]⟩,.int .i64 1,.string ⟨#[]⟩,.slice none 0 0,.slice none 0 0,.slice none 0 0,.int .i64 0,.int .i64 0]) (x:=Law.uT) ⟨_,_,_,_,rfl,by simp [Law.uT],?_,?_,Sl.nil _ _ _,Nd _ _ none none none 0 0 0⟩)) rfl rfl (by simp [Law.sc])
  ·exact Y4 (xs:=Law.tT.columns) k6 (Z8 k6) ((Cs.one (r:=X7) (Uj [97] 0 [] Qqk Qqk)).app (Cs.one (r:=X7) (Uj [98] 0 [] Qqk Qqk))) rfl rfl (by simp [Law.tT])
  ·exact Y4 (xs:=Law.tT.key) k7 (Z8 k7) (Ku [97] Qqk) rfl rfl (by simp [Law.tT])
  ·exact Y4 (xs:=Law.tT.refs) k8 (Z8 k8) (Cs.one (r:=Dd) (x:=⟨[98],[117]⟩) (c:=[.string ⟨#[98]⟩,.string ⟨#[117]⟩]) ⟨rfl,Qqk,Qqk⟩) rfl rfl (by simp [Law.tT])
  ·refine Xz (nm:=[60]) (s:=[]) Qqk Qqk (Sl.nil _ _ _) (Sl.nil _ _ _) ?_
   exact Y4 (xs:=[Gen.a,Gen.b]) k4 (Z8 k4) ((Cs.one (r:=Xp) (x:=Gen.var [97]) (show Yv _ W6 [.int .i64 3,.string ⟨#[97]⟩,Qqd,Qqe,Qqf,Qqf,Qqf,Qqd,Qqd] (Gen.var [97]) from Xz (nm:=[97]) (s:=[]) Qqk Qqk (Sl.nil _ _ _) (Sl.nil _ _ _) (Sl.nil _ _ _))).app (Cs.one (r:=Xp) (x:=Gen.var [98]) (show Yv _ W6 [.int .i64 3,.string ⟨#[98]⟩,Qqd,Qqe,Qqf,Qqf,Qqf,Qqd,Qqd] (Gen.var [98]) from Xz (nm:=[98]) (s:=[]) Qqk Qqk (Sl.nil _ _ _) (Sl.nil _ _ _) (Sl.nil _ _ _)))) rfl rfl Qqk
  ·exact Y4 (xs:=Law.uT.columns) k1 (Z8 k1) (Cs.one (r:=X7) (Uj [107] 0 [] Qqk Qqk)) rfl rfl (by simp [Law.uT])
  exact Y4 (xs:=Law.uT.key) k2 (Z8 k2) (Ku [107] Qqk) rfl rfl (by simp [Law.uT])
 obtain ⟨c0,c1⟩:=row2 bE
 obtain ⟨cH,dL,aW,bZ⟩:=Qqp bC aZ bE (hkw.below aZ)
 have bX:Hid (Calls prog 46 #[.agg #[Qqf,Qqb (w+1+1+1+1+1+1+1+1+1+1) 0 2 2]] W6 (Mp W6 [⟨[116],[]⟩,⟨[117],[]⟩])):=Qq ((Ax _ Law.sc _ W6 bC Qqx Qqx).mono (fun e w' ⟨p,cap,he,hst,hb⟩=>⟨p,cap,he,hst.sl Qqx Qqx (fun _=>True) (fun _ _=>trivial) (fun _ _ _=>trivial),hb⟩))
 clear bC aZ G hkw k1 k2 k4 k6 k7 k8 bD bE
 go_wp2_with fail
 refine bX.out.mono ?_
 rintro e w7 ⟨p7,cK,rfl,aO,cQ⟩
 have cI:=Qq aO;have dM:=Qq cQ
 clear aO cQ bX
 go_wp2_with fail
 obtain ⟨W8,aE⟩:=eX ((w7.alloc (.cells #[.string ⟨#[107]⟩] 9)).alloc (.cells #[Qqd,.int .i64 3,Qqe,Qqf,Qqf] 36))
 rw [aE]
 have bA:=eqB aE (Zt _ _ _)
 have cY:Z9 (fun _=>True) W8 [.int .i64 4,Qqd,Qqe,Qqb w7 0 1 1,Qqb (w7+1) 0 1 1] (Law.rU 3):=by
  refine Y8 (s:=[]) Qqk ?_ ?_
  ·exact Y4 (xs:=[[107]]) (show W8.heap[w7.heap.size]?=some _ by rw [← aE];exact Q5 _ _ _) trivial (Ku [107] Qqk) rfl rfl Qqk
  exact Y4 (xs:=[Y5 3]) (show W8.heap[w7.heap.size+1]?=some _ by rw [← aE];exact Q6 _ _ _) trivial (Cs.one (r:=Ze) (By _ W8 3)) rfl rfl Qqk
 have dN:=Qq (dM.out.thn bA)
 have bY:Hid (Calls prog 16 #[.slice p7 2 cK,.string ⟨#[117]⟩,.agg #[.int .i64 4,Qqd,Qqe,Qqb w7 0 1 1,Qqb (w7+1) 0 1 1]] W8 (Mp W8 [⟨[116],[]⟩,⟨[117],[Law.rU 3]⟩])):=
  Qq (F8 _ _ _ [⟨[116],[]⟩,⟨[117],[]⟩] [117] (Law.rU 3) _ W8 1 ⟨[117],[]⟩ (cI.out.below bA) cY Qqx rfl Qqk Qqk Qqk)
 clear bA cY aE
 refine bY.out.mono ?_
 rintro e w9 ⟨p9,cL,rfl,aP,cR⟩
 have cJ:=Qq aP;have N:=Qq (dN.out.thn cR)
 have cF:Hid (Calls prog 47 #[.string ⟨#[97]⟩,.int .i64 1,.string ⟨#[98]⟩,.int .i64 3] w9 (Hj w9 (Law.rT 1 3))):=Qq (Gv [97] [98] 1 3 w9 Qqk Qqk)
 clear aP cR bY
 go_wp2_with fail
 refine cF.out.mono ?_
 rintro e bF ⟨cx,rfl,aI,aF⟩
 obtain ⟨x3,m3,x4,m4,U,_⟩:=Z9.cells aI
 simp only [vcs] at U
 subst U
 have bO:=Qq (N.out.thn aF)
 have aL:Hid (Calls prog 16 #[.slice p9 2 cL,.string ⟨#[116]⟩,.agg #[.int .i64 4,Qqd,Qqe,.slice x3 2 m3,.slice x4 2 m4]] bF (LvSt bF [(1,3)])):=
  Qq (F8 _ _ _ [⟨[116],[]⟩,⟨[117],[Law.rU 3]⟩] [116] (Law.rT 1 3) _ bF 0 ⟨[116],[]⟩ (cJ.out.below aF) aI Qqx rfl Qqk Qqk Qqk)
 clear aI aF cF
 go_wp2_with fail
 refine aL.out.mono ?_
 rintro e bG ⟨dB,aB,rfl,aD,J⟩
 have aA:=Qq aD;have bP:=Qq (bO.out.thn J)
 clear aD J aL
 have cC:Hid (Calls prog 47 #[.string ⟨#[97]⟩,.int .i64 1,.string ⟨#[98]⟩,.int .i64 4] bG (Hj bG (Law.rT 1 4))):=Qq (Gv [97] [98] 1 4 bG Qqk Qqk)
 go_wp2_with fail
 refine cC.out.mono ?_
 rintro e bH ⟨cx,rfl,hx,I⟩
 obtain ⟨y0,m0,z0,n0,U,_⟩:=Z9.cells hx
 obtain rfl:cx=[.int .i64 4,.int .i64 0,.string ⟨#[]⟩,.slice y0 2 m0,.slice z0 2 n0]:=U
 obtain ⟨dS,bQ,cG⟩:=Qqo hx (bP.out.thn I) I
 clear hx I cC
 have cD:Hid (Calls prog 47 #[.string ⟨#[97]⟩,.int .i64 2,.string ⟨#[98]⟩,.int .i64 4] bH (Hj bH (Law.rT 2 4))):=Qq (Gv [97] [98] 2 4 bH Qqk Qqk)
 go_wp2_with fail
 refine cD.out.mono ?_
 rintro e bI ⟨cx,rfl,hx,I⟩
 obtain ⟨y1,m1,z1,n1,U,_⟩:=Z9.cells hx
 obtain rfl:cx=[.int .i64 4,.int .i64 0,.string ⟨#[]⟩,.slice y1 2 m1,.slice z1 2 n1]:=U
 obtain ⟨dT,bR,aM⟩:=Qqo hx (bQ.out.thn I) I
 clear hx I cD
 have cE:Hid (Calls prog 47 #[.string ⟨#[97]⟩,.int .i64 5,.string ⟨#[98]⟩,.int .i64 3] bI (Hj bI (Law.rT 5 3))):=Qq (Gv [97] [98] 5 3 bI Qqk Qqk)
 go_wp2_with fail
 refine cE.out.mono ?_
 rintro e V ⟨cx,rfl,hx,I⟩
 obtain ⟨y2,m2,z2,n2,U,_⟩:=Z9.cells hx
 obtain rfl:cx=[.int .i64 4,.int .i64 0,.string ⟨#[]⟩,.slice y2 2 m2,.slice z2 2 n2]:=U
 obtain ⟨dU,bS,Z⟩:=Qqo hx (bR.out.thn I) I
 clear hx I cE
 go_upto_region 10 with fail
 obtain ⟨aJ,T⟩:=eX ((V.alloc (.cells #[.int .i64 4,Qqd,Qqe,.slice y0 2 m0,.slice z0 2 n0,.int .i64 4,Qqd,Qqe,.slice y1 2 m1,.slice z1 2 n1,.int .i64 4,Qqd,Qqe,.slice y2 2 m2,.slice z2 2 n2] 36)).alloc (.cells #[.int .i64 11,.int .i64 12,.int .i64 13] 32))
 have M:=eqB T (Zt _ _ _)
 have aR:=eqH (b:=V.heap.size) T (Q5 _ _ _)
 have aS:=eqH (b:=V.heap.size+1) T (Q6 _ _ _)
 have D:=Qq (bS.out.thn M)
 have d0:=kD D.out (Z8 aW.out) c0
 have d1:=kD D.out (Z8 aW.out) c1
 have J:=((cG.out.thn aM.out).thn Z.out).thn M
 have bW:=Qq (B2 _ _ [Qqf,Qqb (w+1+1+1+1+1+1+1+1+1+1) 0 2 2] (.slice dB 2 aB) [(1,3)] 0 aJ (cH.out.below D.out) (aA.out.below J) (bZ.out.below D.out) Qqx Qqx (Law.inc1 1 3) (fun f h=>Law.code0 h))
 obtain ⟨cA,cB,aU⟩:=Qqo aR aS J
 obtain ⟨dV,dW,dX⟩:=Qqo (Z9.move (S':=fun _=>True) dS.out (.of_below ((aM.out.thn Z.out).thn M)) (fun _ _ _=>trivial)) (Z9.move (S':=fun _=>True) dT.out (.of_below (Z.out.thn M)) (fun _ _ _=>trivial)) (Z9.move (S':=fun _=>True) dU.out (.of_below M) (fun _ _ _=>trivial))
 rw [T]
 clear M aR aS J T c0 c1
 go_wp2_with fail
 refine bW.out.mono ?_
 rintro e eL ⟨a1,a2,a3,a4,a5,a6,a7,a8,a9,a10,a11,rfl,aQ⟩
 have cU:=fun W=>Tg (.int .i64 0) a1 a2 a3 a4 a5 a6 a7 a8 a9 a10 a11 W
 have bT:=Qq aQ
 clear aQ bW
 go_wp2_with fail
 go_loopw [9] (fun i wr=>∃ k:Nat,k≤3∧i=.int .i64 k∧Below aJ aJ wr) (fun i _=>3 - (intOf i).toNat)
 case atStart=>exact ⟨0,Q8 _,rfl,bT.out⟩
 obtain ⟨k,eJ,rfl,cM⟩:=hrel
 have O:=Qq cM
 clear cM
 by_cases hlt:k<3
 ·have bB:∃ (a b q:Int) (yy:Option Addr) (mm:Nat) (Y:Option Addr) (nn:Nat),(∀ (j:Nat) (u:Value),[.int .i64 4,.int .i64 0,.string ⟨#[]⟩,.slice yy 2 mm,.slice Y 2 nn][j]?=some u→(#[.int .i64 4,.int .i64 0,.string ⟨#[]⟩,.slice y0 2 m0,.slice z0 2 n0,.int .i64 4,.int .i64 0,.string ⟨#[]⟩,.slice y1 2 m1,.slice z1 2 n1,.int .i64 4,.int .i64 0,.string ⟨#[]⟩,.slice y2 2 m2,.slice z2 2 n2]:Array Value)[k*5+j]?=some u)∧(#[.int .i64 11,.int .i64 12,.int .i64 13]:Array Value)[k]?=some (.int .i64 q) ∧
    Z9 (fun _=>True) aJ [.int .i64 4,Qqd,Qqe,.slice yy 2 mm,.slice Y 2 nn] (Law.rT a b)∧eqv (Law.rT 1 3) (Law.rT a b)=false∧decide (0<Yz (Law.rT 1 3) (Law.rT a b))=false∧((-1000≤a∧a≤1000)∧-1000≤b∧b≤1000)∧Ue ([(1,3),(a,b)].map fun p=>Law.rT p.1 p.2)=true ∧
    ∀ f,U0 Law.sc.tables.length (Law.cf [(1,3),(a,b)]) (fun i=>((Law.sc.tables[i]?).getD Tbl.zero).name) f→f.code=q:=by
   match k,hlt with
  | 0,_=>exact ⟨1,4,11,y0,m0,z0,n0,fun j u A=>(by
    match j,A with
    | 0,A=>exact A
    | 1,A=>exact A
    | 2,A=>exact A
    | 3,A=>exact A
    | 4,A=>exact A),rfl,dV.out,Qqx,Qqx,Qqx,(Law.inc2 1 3 1 4 Qqx),fun f h=>Law.code1 h⟩
  | 1,_=>exact ⟨2,4,12,y1,m1,z1,n1,fun j u A=>(by
    match j,A with
    | 0,A=>exact A
    | 1,A=>exact A
    | 2,A=>exact A
    | 3,A=>exact A
    | 4,A=>exact A),rfl,dW.out,Qqx,Qqx,Qqx,(Law.inc2 1 3 2 4 Qqx),fun f h=>Law.code2 h⟩
  | 2,_=>exact ⟨5,3,13,y2,m2,z2,n2,fun j u A=>(by
    match j,A with
    | 0,A=>exact A
    | 1,A=>exact A
    | 2,A=>exact A
    | 3,A=>exact A
    | 4,A=>exact A),rfl,dX.out,Qqx,Qqx,Qqx,(Law.inc2 1 3 5 3 Qqx),fun f h=>Law.code3 h⟩
  obtain ⟨a,b,q,yy,mm,Y,nn,cT,cS,cZ,cX,cV,cP,cW,aG⟩:=bB
  have eH:(0:Int)≤(k:Int):=Qqj
  have eI:(k:Int)<3:=Qqj
  have hq:(q != q)=false:=Qqk
  have hM:=kB O.out cA.out
  have hN:=kB O.out cB.out
  have cO:=D.out.thn O.out
  have cN:=kB cO aW.out
  refine let_mvar% ?Lq1:=fun w':World=>Qqa w' (w+1+1+1+1+1+1+1+1+1+1+1) 0 Qqf∧Qqa w' (w+1+1+1+1+1+1+1+1+1+1+1) 1 (Qqb (w+1+1+1+1+1+1+1+1+1+1) 0 2 2)∧Qzc w' V (k*5) (.int .i64 4) Qqd Qqe (.slice yy 2 mm) (.slice Y 2 nn) (Qqa w' (V+1) k q∧Below wr wr w');?_
  have HS:∀ w',Below wr wr w'→?Lq1 w':=by
   intro w' h
   have hm:=kB h hM
   have hn:=kB h hN
   have hk:=kB h cN
   have e:∀ (j:Nat) (u:Value),[.int .i64 4,.int .i64 0,.string ⟨#[]⟩,.slice yy 2 mm,.slice Y 2 nn][j]?=some u→w'.cell? ⟨V,k*5+j,none⟩=some u:=fun j u A=>by rw [Qk _ _ _ _ _ _ hm];exact cT j u A
   exact ⟨by rw [Qk _ _ _ _ _ _ hk];rfl,by rw [Qk _ _ _ _ _ _ hk];rfl,e 0 _ rfl,e 1 _ rfl,e 2 _ rfl,e 3 _ rfl,e 4 _ rfl,by rw [Qk _ _ _ _ _ _ hn];exact cS,h⟩
  have N:∀ w',?Lq1 w'→Below wr wr w':=fun w' h=>h.2.2.2.2.2.2.2.2
  have aV:∀ w' aK,?Lq1 w'→Below w' w' aK→?Lq1 aK:=fun w' aK h h2=>HS aK ((N w' h).thn h2)
  have dQ:=Qq (fun W' (h':?Lq1 W')=>(show Calls prog 16 #[.slice dB 2 aB,.string ⟨#[116]⟩,.agg #[.int .i64 4,Qqd,Qqe,.slice yy 2 mm,.slice Y 2 nn]] W' (LvSt W' [(1,3),(a,b)]) from F8 _ _ _ (Law.st [(1,3)]) [116] (Law.rT a b) _ W' 0 ⟨[116],[Law.rT 1 3]⟩ (aA.out.below (aU.out.thn (O.out.thn (N W' h')))) (Z9.move cZ (.of_below (O.out.thn (N W' h'))) Qzx) Qqx rfl
   (by intro y hy;simp at hy;subst hy;exact cX) (by intro y hy;simp at hy;subst hy;exact cV) (by intro r hr;simp [Law.st] at hr;rcases hr with rfl | rfl <;> simp)).mono (R':=fun e w2=>∃ p cap,e=.returned (.slice p 2 cap)∧Sl Y7 (fun _=>True) w2 (.slice p 2 cap) (Law.st [(1,3),(a,b)])∧?Lq1 w2) (by
   rintro e w2 ⟨p,cap,rfl,h3,h4⟩
   exact ⟨p,cap,rfl,h3,aV _ _ h' h4⟩))
  have dO:=Qq (fun W' v (h':?Lq1 W') (hsl:Sl Y7 (fun _=>True) W' v (Law.st [(1,3),(a,b)]))=>(B2 _ _ [Qqf,Qqb (w+1+1+1+1+1+1+1+1+1+1) 0 2 2] v [(1,3),(a,b)] q W' (cH.out.below (D.out.thn (O.out.thn (N W' h')))) hsl (bZ.out.below (D.out.thn (O.out.thn (N W' h')))) Qqk (pair_bd cP) cW aG).mono (R':=fun e w2=>(∃ a1 a2 a3 a4 a5 a6 a7 a8 a9 a10 a11:Value,e=.returned (.agg #[q,a1,a2,a3,a4,a5,a6,a7,a8,a9,a10,a11]))∧?Lq1 w2) (by
   rintro e w2 ⟨a1,a2,a3,a4,a5,a6,a7,a8,a9,a10,a11,rfl,h4⟩
   exact ⟨⟨a1,a2,a3,a4,a5,a6,a7,a8,a9,a10,a11,rfl⟩,aV _ _ h' h4⟩))
  have dP:=Qq (HS wr.drew (Qz _ _).drew);have bV:=Qq N
  clear HS N aV cT cS cZ cX cV cP cW aG hM hN cO cN cU d0 d1
  go_wp2_with fail
  go_region_held3 ?Lq1 (first | with_reducible exact dP.out | with_reducible exact aC | with_reducible exact aN)
   (first
    | (go_at_call 16;refine (dQ.out _ Qqw).mono ?_;rintro e eM ⟨eK,dY,rfl,aT,aN⟩)
    | (go_at_call 9;refine (dO.out _ _ Qqw aT).mono ?_;rintro e eN ⟨⟨a1,a2,a3,a4,a5,a6,a7,a8,a9,a10,a11,rfl⟩,aC⟩;have cU:=fun W=>Tg (.int .i64 q) a1 a2 a3 a4 a5 a6 a7 a8 a9 a10 a11 W))
  have bU:=Qq (bV.out _ aC)
  clear aC aN aT
  go_wp2_with fail
  go_roundw
  case measure=>simp [intOf];omega
  case rel=>exact ⟨k+1,Qqj,by go_num,O.out.thn bU.out⟩
 obtain rfl:k=3:=Qqj
 go_wp2_with fail
 go_ret
 exact ⟨rfl,dL.out.thn (D.out.thn O.out)⟩
end Go.Proofs.YtdpibdpbgokmoaaGreatDoor

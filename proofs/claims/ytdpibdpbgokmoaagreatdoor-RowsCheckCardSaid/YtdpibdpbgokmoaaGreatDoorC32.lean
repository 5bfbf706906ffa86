import Derived.Test.YtdpibdpbgokmoaaGreatDoorC31
set_option maxRecDepth 100000
set_option maxHeartbeats 400000000
namespace Go.Proofs.YtdpibdpbgokmoaaGreatDoor
open Go.RowKit Go.Shelf Go.Lib Tryz
theorem Aj (g:Nat) (lb:Array Value) (eg:∀ args w,(callFunc g args).run prog w=.ok (.enter g args) w) (S0:Nat→Prop) (o:Bs) (f:Int→Int→Int) (u v:Val) (w:World) (ho:IsAr o f) (hku:u.kind=0) (hkv:v.kind≠0)
  (h0:∀ W,Below w w W→w<W.heap.size→Calls prog g (#[.int .i64 0]++lb) W (Xy S0 W (some u))) (h1:∀ W,Below w w W→w<W.heap.size→Calls prog g (#[.int .i64 1]++lb) W (Xy S0 W (some v))):
  Calls prog 140 #[o,.func (.func g) #[] lb,.int .i64 2] w (Bd w):=by
 obtain ⟨H0,H1,HM⟩:=Qqo h0 h1 X8
 have aG:=Qq (fun (n:Int) (s:ByteArray) (p3 p4:Option Addr) (n3 k3 n4 k4:Nat) W=>of_eq 0 n s p3 p4 n3 k3 n4 k4 W)
 have I:=Qq (fun (s:ByteArray) (p3 p4:Option Addr) (n3 k3 n4 k4:Nat) W=>of_ne 0 v.kind v.n hkv s p3 p4 n3 k3 n4 k4 W)
 have aS:=fun (n:Int) (s:ByteArray) (p3 p4:Option Addr) (n3 k3 n4 k4:Nat) W=>fld1 (.int .i64 0) (.int .i64 n) (.string s) (.slice p3 n3 k3) (.slice p4 n4 k4) W
 have aF:=Qq hku
 clear h0 h1 hku hkv
 rcases ho with ⟨rfl,rfl⟩ | ⟨rfl,rfl⟩ | ⟨rfl,rfl⟩
 all_goals
  go_enter func140,ntmps140
  go_wp2_with (go_at_call 134;refine (HM.out _).mono ?_;rintro e w' ⟨rfl,rfl⟩)
  refine (H0.out _ (Zg _ _) Qqk).mono ?_
  rintro e w1 ⟨cu,rfl,hu,U⟩
  obtain ⟨a3,aO,a4,aP,M,_⟩:=Z9.cells hu
  simp only [vcs] at M
  subst M
  obtain ⟨T,aA,HU⟩:=Qqo ((U.block w Qqk).trans (Qw w _)) ((Zg w _).thn U) hu
  clear hu U
  go_wp2_with fail
  refine (H1.out _ aA.out (Z8 T.out)).mono ?_
  rintro e w2 ⟨cv,rfl,hv,O⟩
  obtain ⟨b3,aQ,b4,aR,M,_⟩:=Z9.cells hv
  simp only [vcs] at M
  subst M
  have aB:=Qq ((O.block w (Z8 T.out)).trans T.out);have aD:=Qq (aA.out.thn O)
  have aH:=Qq (Z9.move HU.out (.of_below O) Qzx);have aI:=Qq hv
  clear hv O
  go_upto_region 10 with fail
  generalize N:(w2.alloc _).alloc _=w4
  have J:=eqB N (Zt _ _ _)
  have V:=eqH (b:=w2.heap.size) N (Q5 _ _ _)
  have Y:=eqH (b:=w2.heap.size+1) N (Q6 _ _ _)
  have aL:=Qq ((J.block w (Z8 aB.out)).trans aB.out);have aE:=Qq (aD.out.thn J)
  have aM:=Qq (Z9.move aH.out (.of_below J) Qzx);have aN:=Qq (Z9.move aI.out (.of_below J) Qzx)
  have x0:=rA0 V;have y0:=rA0 Y;have x1:=rA1 V;have y1:=rA1 Y;have x2:=rA2 V;have y2:=rA2 Y;have x3:=rA3 V;have y3:=rA3 Y;have x4:=rA4 V;have y4:=rA4 Y
  clear J V Y N
  rw [aF.out] at x0
  go_wp2_with fail
  go_region_dies
  all_goals
   rename_i K A
   refine (aG.out _ _ _ _ _ _ _ _ _).mono ?_
   rintro e w5 ⟨rfl,hb⟩
   have G:=Qq (aE.out.thn ((Qz _ _).drew.thn hb))
   have Z:∀ {b j:Nat} {u:Value},w4.cell? ⟨b,j,none⟩=some u→w5.cell? ⟨b,j,none⟩=some u:=fun hc=>kC ((Qz _ _).drew.thn hb) hc
   replace y0:=Z y0;replace y1:=Z y1;replace y2:=Z y2;replace y3:=Z y3;replace y4:=Z y4
   clear hb Z x0 x1 x2 x3 x4
   dsimp only
   refine A _ _ ?_
   clear A K
   first
   | (
     refine wpAny_ready (rs:=[3,5]) (by decide +kernel) Qqk ?_
     refine AllReady.cons rfl (fun K A=>?_) ?_
     ·go_simp
      refine A _ _ ?_
      clear A K
      refine wpAny_ready (rs:=[5]) (by decide +kernel) Qqk ?_
      refine AllReady.cons rfl (fun K A=>?_) ?_
      ·go_simp
       refine (I.out _ _ _ _ _ _ _ _).mono ?_
       rintro e w6 ⟨rfl,D⟩
       exact ⟨rfl,rfl,G.out.thn D⟩
      exact AllReady.nil
     refine AllReady.cons rfl (fun K A=>?_) ?_
     ·go_simp
      refine (I.out _ _ _ _ _ _ _ _).mono ?_
      rintro e w6 ⟨rfl,D⟩
      exact ⟨rfl,rfl,G.out.thn D⟩
     exact AllReady.nil)
   | (
     refine wpAny_ready (rs:=[3,4]) (by decide +kernel) Qqk ?_
     refine AllReady.cons rfl (fun K A=>?_) ?_
     ·go_simp
      refine A _ _ ?_
      clear A K
      refine wpAny_ready (rs:=[4]) (by decide +kernel) Qqk ?_
      refine AllReady.cons rfl (fun K A=>?_) ?_
      ·go_simp
       refine A _ _ ?_
       clear A K
       refine wpAny_ready (rs:=[5]) (by decide +kernel) Qqk ?_
       refine AllReady.cons rfl (fun K A=>?_) ?_
       ·go_simp
        refine (I.out _ _ _ _ _ _ _ _).mono ?_
        rintro e w6 ⟨rfl,D⟩
        exact ⟨rfl,rfl,G.out.thn D⟩
       exact AllReady.nil
      exact AllReady.nil
     refine AllReady.cons rfl (fun K A=>?_) ?_
     ·go_simp
      refine A _ _ ?_
      clear A K
      refine wpAny_ready (rs:=[3,5]) (by decide +kernel) Qqk ?_
      refine AllReady.cons rfl (fun K A=>?_) ?_
      ·go_simp
       refine A _ _ ?_
       clear A K
       refine wpAny_ready (rs:=[5]) (by decide +kernel) Qqk ?_
       refine AllReady.cons rfl (fun K A=>?_) ?_
       ·go_simp
        refine (I.out _ _ _ _ _ _ _ _).mono ?_
        rintro e w6 ⟨rfl,D⟩
        exact ⟨rfl,rfl,G.out.thn D⟩
       exact AllReady.nil
      refine AllReady.cons rfl (fun K A=>?_) ?_
      ·go_simp
       refine (I.out _ _ _ _ _ _ _ _).mono ?_
       rintro e w6 ⟨rfl,D⟩
       exact ⟨rfl,rfl,G.out.thn D⟩
      exact AllReady.nil
     exact AllReady.nil)
theorem fld2 (a b c d e:Value) (w:World):(Instr.field 36 (.agg #[a,b,c,d,e]) 2).run prog w=.ok c w:=by
 simp [Instr.field,go_sem,part,asAgg]
theorem Hw {S:Nat→Prop} {w:World} {cs:List Value} {v:Val} (h:Z9 S w cs v):v.s.length≤1000000:=by
 cases v with
 | mk k n s ns ks=>obtain ⟨_,_,_,h1,_⟩:=Vn.1 h;exact h1
theorem op_cat (g:Nat) (lb:Array Value) (eg:∀ args w,(callFunc g args).run prog w=.ok (.enter g args) w) (S0:Nat→Prop) (u v:Val) (w:World) (hS0:∀ b,S0 b→b≠w.heap.size) (hku:u.kind=1) (hkv:v.kind=1)
  (h0:∀ W,Below w w W→w<W.heap.size→Calls prog g (#[.int .i64 0]++lb) W (Xy S0 W (some u))) (h1:∀ W,Below w w W→w<W.heap.size→Calls prog g (#[.int .i64 1]++lb) W (Xy S0 W (some v))):
  Calls prog 140 #[.string ⟨#[43,43]⟩,.func (.func g) #[] lb,.int .i64 2] w (Xy S0 w (if u.s.length+v.s.length≤4096 then some (.mk 1 0 (u.s++v.s) [] []) else none)):=by
 obtain ⟨H0,H1,HM,aR,bQ⟩:=Qqr h0 h1 X8 Fu hS0
 have aS:=Qq (fun (n:Int) (s:ByteArray) (p3 p4:Option Addr) (n3 k3 n4 k4:Nat) W=>of_eq 1 n s p3 p4 n3 k3 n4 k4 W)
 have bR:=fun (n:Int) (s:ByteArray) (p3 p4:Option Addr) (n3 k3 n4 k4:Nat) W=>fld2 (.int .i64 1) (.int .i64 n) (.string s) (.slice p3 n3 k3) (.slice p4 n4 k4) W
 have aP:=Qq hku;have aQ:=Qq hkv
 obtain ⟨R,aC⟩:=eX (Xy S0 w (if u.s.length+v.s.length≤4096 then some (.mk 1 0 (u.s++v.s) [] []) else none))
 rw [aC]
 have aX:=Qq aC
 clear h0 h1 hS0 hku hkv aC
 go_enter func140,ntmps140
 go_wp2_with (go_at_call 134;refine (HM.out _).mono ?_;rintro e w' ⟨rfl,rfl⟩)
 refine (H0.out _ (Zg _ _) Qqk).mono ?_
 rintro e w1 ⟨cu,rfl,hu,aD⟩
 obtain ⟨a3,bE,a4,bF,J,_⟩:=Z9.cells hu
 simp only [vcs] at J
 subst J
 obtain ⟨aA,aG,HU⟩:=Qqo ((aD.block w Qqk).trans (Qw w _)) ((Zg w _).thn aD) hu
 clear hu aD
 go_wp2_with fail
 refine (H1.out _ aG.out (Z8 aA.out)).mono ?_
 rintro e w2 ⟨cv,rfl,hv,T⟩
 obtain ⟨b3,bG,b4,bH,J,_⟩:=Z9.cells hv
 simp only [vcs] at J
 subst J
 have aB:=Qq ((T.block w (Z8 aA.out)).trans aA.out);have aN:=Qq (aG.out.thn T)
 have aY:=Qq (Z9.move HU.out (.of_below T) Qzx);have bA:=Qq hv
 clear hv T
 have bU:w.heap.size<w2.heap.size:=Z8 aB.out
 go_upto_region 10 with fail
 generalize O:(w2.alloc _).alloc _=w4
 have I:=eqB O (Zt _ _ _)
 have g1:=eqH (b:=w2.heap.size) O (Q5 _ _ _)
 have g2:=eqH (b:=w2.heap.size+1) O (Q6 _ _ _)
 have aV:=Qq ((I.block w (Z8 aB.out)).trans aB.out);have aO:=Qq (aN.out.thn I)
 have aZ:=Qq (Z9.move aY.out (.of_below I) Qzx);have bB:=Qq (Z9.move bA.out (.of_below I) Qzx)
 have x0:=rA0 g1;have N:=rA0 g2;have x1:=rA1 g1;have y1:=rA1 g2;have x2:=rA2 g1;have y2:=rA2 g2;have x3:=rA3 g1;have y3:=rA3 g2;have x4:=rA4 g1;have V:=rA4 g2
 clear I g1 g2 O
 rw [aP.out] at x0
 rw [aQ.out] at N
 have bS:=Hw aZ.out;have bT:=Hw bB.out
 have Z:((⟨u.s.toArray⟩:ByteArray)++⟨v.s.toArray⟩)=⟨(u.s++v.s).toArray⟩:=ByteArray.ext Qqk
 have aL:∀ w,(Op.stringOp .add ⟨u.s.toArray⟩ ⟨v.s.toArray⟩).run prog w=.ok (.string ⟨(u.s++v.s).toArray⟩) w:=fun w=>by
  rw [run_string_add_sum w _ _ (by show u.s.toArray.size+v.s.toArray.size≤_;simp;omega),Z]
 have M:(u.s++v.s).length=u.s.length+v.s.length:=Ql
 obtain ⟨t,ht⟩:=eX (u.s++v.s)
 rw [ht] at aL M
 have D:=aX.out
 rw [ht,← M] at D
 have Y:=Qq D
 clear Z ht M D
 refine let_mvar% ?Lq1:=fun w':World=>(Qzw w' w2 (.int .i64 1) u.n u.s (.slice a3 u.names.length bE) (.slice a4 u.kids.length bF) ((Qzw w' (w2+1) (.int .i64 1) v.n v.s (.slice b3 v.names.length bG) (.slice b4 v.kids.length bH) ((∃ N y1 y2 y3 V,w'.heap[w.heap.size]?=some (.cells #[N,y1,y2,y3,V] 36 (0,0)))∧Below w w w'):Prop)):Prop);?_
 have HX:∀ w' U,?Lq1 w'→Below w' w' U→?Lq1 U:=fun w' U h h2=>by
  have A:∀ {b j:Nat} {u:Value},w'.cell? ⟨b,j,none⟩=some u→U.cell? ⟨b,j,none⟩=some u:=fun hc=>kC h2 hc
  obtain ⟨N,y1,y2,y3,V,hy⟩:=h.2.2.2.2.2.2.2.2.2.2.1
  exact ⟨A h.1,A h.2.1,A h.2.2.1,A h.2.2.2.1,A h.2.2.2.2.1,A h.2.2.2.2.2.1,A h.2.2.2.2.2.2.1,A h.2.2.2.2.2.2.2.1,A h.2.2.2.2.2.2.2.2.1,A h.2.2.2.2.2.2.2.2.2.1,⟨N,y1,y2,y3,V,kB h2 hy⟩,h.2.2.2.2.2.2.2.2.2.2.2.thn h2⟩
 have HY:∀ w',?Lq1 w'→(∃ N y1 y2 y3 V,w'.heap[w.heap.size]?=some (.cells #[N,y1,y2,y3,V] 36 (0,0))):=fun w' h=>h.2.2.2.2.2.2.2.2.2.2.1
 have aI:∀ w',?Lq1 w'→Below w w w':=fun w' h=>h.2.2.2.2.2.2.2.2.2.2.2
 have HP:∀ w' a b c d e,?Lq1 w'→?Lq1 (Zl w' w a b c d e):=fun w' a b c d e h=>by
  have A:∀ {g j:Nat} {u:Value},g≠w→w'.cell? ⟨g,j,none⟩=some u→(Zl w' w a b c d e).cell? ⟨g,j,none⟩=some u:=fun bL hc=>(World.cell?_of_block (Zf bL)).trans hc
  obtain ⟨N,y1,y2,y3,V,hy⟩:=h.2.2.2.2.2.2.2.2.2.2.1
  exact ⟨A Qqj h.1,A Qqj h.2.1,A Qqj h.2.2.1,A Qqj h.2.2.2.1,A Qqj h.2.2.2.2.1,A Qqj h.2.2.2.2.2.1,A Qqj h.2.2.2.2.2.2.1,A Qqj h.2.2.2.2.2.2.2.1,A Qqj h.2.2.2.2.2.2.2.2.1,A Qqj h.2.2.2.2.2.2.2.2.2.1,⟨a,b,c,d,e,Yd hy⟩,Zc (h.2.2.2.2.2.2.2.2.2.2.2) (Q9 _)⟩
 unfold Zl at HP
 have aK:=Qq (show ?Lq1 w4.drew from ⟨x0,x1,x2,x3,x4,N,y1,y2,y3,V,⟨_,_,_,_,_,aV.out⟩,aO.out.drew⟩)
 obtain ⟨bC,bD,aJ,aU⟩:=Qqp HX HY aI HP
 clear HX HY aI HP x0 x1 x2 x3 x4 N y1 y2 y3 V
 go_wp2_with fail
 go_region_held3 ?Lq1 (first | with_reducible exact aK.out | with_reducible exact G | with_reducible exact aU.out _ _ _ _ _ _ G)
  (first
   | (go_at_call 131;refine (aS.out _ _ _ _ _ _ _ _ _).mono ?_;rintro e w5 ⟨rfl,hb⟩;have G:=bC.out _ _ Qqw hb;clear hb))
 all_goals
  have aH:=Qq (aJ.out _ G)
  obtain ⟨z0,z1,z2,z3,z4,r2⟩:=bD.out _ G;obtain ⟨f0,f1,f2,f3,f4⟩:=frz5 r2;obtain ⟨r0,r1,bV,r3,r4⟩:=row5 r2;have aW:=Qq r2;clear r2
  clear G
  by_cases hl:t.length≤4096
  ·have D:=Y.out
   rw [if_pos hl] at D
   have bK:(t.length:Int)≤4096:=Qqj
   go_wp2_with (go_at_call 134;refine (HM.out _).mono ?_;rintro e w' ⟨rfl,rfl⟩)
   show bodyPost _ _ _ _ _ (Zl w5 w (.int .i64 1) Qqd t Qqf Qqf)
   refine Q7 (v:=.agg #[.int .i64 1,Qqd,t,Qqf,Qqf]) (by simp [results,results140,go_sem,Zd aW.out]) rfl (by rw [← D];exact ⟨_,rfl,Y8 Qqj (Sl.nil _ _ _) (Sl.nil _ _ _),Zc aH.out (Q9 _)⟩)
  have D:=Y.out
  rw [if_neg hl] at D
  have bK:¬ ((t.length:Int)≤4096):=Qqj
  go_wp2_with (go_at_call 134;refine (aR.out _).mono ?_;rintro e w' ⟨rfl,rfl⟩)
  exact ⟨rfl,by rw [← D];exact ⟨rfl,aH.out⟩⟩
def J0 (us:List Sm):Prop:=∀ u ∈ us,∀ c ∈ u.ctors,Jo c.arg∧B0 c.name
def Dg (w:World) (e:Ending) (w':World):Prop:=∃ v p3 k3 p4 k4,e=.returned (.agg (vcs v p3 k3 p4 k4).toArray)∧Y2 v∧v.kids.length≤1∧Z9 (fun b=>w≤b) w' (vcs v p3 k3 p4 k4) v∧Below w w w'
theorem Jl {w w':World} {k n:Int} {s:Bs} (hg:Y2 (.mk k n s [] [])) (hs:s.length≤1000000) (hb:Below w w w'):Dg w (.returned (.agg #[k,n,s,Qqf,Qqf])) w':=
 ⟨.mk k n s [] [],none,0,none,0,rfl,hg,Q8 _,Y8 hs (Sl.nil _ _ _) (Sl.nil _ _ _),hb⟩
theorem G8 (n:Int) (m:Int) (hn:0≤n) (hm:0<m):0≤n.tmod m∧n.tmod m<m:=by
 rw [Int.tmod_eq_emod_of_nonneg hn];exact ⟨Int.emod_nonneg _ Qqj,Int.emod_lt_of_pos _ hm⟩
theorem Sz (s:Sc) (nm:Bs) (tn:Int) (names:List Bs) (kids:List Ty) (n:Int) (hn0:0≤n) (S0 S1:Nat→Prop) (cs ct:List Value) (w:World) (hs:Xu S0 w cs s) (ht:Xf S1 w ct (.mk 0 nm tn names kids)):
  Calls prog 66 #[cs,ct,n] w (Dg w):=by
 obtain ⟨uv,tv,rfl,hu,O⟩:=hs
 obtain ⟨up,uc,rfl,_⟩:=hu.len
 obtain ⟨tp,tc,rfl,_⟩:=O.len
 obtain ⟨q3,l3,q4,l4,rfl,_⟩:=ht.cells'
 obtain ⟨m8,V⟩:=eX (n.tmod 8)
 have N:=G8 n 8 hn0 Qqj
 rw [V] at N
 obtain ⟨Y,Z⟩:=N
 clear hu O ht
 go_enter func66,ntmps66
 go_upto_region 4 with fail
 generalize A:(((w.alloc _).alloc _).alloc _).alloc _=W1
 have M:=eqB A (Zu (Zu (Zu (Zg w _) _) _) _)
 have I:=eqH (b:=w.heap.size) A (Zb (Zb (Zb (Y6 rfl _) _) _) _)
 have J:=eqH (b:=w.heap.size+1) A (Zb (Zb (Y6 Qqk _) _) _)
 have D:=eqH (b:=w.heap.size+1+1) A (Zb (Y6 Qqk _) _)
 have G:=eqH (b:=w.heap.size+1+1+1) A (Y6 Qqk _)
 obtain ⟨T,aB,aC,U,aA⟩:=Qqr M I J D G
 clear A M I J G
 obtain ⟨y0,y1,y2,y3,y4⟩:=row5 D
 obtain ⟨f0,f1,f2,f3,f4⟩:=frz5 D
 clear D
 go_wp2_with fail
 show bodyPost _ _ _ _ _ (Zl W1 (w+1+1) Qqd (.int .i64 (m8 - 2)) Qqe Qqf Qqf)
 exact Q7 (v:=.agg #[Qqd,.int .i64 (m8 - 2),Qqe,Qqf,Qqf]) (by simp [results,results66,go_sem,Zd U.out]) rfl (Jl (s:=[]) (.int _ ⟨Qqj,Qqj⟩) Qqk (Zc T.out Qqj))
theorem Pe (s:Sc) (nm:Bs) (tn:Int) (names:List Bs) (kids:List Ty) (n:Int) (hn0:0≤n) (S0 S1:Nat→Prop) (cs ct:List Value) (w:World) (hs:Xu S0 w cs s) (ht:Xf S1 w ct (.mk 2 nm tn names kids)):
  Calls prog 66 #[cs,ct,n] w (Dg w):=by
 obtain ⟨uv,tv,rfl,hu,O⟩:=hs
 obtain ⟨up,uc,rfl,_⟩:=hu.len
 obtain ⟨tp,tc,rfl,_⟩:=O.len
 obtain ⟨q3,l3,q4,l4,rfl,_⟩:=ht.cells'
 obtain ⟨m8,V⟩:=eX (n.tmod 2)
 have N:=G8 n 2 hn0 Qqj
 rw [V] at N
 obtain ⟨Y,Z⟩:=N
 clear hu O ht
 go_enter func66,ntmps66
 go_upto_region 8 with fail
 generalize A:(((w.alloc _).alloc _).alloc _).alloc _=W1
 have M:=eqB A (Zu (Zu (Zu (Zg w _) _) _) _)
 have I:=eqH (b:=w.heap.size) A (Zb (Zb (Zb (Y6 rfl _) _) _) _)
 have J:=eqH (b:=w.heap.size+1) A (Zb (Zb (Y6 Qqk _) _) _)
 have D:=eqH (b:=w.heap.size+1+1) A (Zb (Y6 Qqk _) _)
 have G:=eqH (b:=w.heap.size+1+1+1) A (Y6 Qqk _)
 obtain ⟨T,aB,aC,U,aA⟩:=Qqr M I J D G
 clear A M I J G
 obtain ⟨y0,y1,y2,y3,y4⟩:=row5 D
 obtain ⟨f0,f1,f2,f3,f4⟩:=frz5 D
 clear D
 go_wp2_with fail
 show bodyPost _ _ _ _ _ (Zl W1 (w+1+1) (.int .i64 2) m8 Qqe Qqf Qqf)
 exact Q7 (v:=.agg #[.int .i64 2,m8,Qqe,Qqf,Qqf]) (by simp [results,results66,go_sem,Zd U.out]) rfl (Jl (s:=[]) (.bool _ Qqj) Qqk (Zc T.out Qqj))
theorem Px (s:Sc) (nm:Bs) (tn:Int) (names:List Bs) (kids:List Ty) (n:Int) (hn0:0≤n) (S0 S1:Nat→Prop) (cs ct:List Value) (w:World) (hs:Xu S0 w cs s) (ht:Xf S1 w ct (.mk 1 nm tn names kids)):
  Calls prog 66 #[cs,ct,n] w (Dg w):=by
 obtain ⟨uv,tv,rfl,hu,O⟩:=hs
 obtain ⟨up,uc,rfl,_⟩:=hu.len
 obtain ⟨tp,tc,rfl,_⟩:=O.len
 obtain ⟨q3,l3,q4,l4,rfl,_⟩:=ht.cells'
 obtain ⟨m8,V⟩:=eX (n.tmod 5)
 have N:=G8 n 5 hn0 Qqj
 rw [V] at N
 obtain ⟨Z,aA⟩:=N
 clear hu O ht
 go_enter func66,ntmps66
 go_upto_region 6 with fail
 generalize A:(((w.alloc _).alloc _).alloc _).alloc _=W1
 have M:=eqB A (Zu (Zu (Zu (Zg w _) _) _) _)
 have I:=eqH (b:=w.heap.size) A (Zb (Zb (Zb (Y6 rfl _) _) _) _)
 have J:=eqH (b:=w.heap.size+1) A (Zb (Zb (Y6 Qqk _) _) _)
 have D:=eqH (b:=w.heap.size+1+1) A (Zb (Y6 Qqk _) _)
 have G:=eqH (b:=w.heap.size+1+1+1) A (Y6 Qqk _)
 obtain ⟨T,aC,aD,U,aB⟩:=Qqr M I J D G
 clear A M I J
 obtain ⟨y0,y1,y2,y3,y4⟩:=row5 D
 obtain ⟨f0,f1,f2,f3,f4⟩:=frz5 D
 clear D
 obtain ⟨j,rfl⟩:∃ j:Nat,m8=(j:Int):=⟨m8.toNat,Qqj⟩
 obtain ⟨x,hx,Y⟩:∃ x:Bs,Qqa W1 (w+1+1+1) (0+j) x∧x.length≤1000000:=by
  have hj:j<5:=Qqj
  rw [Qk _ _ _ _ _ _ G]
  match j,hj with
  | 0,_=>exact ⟨[],rfl,Qqk⟩
  | 1,_=>exact ⟨[97],rfl,Qqk⟩
  | 2,_=>exact ⟨[98],rfl,Qqk⟩
  | 3,_=>exact ⟨[97,98],rfl,Qqk⟩
  | 4,_=>exact ⟨[195,169],rfl,Qqk⟩
 rw [Nat.zero_add] at hx
 clear G
 go_wp2_with fail
 show bodyPost _ _ _ _ _ (Zl W1 (w+1+1) (.int .i64 1) Qqd x Qqf Qqf)
 exact Q7 (v:=.agg #[.int .i64 1,Qqd,x,Qqf,Qqf]) (by simp [results,results66,go_sem,Zd U.out]) rfl (Jl (.text x) Y (Zc T.out Qqj))
theorem Bg (s:Sc) (t:Ty) (hl:Jo t) (n:Int) (hn0:0≤n) (S0 S1:Nat→Prop) (cs ct:List Value) (w:World) (hs:Xu S0 w cs s) (ht:Xf S1 w ct t):
  Calls prog 66 #[cs,ct,n] w (Dg w):=by
 obtain ⟨k,nm,A,names,kids⟩:=t
 rcases hl with h | h | h
 all_goals cases (show k=_ from h)
 ·exact Sz s nm A names kids n hn0 S0 S1 cs ct w hs ht
 ·exact Px s nm A names kids n hn0 S0 S1 cs ct w hs ht
 exact Pe s nm A names kids n hn0 S0 S1 cs ct w hs ht
theorem O5 (S:Nat→Prop) (v:Value) (l:List Int) (k:Nat) (two ref third:Bool) (w:World) (hs:Xc S w v l) (hi:Ub l)
  (hC:∀ W,Below w w W→Calls prog 17 #[v,Qqd] W (Jv W (Gen.check k)))
  (h1:two=(Yp l 1 3==0)) (h2:ref=decide (0<Yp l 2 3)) (h3:third=(Yp l 3 2==0)):
  Calls prog 5 #[v] w (NewSc w (Gen.schema k two ref third)):=by
 have HP:=Qq (fun (i:Nat) (m:Int) (hm:1≤m) (hm2:m≤1000000000) W (hb:Below w w W)=>Yr S v l i m W (hs.below hb) hi hm hm2)
 have HC:=Qq hC
 obtain ⟨z1,cY⟩:=eX (Yp l 1 3)
 obtain ⟨z2,cZ⟩:=eX (Yp l 2 3)
 obtain ⟨z3,dA⟩:=eX (Yp l 3 2)
 have fW:Hid (∀ W,Below w w W→Calls prog 18 #[v,.int .i64 1,.int .i64 3] W fun e w'=>e=.returned (.int .i64 z1)∧W=w'):=Qq (fun W hb=>by have:=HP.out 1 3 Qqj Qqj W hb;rw [cY] at this;exact this)
 have fX:Hid (∀ W,Below w w W→Calls prog 18 #[v,.int .i64 2,.int .i64 3] W fun e w'=>e=.returned (.int .i64 z2)∧W=w'):=Qq (fun W hb=>by have:=HP.out 2 3 Qqj Qqj W hb;rw [cZ] at this;exact this)
 have fY:Hid (∀ W,Below w w W→Calls prog 18 #[v,.int .i64 3,.int .i64 2] W fun e w'=>e=.returned (.int .i64 z3)∧W=w'):=Qq (fun W hb=>by have:=HP.out 3 2 Qqj Qqj W hb;rw [dA] at this;exact this)
 rw [cY] at h1;rw [cZ] at h2;rw [dA] at h3
 obtain ⟨H1,H2,H3⟩:=Qqo h1 h2 h3
 obtain ⟨p,cap,rfl,_⟩:=hs.len
 clear hs hi hC h1 h2 h3 HP cY cZ dA
 obtain ⟨i0,j1,j2,j3,j4⟩:=Y9 (P:=prog) (t:=48) (z:=.agg zT) (n:=13) (b:=224) Qqy
 obtain ⟨HJ,fL,fM,fN⟩:=Qqp j1 j2 j3 j4
 clear j1 j2 j3 j4
 go_enter func5,ntmps5
 go_upto_region 4 with fail
 generalize D:World.alloc (World.alloc (World.alloc (World.alloc (World.alloc w _) _) _) _) _=W3
 have bK:=eqB D (Zu (Zu (Zu (Zu (Zg w _) _) _) _) _)
 have cH:W3=w.heap.size+5:=by rw [← D];simp
 have g0:=eqH (b:=w.heap.size) D (Zb (Zb (Zb (Zb (Y6 rfl _) _) _) _) _)
 have g1:=eqH (b:=w.heap.size+1) D (Zb (Zb (Zb (Y6 Qqk _) _) _) _)
 have g2:=eqH (b:=w.heap.size+1+1) D (Zb (Zb (Y6 Qqk _) _) _)
 have g3:=eqH (b:=w.heap.size+1+1+1) D (Zb (Y6 Qqk _) _)
 have g4:=eqH (b:=w.heap.size+1+1+1+1) D (Y6 Qqk _)
 clear D
 have fI:=Qq (HC.out (W3.alloc (.cells #[.string ⟨#[97]⟩] 9)) (Zu bK _))
 have hk:=Y6 rfl (W:=W3) (.cells #[.string ⟨#[97]⟩] 9)
 have aC:=Qq cH
 obtain ⟨G0,G1,G2,G3,G4,GK,fG⟩:=Qqt g0 g1 g2 g3 g4 hk bK
 clear g0 g1 g2 g3 g4 hk bK cH
 go_upto_region 5 with (go_at_call 17;refine fI.out.mono ?_;rintro e I ⟨hO,rfl,bM,eI⟩;obtain ⟨aJ,aL,aK,aM,aF,aO,aR,aG,aP,aS,aH,aQ,aT,aI,aN,eJ⟩:=Yv.cells bM;subst eJ;have fK:=Qq bM;have V:=Qq eI;clear bM eI)
 have hH:w.heap.size+6≤I.heap.size:=by have:=V.out.size;have:=aC.out;simp at *;omega
 have cW:W3.heap.size<I.heap.size:=by have:=V.out.size;simp at this;omega
 have q0:=Jr V.out (by simp;have:=aC.out;omega) (Zb G0.out _);have q1:=Jr V.out (by simp;have:=aC.out;omega) (Zb G1.out _);have q2:=Jr V.out (by simp;have:=aC.out;omega) (Zb G2.out _);have q3:=Jr V.out (by simp;have:=aC.out;omega) (Zb G3.out _);have q4:=Jr V.out (by simp;have:=aC.out;omega) (Zb G4.out _);have qk:=Jr V.out Qqk GK.out
 have u0:=Z8 q0;have u1:=Z8 q1;have u2:=Z8 q2;have u4:=Z8 q4
 have bG:=Qq ((Zu fG.out _).thn V.out)
 obtain ⟨Q0,Q1,Q2,Q3,Q4,QK⟩:=Qqs q0 q1 q2 q3 q4 qk
 obtain ⟨a0,a1,a2,a3,a4⟩:=row5 q1
 obtain ⟨c0,c1,c2,c3,c4⟩:=row5 q2
 clear q0 q1 q2 q3 q4 qk
 go_upto_if 35 with (go_at_call 18;refine (fW.out _ (Zu (Zu bG.out _) _)).mono ?_;rintro e w' ⟨rfl,rfl⟩)
 generalize D:World.alloc (World.alloc I _) _=W6
 have cG:=eqB D (Zu (Zg I _) _)
 have cI:W6=I.heap.size+2:=by rw [← D];simp
 have k0:=eqH (b:=I.heap.size) D (Zb (Y6 rfl _) _)
 have k1:=eqH (b:=I.heap.size+1) D (Y6 Qqk _)
 clear D
 obtain ⟨cO,dL,cM,hK⟩:=Qqp k0 k1 cG cI
 have hF:I.heap.size+1<W6.heap.size:=Qqj
 clear k0 k1 cG cI
 go_cut [] from 34 (fun wx=>∃ kp kn kc,wx.heap[I.heap.size]?=some (.cells #[.string ⟨#[116]⟩,Qqb (I+1) 0 5 5,.slice kp kn kc,Qqf,aJ,.string aL,aK,.string aM,.slice aF aO aR,.slice aG aP aS,.slice aH aQ aT,aI,aN] 48 (0,0))∧wx.heap[I.heap.size+1]?=some (.cells #[.string ⟨#[97]⟩,Qqd,Qqe,Qqd,Qqf,Qqf,.string ⟨#[98]⟩,Qqd,Qqe,Qqd,Qqf,Qqf,.string ⟨#[99]⟩,.int .i64 1,Qqe,Qqd,Qqf,Qqf,.string ⟨#[100]⟩,.int .i64 2,Qqe,Qqd,Qqf,Qqf,.string ⟨#[101]⟩,.int .i64 3,.string ⟨#[72,117,101]⟩,Qqd,Qqf,Qqf] 64 (0,0))∧Sl Zh (fun x=>w<x∧x≠I) wx (.slice kp kn kc) (if two then [[98],[97]] else [[97]]:List Bs)∧Below I I wx∧I+2≤wx.heap.size)
 case first=>
  by_cases ht:z1=0
  ·have h1:two=true:=by rw [H1.out,ht];rfl
   have hq:(z1==0)=true:=by rw [ht];rfl
   have k0:=cO.out
   have f2:=fA 2 k0;have y2:=rA2 k0
   have gK:=Z8 k0
   have eP:I.heap.size≠W6.heap.size:=Qqj
   clear k0
   go_wp2_with fail
   go_meet
   generalize Y:W6.setCell _ _=WX
   have hx:WX.heap[I.heap.size]?=some (.cells #[.string ⟨#[116]⟩,Qqb (I+1) 0 5 5,Qqb W6 0 2 2,Qqf,aJ,.string aL,aK,.string aM,.slice aF aO aR,.slice aG aP aS,.slice aH aQ aT,aI,aN] 48 (0,0)):=by rw [← Y,Qi _ _ _ _ _ _ cO.out];rfl
   have gP:WX.heap[I.heap.size+1]?=some (.cells #[.string ⟨#[97]⟩,Qqd,Qqe,Qqd,Qqf,Qqf,.string ⟨#[98]⟩,Qqd,Qqe,Qqd,Qqf,Qqf,.string ⟨#[99]⟩,.int .i64 1,Qqe,Qqd,Qqf,Qqf,.string ⟨#[100]⟩,.int .i64 2,Qqe,Qqd,Qqf,Qqf,.string ⟨#[101]⟩,.int .i64 3,.string ⟨#[72,117,101]⟩,Qqd,Qqf,Qqf] 64 (0,0)):=by rw [← Y,Za (show I+1≠I.heap.size by omega)];exact dL.out
   have dB:WX.heap.size=W6.heap.size:=by rw [← Y];simp [World.setCell]
   have cS:Below I I WX:=by rw [← Y];exact cM.out.setCell (p:=⟨I,2,none⟩) (Q9 _) _
   rw [h1]
   exact ⟨_,_,_,Zb hx _,Zb gP _,Y4 (Y6 dB _) ⟨Qqj,Qqj⟩ (Oa _ _ [98] [97] Qqk Qqk) rfl rfl Qqk,cS.alloc Qqj _,by simp;omega⟩
  have h1:two=false:=by rw [H1.out];simpa using ht
  have hq:(z1==0)=false:=by simpa using ht
  go_wp2_with fail
  go_meet
  rw [h1]
  exact ⟨_,_,_,cO.out,dL.out,Y4 (Jr cM.out cW QK.out) ⟨by have:=aC.out;omega,Qqj⟩ (Ku [97] Qqk) rfl rfl Qqk,cM.out,Qqj⟩
 obtain ⟨kp,kn,kc,hT,eC,eD,hB,hZ⟩:=hcut
 obtain ⟨T,rfl⟩:∃ T,T=wc:=⟨_,rfl⟩
 obtain ⟨HT,fJ,fT,fH⟩:=Qqp hT eC eD hB;have hR:I.heap.size+2≤T.heap.size:=hZ
 have dK:=Qq (bG.out.thn hB)
 have q1:=Jr hB u1 Q1.out;have q2:=Jr hB u2 Q2.out;have q4:=Jr hB u4 Q4.out
 have t0:=Z8 q1;have t2:=Z8 q2
 clear a0 a1 a2 a3 a4 c0 c1 c2 c3 c4 hT eC eD hB hZ u0 u1 u2 u4
 obtain ⟨a0,a1,a2,a3,a4⟩:=row5 q1
 obtain ⟨c0,c1,c2,c3,c4⟩:=row5 q2
 have hM:=Qq q1;have hN:=Qq q4
 clear q1 q2 q4
 go_upto_if 48 with (go_at_call 18;refine (fX.out _ (Zu (Zu (Zu dK.out _) _) _)).mono ?_;rintro e w' ⟨rfl,rfl⟩)
 generalize D:World.alloc (World.alloc (World.alloc T _) _) _=W9
 have bA:=eqB D (Zu (Zu (Zg T _) _) _)
 have cJ:W9=T.heap.size+3:=by rw [← D];simp
 have k2:=eqH (b:=T.heap.size) D (Zb (Zb (Y6 rfl _) _) _)
 have k3:=eqH (b:=T.heap.size+1) D (Zb (Y6 Qqk _) _)
 have k4:=eqH (b:=T.heap.size+1+1) D (Y6 Qqk _)
 clear D
 obtain ⟨fO,fP,fQ,dJ,hL⟩:=Qqr k2 k3 k4 bA cJ
 have cQ:=Qq (kB bA HT.out)
 have hS:T.heap.size+3≤W9.heap.size:=Qqj
 have cC:=Qq (fH.out.trans (bA.mono Qqj))
 clear k2 k3 k4 bA cJ
 go_cut [] from 47 (fun wx=>∃ rp rn rc,wx.heap[I.heap.size]?=some (.cells #[.string ⟨#[116]⟩,Qqb (I+1) 0 5 5,.slice kp kn kc,.slice rp rn rc,aJ,.string aL,aK,.string aM,.slice aF aO aR,.slice aG aP aS,.slice aH aQ aT,aI,aN] 48 (0,0))∧Sl Dd (fun x=>w<x∧x≠I) wx (.slice rp rn rc) (if ref then [⟨[98],[117]⟩] else []:List Rf)∧(∀ c,c≠I.heap.size→c<W9.heap.size→wx.heap[c]?=W9.heap[c]?)∧Below I I wx∧W9≤wx.heap.size)
 case first=>
  by_cases ht:0<z2
  ·have h2:ref=true:=by rw [H2.out];simpa using ht
   have k0:=cQ.out
   have f3:=fA 3 k0;have y3:=rA3 k0
   have gK:=Z8 k0
   have eP:I.heap.size≠W9.heap.size:=Qqj
   clear k0
   go_wp2_with fail
   go_meet
   generalize Y:W9.setCell _ _=WX
   have hx:WX.heap[I.heap.size]?=some (.cells #[.string ⟨#[116]⟩,Qqb (I+1) 0 5 5,.slice kp kn kc,Qqb W9 0 1 1,aJ,.string aL,aK,.string aM,.slice aF aO aR,.slice aG aP aS,.slice aH aQ aT,aI,aN] 48 (0,0)):=by rw [← Y,Qi _ _ _ _ _ _ cQ.out];rfl
   have dB:WX.heap.size=W9.heap.size:=by rw [← Y];simp [World.setCell]
   have gL:∀ c,c≠I.heap.size→WX.heap[c]?=W9.heap[c]?:=fun c hc=>by rw [← Y,Za hc]
   have cS:Below I I WX:=by rw [← Y];exact cC.out.setCell (p:=⟨I,3,none⟩) (Q9 _) _
   rw [h2]
   exact ⟨_,_,_,Zb hx _,Y4 (r:=Dd) (xs:=[(⟨[98],[117]⟩:Rf)]) (Y6 dB _) ⟨Qqj,Qqj⟩ (Cs.one (r:=Dd) (x:=(⟨[98],[117]⟩:Rf)) (c:=[.string ⟨#[98]⟩,.string ⟨#[117]⟩]) ⟨rfl,Qqk,Qqk⟩) rfl rfl Qqk,fun c h1 h2=>((Zg WX _).block c Qqj).trans (gL c h1),cS.alloc Qqj _,by simp;omega⟩
  have h2:ref=false:=by rw [H2.out];simpa using ht
  go_wp2_with fail
  go_meet
  rw [h2]
  exact ⟨_,_,_,cQ.out,Sl.nil _ _ _,fun c _ _=>rfl,cC.out,Q9 _⟩
 obtain ⟨rp,rn,rc,hT,eE,M,hB,hZ⟩:=hcut
 obtain ⟨A,rfl⟩:∃ A,A=wc:=⟨_,rfl⟩
 have eB:A.heap[I.heap.size+1]?=some (.cells #[.string ⟨#[97]⟩,Qqd,Qqe,Qqd,Qqf,Qqf,.string ⟨#[98]⟩,Qqd,Qqe,Qqd,Qqf,Qqf,.string ⟨#[99]⟩,.int .i64 1,Qqe,Qqd,Qqf,Qqf,.string ⟨#[100]⟩,.int .i64 2,Qqe,Qqd,Qqf,Qqf,.string ⟨#[101]⟩,.int .i64 3,.string ⟨#[72,117,101]⟩,Qqd,Qqf,Qqf] 64 (0,0)):=(M _ Qqj Qqj).trans (kE dJ.out Qqj fJ.out)
 have eS:A.heap[T.heap.size]?=some (.cells #[.string ⟨#[107]⟩,Qqd,Qqe,Qqd,Qqf,Qqf,.string ⟨#[110]⟩,.int .i64 1,Qqe,Qqd,Qqf,Qqf] 64 (0,0)):=(M _ Qqj Qqj).trans fO.out
 have eT:A.heap[T.heap.size+1]?=some (.cells #[.string ⟨#[107]⟩] 9 (0,0)):=(M _ Qqj Qqj).trans fP.out
 have cX:A.heap[T.heap.size+1+1]?=some (.cells #[.string ⟨#[117]⟩,Qqb T 0 2 2,Qqb (T+1) 0 1 1,Qqf,.int .i64 2,Qqe,.int .i64 1,Qqe,Qqf,Qqf,Qqf,Qqd,Qqd] 48 (0,0)):=(M _ Qqj Qqj).trans fQ.out
 have eN:Sl Zh (fun x=>w<x∧x≠I) A (.slice kp kn kc) (if two then [[98],[97]] else [[97]]:List Bs):=fT.out.frame (fun c hc aW=>(M c hc.2 Qqj).trans (dJ.out.block c aW))
 have hue:=Jr hB (Z8 Q4.out) Q4.out;have bC:=Jr hB (Z8 Q1.out) Q1.out;have eK:=Jr hB (Z8 Q3.out) Q3.out;have O:=Jr hB (Z8 Q0.out) Q0.out
 have eG:Zn.R (fun x=>w<x∧x<A) A [.string ⟨#[116]⟩,Qqb (I+1) 0 5 5,.slice kp kn kc,.slice rp rn rc,aJ,.string aL,aK,.string aM,.slice aF aO aR,.slice aG aP aS,.slice aH aQ aT,aI,aN] ⟨[116],[⟨[97],Gen.whole⟩,⟨[98],Gen.whole⟩,⟨[99],Gen.text⟩,⟨[100],Gen.yesno⟩,⟨[101],Gen.hueT⟩],if two then [[98],[97]] else [[97]],if ref then [⟨[98],[117]⟩] else [],Gen.check k⟩:=by
  refine ⟨_,_,_,_,rfl,Qqk,?_,eN.mono (fun c hb h=>⟨h.1,hb⟩),eE.mono (fun c hb h=>⟨h.1,hb⟩),(fK.out.move (.of_below hB) (fun c hb h=>⟨by have h':(W3.alloc (.cells #[.string ⟨#[97]⟩] 9)).heap.size≤c:=h;have:=aC.out;simp at h';omega,Qqj⟩))⟩
  exact Y4 eB ⟨Qqj,Qqj⟩ (((((Cs.one (r:=X7) (Uj [97] 0 [] Qqk Qqk)).app (Cs.one (r:=X7) (Uj [98] 0 [] Qqk Qqk))).app (Cs.one (r:=X7) (Uj [99] 1 [] Qqk Qqk))).app (Cs.one (r:=X7) (Uj [100] 2 [] Qqk Qqk))).app (Cs.one (r:=X7) (Uj [101] 3 [72,117,101] Qqk Qqk))) rfl rfl Qqk
 have eH:Zn.R (fun x=>w<x∧x<A) A [.string ⟨#[117]⟩,Qqb T 0 2 2,Qqb (T+1) 0 1 1,Qqf,.int .i64 2,Qqe,.int .i64 1,Qqe,Qqf,Qqf,Qqf,Qqd,Qqd] ⟨[117],[⟨[107],Gen.whole⟩,⟨[110],Gen.text⟩],[[107]],[],Gen.yes⟩:=by
  refine ⟨_,_,_,_,rfl,Qqk,?_,?_,Sl.nil _ _ _,Nd _ _ none none none 0 0 0⟩
  ·exact Y4 eS ⟨Qqj,Qqj⟩ ((Cs.one (r:=X7) (Uj [107] 0 [] Qqk Qqk)).app (Cs.one (r:=X7) (Uj [110] 1 [] Qqk Qqk))) rfl rfl Qqk
  exact Y4 eT ⟨Qqj,Qqj⟩ (Ku [107] Qqk) rfl rfl Qqk
 obtain ⟨dU,dV,gZ,bW,fZ,gA⟩:=Qqs eG eH hB eK O bC
 have bE:=Qq (bG.out.thn hB)
 have z0:=Z8 hT;have z2:=Z8 cX;have z4:=Z8 hue;have z5:=Z8 O
 clear a0 a1 a2 a3 a4 c0 c1 c2 c3 c4 eG eH eB eS eT eN eE M hB eK O bC t0 t2
 obtain ⟨p0,p1,p2,p3,p4,p5,p6,p7,p8,p9,gS,gT,gU⟩:=row13 hT
 obtain ⟨q0,q1,q2,q3,q4,q5,q6,q7,q8,q9,gV,gW,gX⟩:=row13 cX
 obtain ⟨m0,m1⟩:=row2 hue
 clear hT cX hue
 go_upto_if 60 with (go_at_call 18;refine (fY.out _ (Zu (Zu (Zu bE.out _) _) _)).mono ?_;rintro e w' ⟨rfl,rfl⟩)
 generalize D:World.alloc (World.alloc (World.alloc A _) _) _=G
 have aA:=eqB D (Zu (Zu (Zg A _) _) _)
 have bP:G=A.heap.size+3:=by rw [← D];simp
 have k5:=eqH (b:=A.heap.size) D (Zb (Zb (Y6 rfl _) _) _)
 have k6:=eqH (b:=A.heap.size+1) D (Zb (Y6 Qqk _) _)
 have k7:=eqH (b:=A.heap.size+1+1) D (Y6 Qqk _)
 clear D
 obtain ⟨dN,dO,cP,aB,hD⟩:=Qqr k5 k6 k7 aA bP
 have bF:=Qq (bE.out.thn aA)
 have hI:A.heap.size+3≤G.heap.size:=Qqj
 have O:=kE aA z5 fZ.out
 have y0:=Qk _ _ 0 _ _ _ O;have y1:=Qk _ _ 1 _ _ _ O;have dZ:=fA 0 O;have eA:=fA 1 O
 simp only [Qf,Qg,Qh] at y0 y1
 have cD:=Qq O
 clear aA bP O p0 p1 p2 p3 p4 p5 p6 p7 p8 p9 gS gT gU q0 q1 q2 q3 q4 q5 q6 q7 q8 q9 gV gW gX m0 m1
 by_cases ht:z3=0
 ·have h3:third=true:=by rw [H3.out,ht];rfl
  have hq:(z3==0)=true:=by rw [ht];rfl
  have bC:=kB aB.out gA.out
  have hQ:=Z8 bC
  have k7:=cP.out
  clear y0 y1 dZ eA
  obtain ⟨a0,a1,a2,a3,a4⟩:=row5 bC
  obtain ⟨s0,s1⟩:=row2 k7
  have gN:=Z8 k7
  clear bC k7
  go_upto_region 14 with fail
  generalize D:World.alloc (World.alloc (World.alloc (World.alloc G _) _) _) _=N
  have J:=eqB D (Zu (Zu (Zu (Zg G _) _) _) _)
  have bQ:N=G.heap.size+4:=by rw [← D];simp
  have k8:=eqH (b:=G.heap.size) D (Zb (Zb (Zb (Y6 rfl _) _) _) _)
  have k9:=eqH (b:=G.heap.size+1) D (Zb (Zb (Y6 Qqk _) _) _)
  have eU:=eqH (b:=G.heap.size+1+1) D (Zb (Y6 Qqk _) _)
  have eV:=eqH (b:=G.heap.size+1+1+1) D (Y6 Qqk _)
  clear D
  obtain ⟨cB,hE,fR,fS,dM⟩:=Qqr J bQ k8 k9 eU
  have cN:=Qq (bF.out.thn J)
  have hJ:G.heap.size+4≤N.heap.size:=Qqj
  have bX:=kE J gN cP.out
  have eM:=kB J dO.out
  have bO:=kB J cD.out
  have dP:=Qq bX;have dS:=Qq bO
  have Z:=aB.out.thn J
  have aY:Zn.R (fun x=>(fun x=>w.heap.size<x∧x≠A.heap.size+1+1) x∧x≠A+1) N [.string ⟨#[116]⟩,Qqb (I+1) 0 5 5,.slice kp kn kc,.slice rp rn rc,aJ,.string aL,aK,.string aM,.slice aF aO aR,.slice aG aP aS,.slice aH aQ aT,aI,aN] ⟨[116],[⟨[97],Gen.whole⟩,⟨[98],Gen.whole⟩,⟨[99],Gen.text⟩,⟨[100],Gen.yesno⟩,⟨[101],Gen.hueT⟩],if two then [[98],[97]] else [[97]],if ref then [⟨[98],[117]⟩] else [],Gen.check k⟩:=Zn.mono (Zn.frame dU.out (fun c hc aW=>Z.block c aW)) (fun c _ h=>⟨⟨h.1,by have:=h.2;omega⟩,by have:=h.2;omega⟩)
  have aZ:Zn.R (fun x=>(fun x=>w.heap.size<x∧x≠A.heap.size+1+1) x∧x≠A+1) N [.string ⟨#[117]⟩,Qqb T 0 2 2,Qqb (T+1) 0 1 1,Qqf,.int .i64 2,Qqe,.int .i64 1,Qqe,Qqf,Qqf,Qqf,Qqd,Qqd] ⟨[117],[⟨[107],Gen.whole⟩,⟨[110],Gen.text⟩],[[107]],[],Gen.yes⟩:=Zn.mono (Zn.frame dV.out (fun c hc aW=>Z.block c aW)) (fun c _ h=>⟨⟨h.1,by have:=h.2;omega⟩,by have:=h.2;omega⟩)
  have dQ:=Qq (Ta (r:=Zn) (S:=(fun x=>w<x∧x≠A+1+1)) (B:=A.heap.size) (n:=2) (xs:=[⟨[116],[⟨[97],Gen.whole⟩,⟨[98],Gen.whole⟩,⟨[99],Gen.text⟩,⟨[100],Gen.yesno⟩,⟨[101],Gen.hueT⟩],if two then [[98],[97]] else [[97]],if ref then [⟨[98],[117]⟩] else [],Gen.check k⟩,⟨[117],[⟨[107],Gen.whole⟩,⟨[110],Gen.text⟩],[[107]],[],Gen.yes⟩]) eM (Nat.le_succ _) ((Cs.one (r:=Zn) aY).app (Cs.one (r:=Zn) aZ)) rfl rfl Qqk)
  have hV:Zn.R (But (fun x=>w<x∧x≠A+1+1) (.slice (some ⟨A+1,0,none⟩) 2 2)) N [.string ⟨#[118]⟩,Qqb G 0 2 2,Qqb (G+1) 0 1 1,Qqb (G+1+1) 0 2 2,.int .i64 2,Qqe,.int .i64 1,Qqe,Qqf,Qqf,Qqf,Qqd,Qqd] ⟨[118],[⟨[120],Gen.whole⟩,⟨[121],Gen.whole⟩],[[120]],[⟨[121],[118]⟩,⟨[120],[117]⟩],Gen.yes⟩:=by
   refine ⟨_,_,_,_,rfl,Qqk,?_,?_,?_,Nd _ _ none none none 0 0 0⟩
   ·exact Y4 fR.out ⟨⟨Qqj,Qqj⟩,fun e=>by have e':G=A.heap.size+1:=Qb e;omega⟩ ((Cs.one (r:=X7) (Uj [120] 0 [] Qqk Qqk)).app (Cs.one (r:=X7) (Uj [121] 0 [] Qqk Qqk))) rfl rfl Qqk
   ·exact Y4 fS.out ⟨⟨Qqj,Qqj⟩,fun e=>by have e':G+1=A.heap.size+1:=Qb e;omega⟩ (Ku [120] Qqk) rfl rfl Qqk
   exact Y4 (r:=Dd) (xs:=[(⟨[121],[118]⟩:Rf),⟨[120],[117]⟩]) dM.out ⟨⟨Qqj,Qqj⟩,fun e=>by have e':G+1+1=A.heap.size+1:=Qb e;omega⟩ ((Cs.one (r:=Dd) (x:=(⟨[121],[118]⟩:Rf)) (c:=[.string ⟨#[121]⟩,.string ⟨#[118]⟩]) ⟨rfl,Qqk,Qqk⟩).app (Cs.one (r:=Dd) (x:=(⟨[120],[117]⟩:Rf)) (c:=[.string ⟨#[120]⟩,.string ⟨#[117]⟩]) ⟨rfl,Qqk,Qqk⟩)) rfl rfl Qqk
  have HV:=Qq hV
  have eO:w.heap.size<N.heap.size:=Z8 bO
  have cT:A.heap.size+1+1<N.heap.size:=Z8 bX
  have eR:some (A.heap.size+1+1)≠(Value.slice (some ⟨A+1,0,none⟩) 2 2).ownBlock:=fun e=>by have e':A+1+1=A.heap.size+1:=Qb e;omega
  have eQ:some w.heap.size≠(Value.slice (some ⟨A+1,0,none⟩) 2 2).ownBlock:=fun e=>by have e':w=A.heap.size+1:=Qb e;omega
  have fV:=Qq eR;have fU:=Qq eQ
  clear a0 a1 a2 a3 a4 s0 s1 k8 k9 eU J bQ aY aZ hV eM bO Z eR eQ
  obtain ⟨s0,s1⟩:=row2 bX
  obtain ⟨v0,v1,v2,v3,v4,v5,v6,v7,v8,v9,hU,hW,hX⟩:=row13 eV
  clear bX eV
  go_wp2_with (at_builtin;refine Yl (r:=Zn) Qqx rfl (.tmp 73) (.tmp 75) _ rfl 48 i0 (.agg zT) 224 underlying24 HJ.out fL.out fM.out fN.out rfl Qqj (fun x=>w<x∧x≠A+1+1) A N (.slice (some ⟨A+1,0,none⟩) 2 2) [⟨[116],[⟨[97],Gen.whole⟩,⟨[98],Gen.whole⟩,⟨[99],Gen.text⟩,⟨[100],Gen.yesno⟩,⟨[101],Gen.hueT⟩],if two then [[98],[97]] else [[97]],if ref then [⟨[98],[117]⟩] else [],Gen.check k⟩,⟨[117],[⟨[107],Gen.whole⟩,⟨[110],Gen.text⟩],[[107]],[],Gen.yes⟩] _ [.string ⟨#[118]⟩,Qqb G 0 2 2,Qqb (G+1) 0 1 1,Qqb (G+1+1) 0 2 2,.int .i64 2,Qqe,.int .i64 1,Qqe,Qqf,Qqf,Qqf,Qqd,Qqd] ⟨[118],[⟨[120],Gen.whole⟩,⟨[121],Gen.whole⟩],[[120]],[⟨[121],[118]⟩,⟨[120],[117]⟩],Gen.yes⟩ rfl dQ.out rfl HV.out (by simp [Value.oneCell']) 2 rfl Qqj Qqj ?_;intro eW dX gG dC cE aX;have aE:=(aX.other _ cT fV.out).trans dP.out;have s0:=Qk _ _ 0 _ _ _ aE;have s1:=Qk _ _ 1 _ _ _ aE;have hP:=fA 1 aE;have U:=(aX.other _ eO fU.out).trans dS.out;have y0:=Qk _ _ 0 _ _ _ U;have y1:=Qk _ _ 1 _ _ _ U;have dZ:=fA 0 U;have eA:=fA 1 U;simp only [Qf,Qg,Qh] at s0 s1 y0 y1;obtain ⟨hA,dT,dR,bH⟩:=Qqp aE U cE aX;have cU:w≠A.heap.size+1+1:=Qqj;clear aE U cE aX)
  generalize aV:((dC.setCell _ _).setCell _ _).setCell _ _=WF
  have cV:WF.heap[w.heap.size]?=some (.cells #[Qqb A 0 1 1,.slice eW (2+1) dX] 26 (0,0)):=by
   rw [← aV]
   exact Qi _ _ 1 _ _ _ (Qi _ _ 0 _ _ _ ((Za cU).trans dT.out))
  have aD:∀ b,b≠w.heap.size→b≠A.heap.size+1+1→WF.heap[b]?=dC.heap[b]?:=fun b hb gJ=>by rw [← aV,Za hb,Za hb,Za gJ]
  have cR:Below w w WF:=by
   rw [← aV]
   exact ((((cN.out.trans (bH.out.below.mono Qqj)).setCell (p:=⟨A+1+1,1,none⟩) (by show w≤A.heap.size+1+1;omega) _).setCell (p:=⟨w,0,none⟩) (Q9 _) _).setCell (p:=⟨w,1,none⟩) (Q9 _) _)
  have bN:=Z8 bW.out
  have M:∀ b,b≠A.heap.size+1→b<N.heap.size→dC.heap[b]?=N.heap[b]?:=fun b hb aW=>bH.out.other b aW (fun e=>hb (Qb e))
  have o5:WF.heap[A.heap.size]?=_:=(aD _ Qqj Qqj).trans ((M _ Qqj Qqj).trans (kE cB.out Qqj dN.out))
  have oc:WF.heap[w.heap.size+1+1+1]?=_:=(aD _ Qqj Qqj).trans ((M _ Qqj Qqj).trans (kE cB.out Qqj ((aB.out.block _ bN).trans bW.out)))
  have eF:=dR.out.sl' (S':=(fun x=>w<x∧x≠A+1+1)) Qqk (fun b hb=>by
   rcases bH.out.at' with e | ⟨g,e,hg⟩
   ·rw [e] at hb
    have e':A.heap.size+1=b:=Qb hb
    exact ⟨Qqj,Qqj⟩
   rw [e] at hb
   have e':g=b:=Qb hb
   exact ⟨Qqj,Qqj⟩) Qzx
  have gH:=(eF.frame (w':=WF) (fun b hb _=>aD b (by have:=hb.1;omega) hb.2)).mono (S':=fun b=>w≤b) (fun b _ h=>Nat.le_of_lt h.1)
  have cF:=fun j=>Qk _ _ j _ _ _ cV
  have bI:=cF 0;have bJ:=cF 1
  simp only [Qf,Qg,Qh] at bI bJ
  refine Q7 (v:=.agg #[Qqb A 0 1 1,.slice eW (2+1) dX]) (by simp [results,results5,go_sem,bI,bJ]) rfl ⟨_,rfl,⟨_,_,rfl,?_,?_⟩,cR⟩
  ·refine Y4 (r:=Uu) (xs:=[Gen.hue]) o5 (by show w.heap.size≤_;omega) (Cs.one (r:=Uu) (c:=[.string ⟨#[72,117,101]⟩,.slice (some ⟨w+1+1+1,0,none⟩) 2 2]) ⟨_,rfl,by simp [Gen.hue],?_⟩) rfl rfl Qqk
   exact Y4 (r:=Gg) (xs:=Gen.hue.ctors) oc (by show w.heap.size≤_;omega) ((Cs.one (r:=Gg) (Nf [82,101,100] false 0 Qqk)).app (Cs.one (r:=Gg) (Nf [68,97,114,107] true 0 Qqk))) rfl rfl (by simp [Gen.hue])
  rw [h3]
  exact gH
 have h3:third=false:=by rw [H3.out];simpa using ht
 have hq:(z3==0)=false:=by simpa using ht
 have k7:=cP.out
 obtain ⟨s0,s1⟩:=row2 k7
 clear k7
 go_wp2_with fail
 generalize aV:(G.setCell _ _).setCell _ _=WF
 have cV:WF.heap[w.heap.size]?=some (.cells #[Qqb A 0 1 1,Qqb (A+1) 0 2 2] 26 (0,0)):=by
  rw [← aV]
  exact Qi _ _ 1 _ _ _ (Qi _ _ 0 _ _ _ cD.out)
 have aD:∀ b,b≠w.heap.size→WF.heap[b]?=G.heap[b]?:=fun b hb=>by rw [← aV,Za hb,Za hb]
 have cR:Below w w WF:=by rw [← aV];exact (bF.out.setCell (p:=⟨w,0,none⟩) (Q9 _) _).setCell (p:=⟨w,1,none⟩) (Q9 _) _
 have bN:=Z8 bW.out
 have o5:=(aD _ Qqj).trans dN.out;have o6:=(aD _ Qqj).trans dO.out
 have oc:=(aD (w+1+1+1) Qqj).trans (kE aB.out bN bW.out)
 have eL:∀ c,w.heap.size<c∧c<A.heap.size→WF.heap[c]?=A.heap[c]?:=fun c hc=>(aD c Qqj).trans (aB.out.block c hc.2)
 have aY:Zn.R (fun x=>w≤x) WF [.string ⟨#[116]⟩,Qqb (I+1) 0 5 5,.slice kp kn kc,.slice rp rn rc,aJ,.string aL,aK,.string aM,.slice aF aO aR,.slice aG aP aS,.slice aH aQ aT,aI,aN] ⟨[116],[⟨[97],Gen.whole⟩,⟨[98],Gen.whole⟩,⟨[99],Gen.text⟩,⟨[100],Gen.yesno⟩,⟨[101],Gen.hueT⟩],if two then [[98],[97]] else [[97]],if ref then [⟨[98],[117]⟩] else [],Gen.check k⟩:=Zn.mono (Zn.frame dU.out (fun c hc _=>eL c hc)) (fun c _ h=>by have:=h.1;show w≤c;omega)
 have aZ:Zn.R (fun x=>w≤x) WF [.string ⟨#[117]⟩,Qqb T 0 2 2,Qqb (T+1) 0 1 1,Qqf,.int .i64 2,Qqe,.int .i64 1,Qqe,Qqf,Qqf,Qqf,Qqd,Qqd] ⟨[117],[⟨[107],Gen.whole⟩,⟨[110],Gen.text⟩],[[107]],[],Gen.yes⟩:=Zn.mono (Zn.frame dV.out (fun c hc _=>eL c hc)) (fun c _ h=>by have:=h.1;show w≤c;omega)
 have cF:=fun j=>Qk _ _ j _ _ _ cV
 have bI:=cF 0;have bJ:=cF 1
 simp only [Qf,Qg,Qh] at bI bJ
 refine Q7 (v:=.agg #[Qqb A 0 1 1,Qqb (A+1) 0 2 2]) (by simp [results,results5,go_sem,bI,bJ]) rfl ⟨_,rfl,⟨_,_,rfl,?_,?_⟩,cR⟩
 ·refine Y4 (r:=Uu) (xs:=[Gen.hue]) o5 (by show w.heap.size≤_;omega) (Cs.one (r:=Uu) (c:=[.string ⟨#[72,117,101]⟩,.slice (some ⟨w+1+1+1,0,none⟩) 2 2]) ⟨_,rfl,by simp [Gen.hue],?_⟩) rfl rfl Qqk
  exact Y4 (r:=Gg) (xs:=Gen.hue.ctors) oc (by show w.heap.size≤_;omega) ((Cs.one (r:=Gg) (Nf [82,101,100] false 0 Qqk)).app (Cs.one (r:=Gg) (Nf [68,97,114,107] true 0 Qqk))) rfl rfl (by simp [Gen.hue])
 rw [h3]
 exact Y4 (r:=Zn) (xs:=[⟨[116],[⟨[97],Gen.whole⟩,⟨[98],Gen.whole⟩,⟨[99],Gen.text⟩,⟨[100],Gen.yesno⟩,⟨[101],Gen.hueT⟩],if two then [[98],[97]] else [[97]],if ref then [⟨[98],[117]⟩] else [],Gen.check k⟩,⟨[117],[⟨[107],Gen.whole⟩,⟨[110],Gen.text⟩],[[107]],[],Gen.yes⟩]) o6 (by show w.heap.size≤_;omega) ((Cs.one (r:=Zn) aY).app (Cs.one (r:=Zn) aZ)) rfl rfl Qqk
end Go.Proofs.YtdpibdpbgokmoaaGreatDoor

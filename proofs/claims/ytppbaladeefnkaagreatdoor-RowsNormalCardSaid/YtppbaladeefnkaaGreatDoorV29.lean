import Derived.Test.YtppbaladeefnkaaGreatDoorV26
import Derived.Test.YtppbaladeefnkaaGreatDoorV27
set_option maxRecDepth 100000
set_option maxHeartbeats 400000000

namespace Go.Proofs.YtppbaladeefnkaaGreatDoor
open Go.RowKit Go.Shelf Go.Lib Tryz
theorem Zx {S:Nat→Prop} {w:World} (k:Int) (nm:Bs) (n:Int) (sx:Bs) (h1:nm.length≤1000000) (h2:sx.length≤1000000):Z6 S w [.int .i64 k,.string ⟨nm.toArray⟩,.int .i64 n,.string ⟨sx.toArray⟩,.slice none 0 0,.slice none 0 0,.slice none 0 0,.int .i64 0,.int .i64 0] (.mk k nm n sx [] [] [] 0 0):=
 Yk h1 h2 (Sl.nil _ _ _) (Sl.nil _ _ _) (Sl.nil _ _ _)
theorem T5 {W:World} {R b j:Nat} {x0 x1 x2 x3 x4 x5 x6 x7 x8 u:Value} (h:b≠R) (hc:W.cell? ⟨b,j,none⟩=some u):(put9 W R x0 x1 x2 x3 x4 x5 x6 x7 x8).cell? ⟨b,j,none⟩=some u:=(World.cell?_of_block (Fr h)).trans hc
def ExAt (Rb:Nat) (w:World) (x:Ex) (e:Ending) (w':World):Prop:=∃ ek es en et e1 f1 g1 e2 f2 g2 e3 f3 g3 ea ez,e=.returned (.agg #[.int .i64 ek,.string es,.int .i64 en,.string et,.slice e1 f1 g1,.slice e2 f2 g2,.slice e3 f3 g3,.int .i64 ea,.int .i64 ez])∧Z6 (fun b=>Rb<b) w' [.int .i64 ek,.string es,.int .i64 en,.string et,.slice e1 f1 g1,.slice e2 f2 g2,.slice e3 f3 g3,.int .i64 ea,.int .i64 ez] x∧Below w.heap.size w w'
theorem Xx (Rb:Nat) (o:Bs) (a b:Ex) (ca cb:List Value) (w:World) (ho:o.length≤1000000) (ha:Z6 (fun b=>Rb<b) w ca a) (hb:Z6 (fun b=>Rb<b) w cb b) (hR:Rb<w.heap.size):
  Calls prog 70 #[.string ⟨o.toArray⟩,.agg ca.toArray,.agg cb.toArray] w (ExAt Rb w (Gen.op o [a,b])):=
 (rop_any _ o a b ca cb w ho ha hb).mono fun _ _ ⟨ek,es,en,et,e1,f1,g1,e2,f2,g2,e3,f3,g3,ea,ez,h1,h2,h3⟩=>⟨ek,es,en,et,e1,f1,g1,e2,f2,g2,e3,f3,g3,ea,ez,h1,h2.move (.refl _ _) (fun b _ h=>h.elim id (fun h=>by omega)),h3⟩
theorem Vy {w W:World} {cs:List Value} {x:Ex} {c0 c1 c2 c3 c4 c5 c6 c7 c8:Value} (hx:Z6 (fun b=>w.heap.size<b) W [c0,c1,c2,c3,c4,c5,c6,c7,c8] x) (hb:Below w.heap.size w W) (hc:cs=[c0,c1,c2,c3,c4,c5,c6,c7,c8]):Vi w x (.returned (.agg #[c0,c1,c2,c3,c4,c5,c6,c7,c8])) (put9 W w.heap.size c0 c1 c2 c3 c4 c5 c6 c7 c8):=
 ⟨cs,by rw [hc],by rw [hc];exact hx.move (fun b hb _=>Fr (by have h:w.heap.size<b:=hb;omega)) (fun b _ h=>by show w.heap.size≤b;have h':w.heap.size<b:=h;omega),Nb hb (Q9 _)⟩
def Yj (L:List (Nat × Nat × Value)) (w:World):Prop:=∀ x ∈ L,w.cell? ⟨x.1,x.2.1,none⟩=some x.2.2
def Ol:List (Nat × Nat × Value)→World→Prop
 | [],_=>True
 | [x],w=>w.cell? ⟨x.1,x.2.1,none⟩=some x.2.2
 | x::y::l,w=>w.cell? ⟨x.1,x.2.1,none⟩=some x.2.2∧Ol (y::l) w
theorem Yj.spread:∀ {L:List (Nat × Nat × Value)} {w:World},Yj L w→Ol L w
 | [],_,_=>trivial
 | [x],_,h=>h x (List.mem_cons_self ..)
 | x::y::l,_,h=>⟨h x (List.mem_cons_self ..),Yj.spread (L:=y::l) (fun z hz=>h z (List.mem_cons_of_mem _ hz))⟩
theorem Yj.later {L:List (Nat × Nat × Value)} {w w':World} (h:Yj L w) (hb:Below w.heap.size w w'):Yj L w':=fun x hx=>kC hb (h x hx)
theorem Yj.alloc {L:List (Nat × Nat × Value)} {w:World} (h:Yj L w) (o:Obj):Yj L (w.alloc o):=h.later (Qn _ _)
theorem Yj.drew {L:List (Nat × Nat × Value)} {w:World} (h:Yj L w):Yj L w.drew:=h
theorem Yj.put9 {L:List (Nat × Nat × Value)} {w:World} {R:Nat} (h:Yj L w) (hn:∀ x ∈ L,R<x.1) (a0 a1 a2 a3 a4 a5 a6 a7 a8:Value):Yj L (put9 w R a0 a1 a2 a3 a4 a5 a6 a7 a8):=fun x hx=>T5 (Nat.ne_of_gt (hn x hx)) (h x hx)
def Vu (b:Nat) (a0 a1 a2 a3 a4 a5 a6 a7 a8:Value):List (Nat × Nat × Value):=[(b,0,a0),(b,1,a1),(b,2,a2),(b,3,a3),(b,4,a4),(b,5,a5),(b,6,a6),(b,7,a7),(b,8,a8)]
theorem Yj.row {w:World} {b:Nat} {t:TypeId} {a0 a1 a2 a3 a4 a5 a6 a7 a8:Value} (h:w.heap[b]?=some (.cells #[a0,a1,a2,a3,a4,a5,a6,a7,a8] t (0,0))):Yj (Vu b a0 a1 a2 a3 a4 a5 a6 a7 a8) w:=by
 intro x hx
 simp only [Vu,List.mem_cons,List.not_mem_nil,or_false] at hx
 rcases hx with rfl | rfl | rfl | rfl | rfl | rfl | rfl | rfl | rfl
 all_goals exact Qk _ _ _ _ _ _ h
theorem Yj.app {K L:List (Nat × Nat × Value)} {w:World} (h:Yj K w) (g:Yj L w):Yj (K++L) w:=fun x hx=>(List.mem_append.1 hx).elim (h x) (g x)
theorem Y2 {R b:Nat} (h:R<b) (a0 a1 a2 a3 a4 a5 a6 a7 a8:Value):∀ x ∈ Vu b a0 a1 a2 a3 a4 a5 a6 a7 a8,R<x.1:=by
 intro x hx
 simp only [Vu,List.mem_cons,List.not_mem_nil,or_false] at hx
 rcases hx with rfl | rfl | rfl | rfl | rfl | rfl | rfl | rfl | rfl
 all_goals exact h
theorem Vz {R:Nat} {K L:List (Nat × Nat × Value)} (h:∀ x ∈ K,R<x.1) (g:∀ x ∈ L,R<x.1):∀ x ∈ K++L,R<x.1:=fun x hx=>(List.mem_append.1 hx).elim (h x) (g x)
theorem Rc {W:World} {b:Nat} {t:TypeId} {x0 x1 x2 x3 x4 x5 x6 x7 x8:Value} (h:W.heap[b]?=some (.cells #[x0,x1,x2,x3,x4,x5,x6,x7,x8] t (0,0))):(W.frozen? ⟨b,0,none⟩=false∧W.frozen? ⟨b,1,none⟩=false∧W.frozen? ⟨b,2,none⟩=false∧W.frozen? ⟨b,3,none⟩=false∧W.frozen? ⟨b,4,none⟩=false∧W.frozen? ⟨b,5,none⟩=false∧W.frozen? ⟨b,6,none⟩=false∧W.frozen? ⟨b,7,none⟩=false∧W.frozen? ⟨b,8,none⟩=false)∧W.cell? ⟨b,0,none⟩=some x0∧W.cell? ⟨b,1,none⟩=some x1∧W.cell? ⟨b,2,none⟩=some x2∧W.cell? ⟨b,3,none⟩=some x3∧W.cell? ⟨b,4,none⟩=some x4∧W.cell? ⟨b,5,none⟩=some x5∧W.cell? ⟨b,6,none⟩=some x6∧W.cell? ⟨b,7,none⟩=some x7∧W.cell? ⟨b,8,none⟩=some x8:=
 ⟨⟨fA 0 h,fA 1 h,fA 2 h,fA 3 h,fA 4 h,fA 5 h,fA 6 h,fA 7 h,fA 8 h⟩,Qk _ _ 0 _ _ _ h,Qk _ _ 1 _ _ _ h,Qk _ _ 2 _ _ _ h,Qk _ _ 3 _ _ _ h,Qk _ _ 4 _ _ _ h,Qk _ _ 5 _ _ _ h,Qk _ _ 6 _ _ _ h,Qk _ _ 7 _ _ _ h,Qk _ _ 8 _ _ _ h⟩
theorem X8 {X W:World} (h:Below X.drew.heap.size X.drew W):Below X.heap.size X W:=(Qz _ _).drew.thn h
theorem Xw {X W:World} {o:Obj} (h:World.alloc X o=W):Below X.heap.size X W:=by rw [← h];exact Qn _ _
theorem Uw {X W:World} {o:Obj} (h:World.alloc X o=W):W.heap[X.heap.size]?=some o:=by rw [← h];exact Qw _ _
theorem Je {X W:World} {o o':Obj} {g:Nat} (_h:World.alloc X o=W) (hg:X.heap[g]?=some o'):g<X.heap.size:=Qf hg
theorem Dv {X W:World} {o:Obj} (h:World.alloc X o=W):W.heap.size=X.heap.size+1:=by rw [← h];simp
theorem Mu {W:World} {b c:Nat} {o:Obj} (h:W.heap[b]?=some o) (e:c=b):W.heap[c]?=some o:=by rw [e];exact h
theorem Zi {w w':World} {b:Nat} {o:Obj} (hb:Below w.heap.size w w') (h:w.heap[b]?=some o):w'.heap[b]?=some o:=kB hb h
theorem Ss (S:Nat→Prop) (v:Value) (l:List Int) (w:World) (hs:Y6 S w v l) (hi:V9 l) (hk:Zp l 0 13=3):
  Calls prog 35 #[v,.int .i64 0] w (Vi w (Gen.check 3)):=by
 have HP:=Qq (fun W (hb:Below w.heap.size w W)=>Zt S v l 0 13 W (hs.below hb) hi (by omega) (by omega))
 rw [hk] at HP
 obtain ⟨p,cap,rfl,_⟩:=hs.len
 clear hs hi hk
 go_enter func35,ntmps35
 go_upto_region 8 with fail
 generalize hW8:(((((((w.alloc _).alloc _).alloc _).alloc _).alloc _).alloc _).alloc _).alloc _=W8
 have hb8:=eqB hW8 (Zq (Zq (Zq (Zq (Zq (Zq (Zq (Qn w _) _) _) _) _) _) _) _)
 have hz8:W8.heap.size=w.heap.size+8:=by rw [← hW8];simp
 have r8:=eqH (b:=w.heap.size) hW8 (Qi (Qi (Qi (Qi (Qi (Qi (Qi (Z8 rfl _) _) _) _) _) _) _) _)
 have hS2:=(((Yj.row (show W8.heap[w.heap.size+1]?=some (.cells #[.int .i64 3,.string ⟨#[97]⟩,.int .i64 0,.string ⟨#[]⟩,.slice none 0 0,.slice none 0 0,.slice none 0 0,.int .i64 0,.int .i64 0] 35 (0,0)) from by rw [← hW8];exact Qi (Qi (Qi (Qi (Qi (Qi (Z8 (by simp) _) _) _) _) _) _) _)).app (Yj.row (show W8.heap[w.heap.size+1+1]?=some (.cells #[.int .i64 3,.string ⟨#[98]⟩,.int .i64 0,.string ⟨#[]⟩,.slice none 0 0,.slice none 0 0,.slice none 0 0,.int .i64 0,.int .i64 0] 35 (0,0)) from by rw [← hW8];exact Qi (Qi (Qi (Qi (Qi (Z8 (by simp) _) _) _) _) _) _))).app (Yj.row (show W8.heap[w.heap.size+1+1+1+1+1+1]?=some (.cells #[.int .i64 0,.string ⟨#[]⟩,.int .i64 1,.string ⟨#[]⟩,.slice none 0 0,.slice none 0 0,.slice none 0 0,.int .i64 0,.int .i64 0] 35 (0,0)) from by rw [← hW8];exact Qi (Z8 (by simp) _) _)))
 have hG:=(Vz (Vz (Y2 (show w.heap.size<w.heap.size+1 by omega) (.int .i64 3) (.string ⟨#[97]⟩) (.int .i64 0) (.string ⟨#[]⟩) (.slice none 0 0) (.slice none 0 0) (.slice none 0 0) (.int .i64 0) (.int .i64 0)) (Y2 (show w.heap.size<w.heap.size+1+1 by omega) (.int .i64 3) (.string ⟨#[98]⟩) (.int .i64 0) (.string ⟨#[]⟩) (.slice none 0 0) (.slice none 0 0) (.slice none 0 0) (.int .i64 0) (.int .i64 0))) (Y2 (show w.heap.size<w.heap.size+1+1+1+1+1+1 by omega) (.int .i64 0) (.string ⟨#[]⟩) (.int .i64 1) (.string ⟨#[]⟩) (.slice none 0 0) (.slice none 0 0) (.slice none 0 0) (.int .i64 0) (.int .i64 0)))
 have HB8:=Qq hb8;have HR:=Qq r8
 clear hW8 hb8 r8 hz8
 go_upto_region 14 with (go_at_call 26;refine (HP.out _ HB8.out).mono ?_;rintro e w' ⟨rfl,rfl⟩)
 refine let_mvar% ?Lq1:=fun w':World=>w'.cell? ⟨w.heap.size+1,0,none⟩=some (.int .i64 3)∧w'.cell? ⟨w.heap.size+1,1,none⟩=some (.string ⟨#[97]⟩)∧w'.cell? ⟨w.heap.size+1,2,none⟩=some (.int .i64 0)∧w'.cell? ⟨w.heap.size+1,3,none⟩=some (.string ⟨#[]⟩)∧w'.cell? ⟨w.heap.size+1,4,none⟩=some (.slice none 0 0)∧w'.cell? ⟨w.heap.size+1,5,none⟩=some (.slice none 0 0)∧w'.cell? ⟨w.heap.size+1,6,none⟩=some (.slice none 0 0)∧w'.cell? ⟨w.heap.size+1,7,none⟩=some (.int .i64 0)∧w'.cell? ⟨w.heap.size+1,8,none⟩=some (.int .i64 0)∧w'.cell? ⟨w.heap.size+1+1,0,none⟩=some (.int .i64 3)∧w'.cell? ⟨w.heap.size+1+1,1,none⟩=some (.string ⟨#[98]⟩)∧w'.cell? ⟨w.heap.size+1+1,2,none⟩=some (.int .i64 0)∧w'.cell? ⟨w.heap.size+1+1,3,none⟩=some (.string ⟨#[]⟩)∧w'.cell? ⟨w.heap.size+1+1,4,none⟩=some (.slice none 0 0)∧w'.cell? ⟨w.heap.size+1+1,5,none⟩=some (.slice none 0 0)∧w'.cell? ⟨w.heap.size+1+1,6,none⟩=some (.slice none 0 0)∧w'.cell? ⟨w.heap.size+1+1,7,none⟩=some (.int .i64 0)∧w'.cell? ⟨w.heap.size+1+1,8,none⟩=some (.int .i64 0)∧w'.cell? ⟨w.heap.size+1+1+1+1+1+1,0,none⟩=some (.int .i64 0)∧w'.cell? ⟨w.heap.size+1+1+1+1+1+1,1,none⟩=some (.string ⟨#[]⟩)∧w'.cell? ⟨w.heap.size+1+1+1+1+1+1,2,none⟩=some (.int .i64 1)∧w'.cell? ⟨w.heap.size+1+1+1+1+1+1,3,none⟩=some (.string ⟨#[]⟩)∧w'.cell? ⟨w.heap.size+1+1+1+1+1+1,4,none⟩=some (.slice none 0 0)∧w'.cell? ⟨w.heap.size+1+1+1+1+1+1,5,none⟩=some (.slice none 0 0)∧w'.cell? ⟨w.heap.size+1+1+1+1+1+1,6,none⟩=some (.slice none 0 0)∧w'.cell? ⟨w.heap.size+1+1+1+1+1+1,7,none⟩=some (.int .i64 0)∧w'.cell? ⟨w.heap.size+1+1+1+1+1+1,8,none⟩=some (.int .i64 0);?_
 have HS:=Qq (fun w' (h:Yj (Vu (w.heap.size+1) (.int .i64 3) (.string ⟨#[97]⟩) (.int .i64 0) (.string ⟨#[]⟩) (.slice none 0 0) (.slice none 0 0) (.slice none 0 0) (.int .i64 0) (.int .i64 0)++Vu (w.heap.size+1+1) (.int .i64 3) (.string ⟨#[98]⟩) (.int .i64 0) (.string ⟨#[]⟩) (.slice none 0 0) (.slice none 0 0) (.slice none 0 0) (.int .i64 0) (.int .i64 0)++Vu (w.heap.size+1+1+1+1+1+1) (.int .i64 0) (.string ⟨#[]⟩) (.int .i64 1) (.string ⟨#[]⟩) (.slice none 0 0) (.slice none 0 0) (.slice none 0 0) (.int .i64 0) (.int .i64 0)) w')=>(show ?Lq1 w' from Yj.spread h))
 have HG:=Qq hG
 have HPt:=Qq (fun w' z0 z1 z2 z3 z4 z5 z6 z7 z8 (h:Yj _ w')=>HS.out _ (h.put9 HG.out z0 z1 z2 z3 z4 z5 z6 z7 z8))
 unfold put9 at HPt
 have HBc:=HB8
 clear hG
 have hTok1:=Qq True.intro;have hTok2:=Qq True.intro;have hTok3:=Qq True.intro;have hTokL:=Qq True.intro
 go_region_held3 ?Lq1 (first | with_reducible exact HS.out _ hS2 | with_reducible exact HS.out _ hS2.drew | with_reducible exact HS.out _ (hS2.alloc _) | with_reducible exact HS.out _ (hS2.alloc _).drew | with_reducible exact HS.out _ ((hS2.alloc _).alloc _) | with_reducible exact HS.out _ ((hS2.alloc _).alloc _).drew | with_reducible exact HS.out _ (((hS2.alloc _).alloc _).alloc _) | with_reducible exact HPt.out _ _ _ _ _ _ _ _ _ _ hS2)
  (first
   | (have hn:=HX2.out;clear hn;have hk:=hTok3.out;go_at_call 70;refine (Xx w.heap.size [60,61] _ _ _ _ _ (by simp) (by exact (Zx 3 [97] 0 [] (by simp) (by simp))) (by exact HX2.out) (by exact Qf HR.out)).mono ?_;rintro e W3 ⟨ek3,es3,en3,et3,e13,f13,g13,e23,f23,g23,e33,f33,g33,ea3,ez3,rfl,hx3,hb3⟩;clear hTok3 hk;(try (have hb0:=X8 hb3;clear hb3;have hb3:=hb0;clear hb0));have hS3:=hS2.later hb3;clear hS2;have hS2:=hS3;clear hS3;have HR0:=Qq (Zi hb3 HR.out);clear HR;have HR:=HR0;clear HR0;have HC0:=Qq (HBc.out.thn hb3);clear HBc;have HBc:=HC0;clear HC0;(try (have h0:=Qq (HX1.out.move (.of_below hb3) (fun _ _ h=>h));clear HX1;have HX1:=h0;clear h0));(try (have h0:=Qq (HX2.out.move (.of_below hb3) (fun _ _ h=>h));clear HX2;have HX2:=h0;clear h0));have HX3:=Qq hx3;clear hx3 hb3;obtain ⟨⟨f0,f1,f2,f3,f4,f5,f6,f7,f8⟩,y0,y1,y2,y3,y4,y5,y6,y7,y8⟩:=Rc HR.out)
   | (have hn:=HX1.out;clear hn;have hk:=hTok2.out;go_at_call 70;refine (Xx w.heap.size [43] _ _ _ _ _ (by simp) (by exact (Zx 3 [98] 0 [] (by simp) (by simp))) (by exact HX1.out) (by exact Qf HR.out)).mono ?_;rintro e W2 ⟨ek2,es2,en2,et2,e12,f12,g12,e22,f22,g22,e32,f32,g32,ea2,ez2,rfl,hx2,hb2⟩;clear hTok2 hk;(try (have hb0:=X8 hb2;clear hb2;have hb2:=hb0;clear hb0));have hS3:=hS2.later hb2;clear hS2;have hS2:=hS3;clear hS3;have HR0:=Qq (Zi hb2 HR.out);clear HR;have HR:=HR0;clear HR0;have HC0:=Qq (HBc.out.thn hb2);clear HBc;have HBc:=HC0;clear HC0;(try (have h0:=Qq (HX1.out.move (.of_below hb2) (fun _ _ h=>h));clear HX1;have HX1:=h0;clear h0));(try (have h0:=Qq (HX3.out.move (.of_below hb2) (fun _ _ h=>h));clear HX3;have HX3:=h0;clear h0));have HX2:=Qq hx2;clear hx2 hb2)
   | (have hk:=hTok1.out;go_at_call 70;refine (Xx w.heap.size [42] _ _ _ _ _ (by simp) (by exact (Zx 0 [] 1 [] (by simp) (by simp))) (by exact (Zx 0 [] 1 [] (by simp) (by simp))) (by exact Qf HR.out)).mono ?_;rintro e W1 ⟨ek1,es1,en1,et1,e11,f11,g11,e21,f21,g21,e31,f31,g31,ea1,ez1,rfl,hx1,hb1⟩;clear hTok1 hk;(try (have hb0:=X8 hb1;clear hb1;have hb1:=hb0;clear hb0));have hS3:=hS2.later hb1;clear hS2;have hS2:=hS3;clear hS3;have HR0:=Qq (Zi hb1 HR.out);clear HR;have HR:=HR0;clear HR0;have HC0:=Qq (HBc.out.thn hb1);clear HBc;have HBc:=HC0;clear HC0;(try (have h0:=Qq (HX2.out.move (.of_below hb1) (fun _ _ h=>h));clear HX2;have HX2:=h0;clear h0));(try (have h0:=Qq (HX3.out.move (.of_below hb1) (fun _ _ h=>h));clear HX3;have HX3:=h0;clear h0));have HX1:=Qq hx1;clear hx1 hb1)
   | fail)
 all_goals
  go_wp2_with fail
  show bodyPost _ _ _ _ _ (put9 _ w.heap.size (.int .i64 ek3) (.string es3) (.int .i64 en3) (.string et3) (.slice e13 f13 g13) (.slice e23 f23 g23) (.slice e33 f33 g33) (.int .i64 ea3) (.int .i64 ez3))
  exact Q7 (v:=.agg #[.int .i64 ek3,.string es3,.int .i64 en3,.string et3,.slice e13 f13 g13,.slice e23 f23 g23,.slice e33 f33 g33,.int .i64 ea3,.int .i64 ez3]) (by simp [results,results35,go_sem,Y4 HR.out]) rfl (Vy HX3.out HBc.out rfl)
theorem Tw (S:Nat→Prop) (v:Value) (l:List Int) (w:World) (hs:Y6 S w v l) (hi:V9 l) (hk:Zp l 0 13=4):
  Calls prog 35 #[v,.int .i64 0] w (Vi w (Gen.check 4)):=by
 have HP:=Qq (fun W (hb:Below w.heap.size w W)=>Zt S v l 0 13 W (hs.below hb) hi (by omega) (by omega))
 rw [hk] at HP
 obtain ⟨p,cap,rfl,_⟩:=hs.len
 clear hs hi hk
 go_enter func35,ntmps35
 go_upto_region 8 with fail
 generalize hW8:(((((((w.alloc _).alloc _).alloc _).alloc _).alloc _).alloc _).alloc _).alloc _=W8
 have hb8:=eqB hW8 (Zq (Zq (Zq (Zq (Zq (Zq (Zq (Qn w _) _) _) _) _) _) _) _)
 have hz8:W8.heap.size=w.heap.size+8:=by rw [← hW8];simp
 have r8:=eqH (b:=w.heap.size) hW8 (Qi (Qi (Qi (Qi (Qi (Qi (Qi (Z8 rfl _) _) _) _) _) _) _) _)
 have hS2:=((Yj.row (show W8.heap[w.heap.size+1+1+1+1]?=some (.cells zQ 35 (0,0)) from by rw [← hW8];exact Qi (Qi (Qi (Z8 (by simp) _) _) _) _)).app (Yj.row (show W8.heap[w.heap.size+1+1+1]?=some (.cells #[.int .i64 3,.string ⟨#[99]⟩,.int .i64 0,.string ⟨#[]⟩,.slice none 0 0,.slice none 0 0,.slice none 0 0,.int .i64 0,.int .i64 0] 35 (0,0)) from by rw [← hW8];exact Qi (Qi (Qi (Qi (Z8 (by simp) _) _) _) _) _)))
 have hG:=(Vz (Y2 (show w.heap.size<w.heap.size+1+1+1+1 by omega) (.int .i64 3) (.string ⟨#[100]⟩) (.int .i64 0) (.string ⟨#[]⟩) (.slice none 0 0) (.slice none 0 0) (.slice none 0 0) (.int .i64 0) (.int .i64 0)) (Y2 (show w.heap.size<w.heap.size+1+1+1 by omega) (.int .i64 3) (.string ⟨#[99]⟩) (.int .i64 0) (.string ⟨#[]⟩) (.slice none 0 0) (.slice none 0 0) (.slice none 0 0) (.int .i64 0) (.int .i64 0)))
 have HB8:=Qq hb8;have HR:=Qq r8
 clear hW8 hb8 r8 hz8
 go_upto_region 16 with (go_at_call 26;refine (HP.out _ HB8.out).mono ?_;rintro e w' ⟨rfl,rfl⟩)
 refine let_mvar% ?Lq1:=fun w':World=>w'.cell? ⟨w.heap.size+1+1+1+1,0,none⟩=some (.int .i64 3)∧w'.cell? ⟨w.heap.size+1+1+1+1,1,none⟩=some (.string ⟨#[100]⟩)∧w'.cell? ⟨w.heap.size+1+1+1+1,2,none⟩=some (.int .i64 0)∧w'.cell? ⟨w.heap.size+1+1+1+1,3,none⟩=some (.string ⟨#[]⟩)∧w'.cell? ⟨w.heap.size+1+1+1+1,4,none⟩=some (.slice none 0 0)∧w'.cell? ⟨w.heap.size+1+1+1+1,5,none⟩=some (.slice none 0 0)∧w'.cell? ⟨w.heap.size+1+1+1+1,6,none⟩=some (.slice none 0 0)∧w'.cell? ⟨w.heap.size+1+1+1+1,7,none⟩=some (.int .i64 0)∧w'.cell? ⟨w.heap.size+1+1+1+1,8,none⟩=some (.int .i64 0)∧w'.cell? ⟨w.heap.size+1+1+1,0,none⟩=some (.int .i64 3)∧w'.cell? ⟨w.heap.size+1+1+1,1,none⟩=some (.string ⟨#[99]⟩)∧w'.cell? ⟨w.heap.size+1+1+1,2,none⟩=some (.int .i64 0)∧w'.cell? ⟨w.heap.size+1+1+1,3,none⟩=some (.string ⟨#[]⟩)∧w'.cell? ⟨w.heap.size+1+1+1,4,none⟩=some (.slice none 0 0)∧w'.cell? ⟨w.heap.size+1+1+1,5,none⟩=some (.slice none 0 0)∧w'.cell? ⟨w.heap.size+1+1+1,6,none⟩=some (.slice none 0 0)∧w'.cell? ⟨w.heap.size+1+1+1,7,none⟩=some (.int .i64 0)∧w'.cell? ⟨w.heap.size+1+1+1,8,none⟩=some (.int .i64 0);?_
 have HS:=Qq (fun w' (h:Yj (Vu (w.heap.size+1+1+1+1) (.int .i64 3) (.string ⟨#[100]⟩) (.int .i64 0) (.string ⟨#[]⟩) (.slice none 0 0) (.slice none 0 0) (.slice none 0 0) (.int .i64 0) (.int .i64 0)++Vu (w.heap.size+1+1+1) (.int .i64 3) (.string ⟨#[99]⟩) (.int .i64 0) (.string ⟨#[]⟩) (.slice none 0 0) (.slice none 0 0) (.slice none 0 0) (.int .i64 0) (.int .i64 0)) w')=>(show ?Lq1 w' from Yj.spread h))
 have HG:=Qq hG
 have HPt:=Qq (fun w' z0 z1 z2 z3 z4 z5 z6 z7 z8 (h:Yj _ w')=>HS.out _ (h.put9 HG.out z0 z1 z2 z3 z4 z5 z6 z7 z8))
 unfold put9 at HPt
 have HBc:=HB8
 clear hG
 have hTok1:=Qq True.intro;have hTok2:=Qq True.intro;have hTokL:=Qq True.intro
 go_region_held3 ?Lq1 (first | with_reducible exact HS.out _ hS2 | with_reducible exact HS.out _ hS2.drew | with_reducible exact HS.out _ (hS2.alloc _) | with_reducible exact HS.out _ (hS2.alloc _).drew | with_reducible exact HS.out _ ((hS2.alloc _).alloc _) | with_reducible exact HS.out _ ((hS2.alloc _).alloc _).drew | with_reducible exact HS.out _ (((hS2.alloc _).alloc _).alloc _) | with_reducible exact HPt.out _ _ _ _ _ _ _ _ _ _ hS2)
  (first
   | (have hn:=HX1.out;clear hn;have hk:=hTok2.out;go_at_call 70;refine (Xx w.heap.size [111,114] _ _ _ _ _ (by simp) (by exact (Zx 3 [100] 0 [] (by simp) (by simp))) (by exact HX1.out) (by exact Qf HR.out)).mono ?_;rintro e W2 ⟨ek2,es2,en2,et2,e12,f12,g12,e22,f22,g22,e32,f32,g32,ea2,ez2,rfl,hx2,hb2⟩;clear hTok2 hk;(try (have hb0:=X8 hb2;clear hb2;have hb2:=hb0;clear hb0));have hS3:=hS2.later hb2;clear hS2;have hS2:=hS3;clear hS3;have HR0:=Qq (Zi hb2 HR.out);clear HR;have HR:=HR0;clear HR0;have HC0:=Qq (HBc.out.thn hb2);clear HBc;have HBc:=HC0;clear HC0;(try (have h0:=Qq (HX1.out.move (.of_below hb2) (fun _ _ h=>h));clear HX1;have HX1:=h0;clear h0));have HX2:=Qq hx2;clear hx2 hb2;obtain ⟨⟨f0,f1,f2,f3,f4,f5,f6,f7,f8⟩,y0,y1,y2,y3,y4,y5,y6,y7,y8⟩:=Rc HR.out)
   | (have hk:=hTok1.out;go_at_call 70;refine (Xx w.heap.size [33,61] _ _ _ _ _ (by simp) (by exact (Zx 3 [99] 0 [] (by simp) (by simp))) (by exact (Zx 1 [] 0 [97,98] (by simp) (by simp))) (by exact Qf HR.out)).mono ?_;rintro e W1 ⟨ek1,es1,en1,et1,e11,f11,g11,e21,f21,g21,e31,f31,g31,ea1,ez1,rfl,hx1,hb1⟩;clear hTok1 hk;(try (have hb0:=X8 hb1;clear hb1;have hb1:=hb0;clear hb0));have hS3:=hS2.later hb1;clear hS2;have hS2:=hS3;clear hS3;have HR0:=Qq (Zi hb1 HR.out);clear HR;have HR:=HR0;clear HR0;have HC0:=Qq (HBc.out.thn hb1);clear HBc;have HBc:=HC0;clear HC0;(try (have h0:=Qq (HX2.out.move (.of_below hb1) (fun _ _ h=>h));clear HX2;have HX2:=h0;clear h0));have HX1:=Qq hx1;clear hx1 hb1)
   | fail)
 all_goals
  go_wp2_with fail
  show bodyPost _ _ _ _ _ (put9 _ w.heap.size (.int .i64 ek2) (.string es2) (.int .i64 en2) (.string et2) (.slice e12 f12 g12) (.slice e22 f22 g22) (.slice e32 f32 g32) (.int .i64 ea2) (.int .i64 ez2))
  exact Q7 (v:=.agg #[.int .i64 ek2,.string es2,.int .i64 en2,.string et2,.slice e12 f12 g12,.slice e22 f22 g22,.slice e32 f32 g32,.int .i64 ea2,.int .i64 ez2]) (by simp [results,results35,go_sem,Y4 HR.out]) rfl (Vy HX2.out HBc.out rfl)
theorem Nk (S:Nat→Prop) (v:Value) (l:List Int) (w:World) (hs:Y6 S w v l) (hi:V9 l) (hk:Zp l 0 13=10):
  Calls prog 35 #[v,.int .i64 0] w (Vi w (Gen.check 10)):=by
 have HP:=Qq (fun W (hb:Below w.heap.size w W)=>Zt S v l 0 13 W (hs.below hb) hi (by omega) (by omega))
 rw [hk] at HP
 obtain ⟨p,cap,rfl,_⟩:=hs.len
 clear hs hi hk
 go_enter func35,ntmps35
 go_upto_region 8 with fail
 generalize hW8:(((((((w.alloc _).alloc _).alloc _).alloc _).alloc _).alloc _).alloc _).alloc _=W8
 have hb8:=eqB hW8 (Zq (Zq (Zq (Zq (Zq (Zq (Zq (Qn w _) _) _) _) _) _) _) _)
 have hz8:W8.heap.size=w.heap.size+8:=by rw [← hW8];simp
 have r8:=eqH (b:=w.heap.size) hW8 (Qi (Qi (Qi (Qi (Qi (Qi (Qi (Z8 rfl _) _) _) _) _) _) _) _)
 have hS2:=(((Yj.row (show W8.heap[w.heap.size+1+1+1+1]?=some (.cells zQ 35 (0,0)) from by rw [← hW8];exact Qi (Qi (Qi (Z8 (by simp) _) _) _) _)).app (Yj.row (show W8.heap[w.heap.size+1]?=some (.cells #[.int .i64 3,.string ⟨#[97]⟩,.int .i64 0,.string ⟨#[]⟩,.slice none 0 0,.slice none 0 0,.slice none 0 0,.int .i64 0,.int .i64 0] 35 (0,0)) from by rw [← hW8];exact Qi (Qi (Qi (Qi (Qi (Qi (Z8 (by simp) _) _) _) _) _) _) _))).app (Yj.row (show W8.heap[w.heap.size+1+1+1]?=some (.cells #[.int .i64 3,.string ⟨#[99]⟩,.int .i64 0,.string ⟨#[]⟩,.slice none 0 0,.slice none 0 0,.slice none 0 0,.int .i64 0,.int .i64 0] 35 (0,0)) from by rw [← hW8];exact Qi (Qi (Qi (Qi (Z8 (by simp) _) _) _) _) _)))
 have hG:=(Vz (Vz (Y2 (show w.heap.size<w.heap.size+1+1+1+1 by omega) (.int .i64 3) (.string ⟨#[100]⟩) (.int .i64 0) (.string ⟨#[]⟩) (.slice none 0 0) (.slice none 0 0) (.slice none 0 0) (.int .i64 0) (.int .i64 0)) (Y2 (show w.heap.size<w.heap.size+1 by omega) (.int .i64 3) (.string ⟨#[97]⟩) (.int .i64 0) (.string ⟨#[]⟩) (.slice none 0 0) (.slice none 0 0) (.slice none 0 0) (.int .i64 0) (.int .i64 0))) (Y2 (show w.heap.size<w.heap.size+1+1+1 by omega) (.int .i64 3) (.string ⟨#[99]⟩) (.int .i64 0) (.string ⟨#[]⟩) (.slice none 0 0) (.slice none 0 0) (.slice none 0 0) (.int .i64 0) (.int .i64 0)))
 have HB8:=Qq hb8;have HR:=Qq r8
 clear hW8 hb8 r8 hz8
 go_upto_region 30 with (go_at_call 26;refine (HP.out _ HB8.out).mono ?_;rintro e w' ⟨rfl,rfl⟩)
 refine let_mvar% ?Lq1:=fun w':World=>w'.cell? ⟨w.heap.size+1+1+1+1,0,none⟩=some (.int .i64 3)∧w'.cell? ⟨w.heap.size+1+1+1+1,1,none⟩=some (.string ⟨#[100]⟩)∧w'.cell? ⟨w.heap.size+1+1+1+1,2,none⟩=some (.int .i64 0)∧w'.cell? ⟨w.heap.size+1+1+1+1,3,none⟩=some (.string ⟨#[]⟩)∧w'.cell? ⟨w.heap.size+1+1+1+1,4,none⟩=some (.slice none 0 0)∧w'.cell? ⟨w.heap.size+1+1+1+1,5,none⟩=some (.slice none 0 0)∧w'.cell? ⟨w.heap.size+1+1+1+1,6,none⟩=some (.slice none 0 0)∧w'.cell? ⟨w.heap.size+1+1+1+1,7,none⟩=some (.int .i64 0)∧w'.cell? ⟨w.heap.size+1+1+1+1,8,none⟩=some (.int .i64 0)∧w'.cell? ⟨w.heap.size+1,0,none⟩=some (.int .i64 3)∧w'.cell? ⟨w.heap.size+1,1,none⟩=some (.string ⟨#[97]⟩)∧w'.cell? ⟨w.heap.size+1,2,none⟩=some (.int .i64 0)∧w'.cell? ⟨w.heap.size+1,3,none⟩=some (.string ⟨#[]⟩)∧w'.cell? ⟨w.heap.size+1,4,none⟩=some (.slice none 0 0)∧w'.cell? ⟨w.heap.size+1,5,none⟩=some (.slice none 0 0)∧w'.cell? ⟨w.heap.size+1,6,none⟩=some (.slice none 0 0)∧w'.cell? ⟨w.heap.size+1,7,none⟩=some (.int .i64 0)∧w'.cell? ⟨w.heap.size+1,8,none⟩=some (.int .i64 0)∧w'.cell? ⟨w.heap.size+1+1+1,0,none⟩=some (.int .i64 3)∧w'.cell? ⟨w.heap.size+1+1+1,1,none⟩=some (.string ⟨#[99]⟩)∧w'.cell? ⟨w.heap.size+1+1+1,2,none⟩=some (.int .i64 0)∧w'.cell? ⟨w.heap.size+1+1+1,3,none⟩=some (.string ⟨#[]⟩)∧w'.cell? ⟨w.heap.size+1+1+1,4,none⟩=some (.slice none 0 0)∧w'.cell? ⟨w.heap.size+1+1+1,5,none⟩=some (.slice none 0 0)∧w'.cell? ⟨w.heap.size+1+1+1,6,none⟩=some (.slice none 0 0)∧w'.cell? ⟨w.heap.size+1+1+1,7,none⟩=some (.int .i64 0)∧w'.cell? ⟨w.heap.size+1+1+1,8,none⟩=some (.int .i64 0);?_
 have HS:=Qq (fun w' (h:Yj (Vu (w.heap.size+1+1+1+1) (.int .i64 3) (.string ⟨#[100]⟩) (.int .i64 0) (.string ⟨#[]⟩) (.slice none 0 0) (.slice none 0 0) (.slice none 0 0) (.int .i64 0) (.int .i64 0)++Vu (w.heap.size+1) (.int .i64 3) (.string ⟨#[97]⟩) (.int .i64 0) (.string ⟨#[]⟩) (.slice none 0 0) (.slice none 0 0) (.slice none 0 0) (.int .i64 0) (.int .i64 0)++Vu (w.heap.size+1+1+1) (.int .i64 3) (.string ⟨#[99]⟩) (.int .i64 0) (.string ⟨#[]⟩) (.slice none 0 0) (.slice none 0 0) (.slice none 0 0) (.int .i64 0) (.int .i64 0)) w')=>(show ?Lq1 w' from Yj.spread h))
 have HG:=Qq hG
 have HPt:=Qq (fun w' z0 z1 z2 z3 z4 z5 z6 z7 z8 (h:Yj _ w')=>HS.out _ (h.put9 HG.out z0 z1 z2 z3 z4 z5 z6 z7 z8))
 unfold put9 at HPt
 have HBc:=HB8
 clear hG
 have hTok1:=Qq True.intro;have hTok2:=Qq True.intro;have hTokL:=Qq True.intro
 go_region_held3 ?Lq1 (first | with_reducible exact HS.out _ hS2 | with_reducible exact HS.out _ hS2.drew | with_reducible exact HS.out _ (hS2.alloc _) | with_reducible exact HS.out _ (hS2.alloc _).drew | with_reducible exact HS.out _ ((hS2.alloc _).alloc _) | with_reducible exact HS.out _ ((hS2.alloc _).alloc _).drew | with_reducible exact HS.out _ (((hS2.alloc _).alloc _).alloc _) | with_reducible exact HPt.out _ _ _ _ _ _ _ _ _ _ hS2)
  (first
   | (have hn:=HX1.out;clear hn;have hk:=hTok2.out;go_at_call 70;refine (Xx w.heap.size [97,110,100] _ _ _ _ _ (by simp) (by exact (Zx 3 [100] 0 [] (by simp) (by simp))) (by exact HX1.out) (by exact Qf HR.out)).mono ?_;rintro e W2 ⟨ek2,es2,en2,et2,e12,f12,g12,e22,f22,g22,e32,f32,g32,ea2,ez2,rfl,hx2,hb2⟩;clear hTok2 hk;(try (have hb0:=X8 hb2;clear hb2;have hb2:=hb0;clear hb0));have hS3:=hS2.later hb2;clear hS2;have hS2:=hS3;clear hS3;have HR0:=Qq (Zi hb2 HR.out);clear HR;have HR:=HR0;clear HR0;have HC0:=Qq (HBc.out.thn hb2);clear HBc;have HBc:=HC0;clear HC0;(try (have h0:=Qq (HX1.out.move (.of_below hb2) (fun _ _ h=>h));clear HX1;have HX1:=h0;clear h0));have HX2:=Qq hx2;clear hx2 hb2;obtain ⟨⟨f0,f1,f2,f3,f4,f5,f6,f7,f8⟩,y0,y1,y2,y3,y4,y5,y6,y7,y8⟩:=Rc HR.out)
   | (have hk:=hTok1.out;go_at_call 70;refine (Xx w.heap.size [43] _ _ _ _ _ (by simp) (by exact (Zx 3 [97] 0 [] (by simp) (by simp))) (by exact (Zx 3 [99] 0 [] (by simp) (by simp))) (by exact Qf HR.out)).mono ?_;rintro e W1 ⟨ek1,es1,en1,et1,e11,f11,g11,e21,f21,g21,e31,f31,g31,ea1,ez1,rfl,hx1,hb1⟩;clear hTok1 hk;(try (have hb0:=X8 hb1;clear hb1;have hb1:=hb0;clear hb0));have hS3:=hS2.later hb1;clear hS2;have hS2:=hS3;clear hS3;have HR0:=Qq (Zi hb1 HR.out);clear HR;have HR:=HR0;clear HR0;have HC0:=Qq (HBc.out.thn hb1);clear HBc;have HBc:=HC0;clear HC0;(try (have h0:=Qq (HX2.out.move (.of_below hb1) (fun _ _ h=>h));clear HX2;have HX2:=h0;clear h0));have HX1:=Qq hx1;clear hx1 hb1)
   | fail)
 all_goals
  go_wp2_with fail
  show bodyPost _ _ _ _ _ (put9 _ w.heap.size (.int .i64 ek2) (.string es2) (.int .i64 en2) (.string et2) (.slice e12 f12 g12) (.slice e22 f22 g22) (.slice e32 f32 g32) (.int .i64 ea2) (.int .i64 ez2))
  exact Q7 (v:=.agg #[.int .i64 ek2,.string es2,.int .i64 en2,.string et2,.slice e12 f12 g12,.slice e22 f22 g22,.slice e32 f32 g32,.int .i64 ea2,.int .i64 ez2]) (by simp [results,results35,go_sem,Y4 HR.out]) rfl (Vy HX2.out HBc.out rfl)
end Go.Proofs.YtppbaladeefnkaaGreatDoor

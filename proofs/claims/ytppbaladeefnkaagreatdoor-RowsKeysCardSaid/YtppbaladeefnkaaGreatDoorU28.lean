import Derived.Test.YtppbaladeefnkaaGreatDoorU24
import Derived.Test.YtppbaladeefnkaaGreatDoorU27
set_option maxRecDepth 100000
set_option maxHeartbeats 400000000
namespace Go.Proofs.YtppbaladeefnkaaGreatDoor
open Go.RowKit Go.Shelf Go.Lib Tryz
theorem Zx {S : Nat → Prop} {w : World} (k : Int) (nm : Bs) (n : Int) (sx : Bs) (h1 : nm.length ≤ 1000000) (h2 : sx.length ≤ 1000000) : Z5 S w [.int .i64 k, .string ⟨nm.toArray⟩, .int .i64 n, .string ⟨sx.toArray⟩, .slice none 0 0, .slice none 0 0, .slice none 0 0, .int .i64 0, .int .i64 0] (.mk k nm n sx [] [] [] 0 0) :=
 Zt h1 h2 (Sl.nil _ _ _) (Sl.nil _ _ _) (Sl.nil _ _ _)
theorem Rx {W : World} {R b j : Nat} {x0 x1 x2 x3 x4 x5 x6 x7 x8 u : Value} (h : b ≠ R) (hc : W.cell? ⟨b, j, none⟩ = some u) : (put9 W R x0 x1 x2 x3 x4 x5 x6 x7 x8).cell? ⟨b, j, none⟩ = some u := (World.cell?_of_block (Fh h)).trans hc
def ExAt (Rb : Nat) (w : World) (x : Ex) (e : Ending) (w' : World) : Prop := ∃ ek es en et e1 f1 g1 e2 f2 g2 e3 f3 g3 ea ez, e = .returned (.agg #[.int .i64 ek, .string es, .int .i64 en, .string et, .slice e1 f1 g1, .slice e2 f2 g2, .slice e3 f3 g3, .int .i64 ea, .int .i64 ez]) ∧ Z5 (fun b => Rb < b) w' [.int .i64 ek, .string es, .int .i64 en, .string et, .slice e1 f1 g1, .slice e2 f2 g2, .slice e3 f3 g3, .int .i64 ea, .int .i64 ez] x ∧ Below w.heap.size w w'
theorem Xj (Rb : Nat) (o : Bs) (a b : Ex) (ca cb : List Value) (w : World) (ho : o.length ≤ 1000000) (ha : Z5 (fun b => Rb < b) w ca a) (hb : Z5 (fun b => Rb < b) w cb b) (hR : Rb < w.heap.size) :
  Calls prog 70 #[.string ⟨o.toArray⟩, .agg ca.toArray, .agg cb.toArray] w (ExAt Rb w (Gen.op o [a, b])) :=
 (rop_any _ o a b ca cb w ho ha hb).mono fun _ _ ⟨ek, es, en, et, e1, f1, g1, e2, f2, g2, e3, f3, g3, ea, ez, h1, h2, h3⟩ => ⟨ek, es, en, et, e1, f1, g1, e2, f2, g2, e3, f3, g3, ea, ez, h1, h2.move (.refl _ _) (fun b _ h => h.elim id (fun h => by omega)), h3⟩
theorem Vq {w W : World} {cs : List Value} {x : Ex} {c0 c1 c2 c3 c4 c5 c6 c7 c8 : Value} (hx : Z5 (fun b => w.heap.size < b) W [c0, c1, c2, c3, c4, c5, c6, c7, c8] x) (hb : Below w.heap.size w W) (hc : cs = [c0, c1, c2, c3, c4, c5, c6, c7, c8]) : V8 w x (.returned (.agg #[c0, c1, c2, c3, c4, c5, c6, c7, c8])) (put9 W w.heap.size c0 c1 c2 c3 c4 c5 c6 c7 c8) :=
 ⟨cs, by rw [hc], by rw [hc]; exact hx.move (fun b hb _ => Fh (by have h : w.heap.size < b := hb; omega)) (fun b _ h => by show w.heap.size ≤ b; have h' : w.heap.size < b := h; omega), Lr hb (Q9 _)⟩
def Zu (L : List (Nat × Nat × Value)) (w : World) : Prop := ∀ x ∈ L, w.cell? ⟨x.1, x.2.1, none⟩ = some x.2.2
def Ns : List (Nat × Nat × Value) → World → Prop
 | [], _ => True
 | [x], w => w.cell? ⟨x.1, x.2.1, none⟩ = some x.2.2
 | x :: y :: l, w => w.cell? ⟨x.1, x.2.1, none⟩ = some x.2.2 ∧ Ns (y :: l) w
theorem Zu.spread : ∀ {L : List (Nat × Nat × Value)} {w : World}, Zu L w → Ns L w
 | [], _, _ => trivial
 | [x], _, h => h x (List.mem_cons_self ..)
 | x :: y :: l, _, h => ⟨h x (List.mem_cons_self ..), Zu.spread (L := y :: l) (fun z hz => h z (List.mem_cons_of_mem _ hz))⟩
theorem Zu.later {L : List (Nat × Nat × Value)} {w w' : World} (h : Zu L w) (hb : Below w.heap.size w w') : Zu L w' := fun x hx => kC hb (h x hx)
theorem Zu.alloc {L : List (Nat × Nat × Value)} {w : World} (h : Zu L w) (o : Obj) : Zu L (w.alloc o) := h.later (Qo _ _)
theorem Zu.drew {L : List (Nat × Nat × Value)} {w : World} (h : Zu L w) : Zu L w.drew := h
theorem Zu.put9 {L : List (Nat × Nat × Value)} {w : World} {R : Nat} (h : Zu L w) (hn : ∀ x ∈ L, R < x.1) (a0 a1 a2 a3 a4 a5 a6 a7 a8 : Value) : Zu L (put9 w R a0 a1 a2 a3 a4 a5 a6 a7 a8) := fun x hx => Rx (Nat.ne_of_gt (hn x hx)) (h x hx)
def Vl (b : Nat) (a0 a1 a2 a3 a4 a5 a6 a7 a8 : Value) : List (Nat × Nat × Value) := [(b, 0, a0), (b, 1, a1), (b, 2, a2), (b, 3, a3), (b, 4, a4), (b, 5, a5), (b, 6, a6), (b, 7, a7), (b, 8, a8)]
theorem Zu.row {w : World} {b : Nat} {t : TypeId} {a0 a1 a2 a3 a4 a5 a6 a7 a8 : Value} (h : w.heap[b]? = some (.cells #[a0, a1, a2, a3, a4, a5, a6, a7, a8] t (0, 0))) : Zu (Vl b a0 a1 a2 a3 a4 a5 a6 a7 a8) w := by
 intro x hx
 simp only [Vl, List.mem_cons, List.not_mem_nil, or_false] at hx
 rcases hx with rfl | rfl | rfl | rfl | rfl | rfl | rfl | rfl | rfl
 all_goals exact Qk _ _ _ _ _ _ h
theorem Zu.app {K L : List (Nat × Nat × Value)} {w : World} (h : Zu K w) (g : Zu L w) : Zu (K ++ L) w := fun x hx => (List.mem_append.1 hx).elim (h x) (g x)
theorem Y1 {R b : Nat} (h : R < b) (a0 a1 a2 a3 a4 a5 a6 a7 a8 : Value) : ∀ x ∈ Vl b a0 a1 a2 a3 a4 a5 a6 a7 a8, R < x.1 := by
 intro x hx
 simp only [Vl, List.mem_cons, List.not_mem_nil, or_false] at hx
 rcases hx with rfl | rfl | rfl | rfl | rfl | rfl | rfl | rfl | rfl
 all_goals exact h
theorem Xs {R : Nat} {K L : List (Nat × Nat × Value)} (h : ∀ x ∈ K, R < x.1) (g : ∀ x ∈ L, R < x.1) : ∀ x ∈ K ++ L, R < x.1 := fun x hx => (List.mem_append.1 hx).elim (h x) (g x)
theorem Rc {W : World} {b : Nat} {t : TypeId} {x0 x1 x2 x3 x4 x5 x6 x7 x8 : Value} (h : W.heap[b]? = some (.cells #[x0, x1, x2, x3, x4, x5, x6, x7, x8] t (0, 0))) : (W.frozen? ⟨b, 0, none⟩ = false ∧ W.frozen? ⟨b, 1, none⟩ = false ∧ W.frozen? ⟨b, 2, none⟩ = false ∧ W.frozen? ⟨b, 3, none⟩ = false ∧ W.frozen? ⟨b, 4, none⟩ = false ∧ W.frozen? ⟨b, 5, none⟩ = false ∧ W.frozen? ⟨b, 6, none⟩ = false ∧ W.frozen? ⟨b, 7, none⟩ = false ∧ W.frozen? ⟨b, 8, none⟩ = false) ∧ W.cell? ⟨b, 0, none⟩ = some x0 ∧ W.cell? ⟨b, 1, none⟩ = some x1 ∧ W.cell? ⟨b, 2, none⟩ = some x2 ∧ W.cell? ⟨b, 3, none⟩ = some x3 ∧ W.cell? ⟨b, 4, none⟩ = some x4 ∧ W.cell? ⟨b, 5, none⟩ = some x5 ∧ W.cell? ⟨b, 6, none⟩ = some x6 ∧ W.cell? ⟨b, 7, none⟩ = some x7 ∧ W.cell? ⟨b, 8, none⟩ = some x8 :=
 ⟨⟨fA 0 h, fA 1 h, fA 2 h, fA 3 h, fA 4 h, fA 5 h, fA 6 h, fA 7 h, fA 8 h⟩, Qk _ _ 0 _ _ _ h, Qk _ _ 1 _ _ _ h, Qk _ _ 2 _ _ _ h, Qk _ _ 3 _ _ _ h, Qk _ _ 4 _ _ _ h, Qk _ _ 5 _ _ _ h, Qk _ _ 6 _ _ _ h, Qk _ _ 7 _ _ _ h, Qk _ _ 8 _ _ _ h⟩
theorem X5 {X W : World} (h : Below X.drew.heap.size X.drew W) : Below X.heap.size X W := (Qz _ _).drew.thn h
theorem Xz {X W : World} {o : Obj} (h : World.alloc X o = W) : Below X.heap.size X W := by rw [← h]; exact Qo _ _
theorem Vm {X W : World} {o : Obj} (h : World.alloc X o = W) : W.heap[X.heap.size]? = some o := by rw [← h]; exact Qw _ _
theorem Jy {X W : World} {o o' : Obj} {g : Nat} (_h : World.alloc X o = W) (hg : X.heap[g]? = some o') : g < X.heap.size := Qf hg
theorem Kd {X W : World} {o : Obj} (h : World.alloc X o = W) : W.heap.size = X.heap.size + 1 := by rw [← h]; simp
theorem N4 {W : World} {b c : Nat} {o : Obj} (h : W.heap[b]? = some o) (e : c = b) : W.heap[c]? = some o := by rw [e]; exact h
theorem Zi {w w' : World} {b : Nat} {o : Obj} (hb : Below w.heap.size w w') (h : w.heap[b]? = some o) : w'.heap[b]? = some o := kB hb h
theorem P9 (S : Nat → Prop) (v : Value) (l : List Int) (w : World) (hs : Y4 S w v l) (hi : Vw l) (hk : Zo l 0 13 = 3) :
  Calls prog 35 #[v, .int .i64 0] w (V8 w (Gen.check 3)) := by
 have HP := Qq (fun W (hb : Below w.heap.size w W) => Zr S v l 0 13 W (hs.below hb) hi (by omega) (by omega))
 rw [hk] at HP
 obtain ⟨p, cap, rfl, _⟩ := hs.len
 clear hs hi hk
 go_enter func35, ntmps35
 go_upto_region 8 with fail
 generalize hW8 : (((((((w.alloc _).alloc _).alloc _).alloc _).alloc _).alloc _).alloc _).alloc _ = W8
 have hb8 := eqB hW8 (Zq (Zq (Zq (Zq (Zq (Zq (Zq (Qo w _) _) _) _) _) _) _) _)
 have hz8 : W8.heap.size = w.heap.size + 8 := by rw [← hW8]; simp
 have r8 := eqH (b := w.heap.size) hW8 (Qi (Qi (Qi (Qi (Qi (Qi (Qi (Z6 rfl _) _) _) _) _) _) _) _)
 have hS2 := (((Zu.row (show W8.heap[w.heap.size + 1]? = some (.cells #[.int .i64 3, .string ⟨#[97]⟩, .int .i64 0, .string ⟨#[]⟩, .slice none 0 0, .slice none 0 0, .slice none 0 0, .int .i64 0, .int .i64 0] 35 (0, 0)) from by rw [← hW8]; exact Qi (Qi (Qi (Qi (Qi (Qi (Z6 (by simp) _) _) _) _) _) _) _)).app (Zu.row (show W8.heap[w.heap.size + 1 + 1]? = some (.cells #[.int .i64 3, .string ⟨#[98]⟩, .int .i64 0, .string ⟨#[]⟩, .slice none 0 0, .slice none 0 0, .slice none 0 0, .int .i64 0, .int .i64 0] 35 (0, 0)) from by rw [← hW8]; exact Qi (Qi (Qi (Qi (Qi (Z6 (by simp) _) _) _) _) _) _))).app (Zu.row (show W8.heap[w.heap.size + 1 + 1 + 1 + 1 + 1 + 1]? = some (.cells #[.int .i64 0, .string ⟨#[]⟩, .int .i64 1, .string ⟨#[]⟩, .slice none 0 0, .slice none 0 0, .slice none 0 0, .int .i64 0, .int .i64 0] 35 (0, 0)) from by rw [← hW8]; exact Qi (Z6 (by simp) _) _)))
 have hG := (Xs (Xs (Y1 (show w.heap.size < w.heap.size + 1 by omega) (.int .i64 3) (.string ⟨#[97]⟩) (.int .i64 0) (.string ⟨#[]⟩) (.slice none 0 0) (.slice none 0 0) (.slice none 0 0) (.int .i64 0) (.int .i64 0)) (Y1 (show w.heap.size < w.heap.size + 1 + 1 by omega) (.int .i64 3) (.string ⟨#[98]⟩) (.int .i64 0) (.string ⟨#[]⟩) (.slice none 0 0) (.slice none 0 0) (.slice none 0 0) (.int .i64 0) (.int .i64 0))) (Y1 (show w.heap.size < w.heap.size + 1 + 1 + 1 + 1 + 1 + 1 by omega) (.int .i64 0) (.string ⟨#[]⟩) (.int .i64 1) (.string ⟨#[]⟩) (.slice none 0 0) (.slice none 0 0) (.slice none 0 0) (.int .i64 0) (.int .i64 0)))
 have HB8 := Qq hb8; have HR := Qq r8
 clear hW8 hb8 r8 hz8
 go_upto_region 14 with (go_at_call 26; refine (HP.out _ HB8.out).mono ?_; rintro e w' ⟨rfl, rfl⟩)
 refine let_mvar% ?S1 := fun w' : World => w'.cell? ⟨w.heap.size + 1, 0, none⟩ = some (.int .i64 3) ∧ w'.cell? ⟨w.heap.size + 1, 1, none⟩ = some (.string ⟨#[97]⟩) ∧ w'.cell? ⟨w.heap.size + 1, 2, none⟩ = some (.int .i64 0) ∧ w'.cell? ⟨w.heap.size + 1, 3, none⟩ = some (.string ⟨#[]⟩) ∧ w'.cell? ⟨w.heap.size + 1, 4, none⟩ = some (.slice none 0 0) ∧ w'.cell? ⟨w.heap.size + 1, 5, none⟩ = some (.slice none 0 0) ∧ w'.cell? ⟨w.heap.size + 1, 6, none⟩ = some (.slice none 0 0) ∧ w'.cell? ⟨w.heap.size + 1, 7, none⟩ = some (.int .i64 0) ∧ w'.cell? ⟨w.heap.size + 1, 8, none⟩ = some (.int .i64 0) ∧ w'.cell? ⟨w.heap.size + 1 + 1, 0, none⟩ = some (.int .i64 3) ∧ w'.cell? ⟨w.heap.size + 1 + 1, 1, none⟩ = some (.string ⟨#[98]⟩) ∧ w'.cell? ⟨w.heap.size + 1 + 1, 2, none⟩ = some (.int .i64 0) ∧ w'.cell? ⟨w.heap.size + 1 + 1, 3, none⟩ = some (.string ⟨#[]⟩) ∧ w'.cell? ⟨w.heap.size + 1 + 1, 4, none⟩ = some (.slice none 0 0) ∧ w'.cell? ⟨w.heap.size + 1 + 1, 5, none⟩ = some (.slice none 0 0) ∧ w'.cell? ⟨w.heap.size + 1 + 1, 6, none⟩ = some (.slice none 0 0) ∧ w'.cell? ⟨w.heap.size + 1 + 1, 7, none⟩ = some (.int .i64 0) ∧ w'.cell? ⟨w.heap.size + 1 + 1, 8, none⟩ = some (.int .i64 0) ∧ w'.cell? ⟨w.heap.size + 1 + 1 + 1 + 1 + 1 + 1, 0, none⟩ = some (.int .i64 0) ∧ w'.cell? ⟨w.heap.size + 1 + 1 + 1 + 1 + 1 + 1, 1, none⟩ = some (.string ⟨#[]⟩) ∧ w'.cell? ⟨w.heap.size + 1 + 1 + 1 + 1 + 1 + 1, 2, none⟩ = some (.int .i64 1) ∧ w'.cell? ⟨w.heap.size + 1 + 1 + 1 + 1 + 1 + 1, 3, none⟩ = some (.string ⟨#[]⟩) ∧ w'.cell? ⟨w.heap.size + 1 + 1 + 1 + 1 + 1 + 1, 4, none⟩ = some (.slice none 0 0) ∧ w'.cell? ⟨w.heap.size + 1 + 1 + 1 + 1 + 1 + 1, 5, none⟩ = some (.slice none 0 0) ∧ w'.cell? ⟨w.heap.size + 1 + 1 + 1 + 1 + 1 + 1, 6, none⟩ = some (.slice none 0 0) ∧ w'.cell? ⟨w.heap.size + 1 + 1 + 1 + 1 + 1 + 1, 7, none⟩ = some (.int .i64 0) ∧ w'.cell? ⟨w.heap.size + 1 + 1 + 1 + 1 + 1 + 1, 8, none⟩ = some (.int .i64 0); ?_
 have HS := Qq (fun w' (h : Zu (Vl (w.heap.size + 1) (.int .i64 3) (.string ⟨#[97]⟩) (.int .i64 0) (.string ⟨#[]⟩) (.slice none 0 0) (.slice none 0 0) (.slice none 0 0) (.int .i64 0) (.int .i64 0) ++ Vl (w.heap.size + 1 + 1) (.int .i64 3) (.string ⟨#[98]⟩) (.int .i64 0) (.string ⟨#[]⟩) (.slice none 0 0) (.slice none 0 0) (.slice none 0 0) (.int .i64 0) (.int .i64 0) ++ Vl (w.heap.size + 1 + 1 + 1 + 1 + 1 + 1) (.int .i64 0) (.string ⟨#[]⟩) (.int .i64 1) (.string ⟨#[]⟩) (.slice none 0 0) (.slice none 0 0) (.slice none 0 0) (.int .i64 0) (.int .i64 0)) w') => (show ?S1 w' from Zu.spread h))
 have HG := Qq hG
 have HPt := Qq (fun w' z0 z1 z2 z3 z4 z5 z6 z7 z8 (h : Zu _ w') => HS.out _ (h.put9 HG.out z0 z1 z2 z3 z4 z5 z6 z7 z8))
 unfold put9 at HPt
 have HBc := HB8
 clear hG
 have hTok1 := Qq True.intro; have hTok2 := Qq True.intro; have hTok3 := Qq True.intro; have hTokL := Qq True.intro
 go_region_held3 ?S1 (first | with_reducible exact HS.out _ hS2 | with_reducible exact HS.out _ hS2.drew | with_reducible exact HS.out _ (hS2.alloc _) | with_reducible exact HS.out _ (hS2.alloc _).drew | with_reducible exact HS.out _ ((hS2.alloc _).alloc _) | with_reducible exact HS.out _ ((hS2.alloc _).alloc _).drew | with_reducible exact HS.out _ (((hS2.alloc _).alloc _).alloc _) | with_reducible exact HPt.out _ _ _ _ _ _ _ _ _ _ hS2)
  (first
   | (have hn := HX2.out; clear hn; have hk := hTok3.out; go_at_call 70; refine (Xj w.heap.size [60, 61] _ _ _ _ _ (by simp) (by exact (Zx 3 [97] 0 [] (by simp) (by simp))) (by exact HX2.out) (by exact Qf HR.out)).mono ?_; rintro e W3 ⟨ek3, es3, en3, et3, e13, f13, g13, e23, f23, g23, e33, f33, g33, ea3, ez3, rfl, hx3, hb3⟩; clear hTok3 hk; (try (have hb0 := X5 hb3; clear hb3; have hb3 := hb0; clear hb0)); have hS3 := hS2.later hb3; clear hS2; have hS2 := hS3; clear hS3; have HR0 := Qq (Zi hb3 HR.out); clear HR; have HR := HR0; clear HR0; have HC0 := Qq (HBc.out.thn hb3); clear HBc; have HBc := HC0; clear HC0; (try (have h0 := Qq (HX1.out.move (.of_below hb3) (fun _ _ h => h)); clear HX1; have HX1 := h0; clear h0)); (try (have h0 := Qq (HX2.out.move (.of_below hb3) (fun _ _ h => h)); clear HX2; have HX2 := h0; clear h0)); have HX3 := Qq hx3; clear hx3 hb3; obtain ⟨⟨f0, f1, f2, f3, f4, f5, f6, f7, f8⟩, y0, y1, y2, y3, y4, y5, y6, y7, y8⟩ := Rc HR.out)
   | (have hn := HX1.out; clear hn; have hk := hTok2.out; go_at_call 70; refine (Xj w.heap.size [43] _ _ _ _ _ (by simp) (by exact (Zx 3 [98] 0 [] (by simp) (by simp))) (by exact HX1.out) (by exact Qf HR.out)).mono ?_; rintro e W2 ⟨ek2, es2, en2, et2, e12, f12, g12, e22, f22, g22, e32, f32, g32, ea2, ez2, rfl, hx2, hb2⟩; clear hTok2 hk; (try (have hb0 := X5 hb2; clear hb2; have hb2 := hb0; clear hb0)); have hS3 := hS2.later hb2; clear hS2; have hS2 := hS3; clear hS3; have HR0 := Qq (Zi hb2 HR.out); clear HR; have HR := HR0; clear HR0; have HC0 := Qq (HBc.out.thn hb2); clear HBc; have HBc := HC0; clear HC0; (try (have h0 := Qq (HX1.out.move (.of_below hb2) (fun _ _ h => h)); clear HX1; have HX1 := h0; clear h0)); (try (have h0 := Qq (HX3.out.move (.of_below hb2) (fun _ _ h => h)); clear HX3; have HX3 := h0; clear h0)); have HX2 := Qq hx2; clear hx2 hb2)
   | (have hk := hTok1.out; go_at_call 70; refine (Xj w.heap.size [42] _ _ _ _ _ (by simp) (by exact (Zx 0 [] 1 [] (by simp) (by simp))) (by exact (Zx 0 [] 1 [] (by simp) (by simp))) (by exact Qf HR.out)).mono ?_; rintro e W1 ⟨ek1, es1, en1, et1, e11, f11, g11, e21, f21, g21, e31, f31, g31, ea1, ez1, rfl, hx1, hb1⟩; clear hTok1 hk; (try (have hb0 := X5 hb1; clear hb1; have hb1 := hb0; clear hb0)); have hS3 := hS2.later hb1; clear hS2; have hS2 := hS3; clear hS3; have HR0 := Qq (Zi hb1 HR.out); clear HR; have HR := HR0; clear HR0; have HC0 := Qq (HBc.out.thn hb1); clear HBc; have HBc := HC0; clear HC0; (try (have h0 := Qq (HX2.out.move (.of_below hb1) (fun _ _ h => h)); clear HX2; have HX2 := h0; clear h0)); (try (have h0 := Qq (HX3.out.move (.of_below hb1) (fun _ _ h => h)); clear HX3; have HX3 := h0; clear h0)); have HX1 := Qq hx1; clear hx1 hb1)
   | fail)
 all_goals
  go_wp2_with fail
  show bodyPost _ _ _ _ _ (put9 _ w.heap.size (.int .i64 ek3) (.string es3) (.int .i64 en3) (.string et3) (.slice e13 f13 g13) (.slice e23 f23 g23) (.slice e33 f33 g33) (.int .i64 ea3) (.int .i64 ez3))
  exact Q7 (v := .agg #[.int .i64 ek3, .string es3, .int .i64 en3, .string et3, .slice e13 f13 g13, .slice e23 f23 g23, .slice e33 f33 g33, .int .i64 ea3, .int .i64 ez3]) (by simp [results, results35, go_sem, Y2 HR.out]) rfl (Vq HX3.out HBc.out rfl)
theorem Rq (S : Nat → Prop) (v : Value) (l : List Int) (w : World) (hs : Y4 S w v l) (hi : Vw l) (hk : Zo l 0 13 = 4) :
  Calls prog 35 #[v, .int .i64 0] w (V8 w (Gen.check 4)) := by
 have HP := Qq (fun W (hb : Below w.heap.size w W) => Zr S v l 0 13 W (hs.below hb) hi (by omega) (by omega))
 rw [hk] at HP
 obtain ⟨p, cap, rfl, _⟩ := hs.len
 clear hs hi hk
 go_enter func35, ntmps35
 go_upto_region 8 with fail
 generalize hW8 : (((((((w.alloc _).alloc _).alloc _).alloc _).alloc _).alloc _).alloc _).alloc _ = W8
 have hb8 := eqB hW8 (Zq (Zq (Zq (Zq (Zq (Zq (Zq (Qo w _) _) _) _) _) _) _) _)
 have hz8 : W8.heap.size = w.heap.size + 8 := by rw [← hW8]; simp
 have r8 := eqH (b := w.heap.size) hW8 (Qi (Qi (Qi (Qi (Qi (Qi (Qi (Z6 rfl _) _) _) _) _) _) _) _)
 have hS2 := ((Zu.row (show W8.heap[w.heap.size + 1 + 1 + 1 + 1]? = some (.cells zQ 35 (0, 0)) from by rw [← hW8]; exact Qi (Qi (Qi (Z6 (by simp) _) _) _) _)).app (Zu.row (show W8.heap[w.heap.size + 1 + 1 + 1]? = some (.cells #[.int .i64 3, .string ⟨#[99]⟩, .int .i64 0, .string ⟨#[]⟩, .slice none 0 0, .slice none 0 0, .slice none 0 0, .int .i64 0, .int .i64 0] 35 (0, 0)) from by rw [← hW8]; exact Qi (Qi (Qi (Qi (Z6 (by simp) _) _) _) _) _)))
 have hG := (Xs (Y1 (show w.heap.size < w.heap.size + 1 + 1 + 1 + 1 by omega) (.int .i64 3) (.string ⟨#[100]⟩) (.int .i64 0) (.string ⟨#[]⟩) (.slice none 0 0) (.slice none 0 0) (.slice none 0 0) (.int .i64 0) (.int .i64 0)) (Y1 (show w.heap.size < w.heap.size + 1 + 1 + 1 by omega) (.int .i64 3) (.string ⟨#[99]⟩) (.int .i64 0) (.string ⟨#[]⟩) (.slice none 0 0) (.slice none 0 0) (.slice none 0 0) (.int .i64 0) (.int .i64 0)))
 have HB8 := Qq hb8; have HR := Qq r8
 clear hW8 hb8 r8 hz8
 go_upto_region 16 with (go_at_call 26; refine (HP.out _ HB8.out).mono ?_; rintro e w' ⟨rfl, rfl⟩)
 refine let_mvar% ?S1 := fun w' : World => w'.cell? ⟨w.heap.size + 1 + 1 + 1 + 1, 0, none⟩ = some (.int .i64 3) ∧ w'.cell? ⟨w.heap.size + 1 + 1 + 1 + 1, 1, none⟩ = some (.string ⟨#[100]⟩) ∧ w'.cell? ⟨w.heap.size + 1 + 1 + 1 + 1, 2, none⟩ = some (.int .i64 0) ∧ w'.cell? ⟨w.heap.size + 1 + 1 + 1 + 1, 3, none⟩ = some (.string ⟨#[]⟩) ∧ w'.cell? ⟨w.heap.size + 1 + 1 + 1 + 1, 4, none⟩ = some (.slice none 0 0) ∧ w'.cell? ⟨w.heap.size + 1 + 1 + 1 + 1, 5, none⟩ = some (.slice none 0 0) ∧ w'.cell? ⟨w.heap.size + 1 + 1 + 1 + 1, 6, none⟩ = some (.slice none 0 0) ∧ w'.cell? ⟨w.heap.size + 1 + 1 + 1 + 1, 7, none⟩ = some (.int .i64 0) ∧ w'.cell? ⟨w.heap.size + 1 + 1 + 1 + 1, 8, none⟩ = some (.int .i64 0) ∧ w'.cell? ⟨w.heap.size + 1 + 1 + 1, 0, none⟩ = some (.int .i64 3) ∧ w'.cell? ⟨w.heap.size + 1 + 1 + 1, 1, none⟩ = some (.string ⟨#[99]⟩) ∧ w'.cell? ⟨w.heap.size + 1 + 1 + 1, 2, none⟩ = some (.int .i64 0) ∧ w'.cell? ⟨w.heap.size + 1 + 1 + 1, 3, none⟩ = some (.string ⟨#[]⟩) ∧ w'.cell? ⟨w.heap.size + 1 + 1 + 1, 4, none⟩ = some (.slice none 0 0) ∧ w'.cell? ⟨w.heap.size + 1 + 1 + 1, 5, none⟩ = some (.slice none 0 0) ∧ w'.cell? ⟨w.heap.size + 1 + 1 + 1, 6, none⟩ = some (.slice none 0 0) ∧ w'.cell? ⟨w.heap.size + 1 + 1 + 1, 7, none⟩ = some (.int .i64 0) ∧ w'.cell? ⟨w.heap.size + 1 + 1 + 1, 8, none⟩ = some (.int .i64 0); ?_
 have HS := Qq (fun w' (h : Zu (Vl (w.heap.size + 1 + 1 + 1 + 1) (.int .i64 3) (.string ⟨#[100]⟩) (.int .i64 0) (.string ⟨#[]⟩) (.slice none 0 0) (.slice none 0 0) (.slice none 0 0) (.int .i64 0) (.int .i64 0) ++ Vl (w.heap.size + 1 + 1 + 1) (.int .i64 3) (.string ⟨#[99]⟩) (.int .i64 0) (.string ⟨#[]⟩) (.slice none 0 0) (.slice none 0 0) (.slice none 0 0) (.int .i64 0) (.int .i64 0)) w') => (show ?S1 w' from Zu.spread h))
 have HG := Qq hG
 have HPt := Qq (fun w' z0 z1 z2 z3 z4 z5 z6 z7 z8 (h : Zu _ w') => HS.out _ (h.put9 HG.out z0 z1 z2 z3 z4 z5 z6 z7 z8))
 unfold put9 at HPt
 have HBc := HB8
 clear hG
 have hTok1 := Qq True.intro; have hTok2 := Qq True.intro; have hTokL := Qq True.intro
 go_region_held3 ?S1 (first | with_reducible exact HS.out _ hS2 | with_reducible exact HS.out _ hS2.drew | with_reducible exact HS.out _ (hS2.alloc _) | with_reducible exact HS.out _ (hS2.alloc _).drew | with_reducible exact HS.out _ ((hS2.alloc _).alloc _) | with_reducible exact HS.out _ ((hS2.alloc _).alloc _).drew | with_reducible exact HS.out _ (((hS2.alloc _).alloc _).alloc _) | with_reducible exact HPt.out _ _ _ _ _ _ _ _ _ _ hS2)
  (first
   | (have hn := HX1.out; clear hn; have hk := hTok2.out; go_at_call 70; refine (Xj w.heap.size [111, 114] _ _ _ _ _ (by simp) (by exact (Zx 3 [100] 0 [] (by simp) (by simp))) (by exact HX1.out) (by exact Qf HR.out)).mono ?_; rintro e W2 ⟨ek2, es2, en2, et2, e12, f12, g12, e22, f22, g22, e32, f32, g32, ea2, ez2, rfl, hx2, hb2⟩; clear hTok2 hk; (try (have hb0 := X5 hb2; clear hb2; have hb2 := hb0; clear hb0)); have hS3 := hS2.later hb2; clear hS2; have hS2 := hS3; clear hS3; have HR0 := Qq (Zi hb2 HR.out); clear HR; have HR := HR0; clear HR0; have HC0 := Qq (HBc.out.thn hb2); clear HBc; have HBc := HC0; clear HC0; (try (have h0 := Qq (HX1.out.move (.of_below hb2) (fun _ _ h => h)); clear HX1; have HX1 := h0; clear h0)); have HX2 := Qq hx2; clear hx2 hb2; obtain ⟨⟨f0, f1, f2, f3, f4, f5, f6, f7, f8⟩, y0, y1, y2, y3, y4, y5, y6, y7, y8⟩ := Rc HR.out)
   | (have hk := hTok1.out; go_at_call 70; refine (Xj w.heap.size [33, 61] _ _ _ _ _ (by simp) (by exact (Zx 3 [99] 0 [] (by simp) (by simp))) (by exact (Zx 1 [] 0 [97, 98] (by simp) (by simp))) (by exact Qf HR.out)).mono ?_; rintro e W1 ⟨ek1, es1, en1, et1, e11, f11, g11, e21, f21, g21, e31, f31, g31, ea1, ez1, rfl, hx1, hb1⟩; clear hTok1 hk; (try (have hb0 := X5 hb1; clear hb1; have hb1 := hb0; clear hb0)); have hS3 := hS2.later hb1; clear hS2; have hS2 := hS3; clear hS3; have HR0 := Qq (Zi hb1 HR.out); clear HR; have HR := HR0; clear HR0; have HC0 := Qq (HBc.out.thn hb1); clear HBc; have HBc := HC0; clear HC0; (try (have h0 := Qq (HX2.out.move (.of_below hb1) (fun _ _ h => h)); clear HX2; have HX2 := h0; clear h0)); have HX1 := Qq hx1; clear hx1 hb1)
   | fail)
 all_goals
  go_wp2_with fail
  show bodyPost _ _ _ _ _ (put9 _ w.heap.size (.int .i64 ek2) (.string es2) (.int .i64 en2) (.string et2) (.slice e12 f12 g12) (.slice e22 f22 g22) (.slice e32 f32 g32) (.int .i64 ea2) (.int .i64 ez2))
  exact Q7 (v := .agg #[.int .i64 ek2, .string es2, .int .i64 en2, .string et2, .slice e12 f12 g12, .slice e22 f22 g22, .slice e32 f32 g32, .int .i64 ea2, .int .i64 ez2]) (by simp [results, results35, go_sem, Y2 HR.out]) rfl (Vq HX2.out HBc.out rfl)
theorem Mw (S : Nat → Prop) (v : Value) (l : List Int) (w : World) (hs : Y4 S w v l) (hi : Vw l) (hk : Zo l 0 13 = 10) :
  Calls prog 35 #[v, .int .i64 0] w (V8 w (Gen.check 10)) := by
 have HP := Qq (fun W (hb : Below w.heap.size w W) => Zr S v l 0 13 W (hs.below hb) hi (by omega) (by omega))
 rw [hk] at HP
 obtain ⟨p, cap, rfl, _⟩ := hs.len
 clear hs hi hk
 go_enter func35, ntmps35
 go_upto_region 8 with fail
 generalize hW8 : (((((((w.alloc _).alloc _).alloc _).alloc _).alloc _).alloc _).alloc _).alloc _ = W8
 have hb8 := eqB hW8 (Zq (Zq (Zq (Zq (Zq (Zq (Zq (Qo w _) _) _) _) _) _) _) _)
 have hz8 : W8.heap.size = w.heap.size + 8 := by rw [← hW8]; simp
 have r8 := eqH (b := w.heap.size) hW8 (Qi (Qi (Qi (Qi (Qi (Qi (Qi (Z6 rfl _) _) _) _) _) _) _) _)
 have hS2 := (((Zu.row (show W8.heap[w.heap.size + 1 + 1 + 1 + 1]? = some (.cells zQ 35 (0, 0)) from by rw [← hW8]; exact Qi (Qi (Qi (Z6 (by simp) _) _) _) _)).app (Zu.row (show W8.heap[w.heap.size + 1]? = some (.cells #[.int .i64 3, .string ⟨#[97]⟩, .int .i64 0, .string ⟨#[]⟩, .slice none 0 0, .slice none 0 0, .slice none 0 0, .int .i64 0, .int .i64 0] 35 (0, 0)) from by rw [← hW8]; exact Qi (Qi (Qi (Qi (Qi (Qi (Z6 (by simp) _) _) _) _) _) _) _))).app (Zu.row (show W8.heap[w.heap.size + 1 + 1 + 1]? = some (.cells #[.int .i64 3, .string ⟨#[99]⟩, .int .i64 0, .string ⟨#[]⟩, .slice none 0 0, .slice none 0 0, .slice none 0 0, .int .i64 0, .int .i64 0] 35 (0, 0)) from by rw [← hW8]; exact Qi (Qi (Qi (Qi (Z6 (by simp) _) _) _) _) _)))
 have hG := (Xs (Xs (Y1 (show w.heap.size < w.heap.size + 1 + 1 + 1 + 1 by omega) (.int .i64 3) (.string ⟨#[100]⟩) (.int .i64 0) (.string ⟨#[]⟩) (.slice none 0 0) (.slice none 0 0) (.slice none 0 0) (.int .i64 0) (.int .i64 0)) (Y1 (show w.heap.size < w.heap.size + 1 by omega) (.int .i64 3) (.string ⟨#[97]⟩) (.int .i64 0) (.string ⟨#[]⟩) (.slice none 0 0) (.slice none 0 0) (.slice none 0 0) (.int .i64 0) (.int .i64 0))) (Y1 (show w.heap.size < w.heap.size + 1 + 1 + 1 by omega) (.int .i64 3) (.string ⟨#[99]⟩) (.int .i64 0) (.string ⟨#[]⟩) (.slice none 0 0) (.slice none 0 0) (.slice none 0 0) (.int .i64 0) (.int .i64 0)))
 have HB8 := Qq hb8; have HR := Qq r8
 clear hW8 hb8 r8 hz8
 go_upto_region 30 with (go_at_call 26; refine (HP.out _ HB8.out).mono ?_; rintro e w' ⟨rfl, rfl⟩)
 refine let_mvar% ?S1 := fun w' : World => w'.cell? ⟨w.heap.size + 1 + 1 + 1 + 1, 0, none⟩ = some (.int .i64 3) ∧ w'.cell? ⟨w.heap.size + 1 + 1 + 1 + 1, 1, none⟩ = some (.string ⟨#[100]⟩) ∧ w'.cell? ⟨w.heap.size + 1 + 1 + 1 + 1, 2, none⟩ = some (.int .i64 0) ∧ w'.cell? ⟨w.heap.size + 1 + 1 + 1 + 1, 3, none⟩ = some (.string ⟨#[]⟩) ∧ w'.cell? ⟨w.heap.size + 1 + 1 + 1 + 1, 4, none⟩ = some (.slice none 0 0) ∧ w'.cell? ⟨w.heap.size + 1 + 1 + 1 + 1, 5, none⟩ = some (.slice none 0 0) ∧ w'.cell? ⟨w.heap.size + 1 + 1 + 1 + 1, 6, none⟩ = some (.slice none 0 0) ∧ w'.cell? ⟨w.heap.size + 1 + 1 + 1 + 1, 7, none⟩ = some (.int .i64 0) ∧ w'.cell? ⟨w.heap.size + 1 + 1 + 1 + 1, 8, none⟩ = some (.int .i64 0) ∧ w'.cell? ⟨w.heap.size + 1, 0, none⟩ = some (.int .i64 3) ∧ w'.cell? ⟨w.heap.size + 1, 1, none⟩ = some (.string ⟨#[97]⟩) ∧ w'.cell? ⟨w.heap.size + 1, 2, none⟩ = some (.int .i64 0) ∧ w'.cell? ⟨w.heap.size + 1, 3, none⟩ = some (.string ⟨#[]⟩) ∧ w'.cell? ⟨w.heap.size + 1, 4, none⟩ = some (.slice none 0 0) ∧ w'.cell? ⟨w.heap.size + 1, 5, none⟩ = some (.slice none 0 0) ∧ w'.cell? ⟨w.heap.size + 1, 6, none⟩ = some (.slice none 0 0) ∧ w'.cell? ⟨w.heap.size + 1, 7, none⟩ = some (.int .i64 0) ∧ w'.cell? ⟨w.heap.size + 1, 8, none⟩ = some (.int .i64 0) ∧ w'.cell? ⟨w.heap.size + 1 + 1 + 1, 0, none⟩ = some (.int .i64 3) ∧ w'.cell? ⟨w.heap.size + 1 + 1 + 1, 1, none⟩ = some (.string ⟨#[99]⟩) ∧ w'.cell? ⟨w.heap.size + 1 + 1 + 1, 2, none⟩ = some (.int .i64 0) ∧ w'.cell? ⟨w.heap.size + 1 + 1 + 1, 3, none⟩ = some (.string ⟨#[]⟩) ∧ w'.cell? ⟨w.heap.size + 1 + 1 + 1, 4, none⟩ = some (.slice none 0 0) ∧ w'.cell? ⟨w.heap.size + 1 + 1 + 1, 5, none⟩ = some (.slice none 0 0) ∧ w'.cell? ⟨w.heap.size + 1 + 1 + 1, 6, none⟩ = some (.slice none 0 0) ∧ w'.cell? ⟨w.heap.size + 1 + 1 + 1, 7, none⟩ = some (.int .i64 0) ∧ w'.cell? ⟨w.heap.size + 1 + 1 + 1, 8, none⟩ = some (.int .i64 0); ?_
 have HS := Qq (fun w' (h : Zu (Vl (w.heap.size + 1 + 1 + 1 + 1) (.int .i64 3) (.string ⟨#[100]⟩) (.int .i64 0) (.string ⟨#[]⟩) (.slice none 0 0) (.slice none 0 0) (.slice none 0 0) (.int .i64 0) (.int .i64 0) ++ Vl (w.heap.size + 1) (.int .i64 3) (.string ⟨#[97]⟩) (.int .i64 0) (.string ⟨#[]⟩) (.slice none 0 0) (.slice none 0 0) (.slice none 0 0) (.int .i64 0) (.int .i64 0) ++ Vl (w.heap.size + 1 + 1 + 1) (.int .i64 3) (.string ⟨#[99]⟩) (.int .i64 0) (.string ⟨#[]⟩) (.slice none 0 0) (.slice none 0 0) (.slice none 0 0) (.int .i64 0) (.int .i64 0)) w') => (show ?S1 w' from Zu.spread h))
 have HG := Qq hG
 have HPt := Qq (fun w' z0 z1 z2 z3 z4 z5 z6 z7 z8 (h : Zu _ w') => HS.out _ (h.put9 HG.out z0 z1 z2 z3 z4 z5 z6 z7 z8))
 unfold put9 at HPt
 have HBc := HB8
 clear hG
 have hTok1 := Qq True.intro; have hTok2 := Qq True.intro; have hTokL := Qq True.intro
 go_region_held3 ?S1 (first | with_reducible exact HS.out _ hS2 | with_reducible exact HS.out _ hS2.drew | with_reducible exact HS.out _ (hS2.alloc _) | with_reducible exact HS.out _ (hS2.alloc _).drew | with_reducible exact HS.out _ ((hS2.alloc _).alloc _) | with_reducible exact HS.out _ ((hS2.alloc _).alloc _).drew | with_reducible exact HS.out _ (((hS2.alloc _).alloc _).alloc _) | with_reducible exact HPt.out _ _ _ _ _ _ _ _ _ _ hS2)
  (first
   | (have hn := HX1.out; clear hn; have hk := hTok2.out; go_at_call 70; refine (Xj w.heap.size [97, 110, 100] _ _ _ _ _ (by simp) (by exact (Zx 3 [100] 0 [] (by simp) (by simp))) (by exact HX1.out) (by exact Qf HR.out)).mono ?_; rintro e W2 ⟨ek2, es2, en2, et2, e12, f12, g12, e22, f22, g22, e32, f32, g32, ea2, ez2, rfl, hx2, hb2⟩; clear hTok2 hk; (try (have hb0 := X5 hb2; clear hb2; have hb2 := hb0; clear hb0)); have hS3 := hS2.later hb2; clear hS2; have hS2 := hS3; clear hS3; have HR0 := Qq (Zi hb2 HR.out); clear HR; have HR := HR0; clear HR0; have HC0 := Qq (HBc.out.thn hb2); clear HBc; have HBc := HC0; clear HC0; (try (have h0 := Qq (HX1.out.move (.of_below hb2) (fun _ _ h => h)); clear HX1; have HX1 := h0; clear h0)); have HX2 := Qq hx2; clear hx2 hb2; obtain ⟨⟨f0, f1, f2, f3, f4, f5, f6, f7, f8⟩, y0, y1, y2, y3, y4, y5, y6, y7, y8⟩ := Rc HR.out)
   | (have hk := hTok1.out; go_at_call 70; refine (Xj w.heap.size [43] _ _ _ _ _ (by simp) (by exact (Zx 3 [97] 0 [] (by simp) (by simp))) (by exact (Zx 3 [99] 0 [] (by simp) (by simp))) (by exact Qf HR.out)).mono ?_; rintro e W1 ⟨ek1, es1, en1, et1, e11, f11, g11, e21, f21, g21, e31, f31, g31, ea1, ez1, rfl, hx1, hb1⟩; clear hTok1 hk; (try (have hb0 := X5 hb1; clear hb1; have hb1 := hb0; clear hb0)); have hS3 := hS2.later hb1; clear hS2; have hS2 := hS3; clear hS3; have HR0 := Qq (Zi hb1 HR.out); clear HR; have HR := HR0; clear HR0; have HC0 := Qq (HBc.out.thn hb1); clear HBc; have HBc := HC0; clear HC0; (try (have h0 := Qq (HX2.out.move (.of_below hb1) (fun _ _ h => h)); clear HX2; have HX2 := h0; clear h0)); have HX1 := Qq hx1; clear hx1 hb1)
   | fail)
 all_goals
  go_wp2_with fail
  show bodyPost _ _ _ _ _ (put9 _ w.heap.size (.int .i64 ek2) (.string es2) (.int .i64 en2) (.string et2) (.slice e12 f12 g12) (.slice e22 f22 g22) (.slice e32 f32 g32) (.int .i64 ea2) (.int .i64 ez2))
  exact Q7 (v := .agg #[.int .i64 ek2, .string es2, .int .i64 en2, .string et2, .slice e12 f12 g12, .slice e22 f22 g22, .slice e32 f32 g32, .int .i64 ea2, .int .i64 ez2]) (by simp [results, results35, go_sem, Y2 HR.out]) rfl (Vq HX2.out HBc.out rfl)
def InsIs (S : Nat → Prop) (B : Nat) (w : World) (v : Value) (xs : List Val) (e : Ending) (w' : World) : Prop :=
 ∃ p cap css, e = .returned (.slice p xs.length cap) ∧ Own Ql 44 S B w' (.slice p xs.length cap) xs css ∧ w.grownBy w' v.ownBlock ∧ ((Value.slice p xs.length cap).ownBlock = v.ownBlock ∨ (Value.slice p xs.length cap).ownBlock = some w.heap.size)
theorem insEnd (S : Nat → Prop) (B : Nat) (w : World) (v : Value) (xs : List Val) (css : List (List Value)) (y : Val) (q : Option Addr) (c : Nat) (hO : Own Ql 44 S B w v xs css) (hY : Sl Ql (But S v) w (.slice q 1 c) [y]) (hl : xs.length ≤ 100000) (hB : B ≤ w.heap.size) :
  Calls prog 58 #[v, .int .i64 xs.length, .slice q 1 c] w (InsIs S B w v (xs ++ [y])) := by
 obtain ⟨i0, j1, j2, j3, j4⟩ := Ze (P := prog) (t := 44) (z := .agg zV) (n := 5) (b := 80) (by kernel_rfl)
 have HJ := Qq j1; have HJ2 := Qq j2; have HJ3 := Qq j3; have HJ4 := Qq j4
 obtain ⟨qb, qo, _, rfl, _, _, _, _, _⟩ := hY.elem (i := 0) (x := y) rfl
 have hend : ∀ p7 cap7 css7 w7, Own Ql 44 S B w7 (.slice p7 (xs.length + 1) cap7) (xs ++ [y]) css7 → w.grownBy w7 v.ownBlock → ((Value.slice p7 (xs.length + 1) cap7).ownBlock = v.ownBlock ∨ (Value.slice p7 (xs.length + 1) cap7).ownBlock = some w.heap.size) → InsIs S B w v (xs ++ [y]) (.returned (.slice p7 (xs.length + 1) cap7)) w7 := by
  intro p7 cap7 css7 w7 h1 h2 h3
  refine ⟨p7, cap7, css7, by rw [List.length_append]; rfl, by rw [List.length_append]; exact h1, h2, by rw [List.length_append]; exact h3⟩
 rcases hO.row.2 with ⟨rfl, h0⟩ | ⟨g, cap, cur, rfl, hgB, _, hcc, hcm, hnc, _⟩
 ·have h0' : xs = [] := List.eq_nil_of_length_eq_zero h0
  have HO := Qq hO; have HY := Qq hY; have HE := Qq hend
  clear hO hY j1 j2 j3 j4 h0 hend
  subst h0'
  show Calls _ _ #[.slice none 0 0, .int .i64 0, .slice (some ⟨qb, qo, none⟩) 1 c] _ _
  go_enter func58, ntmps58
  go_wp2_with (at_builtin; refine Uo (r := Ql) (by decide) rfl (.tmp 23) (.tmp 24) _ rfl 44 i0 (.agg zV) 80 underlying40 HJ.out HJ2.out HJ3.out HJ4.out rfl (by omega) S B w (.slice none 0 0) [] css [y] (some ⟨qb, qo, none⟩) 1 c rfl HO.out rfl HY.out rfl (by simp) Yi (by simp only [List.length_cons, List.length_nil]; omega) hB ?_; intro p7 cap7 css7 w7 hO7 hg7 hat7; have HO7 := Qq hO7; have HG7 := Qq hg7; have HA7 := Qq hat7; clear hO7 hg7 hat7)
  go_ret
  exact HE.out p7 cap7 css7 w7 HO7.out HG7.out HA7.out
 have HO := Qq hO; have HY := Qq hY; have HE := Qq hend
 clear hO hY j1 j2 j3 j4 hnc hcm hend
 have hb1 : (xs.length : Int) ≤ (cap : Int) := by omega
 obtain ⟨n, hn⟩ := eX (xs.length)
 rw [hn] at HO HY hl hcc hb1 ⊢
 have HN := Qq hn
 have hl2 : xs.length ≤ 100000 := by omega
 clear hn
 have hi0 : (0 : Int) ≤ (n : Int) := by omega
 by_cases hcn : cap = n
 ·subst hcn
  have hi1 : (cap : Int) ≤ (cap : Int) := by omega
  go_enter func58, ntmps58
  go_wp2_with (at_builtin; refine Uo (r := Ql) (by decide) rfl (.tmp 23) (.tmp 24) _ rfl 44 i0 (.agg zV) 80 underlying40 HJ.out HJ2.out HJ3.out HJ4.out rfl (by omega) S B w (.slice (some ⟨g, 0, none⟩) cap cap) xs css [y] (some ⟨qb, qo, none⟩) 1 c rfl HO.out rfl HY.out rfl (by simp) Yi (by simp only [List.length_cons, List.length_nil]; omega) hB ?_; intro p7 cap7 css7 w7 hO7 hg7 hat7; have HO7 := Qq hO7; have HG7 := Qq hg7; have HA7 := Qq hat7; clear hO7 hg7 hat7)
  go_ret
  exact HE.out p7 cap7 css7 w7 HO7.out HG7.out HA7.out
 have hi1 : (n : Int) < (cap : Int) := by omega
 have hd : cap - n ≠ 0 := by omega
 go_enter func58, ntmps58
 go_wp2_with (at_builtin; refine Uo (r := Ql) (by decide) rfl (.tmp 23) (.tmp 24) _ rfl 44 i0 (.agg zV) 80 underlying40 HJ.out HJ2.out HJ3.out HJ4.out rfl (by omega) S B w (.slice (some ⟨g, 0, none⟩) n cap) xs css [y] (some ⟨qb, qo, none⟩) 1 c rfl HO.out rfl HY.out rfl (by simp) Yi (by simp only [List.length_cons, List.length_nil]; omega) hB ?_; intro p7 cap7 css7 w7 hO7 hg7 hat7; have HO7 := Qq hO7; have HG7 := Qq hg7; have HA7 := Qq hat7; clear hO7 hg7 hat7)
 go_ret
 exact HE.out p7 cap7 css7 w7 HO7.out HG7.out HA7.out
theorem ins1_any (R : Nat) (S : Nat → Prop) (x : Val) (cx : List Value) (rows : List Val) (w : World) (hcx : ∀ j u, cx[j]? = some u → w.cell? ⟨R, j, none⟩ = some u) (hRl : R < w.heap.size) (hx : Qh S w cx x) :
  Xt prog 55 #[.pointer (some ⟨R, 0, none⟩)] Ql S rows (fun v => eqv v x) w := by
 intro W v cs hb hv hr
 have hxW := hx.move (.of_below hb) (fun _ _ h => h)
 have HC := Qq (fun W' (h' : Below W.heap.size W W') => Hb S v x cs cx W' (Qh.move (show Qh S W cs v from hr) (.of_below h') (fun _ _ h => h)) (hxW.move (.of_below h') (fun _ _ h => h)))
 obtain ⟨p3, k3, p4, k4, hcs, _⟩ := Qh.cells (show Qh S W cs v from hr)
 obtain ⟨q3, l3, q4, l4, hcx', _⟩ := Qh.cells hxW
 simp only [vcs] at hcs hcx'
 subst hcs; subst hcx'
 have d := fun j u hj => (hb.cell (p := ⟨R, j, none⟩) hRl).trans (hcx j u hj)
 have d0 := d 0 _ rfl
 have d1 := d 1 _ rfl
 have d2 := d 2 _ rfl
 have d3 := d 3 _ rfl
 have d4 := d 4 _ rfl
 have hRW : R < W.heap.size := Qv W _ d0
 show Calls prog 55 #[.agg #[.int .i64 v.kind, .int .i64 v.n, .string ⟨v.s.toArray⟩, .slice p3 v.names.length k3, .slice p4 v.kids.length k4], .pointer (some ⟨R, 0, none⟩)] W (fun e w' => e = .returned (.bool (eqv v x)) ∧ Below W.heap.size W w')
 generalize eqv v x = b at HC ⊢
 clear d hcx hb hv hr hx hxW
 go_enter func55, ntmps55
 go_wp2_with (go_at_call 45; refine (HC.out _ (Qo _ _)).mono ?_; rintro e w' ⟨rfl, hw⟩)
 go_ret
 exact ⟨rfl, (Qo _ _).thn hw⟩
theorem ins2_any (R : Nat) (S : Nat → Prop) (x : Val) (cx : List Value) (rows : List Val) (w : World) (hcx : ∀ j u, cx[j]? = some u → w.cell? ⟨R, j, none⟩ = some u) (hRl : R < w.heap.size) (hx : Qh S w cx x) :
  Xt prog 56 #[.pointer (some ⟨R, 0, none⟩)] Ql S rows (fun v => decide (0 < Z1 v x)) w := by
 intro W v cs hb hv hr
 have hxW := hx.move (.of_below hb) (fun _ _ h => h)
 have HC := Qq (fun W' (h' : Below W.heap.size W W') => Fq S v x cs cx W' (Qh.move (show Qh S W cs v from hr) (.of_below h') (fun _ _ h => h)) (hxW.move (.of_below h') (fun _ _ h => h)))
 obtain ⟨p3, k3, p4, k4, hcs, _⟩ := Qh.cells (show Qh S W cs v from hr)
 obtain ⟨q3, l3, q4, l4, hcx', _⟩ := Qh.cells hxW
 simp only [vcs] at hcs hcx'
 subst hcs; subst hcx'
 have d := fun j u hj => (hb.cell (p := ⟨R, j, none⟩) hRl).trans (hcx j u hj)
 have d0 := d 0 _ rfl
 have d1 := d 1 _ rfl
 have d2 := d 2 _ rfl
 have d3 := d 3 _ rfl
 have d4 := d 4 _ rfl
 have hRW : R < W.heap.size := Qv W _ d0
 show Calls prog 56 #[.agg #[.int .i64 v.kind, .int .i64 v.n, .string ⟨v.s.toArray⟩, .slice p3 v.names.length k3, .slice p4 v.kids.length k4], .pointer (some ⟨R, 0, none⟩)] W (fun e w' => e = .returned (.bool (decide (0 < Z1 v x))) ∧ Below W.heap.size W w')
 generalize Z1 v x = b at HC ⊢
 clear d hcx hb hv hr hx hxW
 go_enter func56, ntmps56
 go_wp2_with (go_at_call 57; refine (HC.out _ (Qo _ _)).mono ?_; rintro e w' ⟨rfl, hw⟩)
 go_ret
 exact ⟨rfl, (Qo _ _).thn hw.bl⟩
end Go.Proofs.YtppbaladeefnkaaGreatDoor

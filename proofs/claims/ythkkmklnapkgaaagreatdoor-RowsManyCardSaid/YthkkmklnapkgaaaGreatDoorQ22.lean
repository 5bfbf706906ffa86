import Derived.Test.YthkkmklnapkgaaaGreatDoorQ21
/- rows.evaluate$1: the value of a part. -/
namespace Go.Proofs.YthkkmklnapkgaaaGreatDoor
open Go.RowKit Go.Shelf Go.Lib

set_option maxRecDepth 100000 in
set_option maxHeartbeats 2000000 in
theorem kid_any (E V k : Nat) (S0 S' : Nat → Prop) (kp : Option Addr) (kc : Nat) (kids : List Ex) (e : Ex) (p : Value) (env : List (Bs × Val)) (v : Val) (w : World) (h6 : w.cell? ⟨E, 6, none⟩ = some (.slice kp kids.length kc)) (hk : Sl exRd S' w (.slice kp kids.length kc) kids) (hV : w.cell? ⟨V, 0, none⟩ = some p)
    (he0 : IsEnv S0 w p env) (hx : kids[k]? = some e) (hev : EvV e env v) : Calls Tryz.prog 95 #[.int .i64 k, .pointer (some ⟨E, 0, none⟩), .pointer (some ⟨V, 0, none⟩)] w (ValAt S0 w v) := by
  have he : IsEnv (fun b => S0 b ∧ b < w.heap.size) w p env := he0.move (.refl _ _) (fun b hb h => ⟨h, hb⟩)
  obtain ⟨q, rfl⟩ := he.ptr
  obtain ⟨xb, xoff, cs, hkp, hxb, _, _, hr, hc⟩ := hk.elem hx
  subst hkp
  have HEv := Lib.hid (fun W (hb : Below w.heap.size w W) => hev (fun b => S0 b ∧ b < w.heap.size) S' cs (.pointer q) W (exRd.frame hr (.of_below hb)) (he.move (.of_below hb) (fun _ _ h => h)))
  obtain ⟨ek, es1, en, es2, ep1, en1, ec1, ep2, en2, ec2, ep3, en3, ec3, ea, ez, hcs⟩ := IsEx.cells (show IsEx S' w cs e from hr)
  subst hcs
  have hEl := World.block_lt_of_cell? _ _ h6
  have hVl := World.block_lt_of_cell? _ _ hV
  have hki : k < kids.length := (List.getElem?_eq_some_iff.1 hx).1
  have hi1 : (0 : Int) ≤ (k : Int) := by omega
  have hi2 : (k : Int) < (kids.length : Int) := by omega
  have d0 := hc 0 _ rfl
  have d1 := hc 1 _ rfl
  have d2 := hc 2 _ rfl
  have d3 := hc 3 _ rfl
  have d4 := hc 4 _ rfl
  have d5 := hc 5 _ rfl
  have d6 := hc 6 _ rfl
  have d7 := hc 7 _ rfl
  have d8 := hc 8 _ rfl
  simp only [show exRd.k = 9 from rfl, Nat.add_zero] at d0 d1 d2 d3 d4 d5 d6 d7 d8
  obtain ⟨w1, hW1⟩ : ∃ w1, w.alloc (.cells #[.int .i64 0, .int .i64 0, .string ⟨#[]⟩, .slice none 0 0, .slice none 0 0] 34) = w1 := ⟨_, rfl⟩
  have hbW : Below w.heap.size w w1 := by rw [← hW1]; exact bal1 _ _
  have hsz : w1.heap.size = w.heap.size + 1 := by rw [← hW1]; simp
  have hR1 : w1.heap[w.heap.size]? = some (.cells #[.int .i64 0, .int .i64 0, .string ⟨#[]⟩, .slice none 0 0, .slice none 0 0] 34 (0, 0)) := by rw [← hW1]; exact heap_alloc_new _ _
  have HS : ∀ w', Below w.heap.size w w' → (∃ y0 y1 y2 y3 y4, w'.heap[w.heap.size]? = some (.cells #[y0, y1, y2, y3, y4] 34 (0, 0))) → (fun w' => w'.cell? ⟨E, 6, none⟩ = some (.slice (some ⟨xb, xoff, none⟩) kids.length kc) ∧ w'.cell? ⟨xb, xoff + k * 9, none⟩ = some (.int .i64 ek) ∧ w'.cell? ⟨xb, xoff + k * 9 + 1, none⟩ = some (.string es1) ∧ w'.cell? ⟨xb, xoff + k * 9 + 2, none⟩ = some (.int .i64 en) ∧ w'.cell? ⟨xb, xoff + k * 9 + 3, none⟩ = some (.string es2) ∧ w'.cell? ⟨xb, xoff + k * 9 + 4, none⟩ = some (.slice ep1 en1 ec1) ∧ w'.cell? ⟨xb, xoff + k * 9 + 5, none⟩ = some (.slice ep2 en2 ec2) ∧ w'.cell? ⟨xb, xoff + k * 9 + 6, none⟩ = some (.slice ep3 en3 ec3) ∧ w'.cell? ⟨xb, xoff + k * 9 + 7, none⟩ = some (.int .i64 ea) ∧ w'.cell? ⟨xb, xoff + k * 9 + 8, none⟩ = some (.int .i64 ez) ∧ w'.cell? ⟨V, 0, none⟩ = some (.pointer q) ∧ (∃ y0 y1 y2 y3 y4, w'.heap[w.heap.size]? = some (.cells #[y0, y1, y2, y3, y4] 34 (0, 0))) ∧ Below w.heap.size w w') w' := by
    intro w' h hy
    have hh : ∀ {b j : Nat} {u : Value}, b < w.heap.size → w.cell? ⟨b, j, none⟩ = some u → w'.cell? ⟨b, j, none⟩ = some u := fun hlt hc => (h.cell (p := ⟨_, _, none⟩) hlt).trans hc
    exact ⟨hh hEl h6, hh hxb d0, hh hxb d1, hh hxb d2, hh hxb d3, hh hxb d4, hh hxb d5, hh hxb d6, hh hxb d7, hh hxb d8, hh hVl hV, hy, h⟩
  have HB9 : ∀ w', (fun w' => w'.cell? ⟨E, 6, none⟩ = some (.slice (some ⟨xb, xoff, none⟩) kids.length kc) ∧ w'.cell? ⟨xb, xoff + k * 9, none⟩ = some (.int .i64 ek) ∧ w'.cell? ⟨xb, xoff + k * 9 + 1, none⟩ = some (.string es1) ∧ w'.cell? ⟨xb, xoff + k * 9 + 2, none⟩ = some (.int .i64 en) ∧ w'.cell? ⟨xb, xoff + k * 9 + 3, none⟩ = some (.string es2) ∧ w'.cell? ⟨xb, xoff + k * 9 + 4, none⟩ = some (.slice ep1 en1 ec1) ∧ w'.cell? ⟨xb, xoff + k * 9 + 5, none⟩ = some (.slice ep2 en2 ec2) ∧ w'.cell? ⟨xb, xoff + k * 9 + 6, none⟩ = some (.slice ep3 en3 ec3) ∧ w'.cell? ⟨xb, xoff + k * 9 + 7, none⟩ = some (.int .i64 ea) ∧ w'.cell? ⟨xb, xoff + k * 9 + 8, none⟩ = some (.int .i64 ez) ∧ w'.cell? ⟨V, 0, none⟩ = some (.pointer q) ∧ (∃ y0 y1 y2 y3 y4, w'.heap[w.heap.size]? = some (.cells #[y0, y1, y2, y3, y4] 34 (0, 0))) ∧ Below w.heap.size w w') w' → Below w.heap.size w w' := fun w' h => h.2.2.2.2.2.2.2.2.2.2.2.2
  have HY9 : ∀ w', (fun w' => w'.cell? ⟨E, 6, none⟩ = some (.slice (some ⟨xb, xoff, none⟩) kids.length kc) ∧ w'.cell? ⟨xb, xoff + k * 9, none⟩ = some (.int .i64 ek) ∧ w'.cell? ⟨xb, xoff + k * 9 + 1, none⟩ = some (.string es1) ∧ w'.cell? ⟨xb, xoff + k * 9 + 2, none⟩ = some (.int .i64 en) ∧ w'.cell? ⟨xb, xoff + k * 9 + 3, none⟩ = some (.string es2) ∧ w'.cell? ⟨xb, xoff + k * 9 + 4, none⟩ = some (.slice ep1 en1 ec1) ∧ w'.cell? ⟨xb, xoff + k * 9 + 5, none⟩ = some (.slice ep2 en2 ec2) ∧ w'.cell? ⟨xb, xoff + k * 9 + 6, none⟩ = some (.slice ep3 en3 ec3) ∧ w'.cell? ⟨xb, xoff + k * 9 + 7, none⟩ = some (.int .i64 ea) ∧ w'.cell? ⟨xb, xoff + k * 9 + 8, none⟩ = some (.int .i64 ez) ∧ w'.cell? ⟨V, 0, none⟩ = some (.pointer q) ∧ (∃ y0 y1 y2 y3 y4, w'.heap[w.heap.size]? = some (.cells #[y0, y1, y2, y3, y4] 34 (0, 0))) ∧ Below w.heap.size w w') w' → (∃ y0 y1 y2 y3 y4, w'.heap[w.heap.size]? = some (.cells #[y0, y1, y2, y3, y4] 34 (0, 0))) := fun w' h => h.2.2.2.2.2.2.2.2.2.2.2.1
  have HX9 : ∀ w' w'', (fun w' => w'.cell? ⟨E, 6, none⟩ = some (.slice (some ⟨xb, xoff, none⟩) kids.length kc) ∧ w'.cell? ⟨xb, xoff + k * 9, none⟩ = some (.int .i64 ek) ∧ w'.cell? ⟨xb, xoff + k * 9 + 1, none⟩ = some (.string es1) ∧ w'.cell? ⟨xb, xoff + k * 9 + 2, none⟩ = some (.int .i64 en) ∧ w'.cell? ⟨xb, xoff + k * 9 + 3, none⟩ = some (.string es2) ∧ w'.cell? ⟨xb, xoff + k * 9 + 4, none⟩ = some (.slice ep1 en1 ec1) ∧ w'.cell? ⟨xb, xoff + k * 9 + 5, none⟩ = some (.slice ep2 en2 ec2) ∧ w'.cell? ⟨xb, xoff + k * 9 + 6, none⟩ = some (.slice ep3 en3 ec3) ∧ w'.cell? ⟨xb, xoff + k * 9 + 7, none⟩ = some (.int .i64 ea) ∧ w'.cell? ⟨xb, xoff + k * 9 + 8, none⟩ = some (.int .i64 ez) ∧ w'.cell? ⟨V, 0, none⟩ = some (.pointer q) ∧ (∃ y0 y1 y2 y3 y4, w'.heap[w.heap.size]? = some (.cells #[y0, y1, y2, y3, y4] 34 (0, 0))) ∧ Below w.heap.size w w') w' → Below w'.heap.size w' w'' → (fun w' => w'.cell? ⟨E, 6, none⟩ = some (.slice (some ⟨xb, xoff, none⟩) kids.length kc) ∧ w'.cell? ⟨xb, xoff + k * 9, none⟩ = some (.int .i64 ek) ∧ w'.cell? ⟨xb, xoff + k * 9 + 1, none⟩ = some (.string es1) ∧ w'.cell? ⟨xb, xoff + k * 9 + 2, none⟩ = some (.int .i64 en) ∧ w'.cell? ⟨xb, xoff + k * 9 + 3, none⟩ = some (.string es2) ∧ w'.cell? ⟨xb, xoff + k * 9 + 4, none⟩ = some (.slice ep1 en1 ec1) ∧ w'.cell? ⟨xb, xoff + k * 9 + 5, none⟩ = some (.slice ep2 en2 ec2) ∧ w'.cell? ⟨xb, xoff + k * 9 + 6, none⟩ = some (.slice ep3 en3 ec3) ∧ w'.cell? ⟨xb, xoff + k * 9 + 7, none⟩ = some (.int .i64 ea) ∧ w'.cell? ⟨xb, xoff + k * 9 + 8, none⟩ = some (.int .i64 ez) ∧ w'.cell? ⟨V, 0, none⟩ = some (.pointer q) ∧ (∃ y0 y1 y2 y3 y4, w'.heap[w.heap.size]? = some (.cells #[y0, y1, y2, y3, y4] 34 (0, 0))) ∧ Below w.heap.size w w') w'' := fun w' w'' h h2 => HS w'' ((HB9 w' h).thn h2) (by
    obtain ⟨y0, y1, y2, y3, y4, hy⟩ := HY9 w' h
    exact ⟨y0, y1, y2, y3, y4, (h2.block _ (World.block_lt_some hy)).trans hy⟩)
  have HP9 : ∀ w' a b c d e, (fun w' => w'.cell? ⟨E, 6, none⟩ = some (.slice (some ⟨xb, xoff, none⟩) kids.length kc) ∧ w'.cell? ⟨xb, xoff + k * 9, none⟩ = some (.int .i64 ek) ∧ w'.cell? ⟨xb, xoff + k * 9 + 1, none⟩ = some (.string es1) ∧ w'.cell? ⟨xb, xoff + k * 9 + 2, none⟩ = some (.int .i64 en) ∧ w'.cell? ⟨xb, xoff + k * 9 + 3, none⟩ = some (.string es2) ∧ w'.cell? ⟨xb, xoff + k * 9 + 4, none⟩ = some (.slice ep1 en1 ec1) ∧ w'.cell? ⟨xb, xoff + k * 9 + 5, none⟩ = some (.slice ep2 en2 ec2) ∧ w'.cell? ⟨xb, xoff + k * 9 + 6, none⟩ = some (.slice ep3 en3 ec3) ∧ w'.cell? ⟨xb, xoff + k * 9 + 7, none⟩ = some (.int .i64 ea) ∧ w'.cell? ⟨xb, xoff + k * 9 + 8, none⟩ = some (.int .i64 ez) ∧ w'.cell? ⟨V, 0, none⟩ = some (.pointer q) ∧ (∃ y0 y1 y2 y3 y4, w'.heap[w.heap.size]? = some (.cells #[y0, y1, y2, y3, y4] 34 (0, 0))) ∧ Below w.heap.size w w') w' → (fun w' => w'.cell? ⟨E, 6, none⟩ = some (.slice (some ⟨xb, xoff, none⟩) kids.length kc) ∧ w'.cell? ⟨xb, xoff + k * 9, none⟩ = some (.int .i64 ek) ∧ w'.cell? ⟨xb, xoff + k * 9 + 1, none⟩ = some (.string es1) ∧ w'.cell? ⟨xb, xoff + k * 9 + 2, none⟩ = some (.int .i64 en) ∧ w'.cell? ⟨xb, xoff + k * 9 + 3, none⟩ = some (.string es2) ∧ w'.cell? ⟨xb, xoff + k * 9 + 4, none⟩ = some (.slice ep1 en1 ec1) ∧ w'.cell? ⟨xb, xoff + k * 9 + 5, none⟩ = some (.slice ep2 en2 ec2) ∧ w'.cell? ⟨xb, xoff + k * 9 + 6, none⟩ = some (.slice ep3 en3 ec3) ∧ w'.cell? ⟨xb, xoff + k * 9 + 7, none⟩ = some (.int .i64 ea) ∧ w'.cell? ⟨xb, xoff + k * 9 + 8, none⟩ = some (.int .i64 ez) ∧ w'.cell? ⟨V, 0, none⟩ = some (.pointer q) ∧ (∃ y0 y1 y2 y3 y4, w'.heap[w.heap.size]? = some (.cells #[y0, y1, y2, y3, y4] 34 (0, 0))) ∧ Below w.heap.size w w') (put5 w' w.heap.size a b c d e) := fun w' a b c d e h => HS _ (put5_below (HB9 w' h) (Nat.le_refl _)) (by
    obtain ⟨y0, y1, y2, y3, y4, hy⟩ := HY9 w' h
    exact ⟨a, b, c, d, e, put5_heap hy⟩)
  unfold put5 at HP9
  have HC := Lib.hid (fun W' (h' : (fun w' => w'.cell? ⟨E, 6, none⟩ = some (.slice (some ⟨xb, xoff, none⟩) kids.length kc) ∧ w'.cell? ⟨xb, xoff + k * 9, none⟩ = some (.int .i64 ek) ∧ w'.cell? ⟨xb, xoff + k * 9 + 1, none⟩ = some (.string es1) ∧ w'.cell? ⟨xb, xoff + k * 9 + 2, none⟩ = some (.int .i64 en) ∧ w'.cell? ⟨xb, xoff + k * 9 + 3, none⟩ = some (.string es2) ∧ w'.cell? ⟨xb, xoff + k * 9 + 4, none⟩ = some (.slice ep1 en1 ec1) ∧ w'.cell? ⟨xb, xoff + k * 9 + 5, none⟩ = some (.slice ep2 en2 ec2) ∧ w'.cell? ⟨xb, xoff + k * 9 + 6, none⟩ = some (.slice ep3 en3 ec3) ∧ w'.cell? ⟨xb, xoff + k * 9 + 7, none⟩ = some (.int .i64 ea) ∧ w'.cell? ⟨xb, xoff + k * 9 + 8, none⟩ = some (.int .i64 ez) ∧ w'.cell? ⟨V, 0, none⟩ = some (.pointer q) ∧ (∃ y0 y1 y2 y3 y4, w'.heap[w.heap.size]? = some (.cells #[y0, y1, y2, y3, y4] 34 (0, 0))) ∧ Below w.heap.size w w') W') => (HEv.out W' (HB9 _ h')).mono (R' := fun e w2 => ∃ q3 l3 q4 l4, e = .returned (.agg #[.int .i64 v.kind, .int .i64 v.n, .string ⟨v.s.toArray⟩, .slice q3 v.names.length l3, .slice q4 v.kids.length l4]) ∧ IsVal (fun b => S0 b ∧ b < w.heap.size) w2 (vcs v q3 l3 q4 l4) v ∧ (fun w' => w'.cell? ⟨E, 6, none⟩ = some (.slice (some ⟨xb, xoff, none⟩) kids.length kc) ∧ w'.cell? ⟨xb, xoff + k * 9, none⟩ = some (.int .i64 ek) ∧ w'.cell? ⟨xb, xoff + k * 9 + 1, none⟩ = some (.string es1) ∧ w'.cell? ⟨xb, xoff + k * 9 + 2, none⟩ = some (.int .i64 en) ∧ w'.cell? ⟨xb, xoff + k * 9 + 3, none⟩ = some (.string es2) ∧ w'.cell? ⟨xb, xoff + k * 9 + 4, none⟩ = some (.slice ep1 en1 ec1) ∧ w'.cell? ⟨xb, xoff + k * 9 + 5, none⟩ = some (.slice ep2 en2 ec2) ∧ w'.cell? ⟨xb, xoff + k * 9 + 6, none⟩ = some (.slice ep3 en3 ec3) ∧ w'.cell? ⟨xb, xoff + k * 9 + 7, none⟩ = some (.int .i64 ea) ∧ w'.cell? ⟨xb, xoff + k * 9 + 8, none⟩ = some (.int .i64 ez) ∧ w'.cell? ⟨V, 0, none⟩ = some (.pointer q) ∧ (∃ y0 y1 y2 y3 y4, w'.heap[w.heap.size]? = some (.cells #[y0, y1, y2, y3, y4] 34 (0, 0))) ∧ Below w.heap.size w w') w2) (by
    rintro e w2 ⟨cs', rfl, h3, h4⟩
    obtain ⟨q3, l3, q4, l4, hcs, _⟩ := IsVal.cells h3
    subst hcs
    exact ⟨q3, l3, q4, l4, rfl, h3, HX9 _ _ h' h4⟩))
  have HHS := Lib.hid (HS w1.drew hbW.drew ⟨_, _, _, _, _, hR1⟩); have HB9' := Lib.hid HB9; have HY9' := Lib.hid HY9; have HP9' := Lib.hid HP9
  clear HS HB9 HX9 HY9 HP9 HEv hc h6 hk hV he he0 hx hev hr hbW d0 d1 d2 d3 d4 d5 d6 d7 d8 hEl hVl hR1 hsz
  go_enter Tryz.func95, Tryz.ntmps95
  go_upto_region 1 with fail
  go_region_held3 (fun w' => w'.cell? ⟨E, 6, none⟩ = some (.slice (some ⟨xb, xoff, none⟩) kids.length kc) ∧ w'.cell? ⟨xb, xoff + k * 9, none⟩ = some (.int .i64 ek) ∧ w'.cell? ⟨xb, xoff + k * 9 + 1, none⟩ = some (.string es1) ∧ w'.cell? ⟨xb, xoff + k * 9 + 2, none⟩ = some (.int .i64 en) ∧ w'.cell? ⟨xb, xoff + k * 9 + 3, none⟩ = some (.string es2) ∧ w'.cell? ⟨xb, xoff + k * 9 + 4, none⟩ = some (.slice ep1 en1 ec1) ∧ w'.cell? ⟨xb, xoff + k * 9 + 5, none⟩ = some (.slice ep2 en2 ec2) ∧ w'.cell? ⟨xb, xoff + k * 9 + 6, none⟩ = some (.slice ep3 en3 ec3) ∧ w'.cell? ⟨xb, xoff + k * 9 + 7, none⟩ = some (.int .i64 ea) ∧ w'.cell? ⟨xb, xoff + k * 9 + 8, none⟩ = some (.int .i64 ez) ∧ w'.cell? ⟨V, 0, none⟩ = some (.pointer q) ∧ (∃ y0 y1 y2 y3 y4, w'.heap[w.heap.size]? = some (.cells #[y0, y1, y2, y3, y4] 34 (0, 0))) ∧ Below w.heap.size w w') (first | with_reducible exact HHS.out | with_reducible exact hS2 | with_reducible exact HP9'.out _ _ _ _ _ _ hS2)
    (first
      | (go_at_call 59; refine (HC.out _ (by assumption)).mono ?_; rintro e w2 ⟨q3, l3, q4, l4, rfl, hv2, hS2⟩; obtain ⟨g0, g1, g2, g3, g4, r2⟩ := HY9'.out _ hS2; have f0 := frozen_of_row _ _ 0 _ _ r2; have f1 := frozen_of_row _ _ 1 _ _ r2; have f2 := frozen_of_row _ _ 2 _ _ r2; have f3 := frozen_of_row _ _ 3 _ _ r2; have f4 := frozen_of_row _ _ 4 _ _ r2; have y0 := cell_of_row _ _ 0 _ _ _ r2; have y1 := cell_of_row _ _ 1 _ _ _ r2; have y2 := cell_of_row _ _ 2 _ _ _ r2; have y3 := cell_of_row _ _ 3 _ _ _ r2; have y4 := cell_of_row _ _ 4 _ _ _ r2; simp only [List.getElem?_toArray, List.getElem?_cons_zero, List.getElem?_cons_succ] at y0 y1 y2 y3 y4; have HR2 := Lib.hid r2; clear r2))
  have HB2 := Lib.hid (HB9'.out _ hS2); have HV2 := Lib.hid hv2
  clear hv2 hS2
  go_wp2_with fail
  show bodyPost _ _ _ _ _ (put5 w2 w.heap.size (.int .i64 v.kind) (.int .i64 v.n) (.string ⟨v.s.toArray⟩) (.slice q3 v.names.length l3) (.slice q4 v.kids.length l4))
  refine bodyPost_ret (v := .agg #[.int .i64 v.kind, .int .i64 v.n, .string ⟨v.s.toArray⟩, .slice q3 v.names.length l3, .slice q4 v.kids.length l4]) (by simp [results, Tryz.results95, go_sem, put5_cell HR2.out]) rfl ⟨_, rfl, ?_, put5_below HB2.out (Nat.le_refl _)⟩
  exact IsVal.move HV2.out (fun b hb _ => put5_other (by have := hb.2; omega)) (fun _ _ h => h.1)
end Go.Proofs.YthkkmklnapkgaaaGreatDoor

/- rows.operate at '<'; rows.evaluate at a comparison. -/
namespace Go.Proofs.YthkkmklnapkgaaaGreatDoor
open Go.RowKit Go.Shelf Go.Lib

set_option maxRecDepth 100000 in
set_option maxHeartbeats 4000000 in
theorem less_any (g : Nat) (lb : Array Value) (eg : ∀ args w, (callFunc g args).run Tryz.prog w = .ok (.enter g args) w) (S0 : Nat → Prop) (u v : Val) (w : World) (hS0 : ∀ b, S0 b → b < w.heap.size)
    (h0 : ∀ W, Below w.heap.size w W → Calls Tryz.prog g (#[.int .i64 0] ++ lb) W (ValAt S0 W u)) (h1 : ∀ W, Below w.heap.size w W → Calls Tryz.prog g (#[.int .i64 1] ++ lb) W (ValAt S0 W v)) :
    Calls Tryz.prog 103 #[.string ⟨#[60]⟩, .func (.func g) #[] lb, .int .i64 2] w (ValAt S0 w (truV (decide (cmpV u v < 0)))) := by
  have H0 := Lib.hid h0; have H1 := Lib.hid h1; have HM := Lib.hid must_ok; have HS0 := Lib.hid hS0
  have HCmp := Lib.hid (fun cu cv W (hu : IsVal S0 W cu u) (hv : IsVal S0 W cv v) => cmp_any S0 u v cu cv W hu hv)
  have HBo := Lib.hid (boolean_any (decide (cmpV u v < 0)) S0)
  obtain ⟨r, hr⟩ : ∃ r, truV (decide (cmpV u v < 0)) = r := ⟨_, rfl⟩
  rw [hr] at HBo ⊢
  clear h0 h1 hr hS0
  generalize cmpV u v = c at HCmp HBo
  go_enter Tryz.func103, Tryz.ntmps103
  go_wp2_with (go_at_call 97; refine (HM.out _).mono ?_; rintro e w' ⟨rfl, rfl⟩)
  refine (H0.out _ (bal1 _ _)).mono ?_
  rintro e w1 ⟨cu, rfl, hu, hb1⟩
  obtain ⟨a3, m3, a4, m4, hcs, _⟩ := IsVal.cells hu
  simp only [vcs] at hcs
  subst hcs
  have HR1 := Lib.hid ((hb1.block w.heap.size (by simp)).trans (heap_alloc_new w _)); have HB1 := Lib.hid ((bal1 w _).thn hb1); have HU := Lib.hid hu
  clear hu hb1
  go_wp2_with fail
  refine (H1.out _ HB1.out).mono ?_
  rintro e w2 ⟨cv, rfl, hv, hb2⟩
  obtain ⟨b3, n3, b4, n4, hcs, _⟩ := IsVal.cells hv
  simp only [vcs] at hcs
  subst hcs
  have HR2 := Lib.hid ((hb2.block w.heap.size (World.block_lt_some HR1.out)).trans HR1.out); have HB2 := Lib.hid (HB1.out.thn hb2)
  have HU2 := Lib.hid (IsVal.move HU.out (.of_below hb2) (fun _ _ h => h)); have HV2 := Lib.hid hv
  clear hv hb2
  go_upto_region 10 with fail
  generalize hW4 : (w2.alloc _).alloc _ = w4
  have hb4 : Below w2.heap.size w2 w4 := by rw [← hW4]; exact bal2 _ _ _
  have g1 : w4.heap[w2.heap.size]? = some (.cells #[.int .i64 u.kind, .int .i64 u.n, .string ⟨u.s.toArray⟩, .slice a3 u.names.length m3, .slice a4 u.kids.length m4] 34 (0, 0)) := by rw [← hW4]; exact heap_alloc2_old _ _ _
  have g2 : w4.heap[w2.heap.size + 1]? = some (.cells #[.int .i64 v.kind, .int .i64 v.n, .string ⟨v.s.toArray⟩, .slice b3 v.names.length n3, .slice b4 v.kids.length n4] 34 (0, 0)) := by rw [← hW4]; exact heap_alloc2_new _ _ _
  have HR4 := Lib.hid ((hb4.block w.heap.size (World.block_lt_some HR2.out)).trans HR2.out); have HB4 := Lib.hid (HB2.out.thn hb4)
  have HC4 := Lib.hid (fun W (hb : Below w4.heap.size w4 W) => HCmp.out _ _ W (IsVal.move (IsVal.move HU2.out (.of_below hb4) (fun _ _ h => h)) (.of_below hb) (fun _ _ h => h)) (IsVal.move (IsVal.move HV2.out (.of_below hb4) (fun _ _ h => h)) (.of_below hb) (fun _ _ h => h)))
  have x0 := cell_of_row _ _ 0 _ _ _ g1; have y0 := cell_of_row _ _ 0 _ _ _ g2
  have x1 := cell_of_row _ _ 1 _ _ _ g1; have y1 := cell_of_row _ _ 1 _ _ _ g2
  have x2 := cell_of_row _ _ 2 _ _ _ g1; have y2 := cell_of_row _ _ 2 _ _ _ g2
  have x3 := cell_of_row _ _ 3 _ _ _ g1; have y3 := cell_of_row _ _ 3 _ _ _ g2
  have x4 := cell_of_row _ _ 4 _ _ _ g1; have y4 := cell_of_row _ _ 4 _ _ _ g2
  simp only [List.getElem?_toArray, List.getElem?_cons_zero, List.getElem?_cons_succ] at x0 y0 x1 y1 x2 y2 x3 y3 x4 y4
  clear hb4 g1 g2 hW4
  go_wp2_with fail
  refine (HC4.out _ (Below.refl _ _)).mono ?_
  rintro e w5 ⟨rfl, hg5⟩
  have hb5 := hg5.bl
  have HR5 := Lib.hid ((hb5.block w.heap.size (World.block_lt_some HR4.out)).trans HR4.out); have HB5 := Lib.hid (HB4.out.thn hb5)
  clear hb5 hg5
  go_wp2_with (go_at_call 98; refine (HBo.out _).mono ?_; rintro e w6 ⟨cr, rfl, hr6, hb6⟩; obtain ⟨q3, l3, q4, l4, hcs, _⟩ := IsVal.cells hr6; simp only [vcs] at hcs; subst hcs; have HB6 := Lib.hid hb6; have HV6 := Lib.hid hr6; have hr := (hb6.block w.heap.size (World.block_lt_some HR5.out)).trans HR5.out; have HR6 := Lib.hid hr; have f0 := frozen_of_row _ _ 0 _ _ hr; have f1 := frozen_of_row _ _ 1 _ _ hr; have f2 := frozen_of_row _ _ 2 _ _ hr; have f3 := frozen_of_row _ _ 3 _ _ hr; have f4 := frozen_of_row _ _ 4 _ _ hr; have r0 := cell_of_row _ _ 0 _ _ _ hr; have r1 := cell_of_row _ _ 1 _ _ _ hr; have r2 := cell_of_row _ _ 2 _ _ _ hr; have r3 := cell_of_row _ _ 3 _ _ _ hr; have r4 := cell_of_row _ _ 4 _ _ _ hr; simp only [List.getElem?_toArray, List.getElem?_cons_zero, List.getElem?_cons_succ] at r0 r1 r2 r3 r4; clear hr6 hb6 hr)
  show bodyPost _ _ _ _ _ (put5 w6 w.heap.size (.int .i64 r.kind) (.int .i64 r.n) (.string ⟨r.s.toArray⟩) (.slice q3 r.names.length l3) (.slice q4 r.kids.length l4))
  refine bodyPost_ret (v := .agg #[.int .i64 r.kind, .int .i64 r.n, .string ⟨r.s.toArray⟩, .slice q3 r.names.length l3, .slice q4 r.kids.length l4]) (by simp [results, Tryz.results103, go_sem, put5_cell HR6.out]) rfl ⟨_, rfl, ?_, put5_below (HB5.out.thn HB6.out) (Nat.le_refl _)⟩
  exact IsVal.move HV6.out (fun b hb _ => put5_other (by have := HS0.out b hb; omega)) (fun _ _ h => h)
end Go.Proofs.YthkkmklnapkgaaaGreatDoor

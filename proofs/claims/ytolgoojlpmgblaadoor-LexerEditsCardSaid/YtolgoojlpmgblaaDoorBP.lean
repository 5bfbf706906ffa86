/- edit.Apply of one insertion: the byte 10 at a place of the text. -/
import Derived.Test.YtolgoojlpmgblaaDoorBO
namespace Go.Proofs.YtolgoojlpmgblaaDoor
open Go.RowKit

/-- A list of one edit: the byte 10 put in at place n. -/
structure Ins (w : World) (g n : Nat) : Prop where
  c0 : w.cell? ⟨g, 0, none⟩ = some (.int .i64 n)
  c1 : w.cell? ⟨g, 1, none⟩ = some (.int .i64 n)
  c2 : w.cell? ⟨g, 2, none⟩ = some (.string ⟨#[10]⟩)
theorem Ins.below {w w' : World} {g n : Nat} (h : Ins w g n) (hb : Below w.heap.size w w') : Ins w' g n :=
  ⟨(hb.cell (World.block_lt_of_cell? w _ h.c0)).trans h.c0, (hb.cell (World.block_lt_of_cell? w _ h.c1)).trans h.c1, (hb.cell (World.block_lt_of_cell? w _ h.c2)).trans h.c2⟩

set_option maxHeartbeats 1000000 in
theorem sound_ins (g n m : Nat) (w : World) (hI : Ins w g n) (hn : n ≤ m) (hm : m ≤ 1000000) :
    Calls Tryd.prog 63 #[.slice (some ⟨g, 0, none⟩) 1 1, .int .i64 m] w fun e w' => e = .returned (.int .i64 0) ∧ Below w.heap.size w w' := by
  have HI := Lib.hid hI; clear hI
  go_enter Tryd.func63, Tryd.ntmps63
  go_wp2_with fail
  go_loopw [5, 13] (fun t i wr => ∃ k : Nat, k ≤ 1 ∧ i = .int .i64 k ∧ t = .int .i64 (k * n : Nat) ∧ Below w.heap.size w wr) (fun _ i _ => 1 - (intOf i).toNat)
  case atStart => exact ⟨0, by omega, rfl, by simp, Below.refl _ _⟩
  case round =>
    obtain ⟨k, hk, rfl, rfl, hB⟩ := hrel
    have HB := Lib.hid hB; clear hB
    by_cases hlt : k < 1
    · obtain rfl : k = 0 := by omega
      obtain ⟨c0, c1, c2⟩ := HI.out.below HB.out
      have h1 : decide ((n : Int) < 0) = false := by simp
      have h2 : decide ((n : Int) < (n : Int)) = false := by simp
      have h3 : decide ((m : Int) < (n : Int)) = false := by simp; omega
      simp only [Nat.zero_mul]
      go_wp2_with fail
      exact ⟨⟨1, by omega, rfl, by simp, HB.out.alloc HB.out.size _⟩, by simp [intOf]⟩
    · obtain rfl : k = 1 := by omega
      go_wp2_with fail
      go_ret
      exact ⟨rfl, HB.out⟩

set_option maxHeartbeats 1000000 in
theorem valid_ins (s : ByteArray) (g n : Nat) (w : World) (hI : Ins w g n) (hn : n ≤ s.size) (hs : s.size ≤ 1000000) :
    Calls Tryd.prog 46 #[.string s, .slice (some ⟨g, 0, none⟩) 1 1] w fun e w' => e = .returned (.int .i64 0) ∧ Below w.heap.size w w' := by
  have HI := Lib.hid hI; clear hI
  go_enter Tryd.func46, Tryd.ntmps46
  go_wp2_with fail
  refine (sound_ins g n s.size _ HI.out hn hs).mono ?_
  rintro e w' ⟨rfl, hb⟩
  go_wp2_with fail
  go_ret
  exact ⟨rfl, hb⟩

theorem bl_extract0 (s : ByteArray) (n : Nat) : bl (s.extract 0 n) = (bl s).take n := by simp [bl]
theorem bl_extractn (s : ByteArray) (n : Nat) : bl (s.extract n s.size) = (bl s).drop n := by
  simp [bl]
  rw [List.take_of_length_le]
  simp
theorem strCells_byte (s : ByteArray) : Lib.strCells s = Lib.byteCells (bl s) := rfl

set_option maxHeartbeats 2000000 in
theorem apply_ins (s : ByteArray) (g n : Nat) (w : World) (hI : Ins w g n) (hn : n ≤ s.size) (hs : s.size ≤ 1000000) :
    Calls Tryd.prog 47 #[.string s, .slice (some ⟨g, 0, none⟩) 1 1] w fun e w' => e = .returned (.string ⟨((bl s).take n ++ 10 :: (bl s).drop n).toArray⟩) ∧ Below w.heap.size w w' := by
  have HI := Lib.hid hI; clear hI
  have hgw : g < w.heap.size := World.block_lt_of_cell? w _ HI.out.c0
  go_enter Tryd.func47, Tryd.ntmps47
  go_wp2_with fail
  go_loopw [6, 11] (fun t i wr => ∃ k : Nat, k ≤ 1 ∧ i = .int .i64 k ∧ t = .int .i64 (k * n : Nat) ∧ Lib.IsBuilderF 89 5 w.heap.size w.heap.size (Lib.byteCells (if k = 0 then [] else (bl s).take n ++ [10])) wr ∧ Below w.heap.size w wr ∧ w.heap.size < wr.heap.size) (fun _ i _ => 1 - (intOf i).toNat)
  case atStart => exact ⟨0, by omega, rfl, by simp, Lib.IsBuilderF.of (Lib.fresh_isBuilder 89 5 w), (Below.refl _ _).alloc (Nat.le_refl _) _, by simp⟩
  case round =>
    obtain ⟨k, hk, rfl, rfl, hIs, hB, hz⟩ := hrel
    have HB := Lib.hid hB; have HIs := Lib.hid hIs
    clear hB hIs
    by_cases hlt : k < 1
    · obtain rfl : k = 0 := by omega
      obtain ⟨c0, c1, c2⟩ := HI.out.below HB.out
      simp only [Nat.zero_mul]
      have hX := World.alloc_heap_new wr (.cells #[.int .i64 n, .int .i64 n, .string ⟨#[10]⟩] 52)
      have HX := Lib.hid hX
      clear hX
      go_wp2_with fail
      refine (writeString_any w.heap.size w.heap.size [] (s.extract 0 n) _ (HIs.out.alloc _) (by simp; omega) (by have := HB.out.size; simp; omega)).mono ?_
      rintro e w1 ⟨rfl, h1, hb1, hk1⟩
      have hX1 := hk1 wr.heap.size _ HX.out (by simp; omega) (by intro c fz h; cases h)
      have hB1 := (HB.out.alloc HB.out.size _).trans hb1
      have H1 := Lib.hid h1; have HX1 := Lib.hid hX1; have HB1 := Lib.hid hB1
      have d1 : w1.cell? ⟨wr.heap.size, 1, none⟩ = some (.int .i64 n) := by rw [cell_of_row w1 wr.heap.size 1 _ _ _ hX1]; rfl
      have d2 : w1.cell? ⟨wr.heap.size, 2, none⟩ = some (.string ⟨#[10]⟩) := by rw [cell_of_row w1 wr.heap.size 2 _ _ _ hX1]; rfl
      have hz1 := hB1.size
      clear h1 hb1 hk1 hX1 hB1
      go_wp2_with fail
      refine (writeString_any w.heap.size w.heap.size _ ⟨#[10]⟩ _ (Or.inr H1.out) (by have : (⟨#[10]⟩ : ByteArray).size = 1 := rfl; rw [this, strCells_byte, bl_extract0]; simp [Lib.byteCells]; omega) (by omega)).mono ?_
      rintro e w2 ⟨rfl, h2, hb2, hk2⟩
      have hX2 := hk2 wr.heap.size _ HX1.out (by simp; omega) (by intro c fz h; cases h)
      have e1 : w2.cell? ⟨wr.heap.size, 1, none⟩ = some (.int .i64 n) := by rw [cell_of_row w2 wr.heap.size 1 _ _ _ hX2]; rfl
      have H2 := Lib.hid h2; have HB2 := Lib.hid (HB1.out.trans hb2)
      have HZ := Lib.hid (show wr.heap.size < w2.heap.size from World.block_lt_of_cell? w2 _ e1)
      clear h2 hb2 hk2 hX2 d1 d2
      go_wp2_with fail
      refine ⟨⟨1, by omega, rfl, by simp, Or.inr ?_, HB2.out, by have := HZ.out; omega⟩, by simp [intOf]⟩
      have := H2.out
      rw [strCells_byte, strCells_byte, bl_extract0] at this
      have hb : bl ⟨#[10]⟩ = [10] := rfl
      rw [hb] at this
      simpa [Lib.byteCells] using this
    · obtain rfl : k = 1 := by omega
      simp only [Nat.one_mul]
      rw [if_neg (by decide)] at HIs
      go_wp2_with fail
      refine (writeString_any w.heap.size w.heap.size _ (s.extract n s.size) _ HIs.out (by simp [Lib.byteCells]; omega) (by omega)).mono ?_
      rintro e w1 ⟨rfl, h1, hb1, hk1⟩
      have H1 := Lib.hid h1; have HB1 := Lib.hid (HB.out.trans hb1)
      have hz1 := HB1.out.size
      have hL : Lib.byteCells ((bl s).take n ++ [10]) ++ Lib.strCells (s.extract n s.size) = Lib.byteCells ((bl s).take n ++ 10 :: (bl s).drop n) := by
        rw [strCells_byte, bl_extractn]
        simp [Lib.byteCells]
      rw [hL] at H1
      clear h1 hb1 hk1 hL
      go_wp2_with fail
      refine (Tryd.Builder_String_any_k w.heap.size w.heap.size _ _ (Or.inr H1.out) (by omega)).mono ?_
      rintro e w2 ⟨rfl, _, hb2, _⟩
      go_wp2_with fail
      go_ret
      exact ⟨rfl, HB1.out.trans hb2⟩

set_option maxHeartbeats 1000000 in
theorem edit_ins (s : ByteArray) (g n : Nat) (w : World) (hI : Ins w g n) (hn : n ≤ s.size) (hs : s.size ≤ 1000000) :
    Calls Tryd.prog 31 #[.string s, .slice (some ⟨g, 0, none⟩) 1 1] w fun e w' => e = .returned (.tuple #[.string ⟨((bl s).take n ++ 10 :: (bl s).drop n).toArray⟩, .int .i64 0]) ∧ Below w.heap.size w w' := by
  have HI := Lib.hid hI; clear hI
  go_enter Tryd.func31, Tryd.ntmps31
  go_wp2_with fail
  refine (valid_ins s g n _ HI.out hn hs).mono ?_
  rintro e w1 ⟨rfl, hb1⟩
  have HB1 := Lib.hid hb1; clear hb1
  go_wp2_with fail
  refine (apply_ins s g n _ (HI.out.below HB1.out) hn hs).mono ?_
  rintro e w2 ⟨rfl, hb2⟩
  go_wp2_with fail
  go_ret2
  exact ⟨rfl, HB1.out.trans (hb2.mono HB1.out.size)⟩
end Go.Proofs.YtolgoojlpmgblaaDoor

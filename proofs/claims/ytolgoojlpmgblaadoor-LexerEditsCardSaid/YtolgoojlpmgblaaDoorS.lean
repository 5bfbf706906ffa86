/- The generators: Short cuts a string, Around reduces a number, Part and Source make short strings. -/
import Derived.Test.YtolgoojlpmgblaaDoorR
import Derived.WalkKit
import Derived.WalkSpells
import Derived.WalkLawsBesides
import Derived.Outline
import Derived.Lib.Hide
import Derived.Handy
namespace Go.Proofs.YtolgoojlpmgblaaDoor
open Go.RowKit

theorem short_any (s : ByteArray) (m : Nat) (w : World) (hs : s.size ≤ maxLen) :
    Calls Tryd.prog 20 #[.string s, .int .i64 m] w fun e w' => (∃ r : ByteArray, e = .returned (.string r) ∧ bl r = (bl s).take m ∧ r.size ≤ m) ∧ w = w' := by
  unfold maxLen at hs
  by_cases h : m < s.size
  · go_enter Tryd.func20, Tryd.ntmps20
    go_wp2
    go_ret
    exact ⟨⟨_, rfl, bl_to s m, by rw [ByteArray.size_extract]; omega⟩, rfl⟩
  · go_enter Tryd.func20, Tryd.ntmps20
    go_wp2
    go_ret
    exact ⟨⟨_, rfl, by rw [List.take_of_length_le]; rw [bl_len]; omega, by omega⟩, rfl⟩

/-- Around: what it computes. -/
def aroundI (n m : Int) : Int := (if n < 0 then -(n + 1) else n) % m
theorem aroundI_rng (n m : Int) (hm : 0 < m) : 0 ≤ aroundI n m ∧ aroundI n m < m := by
  unfold aroundI; exact ⟨Int.emod_nonneg _ (by omega), Int.emod_lt_of_pos _ hm⟩
theorem around_any (n m : Int) (w : World) (hn1 : -9223372036854775808 ≤ n) (hn2 : n ≤ 9223372036854775807) (hm : 1 ≤ m) (hm2 : m ≤ 9223372036854775807) :
    Calls Tryd.prog 28 #[.int .i64 n, .int .i64 m] w fun e w' => e = .returned (.int .i64 (aroundI n m)) ∧ w = w' := by
  have hz : (m == 0) = false := by simpa using (by omega : ¬ m = 0)
  by_cases h : n < 0
  · have hr : aroundI n m = (-(n + 1)) % m := by unfold aroundI; rw [if_pos h]
    rw [hr]
    clear hr
    have h1 : 0 ≤ -(n + 1) := by omega
    go_enter Tryd.func28, Tryd.ntmps28
    go_wp2
    go_ret
    exact ⟨ret_int (by rw [← Int.neg_tmod, Int.tmod_eq_emod_of_nonneg h1]), rfl⟩
  · have hr : aroundI n m = n % m := by unfold aroundI; rw [if_neg h]
    rw [hr]
    clear hr
    go_enter Tryd.func28, Tryd.ntmps28
    go_wp2
    go_ret
    exact ⟨rfl, rfl⟩

def partsR : List Bs := [[120], [121, 49], [97, 95, 98], [83, 111, 109, 101], [78, 48, 110, 101], [48], [52, 50], [49, 48, 57, 57, 53, 49, 49, 54, 50, 55, 55, 55, 54], [49, 48, 57, 57, 53, 49, 49, 54, 50, 55, 55, 55, 55], [34, 116, 34], [34, 195, 169, 32, 98, 34], [34, 111, 112, 101, 110], [35, 110, 111, 116, 101], [35], [33], [36], [195, 169], [38, 38], [95], [34], [10], [32], [9, 32], [97, 50, 51, 52, 53, 54, 55, 56, 57, 48, 49, 50, 51, 52, 53, 54, 55], [66, 50, 51, 52, 53, 54, 55, 56, 57, 48, 49, 50, 51, 52, 53, 54]]

theorem keywords_rd (w : World) : Calls Tryd.prog 50 #[] w fun e w' => (∃ B, e = .returned (.slice (some ⟨B, 0, none⟩) 26 26) ∧ w'.rangeAt B 0 (svs kwsR) ∧ B < w'.heap.size) ∧ Below w.heap.size w w' :=
  (keywords_ref w).mono fun e w' ⟨he, hw⟩ => ⟨⟨_, he, fun j v hv => by rw [hw, cell_of_row _ w.heap.size (0 + j) _ _ _ (World.alloc_heap_new w _)]; simpa using hv, by rw [hw]; simp⟩, by rw [hw]; exact (Below.refl _ _).alloc (Nat.le_refl _) _⟩
theorem symbols_rd (w : World) : Calls Tryd.prog 57 #[] w fun e w' => (∃ B, e = .returned (.slice (some ⟨B, 0, none⟩) 24 24) ∧ w'.rangeAt B 0 (svs syms) ∧ B < w'.heap.size) ∧ Below w.heap.size w w' :=
  (symbols_ref w).mono fun e w' ⟨he, hw⟩ => ⟨⟨_, he, fun j v hv => by rw [hw, cell_of_row _ w.heap.size (0 + j) _ _ _ (World.alloc_heap_new w _)]; simpa using hv, by rw [hw]; simp⟩, by rw [hw]; exact (Below.refl _ _).alloc (Nat.le_refl _) _⟩

theorem rd_cell {w : World} {B : Nat} {ls : List Bs} (h : w.rangeAt B 0 (svs ls)) (i : Nat) (hi : i < ls.length) : w.cell? ⟨B, i, none⟩ = some (.string ⟨(ls.getD i []).toArray⟩) := by
  have := h i _ (svs_get ls i hi); rwa [Nat.zero_add] at this
theorem short_of {ls : List Bs} (h : ls.all (fun l => decide (l.length ≤ 17)) = true) (i : Nat) : (⟨(ls.getD i []).toArray⟩ : ByteArray).size ≤ 17 := by
  rw [← bl_len, bl_mk]
  rw [List.getD_eq_getElem?_getD]
  cases hi : ls[i]? with
  | none => simp
  | some l => simpa using List.all_eq_true.1 h l (List.mem_of_getElem? hi)

set_option maxHeartbeats 1000000 in
theorem part_any (n : Int) (w : World) (hn1 : -9223372036854775808 ≤ n) (hn2 : n ≤ 9223372036854775807) :
    Calls Tryd.prog 40 #[.int .i64 n] w fun e w' => (∃ r : ByteArray, e = .returned (.string r) ∧ r.size ≤ 17) ∧ Below w.heap.size w w' := by
  have hrng := aroundI_rng n 99 (by omega)
  obtain ⟨k, hk⟩ : ∃ k : Nat, aroundI n 99 = k := ⟨(aroundI n 99).toNat, by omega⟩
  have hA : ∀ w, Calls Tryd.prog 28 #[.int .i64 n, .int .i64 99] w fun e w' => e = .returned (.int .i64 k) ∧ w = w' := by
    intro w; have := around_any n 99 w hn1 hn2 (by omega) (by omega); rwa [hk] at this
  rw [hk] at hrng
  have HA := Lib.hid hA; clear hA hk
  obtain ⟨_, hk99⟩ := hrng
  go_enter Tryd.func40, Tryd.ntmps40
  go_wp2_with fail
  generalize hW : w.alloc _ = W
  have hR : W.rangeAt w.heap.size 0 (svs partsR) := fun j v hv => by
    rw [← hW, cell_of_row _ w.heap.size (0 + j) _ _ _ (World.alloc_heap_new w _), Nat.zero_add]
    exact (by simpa using hv : ((svs partsR).toArray)[j]? = some v)
  have hB : Below w.heap.size w W := by rw [← hW]; exact (Below.refl _ _).alloc (Nat.le_refl _) _
  have hlt : w.heap.size < W.heap.size := by rw [← hW]; simp
  clear hW
  refine (keywords_rd _).mono ?_
  rintro e w1 ⟨⟨B1, rfl, hr1, hl1⟩, hb1⟩
  have HK1 := Lib.hid hr1; clear hr1
  go_wp2_with fail
  refine (symbols_rd _).mono ?_
  rintro e w2 ⟨⟨B2, rfl, hr2, hl2⟩, hb2⟩
  have HR := Lib.hid (rangeAt_below (rangeAt_below hR hb1 hlt) hb2 (by have := hb1.size; omega))
  have HB2 := Lib.hid ((hB.trans (hb1.mono hB.size)).trans (hb2.mono (by have := hB.size; have := hb1.size; omega)))
  have hsz : w.heap.size < w2.heap.size := by have := hb1.size; have := hb2.size; omega
  clear hR hB hlt hb1 hb2 hr2
  go_wp2_with fail
  refine (HA.out _).mono ?_
  rintro e w' ⟨rfl, rfl⟩
  by_cases h1 : k < 25
  · have hc := rd_cell HR.out k h1
    have HS := Lib.hid (short_of (ls := partsR) (by decide) k)
    obtain ⟨x, hx⟩ : ∃ x : ByteArray, (⟨(partsR.getD k []).toArray⟩ : ByteArray) = x := ⟨_, rfl⟩
    rw [hx] at hc HS
    clear hx
    go_wp2_with fail
    go_ret
    exact ⟨⟨_, rfl, HS.out⟩, HB2.out⟩
  · by_cases h2 : k < 51
    · go_wp2_with fail
      refine (keywords_rd _).mono ?_
      rintro e w3 ⟨⟨B3, rfl, hr3, hl3⟩, hb3⟩
      have HB3 := Lib.hid (HB2.out.trans (hb3.mono HB2.out.size))
      clear hr3 hb3
      go_wp2_with fail
      refine (keywords_rd _).mono ?_
      rintro e w4 ⟨⟨B4, rfl, hr4, hl4⟩, hb4⟩
      have HB4 := Lib.hid (HB3.out.trans (hb4.mono HB3.out.size))
      have hc := rd_cell hr4 (k - 25) (by show k - 25 < 26; omega)
      have HS := Lib.hid (short_of (ls := kwsR) (by decide) (k - 25))
      obtain ⟨x, hx⟩ : ∃ x : ByteArray, (⟨(kwsR.getD (k - 25) []).toArray⟩ : ByteArray) = x := ⟨_, rfl⟩
      rw [hx] at hc HS
      clear hx hr4 hb4
      go_wp2_with fail
      go_ret
      exact ⟨⟨_, rfl, HS.out⟩, HB4.out⟩
    · go_wp2_with fail
      refine (keywords_rd _).mono ?_
      rintro e w3 ⟨⟨B3, rfl, hr3, hl3⟩, hb3⟩
      have HB3 := Lib.hid (HB2.out.trans (hb3.mono HB2.out.size))
      clear hr3 hb3
      go_wp2_with fail
      refine (symbols_rd _).mono ?_
      rintro e w4 ⟨⟨B4, rfl, hr4, hl4⟩, hb4⟩
      have HB4 := Lib.hid (HB3.out.trans (hb4.mono HB3.out.size))
      clear hb4
      go_wp2_with fail
      refine (keywords_rd _).mono ?_
      rintro e w5 ⟨⟨B5, rfl, hr5, hl5⟩, hb5⟩
      have HB5 := Lib.hid (HB4.out.trans (hb5.mono HB4.out.size))
      have h54 := hb5.size
      have hr45 := rangeAt_below hr4 hb5 hl4
      clear hr5 hb5 hr4
      go_wp2_with fail
      refine (symbols_rd _).mono ?_
      rintro e w6 ⟨⟨B6, rfl, hr6, hl6⟩, hb6⟩
      have HB6 := Lib.hid (HB5.out.trans (hb6.mono HB5.out.size))
      have hr46 := rangeAt_below hr45 hb6 (by omega)
      clear hr6 hb6 hr45
      have hc := rd_cell hr46 ((k - 25 - 26) % 24) (by show (k - 25 - 26) % 24 < 24; omega)
      have HS := Lib.hid (short_of (ls := syms) (by decide) ((k - 25 - 26) % 24))
      obtain ⟨x, hx⟩ : ∃ x : ByteArray, (⟨(syms.getD ((k - 25 - 26) % 24) []).toArray⟩ : ByteArray) = x := ⟨_, rfl⟩
      rw [hx] at hc HS
      clear hx hr46
      go_wp2_with fail
      go_ret
      exact ⟨⟨_, rfl, HS.out⟩, HB6.out⟩

/-- The value v reads as the integers zs, each an int. -/
def IsInts (w : World) (v : Value) (zs : List Int) : Prop :=
  ∃ p cap, v = .slice p zs.length cap ∧ (∀ z ∈ zs, -9223372036854775808 ≤ z ∧ z ≤ 9223372036854775807) ∧
    (0 < zs.length → ∃ b off, p = some ⟨b, off, none⟩ ∧ ∀ i z, zs[i]? = some z → w.cell? ⟨b, off + i, none⟩ = some (.int .i64 z))
theorem IsInts.below {w w' : World} {v : Value} {zs : List Int} (h : IsInts w v zs) (hb : Below w.heap.size w w') : IsInts w' v zs := by
  obtain ⟨p, cap, h1, h2, h3⟩ := h
  refine ⟨p, cap, h1, h2, fun hl => ?_⟩
  obtain ⟨b, off, e, hc⟩ := h3 hl
  exact ⟨b, off, e, fun i z hz => (hb.cell (p := ⟨b, off + i, none⟩) (World.block_lt_of_cell? w _ (hc i z hz))).trans (hc i z hz)⟩

set_option maxHeartbeats 1000000 in
theorem source_any (v : Value) (zs : List Int) (w : World) (hv : IsInts w v zs) (hl : zs.length ≤ maxLen) :
    Calls Tryd.prog 21 #[v] w fun e w' => (∃ r : ByteArray, e = .returned (.string r) ∧ r.size ≤ 340) ∧ Below w.heap.size w w' := by
  have HV := Lib.hid hv
  obtain ⟨p, cap, rfl, hr, hc⟩ := hv
  unfold maxLen at hl
  obtain ⟨n, hn⟩ : ∃ n, zs.length = n := ⟨_, rfl⟩
  rw [hn] at hl hc ⊢
  have HN := Lib.hid hn; have HR := Lib.hid hr; have HC := Lib.hid hc
  clear hn hr hc HV
  go_enter Tryd.func21, Tryd.ntmps21
  go_wp2
  go_loopw [3, 4] (fun o i wr => ∃ (k : Nat) (r : ByteArray), k ≤ n ∧ k ≤ 20 ∧ i = .int .i64 k ∧ o = .string r ∧ r.size ≤ 17 * k ∧ Below w.heap.size w wr) (fun _ i _ => 20 - (intOf i).toNat)
  case atStart => exact ⟨0, ⟨#[]⟩, Nat.zero_le _, by omega, rfl, rfl, by simp [ByteArray.size], Below.refl _ _⟩
  case round =>
    obtain ⟨k, r, hk, hk2, rfl, rfl, hsz, hB⟩ := hrel
    have HB := Lib.hid hB; clear hB
    by_cases hlt : k < n
    · by_cases hlt2 : k < 20
      · obtain ⟨z, hz⟩ : ∃ z, zs[k]? = some z := ⟨_, List.getElem?_eq_getElem (by have := HN.out; omega)⟩
        have hzr := HR.out z (List.mem_of_getElem? hz)
        obtain ⟨b, off, rfl, hcc⟩ := HC.out (by omega)
        have hc0 := hcc k z hz
        have hcell : wr.cell? ⟨b, off + k, none⟩ = some (.int .i64 z) := (HB.out.cell (p := ⟨b, off + k, none⟩) (World.block_lt_of_cell? w _ hc0)).trans hc0
        have HCC := Lib.hid hcc
        clear hcc hc0 hz
        obtain ⟨hz1, hz2⟩ := hzr
        go_wp2_with fail
        refine (part_any z _ hz1 hz2).mono ?_
        rintro e w2 ⟨⟨x, rfl, hx⟩, hw⟩
        have HB2 := Lib.hid (HB.out.trans (hw.mono HB.out.size))
        clear hw
        go_wp2_with fail
        go_roundw
        case rel => exact ⟨k + 1, _, by omega, by omega, by go_num, rfl, by simp; omega, HB2.out⟩
        case measure => simp [intOf]; omega
      · go_wp2_with fail
        go_ret
        exact ⟨⟨_, rfl, by omega⟩, HB.out⟩
    · go_wp2_with fail
      go_ret
      exact ⟨⟨_, rfl, by omega⟩, HB.out⟩
end Go.Proofs.YtolgoojlpmgblaaDoor

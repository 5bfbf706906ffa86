/- Unquote of the package and of the reference, and the generated text. -/
import Derived.Test.YtolgoojlpmgblaaDoorBH
import Derived.Test.YtolgoojlpmgblaaDoorBF
namespace Go.Proofs.YtolgoojlpmgblaaDoor
open Go.RowKit

theorem bl_inner (s : ByteArray) : bl (s.extract 1 (s.size - 1)) = inner (bl s) := by
  rw [bl_extract]; unfold inner; rw [bl_len, show s.size - 1 - 1 = s.size - 2 by omega]

set_option maxHeartbeats 1000000 in
theorem unquote_any (s : ByteArray) (w : World) (hs : s.size < 4294967281) (hT : Tabs w) :
    Calls Tryd.prog 26 #[.string s] w fun e w' => (∃ r : ByteArray, e = .returned (.tuple #[.string r, .int .i64 (unqB (bl s)).2]) ∧ bl r = (unqB (bl s)).1) ∧ Below w.heap.size w w' := by
  have hS : ∀ w, Tabs w → Calls Tryd.prog 38 #[.string s] w fun e w' => e = .returned (.tuple #[.int .i64 (nxt (bl s)).1, .bool (decide (0 < s.size) && decide ((nxt (bl s)).2 = s.size))]) ∧ Below w.heap.size w w' := fun w h => single_any s w (by omega) h
  have h5 := five_len (bl s)
  have hU : unqB (bl s) = if (decide (0 < s.size) && decide ((nxt (bl s)).2 = s.size)) = true ∧ (nxt (bl s)).1 = 5 then (if conE (inner (bl s)) = 0 then (inner (bl s), 0) else ([], conE (inner (bl s)))) else ([], 2) := by
    unfold unqB
    have : (bl s ≠ [] ∧ (nxt (bl s)).2 = (bl s).length ∧ (nxt (bl s)).1 = 5) ↔ ((decide (0 < s.size) && decide ((nxt (bl s)).2 = s.size)) = true ∧ (nxt (bl s)).1 = 5) := by
      rw [bl_len, Bool.and_eq_true, decide_eq_true_eq, decide_eq_true_eq, ← bl_len, List.length_pos_iff]
      constructor
      · rintro ⟨a, b, c⟩; exact ⟨⟨a, b⟩, c⟩
      · rintro ⟨⟨a, b⟩, c⟩; exact ⟨a, b, c⟩
    simp only [this]
  obtain ⟨B, hB⟩ : ∃ B, (decide (0 < s.size) && decide ((nxt (bl s)).2 = s.size)) = B := ⟨_, rfl⟩
  have hB2 : B = true → (nxt (bl s)).2 = s.size := by
    intro e; rw [e, Bool.and_eq_true, decide_eq_true_eq, decide_eq_true_eq] at hB; exact hB.2
  obtain ⟨k, hk⟩ : ∃ k, (nxt (bl s)).1 = k := ⟨_, rfl⟩
  rw [hB, hk] at hS hU
  rw [hk] at h5
  have hsz : B = true → k = 5 → 2 ≤ s.size := fun e1 e2 => by rw [← hB2 e1]; exact h5 e2
  have HS := Lib.hid hS; have HT := Lib.hid hT; have HU := Lib.hid hU; have HSz := Lib.hid hsz
  clear hS hT hU hB hB2 hk h5 hsz
  by_cases hk5 : k = 5
  · cases B
    · have hU := HU.out
      rw [if_neg (by simp)] at hU
      have HU2 := Lib.hid hU
      clear hU hk5
      go_enter Tryd.func26, Tryd.ntmps26
      go_wp2_with (go_at_call 38; refine (HS.out _ HT.out).mono ?_; rintro e w' ⟨rfl, hw⟩)
      go_ret2
      exact ⟨⟨{ data := #[] }, by first | (rw [HU2.out]; rfl) | rw [HU2.out], by first | (rw [HU2.out]; rfl) | rw [HU2.out]⟩, hw⟩
    · have h2 := HSz.out rfl hk5
      have q5 : ((k : Int) != 5) = false := by rw [hk5]; rfl
      have hU := HU.out
      rw [if_pos ⟨rfl, hk5⟩] at hU
      have hC : ∀ w, Tabs w → Calls Tryd.prog 41 #[.string (s.extract 1 (s.size - 1))] w fun e w' => e = .returned (.int .i64 (conE (inner (bl s)))) ∧ Below w.heap.size w w' := fun w h => by
        have := contents_any (s.extract 1 (s.size - 1)) w (by rw [ByteArray.size_extract]; omega) h
        rwa [bl_inner] at this
      obtain ⟨c, hc⟩ : ∃ c, conE (inner (bl s)) = c := ⟨_, rfl⟩
      rw [hc] at hU hC
      have HC := Lib.hid hC; have HU2 := Lib.hid hU; have HIn := Lib.hid (bl_inner s)
      have hi1 : (1 : Int) ≤ (s.size : Int) - 1 := by omega
      have hi2 : ((s.size : Int) - 1).toNat = s.size - 1 := by omega
      clear hU hC hc hk5
      by_cases h0 : c = 0
      · subst h0
        go_enter Tryd.func26, Tryd.ntmps26
        go_wp2_with (first | (go_at_call 38; refine (HS.out _ HT.out).mono ?_; rintro e w' ⟨rfl, hw⟩) | (go_at_call 41; refine (HC.out _ (HT.out.of_below hw)).mono ?_; rintro e w2 ⟨rfl, hw2⟩))
        go_ret2
        exact ⟨⟨_, by rw [HU2.out]; rfl, by rw [HU2.out]; exact HIn.out⟩, hw.trans (hw2.mono hw.size)⟩
      · have qc : ((c : Int) != 0) = true := by rw [bne_iff_ne]; omega
        have hU := HU2.out
        rw [if_neg h0] at hU
        have HU3 := Lib.hid hU
        clear hU h0
        go_enter Tryd.func26, Tryd.ntmps26
        go_wp2_with (first | (go_at_call 38; refine (HS.out _ HT.out).mono ?_; rintro e w' ⟨rfl, hw⟩) | (go_at_call 41; refine (HC.out _ (HT.out.of_below hw)).mono ?_; rintro e w2 ⟨rfl, hw2⟩))
        go_ret2
        exact ⟨⟨{ data := #[] }, by first | (rw [HU3.out]; rfl) | rw [HU3.out], by first | (rw [HU3.out]; rfl) | rw [HU3.out]⟩, hw.trans (hw2.mono hw.size)⟩
  · have q5 : ((k : Int) != 5) = true := by rw [bne_iff_ne]; omega
    have hU := HU.out
    rw [if_neg (fun h => hk5 h.2)] at hU
    have HU2 := Lib.hid hU
    clear hU hk5
    cases B
    all_goals
      go_enter Tryd.func26, Tryd.ntmps26
      go_wp2_with (go_at_call 38; refine (HS.out _ HT.out).mono ?_; rintro e w' ⟨rfl, hw⟩)
      go_ret2
      exact ⟨⟨{ data := #[] }, by first | (rw [HU2.out]; rfl) | rw [HU2.out], by first | (rw [HU2.out]; rfl) | rw [HU2.out]⟩, hw⟩

set_option maxHeartbeats 1000000 in
theorem refUnquote_any (s : ByteArray) (w : World) (hs : s.size < 4294967281) :
    Calls Tryd.prog 27 #[.string s] w fun e w' => (∃ r : ByteArray, e = .returned (.tuple #[.string r, .int .i64 (unqB (bl s)).2]) ∧ bl r = (unqB (bl s)).1) ∧ Below w.heap.size w w' := by
  have hS := fun w => refTokens_is s hs w
  have h5 := five_len (bl s)
  obtain ⟨ts, hts⟩ : ∃ ts, toks (bl s) 0 = ts := ⟨_, rfl⟩
  rw [hts] at hS
  have HS := Lib.hid hS
  clear hS
  by_cases hn : ts.length = 1
  · have h1 := (toks_len_one (bl s) 0).1 (by rw [hts]; exact hn)
    have ht := toks_one (bl s) 0 h1.1 h1.2
    obtain ⟨k, hk⟩ : ∃ k, (nxt (bl s)).1 = k := ⟨_, rfl⟩
    rw [hts, hk] at ht
    subst ht
    have hU : unqB (bl s) = if k = 5 then (if conE (inner (bl s)) = 0 then (inner (bl s), 0) else ([], conE (inner (bl s)))) else ([], 2) := by
      unfold unqB
      rw [hk]
      by_cases h : k = 5
      · rw [if_pos ⟨h1.1, h1.2, h⟩, if_pos h]
      · rw [if_neg (fun x => h x.2.2), if_neg h]
    have hsz : k = 5 → 2 ≤ s.size := fun e => by rw [← bl_len, ← h1.2]; exact h5 (by rw [hk]; exact e)
    have HU := Lib.hid hU
    clear hU h1 hk hn hts h5
    by_cases hk5 : k = 5
    · have h2 := hsz hk5
      have q5 : ((k : Int) != 5) = false := by rw [hk5]; rfl
      have hU := HU.out
      rw [if_pos hk5] at hU
      have hC : ∀ w, Calls Tryd.prog 42 #[.string (s.extract 1 (s.size - 1))] w fun e w' => e = .returned (.int .i64 (conE (inner (bl s)))) ∧ w = w' := fun w => by
        have := refContents_any (s.extract 1 (s.size - 1)) w (by rw [ByteArray.size_extract]; omega)
        rwa [bl_inner] at this
      obtain ⟨c, hc⟩ : ∃ c, conE (inner (bl s)) = c := ⟨_, rfl⟩
      rw [hc] at hU hC
      have HC := Lib.hid hC; have HU2 := Lib.hid hU; have HIn := Lib.hid (bl_inner s)
      have hi1 : (1 : Int) ≤ (s.size : Int) - 1 := by omega
      have hi2 : ((s.size : Int) - 1).toNat = s.size - 1 := by omega
      clear hU hC hc hk5 hsz
      by_cases h0 : c = 0
      · subst h0
        go_enter Tryd.func27, Tryd.ntmps27
        go_wp2_with (first | (go_at_call 14; refine (HS.out _).mono ?_; rintro e w' ⟨⟨v, rfl, hv⟩, hw⟩; obtain ⟨g, cap, rfl, c0, c1, c2⟩ := hv.at 0 _ rfl; simp only [Nat.zero_mul, Nat.zero_add] at c0 c1 c2; clear hv c1 c2) | (go_at_call 42; refine (HC.out _).mono ?_; rintro e w2 ⟨rfl, rfl⟩))
        go_ret2
        exact ⟨⟨_, by rw [HU2.out]; rfl, by rw [HU2.out]; exact HIn.out⟩, hw⟩
      · have qc : ((c : Int) != 0) = true := by rw [bne_iff_ne]; omega
        have hU := HU2.out
        rw [if_neg h0] at hU
        have HU3 := Lib.hid hU
        clear hU h0
        go_enter Tryd.func27, Tryd.ntmps27
        go_wp2_with (first | (go_at_call 14; refine (HS.out _).mono ?_; rintro e w' ⟨⟨v, rfl, hv⟩, hw⟩; obtain ⟨g, cap, rfl, c0, c1, c2⟩ := hv.at 0 _ rfl; simp only [Nat.zero_mul, Nat.zero_add] at c0 c1 c2; clear hv c1 c2) | (go_at_call 42; refine (HC.out _).mono ?_; rintro e w2 ⟨rfl, rfl⟩))
        go_ret2
        exact ⟨⟨{ data := #[] }, by first | (rw [HU3.out]; rfl) | rw [HU3.out], by first | (rw [HU3.out]; rfl) | rw [HU3.out]⟩, hw⟩
    · have q5 : ((k : Int) != 5) = true := by rw [bne_iff_ne]; omega
      have hU := HU.out
      rw [if_neg hk5] at hU
      have HU2 := Lib.hid hU
      clear hU hk5 hsz
      go_enter Tryd.func27, Tryd.ntmps27
      go_wp2_with (go_at_call 14; refine (HS.out _).mono ?_; rintro e w' ⟨⟨v, rfl, hv⟩, hw⟩; obtain ⟨g, cap, rfl, c0, c1, c2⟩ := hv.at 0 _ rfl; simp only [Nat.zero_mul, Nat.zero_add] at c0 c1 c2; clear hv c1 c2)
      go_ret2
      exact ⟨⟨{ data := #[] }, by first | (rw [HU2.out]; rfl) | rw [HU2.out], by first | (rw [HU2.out]; rfl) | rw [HU2.out]⟩, hw⟩
  · have hU : unqB (bl s) = ([], 2) := by
      unfold unqB
      rw [if_neg]
      intro h
      apply hn
      rw [← hts]
      exact (toks_len_one (bl s) 0).2 ⟨h.1, h.2.1⟩
    have HU2 := Lib.hid hU
    obtain ⟨n, hn2⟩ : ∃ n, ts.length = n := ⟨_, rfl⟩
    have qn : ((n : Int) != 1) = true := by rw [bne_iff_ne]; omega
    have HN := Lib.hid hn2
    clear hU hn hts hn2 h5
    go_enter Tryd.func27, Tryd.ntmps27
    go_wp2_with (go_at_call 14; refine (HS.out _).mono ?_; rintro e w' ⟨⟨v, rfl, hv⟩, hw⟩; obtain ⟨p, cap, rfl⟩ := hv.len; rw [HN.out]; clear hv)
    go_ret2
    exact ⟨⟨{ data := #[] }, by first | (rw [HU2.out]; rfl) | rw [HU2.out], by first | (rw [HU2.out]; rfl) | rw [HU2.out]⟩, hw⟩

def partsT : List Bs := [[97], [98], [32], [10], [10], [195, 169], [195, 159], [226, 130, 172], [232, 170, 158], [240, 159, 152, 128], [240, 157, 132, 158], [120, 49], [13, 10], [40], [34]]

set_option maxRecDepth 100000 in
set_option maxHeartbeats 1000000 in
theorem text_any (v : Value) (zs : List Int) (w : World) (hv : IsInts w v zs) (hl : zs.length ≤ maxLen) :
    Calls Tryd.prog 23 #[v] w fun e w' => (∃ r : ByteArray, e = .returned (.string r) ∧ r.size ≤ 408) ∧ Below w.heap.size w w' := by
  obtain ⟨p, cap, rfl, hr, hc⟩ := hv
  unfold maxLen at hl
  obtain ⟨n, hn⟩ : ∃ n, zs.length = n := ⟨_, rfl⟩
  rw [hn] at hl hc ⊢
  have HN := Lib.hid hn; have HR := Lib.hid hr; have HC := Lib.hid hc
  clear hn hr hc
  go_enter Tryd.func23, Tryd.ntmps23
  go_wp2_with fail
  generalize hW : w.alloc _ = W
  have hR : W.rangeAt w.heap.size 0 (svs partsT) := fun j v hv => by
    rw [← hW, cell_of_row _ w.heap.size (0 + j) _ _ _ (World.alloc_heap_new w _), Nat.zero_add]
    exact (by simpa using hv : ((svs partsT).toArray)[j]? = some v)
  have hB : Below w.heap.size w W := by rw [← hW]; exact (Below.refl _ _).alloc (Nat.le_refl _) _
  have HR2 := Lib.hid hR; have HB := Lib.hid hB
  clear hW hR hB
  go_loopw [4, 5] (fun o i wr => ∃ (k : Nat) (r : ByteArray), k ≤ n ∧ k ≤ 24 ∧ i = .int .i64 k ∧ o = .string r ∧ r.size ≤ 17 * k ∧ wr = W) (fun _ i _ => 24 - (intOf i).toNat)
  case atStart => exact ⟨0, ⟨#[]⟩, Nat.zero_le _, by omega, rfl, rfl, by simp [ByteArray.size], rfl⟩
  case round =>
    obtain ⟨k, r, hk, hk2, rfl, rfl, hsz, rfl⟩ := hrel
    by_cases hlt : k < n
    · by_cases hlt2 : k < 24
      · obtain ⟨z, hz⟩ : ∃ z, zs[k]? = some z := ⟨_, List.getElem?_eq_getElem (by have := HN.out; omega)⟩
        have hzr := HR.out z (List.mem_of_getElem? hz)
        obtain ⟨b, off, rfl, hcc⟩ := HC.out (by omega)
        have hc0 := hcc k z hz
        have hcell : wr.cell? ⟨b, off + k, none⟩ = some (.int .i64 z) := (HB.out.cell (p := ⟨b, off + k, none⟩) (World.block_lt_of_cell? w _ hc0)).trans hc0
        have hrng := aroundI_rng z 15 (by omega)
        obtain ⟨m, hm⟩ : ∃ m : Nat, aroundI z 15 = m := ⟨(aroundI z 15).toNat, by omega⟩
        have hA : ∀ w, Calls Tryd.prog 28 #[.int .i64 z, .int .i64 15] w fun e w' => e = .returned (.int .i64 m) ∧ w = w' := by
          intro w; have := around_any z 15 w hzr.1 hzr.2 (by omega) (by omega); rwa [hm] at this
        rw [hm] at hrng
        have HA := Lib.hid hA
        have hm15 : m < 15 := by omega
        have hcm := rd_cell HR2.out m hm15
        have HS := Lib.hid (short_of (ls := partsT) (by decide) m)
        obtain ⟨x, hx⟩ : ∃ x : ByteArray, (⟨(partsT.getD m []).toArray⟩ : ByteArray) = x := ⟨_, rfl⟩
        rw [hx] at hcm HS
        have HCC := Lib.hid hcc
        have hxs := HS.out
        have hadd : r.size + x.size ≤ 1000 := by omega
        clear hx hcc hc0 hz hzr hA hm hrng
        have hi1 : (0 : Int) ≤ (m : Int) := by omega
        have hi2 : (m : Int) < 15 := by omega
        go_wp2_with (go_at_call 28; refine (HA.out _).mono ?_; rintro e w' ⟨rfl, rfl⟩)
        exact ⟨⟨k + 1, _, by omega, by omega, by go_num, rfl, by rw [ByteArray.size_append]; omega, trivial⟩, by simp [intOf]; omega⟩
      · go_wp2_with fail
        go_ret
        exact ⟨⟨_, rfl, by omega⟩, HB.out⟩
    · go_wp2_with fail
      go_ret
      exact ⟨⟨_, rfl, by omega⟩, HB.out⟩
end Go.Proofs.YtolgoojlpmgblaaDoor

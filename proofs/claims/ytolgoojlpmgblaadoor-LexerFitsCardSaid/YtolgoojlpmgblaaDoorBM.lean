/- Fits and Keyword of the reference, as the plain model has them. -/
import Derived.Test.YtolgoojlpmgblaaDoorBL
namespace Go.Proofs.YtolgoojlpmgblaaDoor
open Go.RowKit

set_option maxRecDepth 100000 in
set_option maxHeartbeats 1000000 in
theorem refFits_any (kd at' : Int) (s : ByteArray) (w : World) (hs : s.size < 4294967281) :
    Calls Tryd.prog 35 #[.agg #[.int .i64 kd, .string s, .int .i64 at']] w fun e w' => e = .returned (.bool (fitsB kd (bl s))) ∧ Below w.heap.size w w' := by
  have hS := fun w => refTokens_is s hs w
  obtain ⟨ts, hts⟩ : ∃ ts, toks (bl s) 0 = ts := ⟨_, rfl⟩
  rw [hts] at hS
  have HS := Lib.hid hS
  clear hS
  go_enter Tryd.func35, Tryd.ntmps35
  go_wp2_with fail
  have hB1 : Below w.heap.size w (w.alloc (.cells #[.int .i64 kd, .string s, .int .i64 at'] 31)) := (Below.refl _ _).alloc (Nat.le_refl _) _
  have c0 : (w.alloc (.cells #[.int .i64 kd, .string s, .int .i64 at'] 31)).cell? ⟨w.heap.size, 0, none⟩ = some (.int .i64 kd) := by rw [cell_of_row _ w.heap.size 0 _ _ _ (World.alloc_heap_new w _)]; rfl
  have c1 : (w.alloc (.cells #[.int .i64 kd, .string s, .int .i64 at'] 31)).cell? ⟨w.heap.size, 1, none⟩ = some (.string s) := by rw [cell_of_row _ w.heap.size 1 _ _ _ (World.alloc_heap_new w _)]; rfl
  have HB1 := Lib.hid hB1; clear hB1
  generalize hG : w.heap.size = G at c0 c1 ⊢
  generalize w.alloc (.cells #[.int .i64 kd, .string s, .int .i64 at'] 31) = W1 at *
  refine (HS.out _).mono ?_
  rintro e w2 ⟨⟨v, rfl, hv⟩, hb2⟩
  have d0 := (hb2.cell (p := ⟨G, 0, none⟩) (World.block_lt_of_cell? W1 _ c0)).trans c0
  have d1 := (hb2.cell (p := ⟨G, 1, none⟩) (World.block_lt_of_cell? W1 _ c1)).trans c1
  have HB2 := Lib.hid (HB1.out.trans (hb2.mono HB1.out.size))
  clear hb2 c0 c1 hG
  by_cases hn : ts.length = 1
  · have h1 := (toks_len_one (bl s) 0).1 (by rw [hts]; exact hn)
    have ht := toks_one (bl s) 0 h1.1 h1.2
    obtain ⟨k, hk⟩ : ∃ k, (nxt (bl s)).1 = k := ⟨_, rfl⟩
    rw [hts, hk] at ht
    subst ht
    have hF : fitsB kd (bl s) = (decide ((k : Int) = kd) &&
      (if k = 2 ∨ k = 3 then decide (s.size ≤ 16)
       else if k = 4 then decide (numL 0 (bl s) ≤ 1099511627776)
       else if k = 5 then decide (conE (inner (bl s)) = 0)
       else decide (k ≠ 8))) := by
      unfold fitsB
      rw [hk, ← bl_len, decide_eq_true h1.1, decide_eq_true h1.2, Bool.true_and, Bool.true_and]
    have HF := Lib.hid hF; have HK := Lib.hid hk; have HNe := Lib.hid h1.1; have HLen := Lib.hid h1.2
    clear hF hk h1 hts hn
    obtain ⟨g, cap, rfl, c0, c1, c2⟩ := hv.at 0 _ rfl
    simp only [Nat.zero_mul, Nat.zero_add] at c0 c1 c2
    clear hv c1 c2
    by_cases hkd : (k : Int) = kd
    · subst hkd
      have hF := HF.out
      rw [decide_eq_true rfl, Bool.true_and] at hF
      have hq : ((k : Int) != (k : Int)) = false := by simp
      have HF1 := Lib.hid hF; clear hF
      by_cases h8 : k = 8
      · subst h8
        have hF := HF1.out
        simp only [Nat.reduceEqDiff, or_self, if_false, ne_eq, not_true_eq_false, decide_false] at hF
        have HF2 := Lib.hid hF; clear hF
        go_wp2_with fail
        go_quiet (fail)
        go_wp2_with fail
        go_ret
        exact ⟨by rw [HF2.out]; rfl, HB2.out.trans ((below_drewN _ _).mono HB2.out.size)⟩
      have q8 : ((k : Int) == 8) = false := by rw [← Bool.not_eq_true, beq_iff_eq]; omega
      by_cases h23 : k = 2 ∨ k = 3
      · have hF := HF1.out
        rw [if_pos h23] at hF
        have HF2 := Lib.hid hF; clear hF
        have h16 : (decide ((s.size : Int) ≤ 16)) = decide (s.size ≤ 16) := by rw [decide_eq_decide]; omega
        rcases h23 with rfl | rfl
        · go_wp2_with fail
          go_quiet (fail)
          go_wp2_with fail
          go_ret
          exact ⟨by rw [HF2.out]; rfl, HB2.out.trans ((below_drewN _ _).mono HB2.out.size)⟩
        · go_wp2_with fail
          go_quiet (fail)
          go_wp2_with fail
          go_ret
          exact ⟨by rw [HF2.out]; rfl, HB2.out.trans ((below_drewN _ _).mono HB2.out.size)⟩
      by_cases h4 : k = 4
      · subst h4
        have hF := HF1.out
        rw [if_neg h23, if_pos rfl] at hF
        have HF2 := Lib.hid hF
        have HD := Lib.hid (four_digits (bl s) HK.out HLen.out)
        clear hF h23 h8
        go_wp2_with fail
        go_quiet (fail)
        go_wp2_with fail
        refine (small_any s _ hs HD.out).mono ?_
        rintro e w3 ⟨rfl, rfl⟩
        go_wp2_with fail
        go_ret
        exact ⟨by rw [HF2.out]; rfl, HB2.out.trans ((below_drewN _ _).mono HB2.out.size)⟩
      by_cases h5 : k = 5
      · subst h5
        have hF := HF1.out
        rw [if_neg h23, if_neg h4, if_pos rfl] at hF
        have HF2 := Lib.hid hF
        have h2 : 2 ≤ s.size := by rw [← bl_len, ← HLen.out]; exact five_len (bl s) HK.out
        have hC : ∀ w, Calls Tryd.prog 42 #[.string (s.extract 1 (s.size - 1))] w fun e w' => e = .returned (.int .i64 (conE (inner (bl s)))) ∧ w = w' := fun w => by
          have := refContents_any (s.extract 1 (s.size - 1)) w (by rw [ByteArray.size_extract]; omega)
          rwa [bl_inner] at this
        obtain ⟨c, hc⟩ : ∃ c, conE (inner (bl s)) = c := ⟨_, rfl⟩
        rw [hc] at hC HF2
        have HC := Lib.hid hC
        have hi1 : (1 : Int) ≤ (s.size : Int) - 1 := by omega
        have hi2 : ((s.size : Int) - 1).toNat = s.size - 1 := by omega
        have hdec : ((c : Int) == 0) = decide (c = 0) := by rw [Bool.eq_iff_iff, beq_iff_eq, decide_eq_true_eq]; omega
        clear hF h23 h4 h8 hC hc
        go_wp2_with fail
        go_quiet (fail)
        go_wp2_with fail
        refine (HC.out _).mono ?_
        rintro e w3 ⟨rfl, rfl⟩
        go_wp2_with fail
        go_ret
        exact ⟨by rw [HF2.out]; rfl, HB2.out.trans ((below_drewN _ _).mono HB2.out.size)⟩
      have hF := HF1.out
      rw [if_neg h23, if_neg h4, if_neg h5, decide_eq_true h8] at hF
      have HF2 := Lib.hid hF
      have q2 : ((k : Int) == 2) = false := by rw [← Bool.not_eq_true, beq_iff_eq]; omega
      have q3 : ((k : Int) == 3) = false := by rw [← Bool.not_eq_true, beq_iff_eq]; omega
      have q4 : ((k : Int) == 4) = false := by rw [← Bool.not_eq_true, beq_iff_eq]; omega
      have q5 : ((k : Int) == 5) = false := by rw [← Bool.not_eq_true, beq_iff_eq]; omega
      clear hF h23 h4 h5 h8
      go_wp2_with fail
      go_quiet (fail)
      go_wp2_with fail
      go_ret
      exact ⟨by rw [HF2.out]; rfl, HB2.out.trans ((below_drewN _ _).mono HB2.out.size)⟩
    · have hq : ((k : Int) != kd) = true := by rw [bne_iff_ne]; exact hkd
      have hF := HF.out
      rw [decide_eq_false hkd, Bool.false_and] at hF
      have HF2 := Lib.hid hF; clear hF hkd
      go_wp2_with fail
      go_quiet (fail)
      go_wp2_with fail
      go_ret
      exact ⟨by rw [HF2.out]; rfl, HB2.out.trans ((below_drewN _ _).mono HB2.out.size)⟩
  · have hF : fitsB kd (bl s) = false := by
      rw [← Bool.not_eq_true]
      intro h
      unfold fitsB at h
      simp only [Bool.and_eq_true, decide_eq_true_eq] at h
      apply hn
      rw [← hts]
      exact (toks_len_one (bl s) 0).2 ⟨h.1.1.1, h.1.1.2⟩
    have HF2 := Lib.hid hF; clear hF
    obtain ⟨p, cap, rfl⟩ := hv.len
    obtain ⟨n, hn2⟩ : ∃ n, ts.length = n := ⟨_, rfl⟩
    rw [hn2] at hn ⊢
    have qn : ((n : Int) != 1) = true := by rw [bne_iff_ne]; omega
    clear hv hn hn2 hts
    go_wp2_with fail
    go_quiet (fail)
    go_wp2_with fail
    go_ret
    exact ⟨by rw [HF2.out]; rfl, HB2.out.trans ((below_drewN _ _).mono HB2.out.size)⟩
end Go.Proofs.YtolgoojlpmgblaaDoor

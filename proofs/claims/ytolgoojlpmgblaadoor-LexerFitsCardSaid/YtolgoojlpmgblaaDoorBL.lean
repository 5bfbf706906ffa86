/- Fits of the package, as the plain model has it. -/
import Derived.Test.YtolgoojlpmgblaaDoorBK
import Derived.Test.YtolgoojlpmgblaaDoorBI
import Derived.Test.YtolgoojlpmgblaaDoorShelfA
import Derived.Lib.AtoiErrMem
namespace Go.Proofs.YtolgoojlpmgblaaDoor
open Go.RowKit

/-- strconv.Atoi at digits: the number and no error, or an error. -/
theorem atoi_at (s : ByteArray) (hs : s.size < 4294967281) (hne : bl s ≠ []) (hd : ∀ c ∈ bl s, isDi c = true) (tr : TypeId) (pr : Value) (w : World)
    (h2 : w.var? Tryd.prog "strconv.ErrRange" = some #[.iface tr pr]) :
    Calls Tryd.prog 51 #[.string s] w fun e w' => (∃ n : Int, ∃ ev : Value, e = .returned (.tuple #[.int .i64 n, ev]) ∧
      ((ev = .nilIface ∧ n = (numL 0 (bl s) : Nat)) ∨ ((∃ t p, ev = .iface t p) ∧ 1099511627776 < numL 0 (bl s)))) ∧ Below w.heap.size w w' := by
  rcases atoi_digits (bl s) hne hd with ⟨e, hb⟩ | ⟨e, hb⟩
  · refine (Tryd.strconv_Atoi_ok s (by omega) _ e w).mono ?_
    rintro e' w' ⟨rfl, hw⟩
    refine ⟨⟨_, _, rfl, .inl ⟨rfl, rfl⟩⟩, ?_⟩
    rcases hw with rfl | ⟨t, rfl⟩
    · exact Below.refl _ _
    · exact Lib.bytesWorld_below _ _ _
  · refine (Tryd.strconv_Atoi_range_var s (by omega) e tr pr w h2).mono ?_
    rintro e' w' ⟨N, rfl, _, _, hb'⟩
    exact ⟨⟨_, _, rfl, .inr ⟨⟨_, _, rfl⟩, by omega⟩⟩, hb'⟩
/-- The variable strconv.ErrRange holds an error. -/
def RangeAt (w : World) : Prop := ∃ t p, w.var? Tryd.prog "strconv.ErrRange" = some #[.iface t p]
theorem gRange : Tryd.prog.globalNamed "strconv.ErrRange" = some 4 := by kernel_rfl
theorem RangeAt.below {w w' : World} (h : RangeAt w) (hb : Below w.heap.size w w') (hT : 5 < w.heap.size) : RangeAt w' := by
  obtain ⟨t, p, h⟩ := h
  refine ⟨t, p, ?_⟩
  simp only [World.var?, gRange, Option.bind_some] at h ⊢
  rw [hb.block 4 (by omega)]
  exact h

set_option maxHeartbeats 1000000 in
theorem fits_any (kd at' : Int) (s : ByteArray) (w : World) (hs : s.size < 4294967281) (hT : Tabs w) (hE : RangeAt w) :
    Calls Tryd.prog 34 #[.agg #[.int .i64 kd, .string s, .int .i64 at']] w fun e w' => e = .returned (.bool (fitsB kd (bl s))) ∧ Below w.heap.size w w' := by
  have hS : ∀ w, Tabs w → Calls Tryd.prog 38 #[.string s] w fun e w' => e = .returned (.tuple #[.int .i64 (nxt (bl s)).1, .bool (decide (0 < s.size) && decide ((nxt (bl s)).2 = s.size))]) ∧ Below w.heap.size w w' := fun w h => single_any s w (by omega) h
  have hF : fitsB kd (bl s) = ((decide (0 < s.size) && decide ((nxt (bl s)).2 = s.size)) && decide (((nxt (bl s)).1 : Int) = kd) &&
      (if (nxt (bl s)).1 = 2 ∨ (nxt (bl s)).1 = 3 then decide (s.size ≤ 16)
       else if (nxt (bl s)).1 = 4 then decide (numL 0 (bl s) ≤ 1099511627776)
       else if (nxt (bl s)).1 = 5 then decide (conE (inner (bl s)) = 0)
       else decide ((nxt (bl s)).1 ≠ 8))) := by
    unfold fitsB
    rw [bl_len]
    have : decide (bl s ≠ []) = decide (0 < s.size) := by rw [decide_eq_decide, ← bl_len, List.length_pos_iff]
    rw [this]
  have HT := Lib.hid hT; have HE := Lib.hid hE; have HF := Lib.hid hF; have HS := Lib.hid hS
  clear hT hE hF hS
  go_enter Tryd.func34, Tryd.ntmps34
  go_wp2_with fail
  have hB1 : Below w.heap.size w (w.alloc (.cells #[.int .i64 kd, .string s, .int .i64 at'] 31)) := (Below.refl _ _).alloc (Nat.le_refl _) _
  have c0 : (w.alloc (.cells #[.int .i64 kd, .string s, .int .i64 at'] 31)).cell? ⟨w.heap.size, 0, none⟩ = some (.int .i64 kd) := by rw [cell_of_row _ w.heap.size 0 _ _ _ (World.alloc_heap_new w _)]; rfl
  have c1 : (w.alloc (.cells #[.int .i64 kd, .string s, .int .i64 at'] 31)).cell? ⟨w.heap.size, 1, none⟩ = some (.string s) := by rw [cell_of_row _ w.heap.size 1 _ _ _ (World.alloc_heap_new w _)]; rfl
  have HB1 := Lib.hid hB1; clear hB1
  generalize hG : w.heap.size = G at c0 c1 ⊢
  generalize w.alloc (.cells #[.int .i64 kd, .string s, .int .i64 at'] 31) = W1 at *
  obtain ⟨b, hb⟩ : ∃ b, (decide (0 < s.size) && decide ((nxt (bl s)).2 = s.size)) = b := ⟨_, rfl⟩
  obtain ⟨k, hk⟩ : ∃ k, (nxt (bl s)).1 = k := ⟨_, rfl⟩
  rw [hb, hk] at HF HS
  have hfull : b = true → bl s ≠ [] ∧ (nxt (bl s)).2 = (bl s).length := by
    intro e; rw [e, Bool.and_eq_true, decide_eq_true_eq, decide_eq_true_eq] at hb
    exact ⟨List.length_pos_iff.1 (by rw [bl_len]; exact hb.1), by rw [bl_len]; exact hb.2⟩
  have HFull := Lib.hid hfull; have HK := Lib.hid hk
  clear hb hk hfull
  refine (HS.out _ (HT.out.of_below HB1.out)).mono ?_
  rintro e w2 ⟨rfl, hb2⟩
  have d0 := (hb2.cell (p := ⟨G, 0, none⟩) (World.block_lt_of_cell? W1 _ c0)).trans c0
  have d1 := (hb2.cell (p := ⟨G, 1, none⟩) (World.block_lt_of_cell? W1 _ c1)).trans c1
  have HB2 := Lib.hid (HB1.out.trans (hb2.mono HB1.out.size))
  clear hb2 c0 c1 hG
  cases b
  · have hF := HF.out
    rw [Bool.false_and, Bool.false_and] at hF
    have HF2 := Lib.hid hF; clear hF
    go_wp2_with fail
    go_ret
    exact ⟨by rw [HF2.out]; rfl, HB2.out⟩
  obtain ⟨hne, hlen⟩ := HFull.out rfl
  by_cases hkd : (k : Int) = kd
  · subst hkd
    have hF := HF.out
    rw [Bool.true_and, decide_eq_true rfl, Bool.true_and] at hF
    have HF2 := Lib.hid hF; clear hF
    have HNe := Lib.hid hne; have HLen := Lib.hid hlen
    clear hne hlen
    by_cases h23 : k = 2 ∨ k = 3
    · have hF := HF2.out
      rw [if_pos h23] at hF
      have HF3 := Lib.hid hF; clear hF
      have h16 : (decide ((s.size : Int) ≤ 16)) = decide (s.size ≤ 16) := by rw [decide_eq_decide]; omega
      rcases h23 with rfl | rfl
      · go_wp2_with fail
        go_ret
        exact ⟨by rw [HF3.out]; rfl, HB2.out⟩
      · go_wp2_with fail
        go_ret
        exact ⟨by rw [HF3.out]; rfl, HB2.out⟩
    · have hF := HF2.out
      rw [if_neg h23] at hF
      by_cases h4 : k = 4
      · subst h4
        rw [if_pos rfl] at hF
        have HF3 := Lib.hid hF
        have HD := Lib.hid (four_digits (bl s) HK.out HLen.out)
        clear hF h23
        go_wp2_with fail
        obtain ⟨tr, pr, hvr⟩ := (HE.out.below (HB2.out) HT.out.size)
        have HVr := Lib.hid hvr; clear hvr
        refine (atoi_at s hs HNe.out HD.out tr pr _ HVr.out).mono ?_
        rintro e w3 ⟨⟨n, ev, rfl, hcase⟩, hb3⟩
        have HB3 := Lib.hid (HB2.out.trans (hb3.mono HB2.out.size))
        clear hb3
        rcases hcase with ⟨rfl, rfl⟩ | ⟨⟨t, p, rfl⟩, hbig⟩
        · have hdec : decide (((numL 0 (bl s) : Nat) : Int) ≤ 1099511627776) = decide (numL 0 (bl s) ≤ 1099511627776) := by rw [decide_eq_decide]; omega
          have HDec := Lib.hid hdec; clear hdec
          generalize numL 0 (bl s) = N at *
          go_wp2_with fail
          go_ret
          exact ⟨by rw [HF3.out, ← HDec.out]; rfl, HB3.out⟩
        · have hbf : decide (numL 0 (bl s) ≤ 1099511627776) = false := by rw [decide_eq_false_iff_not]; omega
          have hF := HF3.out
          rw [hbf] at hF
          have HF4 := Lib.hid hF
          clear hF hbf hbig
          go_wp2_with fail
          go_ret
          exact ⟨by rw [HF4.out]; rfl, HB3.out⟩
      · rw [if_neg h4] at hF
        by_cases h5 : k = 5
        · subst h5
          rw [if_pos rfl] at hF
          have HF3 := Lib.hid hF
          have h2 : 2 ≤ s.size := by rw [← bl_len, ← HLen.out]; exact five_len (bl s) HK.out
          have hC : ∀ w, Tabs w → Calls Tryd.prog 41 #[.string (s.extract 1 (s.size - 1))] w fun e w' => e = .returned (.int .i64 (conE (inner (bl s)))) ∧ Below w.heap.size w w' := fun w h => by
            have := contents_any (s.extract 1 (s.size - 1)) w (by rw [ByteArray.size_extract]; omega) h
            rwa [bl_inner] at this
          obtain ⟨c, hc⟩ : ∃ c, conE (inner (bl s)) = c := ⟨_, rfl⟩
          rw [hc] at hC HF3
          have HC := Lib.hid hC
          have hi1 : (1 : Int) ≤ (s.size : Int) - 1 := by omega
          have hi2 : ((s.size : Int) - 1).toNat = s.size - 1 := by omega
          have hdec : ((c : Int) == 0) = decide (c = 0) := by rw [Bool.eq_iff_iff, beq_iff_eq, decide_eq_true_eq]; omega
          clear hF h23 h4 hC hc
          go_wp2_with fail
          refine (HC.out _ (HT.out.of_below HB2.out)).mono ?_
          rintro e w3 ⟨rfl, hb3⟩
          have HB3 := Lib.hid (HB2.out.trans (hb3.mono HB2.out.size))
          clear hb3
          go_wp2_with fail
          go_ret
          exact ⟨by rw [HF3.out]; rfl, HB3.out⟩
        · rw [if_neg h5] at hF
          have HF3 := Lib.hid hF
          have q2 : ((k : Int) == 2) = false := by rw [← Bool.not_eq_true, beq_iff_eq]; omega
          have q3 : ((k : Int) == 3) = false := by rw [← Bool.not_eq_true, beq_iff_eq]; omega
          have q4 : ((k : Int) == 4) = false := by rw [← Bool.not_eq_true, beq_iff_eq]; omega
          have q5 : ((k : Int) == 5) = false := by rw [← Bool.not_eq_true, beq_iff_eq]; omega
          have q8 : ((k : Int) != 8) = decide (k ≠ 8) := by rw [Bool.eq_iff_iff, bne_iff_ne, decide_eq_true_eq]; omega
          clear hF h23 h4 h5
          go_wp2_with fail
          go_ret
          exact ⟨by rw [HF3.out, decide_not]; rfl, HB2.out⟩
  · have hq : ((k : Int) != kd) = true := by rw [bne_iff_ne]; exact hkd
    have hF := HF.out
    rw [decide_eq_false hkd, Bool.and_false, Bool.false_and] at hF
    have HF2 := Lib.hid hF; clear hF hkd hne hlen
    go_wp2_with fail
    go_ret
    exact ⟨by rw [HF2.out]; rfl, HB2.out⟩
end Go.Proofs.YtolgoojlpmgblaaDoor

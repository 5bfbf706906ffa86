/- The reference's token at a quote; token at every byte; Next. -/
import Derived.Test.YtolgoojlpmgblaaDoorN
import Derived.WalkKit
import Derived.WalkSpells
import Derived.WalkLawsBesides
import Derived.Outline
import Derived.Lib.Hide
import Derived.Handy
namespace Go.Proofs.YtolgoojlpmgblaaDoor
open Go.RowKit

theorem notQ_of {c : UInt8} (h1 : c ≠ 34) (h2 : c ≠ 10) : notQ c = true := by simp [notQ, h1, h2]
theorem ne_iff_int (c : UInt8) (n : Nat) (hn : n < 256) : (((c.toNat : Int) != (n : Int)) = true) ↔ c ≠ UInt8.ofNat n := by
  rw [bne_iff_ne]
  constructor
  · rintro h rfl; apply h; simp [Nat.mod_eq_of_lt hn]
  · intro h e; apply h; apply UInt8.toNat_inj.1; simp [Nat.mod_eq_of_lt hn]; omega

set_option maxHeartbeats 2000000 in
theorem token_quote (s : ByteArray) (a : Nat) (w : World) (hs : s.size < 4294967281) (ha : a < s.size) (hcl : 4 ≤ clsR (s[a]'ha)) (h35 : (((s[a]'ha).toNat : Int) == 35) = false) (h34 : (((s[a]'ha).toNat : Int) == 34) = true) :
    Calls Tryd.prog 55 #[.string s, .int .i64 a] w fun e w' => TokR ((bl s).drop a) a e ∧ w = w' := by
  have hG := good_rest s a ha hcl
  rw [h35, h34] at hG
  simp only [Bool.false_eq_true, if_false, if_true] at hG
  have HG := Lib.hid hG; clear hG
  have hm : s.size ≤ maxLen := by unfold maxLen; omega
  obtain ⟨E, hE⟩ : ∃ E, a + tk isLn ((bl s).drop a) = E := ⟨_, rfl⟩
  have hline : ∀ w, Calls Tryd.prog 56 #[.string s, .int .i64 a] w fun e w' => e = .returned (.int .i64 E) ∧ w = w' := by
    intro w; have := line_ref s a w hm (by omega); rwa [hE] at this
  have HL := Lib.hid hline; clear hline hm
  have h34' : s[a]'ha = 34 := by
    have e34 := u8_eq (s[a]'ha) 34
    rw [show ((34 : UInt8).toNat : Int) = 34 from rfl, h34] at e34
    simpa using e34
  have hE1 : a + 1 ≤ E := by
    have := tk_first (p := isLn) ha (by rw [h34']; decide); omega
  have hE2 : E ≤ s.size := by
    have := tk_le isLn ((bl s).drop a); rw [drop_len] at this; omega
  have hin : ∀ k (hk : k < s.size), a ≤ k → k < E → s[k]'hk ≠ 10 := by
    intro k hk h1 h2 e
    have := tk_run (p := isLn) (l := (bl s).drop a) (i := k - a) (by omega) (drop_get s a k h1 hk)
    rw [e] at this; revert this; decide
  have hout : ∀ (h : E < s.size), s[E]'h = 10 := by
    intro h
    have := tk_stop (p := isLn) (l := (bl s).drop a) (c := s[E]'h) (by rw [show tk isLn ((bl s).drop a) = E - a by omega]; exact drop_get s a E (by omega) h)
    simpa [isLn] using this
  have HIn := Lib.hid hin; have HOut := Lib.hid hout
  clear hin hout hE h34'
  obtain ⟨v, hv⟩ : ∃ v, clsR (s[a]'ha) = v := ⟨_, rfl⟩
  rw [hv] at hcl
  have HV := Lib.hid hv; clear hv
  have q0 : ((v : Int) == 0) = false := by simpa using (by omega : ¬ (v : Int) = 0)
  have q1 : ((v : Int) == 1) = false := by simpa using (by omega : ¬ (v : Int) = 1)
  have q2 : ((v : Int) == 2) = false := by simpa using (by omega : ¬ (v : Int) = 2)
  have q3 : ((v : Int) == 3) = false := by simpa using (by omega : ¬ (v : Int) = 3)
  go_enter Tryd.func55, Tryd.ntmps55
  go_wp2_with (first | (go_at_call 73; refine (class_is _ v HV.out _).mono ?_; rintro e w' ⟨rfl, rfl⟩) | (go_at_call 56; refine (HL.out _).mono ?_; rintro e w' ⟨rfl, rfl⟩))
  go_loop [7] (fun i => ∃ k : Nat, a + 1 ≤ k ∧ k ≤ E ∧ k - (a + 1) ≤ tk notQ ((bl s).drop (a + 1)) ∧ i = .int .i64 k) (fun i => s.size - (intOf i).toNat)
  case atStart => exact ⟨a + 1, Nat.le_refl _, hE1, by omega, by go_num⟩
  case round =>
    obtain ⟨k, hk1, hk2, hk3, rfl⟩ := hrel
    have HK := Lib.hid hk3; clear hk3
    by_cases hlt : k < E
    · have hks : k < s.size := by omega
      have hdec : decide ((k : Int) < (E : Int)) = true := by simp; omega
      by_cases hq : (((s[k]'hks).toNat : Int) != 34) = true
      · have hne : s[k]'hks ≠ 34 := (ne_iff_int _ 34 (by omega)).1 hq
        have HM := Lib.hid (tkl_more (p := notQ) HK.out (drop_get s (a + 1) k hk1 hks) (notQ_of hne (HIn.out k hks (by omega) hlt)))
        clear hne
        go_wp2_with fail
        go_round
        case rel => exact ⟨k + 1, by omega, by omega, by have := HM.out; omega, by go_num⟩
        case measure => simp [intOf]; omega
      · have hq' : (((s[k]'hks).toNat : Int) != 34) = false := by simpa using hq
        have he : s[k]'hks = 34 := by
          by_cases h : s[k]'hks = 34
          · exact h
          · exact absurd ((ne_iff_int _ 34 (by omega)).2 h) hq
        have HM := Lib.hid (tkl_end (p := notQ) HK.out (drop_get s (a + 1) k hk1 hks) (by rw [he]; decide))
        have HQ := Lib.hid (quo_eq ((bl s).drop (a + 1)) (by rw [HM.out, drop_get s (a + 1) k hk1 hks, he]))
        clear he hq
        go_wp2_with fail
        go_ret2
        exact ⟨⟨5, ret2 rfl (by rw [HG.out]; simp only; rw [HQ.out, HM.out]; omega), fun _ => by rw [HG.out]⟩, rfl⟩
    · obtain rfl : k = E := by omega
      have HM : Hid (quo ((bl s).drop (a + 1)) = 0) := Lib.hid (by
        by_cases hks : k < s.size
        · have e := HOut.out hks
          have := tkl_end (p := notQ) HK.out (drop_get s (a + 1) k hk1 hks) (by rw [e]; decide)
          exact quo_zero _ (by rw [this, drop_get s (a + 1) k hk1 hks, e]; decide)
        · have := tkl_out (p := notQ) HK.out (by rw [drop_len]; omega)
          exact quo_zero _ (by rw [this, List.getElem?_eq_none (by rw [drop_len]; omega)]; simp))
      have hdec : decide ((k : Int) < (k : Int)) = false := by simp
      go_wp2_with fail
      go_ret2
      exact ⟨⟨8, ret2 rfl (by rw [HG.out]; simp only; rw [HM.out]; omega), fun h => by rw [HG.out] at h; simp only at h; rw [HM.out] at h; omega⟩, rfl⟩

theorem token_ref (s : ByteArray) (a : Nat) (w : World) (hs : s.size < 4294967281) (ha : a < s.size) :
    Calls Tryd.prog 55 #[.string s, .int .i64 a] w fun e w' => TokR ((bl s).drop a) a e ∧ Below w.heap.size w w' := by
  have same : ∀ {e : Ending} {w' : World}, TokR ((bl s).drop a) a e ∧ w = w' → TokR ((bl s).drop a) a e ∧ Below w.heap.size w w' := fun ⟨h, e⟩ => ⟨h, e ▸ Below.refl _ _⟩
  have h5 := cls_le (s[a]'ha)
  obtain ⟨v, hv⟩ : ∃ v, clsR (s[a]'ha) = v := ⟨_, rfl⟩
  rw [hv] at h5
  by_cases h4 : 4 ≤ v
  · cases h35 : (((s[a]'ha).toNat : Int) == 35) with
    | true => exact (token_comment s a w hs ha (by omega) h35).mono fun _ _ => same
    | false =>
      cases h34 : (((s[a]'ha).toNat : Int) == 34) with
      | true => exact (token_quote s a w hs ha (by omega) h35 h34).mono fun _ _ => same
      | false => exact token_symbol s a w hs ha (by omega) h35 h34
  · match v, hv with
    | 0, hv => exact (token_sp s a w hs ha hv).mono fun _ _ => same
    | 1, hv => exact token_lo s a w hs ha hv
    | 2, hv => exact (token_up s a w hs ha hv).mono fun _ _ => same
    | 3, hv => exact (token_di s a w hs ha hv).mono fun _ _ => same
    | n + 4, _ => omega
end Go.Proofs.YtolgoojlpmgblaaDoor

/- The reference's Next is the plain model's next token. -/
import Derived.Test.YtolgoojlpmgblaaDoorO
import Derived.WalkKit
import Derived.WalkSpells
import Derived.WalkLawsBesides
import Derived.Outline
import Derived.Lib.Hide
import Derived.Handy
namespace Go.Proofs.YtolgoojlpmgblaaDoor
open Go.RowKit

set_option maxHeartbeats 2000000 in
theorem next_ref (s : ByteArray) (a : Nat) (w : World) (hs : s.size < 4294967281) (ha : a < s.size) :
    Calls Tryd.prog 37 #[.string s, .int .i64 a] w fun e w' => e = .returned (.tuple #[.int .i64 (nxt ((bl s).drop a)).1, .int .i64 (a + (nxt ((bl s).drop a)).2 : Nat)]) ∧ Below w.heap.size w w' := by
  have hm : s.size ≤ maxLen := by unfold maxLen; omega
  obtain ⟨c, hc⟩ : ∃ c, s[a]'ha = c := ⟨_, rfl⟩
  have hgc := nxt_cons c ((bl s).drop (a + 1))
  rw [← hc, ← drop_cons s a ha, hc] at hgc
  have e34 := u8_eq c 34
  rw [show ((34 : UInt8).toNat : Int) = 34 from rfl] at e34
  rw [e34] at hgc
  clear e34
  have hline : ∀ w, Calls Tryd.prog 56 #[.string s, .int .i64 a] w fun e w' => e = .returned (.int .i64 (a + tk isLn ((bl s).drop a) : Nat)) ∧ w = w' := fun w => line_ref s a w hm (by omega)
  have HL := Lib.hid hline; clear hline hm
  have hG : ∀ w, Calls Tryd.prog 55 #[.string s, .int .i64 a] w fun e w' => (∃ k : Nat, e = .returned (.tuple #[.int .i64 k, .int .i64 (a + (good ((bl s).drop a)).2 : Nat)]) ∧ (0 < (good ((bl s).drop a)).2 → k = (good ((bl s).drop a)).1)) ∧ Below w.heap.size w w' := fun w => token_ref s a w hs ha
  obtain ⟨gk, gn, hg⟩ : ∃ gk gn, good ((bl s).drop a) = (gk, gn) := ⟨_, _, rfl⟩
  rw [hg] at hG
  simp only at hG
  have hgl := good_le ((bl s).drop a)
  rw [hg, drop_len] at hgl
  simp only at hgl
  have HN := Lib.hid hgc; clear hgc
  have HE := Lib.hid hg; clear hg
  by_cases hp : 0 < gn
  · have hr : nxt ((bl s).drop a) = (gk, gn) := by rw [HN.out, HE.out]; simp [hp]
    rw [hr]
    clear hr
    obtain ⟨E, hE⟩ : ∃ E, a + gn = E := ⟨_, rfl⟩
    have hEa : a < E := by omega
    simp only [hE] at hG ⊢
    have HG : Hid (∀ w, Calls Tryd.prog 55 #[.string s, .int .i64 a] w fun e w' => e = .returned (.tuple #[.int .i64 gk, .int .i64 E]) ∧ Below w.heap.size w w') := Lib.hid (fun w => (hG w).mono fun e w' ⟨⟨k, h1, h2⟩, h3⟩ => ⟨by rw [h1, h2 hp], h3⟩)
    clear hG hE
    go_enter Tryd.func37, Tryd.ntmps37
    go_wp2_with (go_at_call 55; refine (HG.out _).mono ?_; rintro e w' ⟨rfl, hw⟩)
    go_ret2
    exact ⟨rfl, hw⟩
  obtain rfl : gn = 0 := by omega
  have HG : Hid (∀ w, Calls Tryd.prog 55 #[.string s, .int .i64 a] w fun e w' => (∃ k : Nat, e = .returned (.tuple #[.int .i64 k, .int .i64 a])) ∧ Below w.heap.size w w') := Lib.hid (fun w => (hG w).mono fun e w' ⟨⟨k, h1, _⟩, h3⟩ => ⟨⟨k, h1⟩, h3⟩)
  clear hG hp
  by_cases h6 : ((c.toNat : Int) == 34) = true
  · have hr : nxt ((bl s).drop a) = (8, tk isLn ((bl s).drop a)) := by rw [HN.out, HE.out]; simp [h6]
    rw [hr]
    clear hr
    go_enter Tryd.func37, Tryd.ntmps37
    go_wp2_with (first | (go_at_call 55; refine (HG.out _).mono ?_; rintro e w' ⟨⟨kk, rfl⟩, hw⟩) | (go_at_call 56; refine (HL.out _).mono ?_; rintro e w' ⟨rfl, rfl⟩))
    go_ret2
    exact ⟨rfl, hw⟩
  have h6' : ((c.toNat : Int) == 34) = false := by simpa using h6
  clear h6
  have hr : nxt ((bl s).drop a) = (8, badLen ((bl s).drop (a + 1)) + 1) := by rw [HN.out, HE.out]; simp [h6']
  rw [hr]
  clear hr
  go_enter Tryd.func37, Tryd.ntmps37
  go_wp2_with (go_at_call 55; refine (HG.out _).mono ?_; rintro e w' ⟨⟨kk, rfl⟩, hw⟩)
  go_loopw [7, 8, 9] (fun x _ _ wr => ∃ n : Nat, a + 1 ≤ n ∧ n - (a + 1) ≤ badLen ((bl s).drop (a + 1)) ∧ n ≤ s.size ∧ x = .int .i64 n ∧ Below w.heap.size w wr) (fun x _ _ _ => s.size - (intOf x).toNat)
  case atStart => exact ⟨a + 1, by omega, by omega, by omega, by go_num, hw⟩
  case round =>
    obtain ⟨n, hn1, hn2, hn3, rfl, hB⟩ := hrel
    have HB := Lib.hid hB; have H2 := Lib.hid hn2
    clear hw hB hn2
    by_cases hlt : n < s.size
    · have hat := badLen_at ((bl s).drop (a + 1)) (n - (a + 1)) (s[n]'hlt) H2.out (drop_get s (a + 1) n hn1 hlt)
      rw [List.drop_drop, show (a + 1) + (n - (a + 1)) = n by omega] at hat
      have e34 := u8_eq (s[n]'hlt) 34
      rw [show ((34 : UInt8).toNat : Int) = 34 from rfl] at e34
      rw [e34] at hat
      have HA := Lib.hid hat
      clear hat e34
      have hG2 : ∀ w, Calls Tryd.prog 55 #[.string s, .int .i64 n] w fun e w' => (∃ k : Nat, e = .returned (.tuple #[.int .i64 k, .int .i64 (n + (good ((bl s).drop n)).2 : Nat)])) ∧ Below w.heap.size w w' := fun w => (token_ref s n w hs hlt).mono fun e w' ⟨⟨k, h1, _⟩, h2⟩ => ⟨⟨k, h1⟩, h2⟩
      obtain ⟨gn2, hg2⟩ : ∃ gn2, (good ((bl s).drop n)).2 = gn2 := ⟨_, rfl⟩
      have hgl2 := good_le ((bl s).drop n)
      rw [drop_len, hg2] at hgl2
      rw [hg2] at hG2
      have HE2 := Lib.hid hg2
      clear hg2
      obtain ⟨E, hE⟩ : ∃ E, n + gn2 = E := ⟨_, rfl⟩
      rw [hE] at hG2
      have HG2 := Lib.hid hG2
      by_cases hp : 0 < gn2
      · have hdec : decide ((n : Int) < (E : Int)) = true := by simp; omega
        have hEn : n < E := by omega
        clear hG2 hE
        go_wp2_with (go_at_call 55; refine (HG2.out _).mono ?_; rintro e w' ⟨⟨kk2, rfl⟩, hw⟩)
        go_ret2
        have := HA.out
        rw [if_pos (by rw [HE2.out]; simp [hp])] at this
        exact ⟨ret2 rfl (by omega), HB.out.trans (hw.mono HB.out.size)⟩
      · obtain rfl : n = E := by omega
        have hdec : decide ((n : Int) < (n : Int)) = false := by simp
        clear hG2 hE
        by_cases hq : ((((s[n]'hlt).toNat : Int) == 34) = true)
        · go_wp2_with (go_at_call 55; refine (HG2.out _).mono ?_; rintro e w' ⟨⟨kk2, rfl⟩, hw⟩)
          go_ret2
          have := HA.out
          rw [if_pos (by simp [hq])] at this
          exact ⟨ret2 rfl (by omega), HB.out.trans (hw.mono HB.out.size)⟩
        · have hq' : ((((s[n]'hlt).toNat : Int) == 34) = false) := by simpa using hq
          clear hq
          go_wp2_with (go_at_call 55; refine (HG2.out _).mono ?_; rintro e w' ⟨⟨kk2, rfl⟩, hw⟩)
          go_roundw
          case rel =>
            have := HA.out
            rw [if_neg (by rw [HE2.out]; simp [hq']; omega)] at this
            exact ⟨n + 1, by omega, by omega, by omega, by go_num, HB.out.trans (hw.mono HB.out.size)⟩
          case measure => simp [intOf]; omega
    · have hout := badLen_out (t := (bl s).drop (a + 1)) (i := n - (a + 1)) H2.out (by rw [drop_len]; omega)
      have HO := Lib.hid hout; clear hout
      go_wp2_with fail
      go_ret2
      have := HO.out
      exact ⟨ret2 rfl (by omega), HB.out⟩
end Go.Proofs.YtolgoojlpmgblaaDoor

/- The reference's Char, Proper, contents, Quote, as the plain model has them. -/
import Derived.Test.YtolgoojlpmgblaaDoorLxD
import Derived.WalkKit
import Derived.WalkSpells
import Derived.WalkLawsBesides
import Derived.Outline
import Derived.Lib.Hide
import Derived.Handy
namespace Go.Proofs.YtolgoojlpmgblaaDoor
open Go.RowKit

theorem second_any (c : Nat) (hc : c < 256) (w : World) :
    Calls Tryd.prog 97 #[.int .u8 c] w fun e w' => e = .returned (.tuple #[.int .u8 (loN c), .int .u8 (hiN c)]) ∧ w = w' := by
  by_cases h1 : c = 224
  · subst h1; go_enter Tryd.func97, Tryd.ntmps97; go_wp2_with fail; go_ret2; exact ⟨rfl, rfl⟩
  by_cases h2 : c = 237
  · subst h2; go_enter Tryd.func97, Tryd.ntmps97; go_wp2_with fail; go_ret2; exact ⟨rfl, rfl⟩
  by_cases h3 : c = 240
  · subst h3; go_enter Tryd.func97, Tryd.ntmps97; go_wp2_with fail; go_ret2; exact ⟨rfl, rfl⟩
  by_cases h4 : c = 244
  · subst h4; go_enter Tryd.func97, Tryd.ntmps97; go_wp2_with fail; go_ret2; exact ⟨rfl, rfl⟩
  have q1 : ((c : Int) == 224) = false := by rw [← Bool.not_eq_true, beq_iff_eq]; omega
  have q2 : ((c : Int) == 237) = false := by rw [← Bool.not_eq_true, beq_iff_eq]; omega
  have q3 : ((c : Int) == 240) = false := by rw [← Bool.not_eq_true, beq_iff_eq]; omega
  have q4 : ((c : Int) == 244) = false := by rw [← Bool.not_eq_true, beq_iff_eq]; omega
  have e1 : loN c = 128 := by unfold loN; rw [if_neg h1, if_neg h3]
  have e2 : hiN c = 191 := by unfold hiN; rw [if_neg h2, if_neg h4]
  rw [e1, e2]
  clear h1 h2 h3 h4 e1 e2
  go_enter Tryd.func97, Tryd.ntmps97
  go_wp2_with fail
  go_ret2
  exact ⟨rfl, rfl⟩

def btw (l : Bs) (j lo hi : Nat) : Bool := decide (j < l.length) && (decide (lo ≤ (l.getD j 0).toNat) && decide ((l.getD j 0).toNat ≤ hi))

theorem between_any (s : ByteArray) (j lo hi : Nat) (w : World) (hs : s.size < 4294967281) (hj : j < 4294967290) (hlo : lo < 256) (hhi : hi < 256) :
    Calls Tryd.prog 98 #[.string s, .int .i64 j, .int .u8 lo, .int .u8 hi] w fun e w' => e = .returned (.bool (btw (bl s) j lo hi)) ∧ w = w' := by
  have hb : btw (bl s) j lo hi = (decide (j < s.size) && (decide (lo ≤ ((bl s).getD j 0).toNat) && decide (((bl s).getD j 0).toNat ≤ hi))) := by unfold btw; rw [bl_len]
  rw [hb]
  clear hb
  by_cases h1 : j < s.size
  · have hg : (bl s).getD j 0 = s[j] := by rw [List.getD_eq_getElem?_getD, bl_get s j h1]; rfl
    rw [hg, decide_eq_true h1, Bool.true_and]
    clear hg
    by_cases h2 : lo ≤ s[j].toNat
    · have h2' : (lo : Int) ≤ (s[j].toNat : Int) := by omega
      rw [decide_eq_true h2, Bool.true_and]
      by_cases h3 : s[j].toNat ≤ hi
      · have h3' : (s[j].toNat : Int) ≤ (hi : Int) := by omega
        rw [decide_eq_true h3]
        clear h2 h3
        go_enter Tryd.func98, Tryd.ntmps98
        go_wp2_with fail
        go_ret
        exact ⟨by simp, rfl⟩
      · have h3' : ¬ (s[j].toNat : Int) ≤ (hi : Int) := by omega
        rw [decide_eq_false h3]
        clear h2 h3
        go_enter Tryd.func98, Tryd.ntmps98
        go_wp2_with fail
        go_ret
        exact ⟨by simp, rfl⟩
    · have h2' : ¬ (lo : Int) ≤ (s[j].toNat : Int) := by omega
      rw [decide_eq_false h2, Bool.false_and]
      clear h2
      go_enter Tryd.func98, Tryd.ntmps98
      go_wp2_with fail
      go_ret
      exact ⟨by simp, rfl⟩
  · rw [decide_eq_false h1, Bool.false_and]
    go_enter Tryd.func98, Tryd.ntmps98
    go_wp2_with fail
    go_ret
    exact ⟨by simp, rfl⟩

theorem chL_drop (s : ByteArray) (i : Nat) (h : i < s.size) : chL ((bl s).drop i) =
    if 194 ≤ s[i].toNat ∧ s[i].toNat ≤ 223 then (if btw (bl s) (i + 1) 128 191 = true then (2, 1) else (1, 1))
    else if 224 ≤ s[i].toNat ∧ s[i].toNat ≤ 239 then (if btw (bl s) (i + 1) (loN s[i].toNat) (hiN s[i].toNat) = true ∧ btw (bl s) (i + 2) 128 191 = true then (3, 1) else (1, 1))
    else if 240 ≤ s[i].toNat ∧ s[i].toNat ≤ 244 then (if btw (bl s) (i + 1) (loN s[i].toNat) (hiN s[i].toNat) = true ∧ btw (bl s) (i + 2) 128 191 = true ∧ btw (bl s) (i + 3) 128 191 = true then (4, 2) else (1, 1))
    else (1, 1) := by
  have hg : ∀ k, ((bl s).drop i).getD k 0 = (bl s).getD (i + k) 0 := fun k => by rw [List.getD_eq_getElem?_getD, List.getElem?_drop, ← List.getD_eq_getElem?_getD]
  have h0 : (bl s).getD (i + 0) 0 = s[i] := by rw [Nat.add_zero, List.getD_eq_getElem?_getD, bl_get s i h]; rfl
  have hb : ∀ k lo hi, btw (bl s) (i + k) lo hi = true ↔ (k < s.size - i ∧ lo ≤ ((bl s).getD (i + k) 0).toNat ∧ ((bl s).getD (i + k) 0).toNat ≤ hi) := fun k lo hi => by
    unfold btw
    simp only [Bool.and_eq_true, decide_eq_true_eq, bl_len]
    have : i + k < s.size ↔ k < s.size - i := by omega
    rw [this]
  unfold chL
  simp only [hg, h0, hb, List.length_drop, bl_len]
  generalize s[i].toNat = b0
  generalize ((bl s).getD (i + 1) 0).toNat = b1
  generalize ((bl s).getD (i + 2) 0).toNat = b2
  generalize ((bl s).getD (i + 3) 0).toNat = b3
  generalize s.size - i = n
  unfold chN
  by_cases c1 : 194 ≤ b0 ∧ b0 ≤ 223
  · have n2 : ¬ (224 ≤ b0) := by omega
    have n3 : ¬ (240 ≤ b0) := by omega
    simp [c1, n2, n3]
  · by_cases c2 : 224 ≤ b0 ∧ b0 ≤ 239
    · have n3 : ¬ (240 ≤ b0) := by omega
      have n1 : ¬ (b0 ≤ 223) := by omega
      simp [c2, n3, n1]
    · by_cases c3 : 240 ≤ b0 ∧ b0 ≤ 244
      · have n1 : ¬ (b0 ≤ 223) := by omega
        have n2 : ¬ (b0 ≤ 239) := by omega
        simp [c3, n1, n2]
      · rw [if_neg (fun h => c1 ⟨h.1, h.2.1⟩), if_neg (fun h => c2 ⟨h.1, h.2.1⟩), if_neg (fun h => c3 ⟨h.1, h.2.1⟩), if_neg c1, if_neg c2, if_neg c3]

theorem btw_at (s : ByteArray) (i : Nat) (h : i < s.size) (hs : s.size < 4294967281) (lo hi : Nat) (hlo : lo < 256) (hhi : hi < 256) (w : World) :
    Calls Tryd.prog 98 #[.string s, .int .i64 ((i : Int) + 1), .int .u8 lo, .int .u8 hi] w fun e w' => e = .returned (.bool (btw (bl s) (i + 1) lo hi)) ∧ w = w' := by
  have := between_any s (i + 1) lo hi w hs (by omega) hlo hhi
  rwa [show ((i + 1 : Nat) : Int) = (i : Int) + 1 by omega] at this
theorem btw_1 (s : ByteArray) (i : Nat) (h : i < s.size) (hs : s.size < 4294967281) (w : World) :
    Calls Tryd.prog 98 #[.string s, .int .i64 ((i : Int) + 1), .int .u8 128, .int .u8 191] w fun e w' => e = .returned (.bool (btw (bl s) (i + 1) 128 191)) ∧ w = w' := by
  have := between_any s (i + 1) 128 191 w hs (by omega) (by omega) (by omega)
  rwa [show ((i + 1 : Nat) : Int) = (i : Int) + 1 by omega] at this
theorem btw_2 (s : ByteArray) (i : Nat) (h : i < s.size) (hs : s.size < 4294967281) (w : World) :
    Calls Tryd.prog 98 #[.string s, .int .i64 ((i : Int) + 2), .int .u8 128, .int .u8 191] w fun e w' => e = .returned (.bool (btw (bl s) (i + 2) 128 191)) ∧ w = w' := by
  have := between_any s (i + 2) 128 191 w hs (by omega) (by omega) (by omega)
  rwa [show ((i + 2 : Nat) : Int) = (i : Int) + 2 by omega] at this
theorem btw_3 (s : ByteArray) (i : Nat) (h : i < s.size) (hs : s.size < 4294967281) (w : World) :
    Calls Tryd.prog 98 #[.string s, .int .i64 ((i : Int) + 3), .int .u8 128, .int .u8 191] w fun e w' => e = .returned (.bool (btw (bl s) (i + 3) 128 191)) ∧ w = w' := by
  have := between_any s (i + 3) 128 191 w hs (by omega) (by omega) (by omega)
  rwa [show ((i + 3 : Nat) : Int) = (i : Int) + 3 by omega] at this
theorem lo_lt (c : Nat) : loN c < 256 := by unfold loN; split <;> (try split) <;> omega
theorem hi_lt (c : Nat) : hiN c < 256 := by unfold hiN; split <;> (try split) <;> omega

set_option maxRecDepth 100000 in
set_option maxHeartbeats 2000000 in
theorem char_2t (s : ByteArray) (i : Nat) (h : i < s.size) (w : World) (hs : s.size < 4294967281) (c : 194 ≤ s[i].toNat ∧ s[i].toNat ≤ 223) (h1 : btw (bl s) (i + 1) 128 191 = true) :
    Calls Tryd.prog 77 #[.string s, .int .i64 i] w fun e w' => e = .returned (.tuple #[.int .i64 2, .int .i64 1]) ∧ w = w' := by
  have h2nd : ∀ w, Calls Tryd.prog 97 #[.int .u8 s[i].toNat] w fun e w' => e = .returned (.tuple #[.int .u8 (loN s[i].toNat), .int .u8 (hiN s[i].toNat)]) ∧ w = w' := fun w => second_any _ (UInt8.toNat_lt _) w
  have xH1 := fun w => btw_1 s i h hs w
  rw [h1] at xH1
  obtain ⟨lo, hlo⟩ : ∃ n, loN s[i].toNat = n := ⟨_, rfl⟩
  obtain ⟨hi, hhi⟩ : ∃ n, hiN s[i].toNat = n := ⟨_, rfl⟩
  simp only [hlo, hhi] at h2nd
  have H2 := Lib.hid h2nd
  have H1 := Lib.hid xH1
  clear h2nd xH1 h1 hlo hhi
  have q0 : (194 : Int) ≤ (s[i].toNat : Int) := by omega
  have q1 : (s[i].toNat : Int) ≤ 223 := by omega
  have q2 : ¬ (224 : Int) ≤ (s[i].toNat : Int) := by omega
  have q3 : ¬ (240 : Int) ≤ (s[i].toNat : Int) := by omega
  clear c
  go_enter Tryd.func77, Tryd.ntmps77
  go_wp2_with fail
  refine (H2.out _).mono ?_
  rintro e w' ⟨rfl, rfl⟩
  go_wp2_with fail
  refine (H1.out _).mono ?_
  rintro e w' ⟨rfl, rfl⟩
  go_wp2_with fail
  go_ret2
  exact ⟨rfl, rfl⟩

set_option maxRecDepth 100000 in
set_option maxHeartbeats 2000000 in
theorem char_2f (s : ByteArray) (i : Nat) (h : i < s.size) (w : World) (hs : s.size < 4294967281) (c : 194 ≤ s[i].toNat ∧ s[i].toNat ≤ 223) (h1 : btw (bl s) (i + 1) 128 191 = false) :
    Calls Tryd.prog 77 #[.string s, .int .i64 i] w fun e w' => e = .returned (.tuple #[.int .i64 1, .int .i64 1]) ∧ w = w' := by
  have h2nd : ∀ w, Calls Tryd.prog 97 #[.int .u8 s[i].toNat] w fun e w' => e = .returned (.tuple #[.int .u8 (loN s[i].toNat), .int .u8 (hiN s[i].toNat)]) ∧ w = w' := fun w => second_any _ (UInt8.toNat_lt _) w
  have xH1 := fun w => btw_1 s i h hs w
  rw [h1] at xH1
  obtain ⟨lo, hlo⟩ : ∃ n, loN s[i].toNat = n := ⟨_, rfl⟩
  obtain ⟨hi, hhi⟩ : ∃ n, hiN s[i].toNat = n := ⟨_, rfl⟩
  simp only [hlo, hhi] at h2nd
  have H2 := Lib.hid h2nd
  have H1 := Lib.hid xH1
  clear h2nd xH1 h1 hlo hhi
  have q0 : (194 : Int) ≤ (s[i].toNat : Int) := by omega
  have q1 : (s[i].toNat : Int) ≤ 223 := by omega
  have q2 : ¬ (224 : Int) ≤ (s[i].toNat : Int) := by omega
  have q3 : ¬ (240 : Int) ≤ (s[i].toNat : Int) := by omega
  clear c
  go_enter Tryd.func77, Tryd.ntmps77
  go_wp2_with fail
  refine (H2.out _).mono ?_
  rintro e w' ⟨rfl, rfl⟩
  go_wp2_with fail
  refine (H1.out _).mono ?_
  rintro e w' ⟨rfl, rfl⟩
  go_wp2_with fail
  go_ret2
  exact ⟨rfl, rfl⟩

set_option maxRecDepth 100000 in
set_option maxHeartbeats 2000000 in
theorem char_3t (s : ByteArray) (i : Nat) (h : i < s.size) (w : World) (hs : s.size < 4294967281) (c : 224 ≤ s[i].toNat ∧ s[i].toNat ≤ 239) (h1 : btw (bl s) (i + 1) (loN s[i].toNat) (hiN s[i].toNat) = true) (hb2 : btw (bl s) (i + 2) 128 191 = true) :
    Calls Tryd.prog 77 #[.string s, .int .i64 i] w fun e w' => e = .returned (.tuple #[.int .i64 3, .int .i64 1]) ∧ w = w' := by
  have h2nd : ∀ w, Calls Tryd.prog 97 #[.int .u8 s[i].toNat] w fun e w' => e = .returned (.tuple #[.int .u8 (loN s[i].toNat), .int .u8 (hiN s[i].toNat)]) ∧ w = w' := fun w => second_any _ (UInt8.toNat_lt _) w
  have xH1 := fun w => btw_at s i h hs (loN s[i].toNat) (hiN s[i].toNat) (lo_lt _) (hi_lt _) w
  rw [h1] at xH1
  have xHB2 := fun w => btw_2 s i h hs w
  rw [hb2] at xHB2
  obtain ⟨lo, hlo⟩ : ∃ n, loN s[i].toNat = n := ⟨_, rfl⟩
  obtain ⟨hi, hhi⟩ : ∃ n, hiN s[i].toNat = n := ⟨_, rfl⟩
  simp only [hlo, hhi] at h2nd
  simp only [hlo, hhi] at xH1
  have H2 := Lib.hid h2nd
  have H1 := Lib.hid xH1
  have HB2 := Lib.hid xHB2
  clear h2nd xH1 xHB2 h1 hb2 hlo hhi
  have q0 : (194 : Int) ≤ (s[i].toNat : Int) := by omega
  have q1 : ¬ (s[i].toNat : Int) ≤ 223 := by omega
  have q2 : (224 : Int) ≤ (s[i].toNat : Int) := by omega
  have q3 : (s[i].toNat : Int) ≤ 239 := by omega
  have q4 : ¬ (240 : Int) ≤ (s[i].toNat : Int) := by omega
  clear c
  go_enter Tryd.func77, Tryd.ntmps77
  go_wp2_with fail
  refine (H2.out _).mono ?_
  rintro e w' ⟨rfl, rfl⟩
  go_wp2_with fail
  refine (H1.out _).mono ?_
  rintro e w' ⟨rfl, rfl⟩
  go_wp2_with fail
  refine (HB2.out _).mono ?_
  rintro e w' ⟨rfl, rfl⟩
  go_wp2_with fail
  go_ret2
  exact ⟨rfl, rfl⟩

set_option maxRecDepth 100000 in
set_option maxHeartbeats 2000000 in
theorem char_3f (s : ByteArray) (i : Nat) (h : i < s.size) (w : World) (hs : s.size < 4294967281) (c : 224 ≤ s[i].toNat ∧ s[i].toNat ≤ 239) (h1 : btw (bl s) (i + 1) (loN s[i].toNat) (hiN s[i].toNat) = false) :
    Calls Tryd.prog 77 #[.string s, .int .i64 i] w fun e w' => e = .returned (.tuple #[.int .i64 1, .int .i64 1]) ∧ w = w' := by
  have h2nd : ∀ w, Calls Tryd.prog 97 #[.int .u8 s[i].toNat] w fun e w' => e = .returned (.tuple #[.int .u8 (loN s[i].toNat), .int .u8 (hiN s[i].toNat)]) ∧ w = w' := fun w => second_any _ (UInt8.toNat_lt _) w
  have xH1 := fun w => btw_at s i h hs (loN s[i].toNat) (hiN s[i].toNat) (lo_lt _) (hi_lt _) w
  rw [h1] at xH1
  obtain ⟨lo, hlo⟩ : ∃ n, loN s[i].toNat = n := ⟨_, rfl⟩
  obtain ⟨hi, hhi⟩ : ∃ n, hiN s[i].toNat = n := ⟨_, rfl⟩
  simp only [hlo, hhi] at h2nd
  simp only [hlo, hhi] at xH1
  have H2 := Lib.hid h2nd
  have H1 := Lib.hid xH1
  clear h2nd xH1 h1 hlo hhi
  have q0 : (194 : Int) ≤ (s[i].toNat : Int) := by omega
  have q1 : ¬ (s[i].toNat : Int) ≤ 223 := by omega
  have q2 : (224 : Int) ≤ (s[i].toNat : Int) := by omega
  have q3 : (s[i].toNat : Int) ≤ 239 := by omega
  have q4 : ¬ (240 : Int) ≤ (s[i].toNat : Int) := by omega
  clear c
  go_enter Tryd.func77, Tryd.ntmps77
  go_wp2_with fail
  refine (H2.out _).mono ?_
  rintro e w' ⟨rfl, rfl⟩
  go_wp2_with fail
  refine (H1.out _).mono ?_
  rintro e w' ⟨rfl, rfl⟩
  go_wp2_with fail
  go_ret2
  exact ⟨rfl, rfl⟩

set_option maxRecDepth 100000 in
set_option maxHeartbeats 2000000 in
theorem char_3g (s : ByteArray) (i : Nat) (h : i < s.size) (w : World) (hs : s.size < 4294967281) (c : 224 ≤ s[i].toNat ∧ s[i].toNat ≤ 239) (h1 : btw (bl s) (i + 1) (loN s[i].toNat) (hiN s[i].toNat) = true) (hb2 : btw (bl s) (i + 2) 128 191 = false) :
    Calls Tryd.prog 77 #[.string s, .int .i64 i] w fun e w' => e = .returned (.tuple #[.int .i64 1, .int .i64 1]) ∧ w = w' := by
  have h2nd : ∀ w, Calls Tryd.prog 97 #[.int .u8 s[i].toNat] w fun e w' => e = .returned (.tuple #[.int .u8 (loN s[i].toNat), .int .u8 (hiN s[i].toNat)]) ∧ w = w' := fun w => second_any _ (UInt8.toNat_lt _) w
  have xH1 := fun w => btw_at s i h hs (loN s[i].toNat) (hiN s[i].toNat) (lo_lt _) (hi_lt _) w
  rw [h1] at xH1
  have xHB2 := fun w => btw_2 s i h hs w
  rw [hb2] at xHB2
  obtain ⟨lo, hlo⟩ : ∃ n, loN s[i].toNat = n := ⟨_, rfl⟩
  obtain ⟨hi, hhi⟩ : ∃ n, hiN s[i].toNat = n := ⟨_, rfl⟩
  simp only [hlo, hhi] at h2nd
  simp only [hlo, hhi] at xH1
  have H2 := Lib.hid h2nd
  have H1 := Lib.hid xH1
  have HB2 := Lib.hid xHB2
  clear h2nd xH1 xHB2 h1 hb2 hlo hhi
  have q0 : (194 : Int) ≤ (s[i].toNat : Int) := by omega
  have q1 : ¬ (s[i].toNat : Int) ≤ 223 := by omega
  have q2 : (224 : Int) ≤ (s[i].toNat : Int) := by omega
  have q3 : (s[i].toNat : Int) ≤ 239 := by omega
  have q4 : ¬ (240 : Int) ≤ (s[i].toNat : Int) := by omega
  clear c
  go_enter Tryd.func77, Tryd.ntmps77
  go_wp2_with fail
  refine (H2.out _).mono ?_
  rintro e w' ⟨rfl, rfl⟩
  go_wp2_with fail
  refine (H1.out _).mono ?_
  rintro e w' ⟨rfl, rfl⟩
  go_wp2_with fail
  refine (HB2.out _).mono ?_
  rintro e w' ⟨rfl, rfl⟩
  go_wp2_with fail
  go_ret2
  exact ⟨rfl, rfl⟩

set_option maxRecDepth 100000 in
set_option maxHeartbeats 2000000 in
theorem char_4t (s : ByteArray) (i : Nat) (h : i < s.size) (w : World) (hs : s.size < 4294967281) (c : 240 ≤ s[i].toNat ∧ s[i].toNat ≤ 244) (h1 : btw (bl s) (i + 1) (loN s[i].toNat) (hiN s[i].toNat) = true) (hb2 : btw (bl s) (i + 2) 128 191 = true) (hb3 : btw (bl s) (i + 3) 128 191 = true) :
    Calls Tryd.prog 77 #[.string s, .int .i64 i] w fun e w' => e = .returned (.tuple #[.int .i64 4, .int .i64 2]) ∧ w = w' := by
  have h2nd : ∀ w, Calls Tryd.prog 97 #[.int .u8 s[i].toNat] w fun e w' => e = .returned (.tuple #[.int .u8 (loN s[i].toNat), .int .u8 (hiN s[i].toNat)]) ∧ w = w' := fun w => second_any _ (UInt8.toNat_lt _) w
  have xH1 := fun w => btw_at s i h hs (loN s[i].toNat) (hiN s[i].toNat) (lo_lt _) (hi_lt _) w
  rw [h1] at xH1
  have xHB2 := fun w => btw_2 s i h hs w
  rw [hb2] at xHB2
  have xHB3 := fun w => btw_3 s i h hs w
  rw [hb3] at xHB3
  obtain ⟨lo, hlo⟩ : ∃ n, loN s[i].toNat = n := ⟨_, rfl⟩
  obtain ⟨hi, hhi⟩ : ∃ n, hiN s[i].toNat = n := ⟨_, rfl⟩
  simp only [hlo, hhi] at h2nd
  simp only [hlo, hhi] at xH1
  have H2 := Lib.hid h2nd
  have H1 := Lib.hid xH1
  have HB2 := Lib.hid xHB2
  have HB3 := Lib.hid xHB3
  clear h2nd xH1 xHB2 xHB3 h1 hb2 hb3 hlo hhi
  have q0 : (194 : Int) ≤ (s[i].toNat : Int) := by omega
  have q1 : ¬ (s[i].toNat : Int) ≤ 223 := by omega
  have q2 : (224 : Int) ≤ (s[i].toNat : Int) := by omega
  have q3 : ¬ (s[i].toNat : Int) ≤ 239 := by omega
  have q4 : (240 : Int) ≤ (s[i].toNat : Int) := by omega
  have q5 : (s[i].toNat : Int) ≤ 244 := by omega
  clear c
  go_enter Tryd.func77, Tryd.ntmps77
  go_wp2_with fail
  refine (H2.out _).mono ?_
  rintro e w' ⟨rfl, rfl⟩
  go_wp2_with fail
  refine (H1.out _).mono ?_
  rintro e w' ⟨rfl, rfl⟩
  go_wp2_with fail
  refine (HB2.out _).mono ?_
  rintro e w' ⟨rfl, rfl⟩
  go_wp2_with fail
  refine (HB3.out _).mono ?_
  rintro e w' ⟨rfl, rfl⟩
  go_wp2_with fail
  go_ret2
  exact ⟨rfl, rfl⟩

set_option maxRecDepth 100000 in
set_option maxHeartbeats 2000000 in
theorem char_4f (s : ByteArray) (i : Nat) (h : i < s.size) (w : World) (hs : s.size < 4294967281) (c : 240 ≤ s[i].toNat ∧ s[i].toNat ≤ 244) (h1 : btw (bl s) (i + 1) (loN s[i].toNat) (hiN s[i].toNat) = false) :
    Calls Tryd.prog 77 #[.string s, .int .i64 i] w fun e w' => e = .returned (.tuple #[.int .i64 1, .int .i64 1]) ∧ w = w' := by
  have h2nd : ∀ w, Calls Tryd.prog 97 #[.int .u8 s[i].toNat] w fun e w' => e = .returned (.tuple #[.int .u8 (loN s[i].toNat), .int .u8 (hiN s[i].toNat)]) ∧ w = w' := fun w => second_any _ (UInt8.toNat_lt _) w
  have xH1 := fun w => btw_at s i h hs (loN s[i].toNat) (hiN s[i].toNat) (lo_lt _) (hi_lt _) w
  rw [h1] at xH1
  obtain ⟨lo, hlo⟩ : ∃ n, loN s[i].toNat = n := ⟨_, rfl⟩
  obtain ⟨hi, hhi⟩ : ∃ n, hiN s[i].toNat = n := ⟨_, rfl⟩
  simp only [hlo, hhi] at h2nd
  simp only [hlo, hhi] at xH1
  have H2 := Lib.hid h2nd
  have H1 := Lib.hid xH1
  clear h2nd xH1 h1 hlo hhi
  have q0 : (194 : Int) ≤ (s[i].toNat : Int) := by omega
  have q1 : ¬ (s[i].toNat : Int) ≤ 223 := by omega
  have q2 : (224 : Int) ≤ (s[i].toNat : Int) := by omega
  have q3 : ¬ (s[i].toNat : Int) ≤ 239 := by omega
  have q4 : (240 : Int) ≤ (s[i].toNat : Int) := by omega
  have q5 : (s[i].toNat : Int) ≤ 244 := by omega
  clear c
  go_enter Tryd.func77, Tryd.ntmps77
  go_wp2_with fail
  refine (H2.out _).mono ?_
  rintro e w' ⟨rfl, rfl⟩
  go_wp2_with fail
  refine (H1.out _).mono ?_
  rintro e w' ⟨rfl, rfl⟩
  go_wp2_with fail
  go_ret2
  exact ⟨rfl, rfl⟩

set_option maxRecDepth 100000 in
set_option maxHeartbeats 2000000 in
theorem char_4g (s : ByteArray) (i : Nat) (h : i < s.size) (w : World) (hs : s.size < 4294967281) (c : 240 ≤ s[i].toNat ∧ s[i].toNat ≤ 244) (h1 : btw (bl s) (i + 1) (loN s[i].toNat) (hiN s[i].toNat) = true) (hb2 : btw (bl s) (i + 2) 128 191 = false) :
    Calls Tryd.prog 77 #[.string s, .int .i64 i] w fun e w' => e = .returned (.tuple #[.int .i64 1, .int .i64 1]) ∧ w = w' := by
  have h2nd : ∀ w, Calls Tryd.prog 97 #[.int .u8 s[i].toNat] w fun e w' => e = .returned (.tuple #[.int .u8 (loN s[i].toNat), .int .u8 (hiN s[i].toNat)]) ∧ w = w' := fun w => second_any _ (UInt8.toNat_lt _) w
  have xH1 := fun w => btw_at s i h hs (loN s[i].toNat) (hiN s[i].toNat) (lo_lt _) (hi_lt _) w
  rw [h1] at xH1
  have xHB2 := fun w => btw_2 s i h hs w
  rw [hb2] at xHB2
  obtain ⟨lo, hlo⟩ : ∃ n, loN s[i].toNat = n := ⟨_, rfl⟩
  obtain ⟨hi, hhi⟩ : ∃ n, hiN s[i].toNat = n := ⟨_, rfl⟩
  simp only [hlo, hhi] at h2nd
  simp only [hlo, hhi] at xH1
  have H2 := Lib.hid h2nd
  have H1 := Lib.hid xH1
  have HB2 := Lib.hid xHB2
  clear h2nd xH1 xHB2 h1 hb2 hlo hhi
  have q0 : (194 : Int) ≤ (s[i].toNat : Int) := by omega
  have q1 : ¬ (s[i].toNat : Int) ≤ 223 := by omega
  have q2 : (224 : Int) ≤ (s[i].toNat : Int) := by omega
  have q3 : ¬ (s[i].toNat : Int) ≤ 239 := by omega
  have q4 : (240 : Int) ≤ (s[i].toNat : Int) := by omega
  have q5 : (s[i].toNat : Int) ≤ 244 := by omega
  clear c
  go_enter Tryd.func77, Tryd.ntmps77
  go_wp2_with fail
  refine (H2.out _).mono ?_
  rintro e w' ⟨rfl, rfl⟩
  go_wp2_with fail
  refine (H1.out _).mono ?_
  rintro e w' ⟨rfl, rfl⟩
  go_wp2_with fail
  refine (HB2.out _).mono ?_
  rintro e w' ⟨rfl, rfl⟩
  go_wp2_with fail
  go_ret2
  exact ⟨rfl, rfl⟩

set_option maxRecDepth 100000 in
set_option maxHeartbeats 2000000 in
theorem char_4h (s : ByteArray) (i : Nat) (h : i < s.size) (w : World) (hs : s.size < 4294967281) (c : 240 ≤ s[i].toNat ∧ s[i].toNat ≤ 244) (h1 : btw (bl s) (i + 1) (loN s[i].toNat) (hiN s[i].toNat) = true) (hb2 : btw (bl s) (i + 2) 128 191 = true) (hb3 : btw (bl s) (i + 3) 128 191 = false) :
    Calls Tryd.prog 77 #[.string s, .int .i64 i] w fun e w' => e = .returned (.tuple #[.int .i64 1, .int .i64 1]) ∧ w = w' := by
  have h2nd : ∀ w, Calls Tryd.prog 97 #[.int .u8 s[i].toNat] w fun e w' => e = .returned (.tuple #[.int .u8 (loN s[i].toNat), .int .u8 (hiN s[i].toNat)]) ∧ w = w' := fun w => second_any _ (UInt8.toNat_lt _) w
  have xH1 := fun w => btw_at s i h hs (loN s[i].toNat) (hiN s[i].toNat) (lo_lt _) (hi_lt _) w
  rw [h1] at xH1
  have xHB2 := fun w => btw_2 s i h hs w
  rw [hb2] at xHB2
  have xHB3 := fun w => btw_3 s i h hs w
  rw [hb3] at xHB3
  obtain ⟨lo, hlo⟩ : ∃ n, loN s[i].toNat = n := ⟨_, rfl⟩
  obtain ⟨hi, hhi⟩ : ∃ n, hiN s[i].toNat = n := ⟨_, rfl⟩
  simp only [hlo, hhi] at h2nd
  simp only [hlo, hhi] at xH1
  have H2 := Lib.hid h2nd
  have H1 := Lib.hid xH1
  have HB2 := Lib.hid xHB2
  have HB3 := Lib.hid xHB3
  clear h2nd xH1 xHB2 xHB3 h1 hb2 hb3 hlo hhi
  have q0 : (194 : Int) ≤ (s[i].toNat : Int) := by omega
  have q1 : ¬ (s[i].toNat : Int) ≤ 223 := by omega
  have q2 : (224 : Int) ≤ (s[i].toNat : Int) := by omega
  have q3 : ¬ (s[i].toNat : Int) ≤ 239 := by omega
  have q4 : (240 : Int) ≤ (s[i].toNat : Int) := by omega
  have q5 : (s[i].toNat : Int) ≤ 244 := by omega
  clear c
  go_enter Tryd.func77, Tryd.ntmps77
  go_wp2_with fail
  refine (H2.out _).mono ?_
  rintro e w' ⟨rfl, rfl⟩
  go_wp2_with fail
  refine (H1.out _).mono ?_
  rintro e w' ⟨rfl, rfl⟩
  go_wp2_with fail
  refine (HB2.out _).mono ?_
  rintro e w' ⟨rfl, rfl⟩
  go_wp2_with fail
  refine (HB3.out _).mono ?_
  rintro e w' ⟨rfl, rfl⟩
  go_wp2_with fail
  go_ret2
  exact ⟨rfl, rfl⟩

set_option maxRecDepth 100000 in
set_option maxHeartbeats 2000000 in
theorem char_1a (s : ByteArray) (i : Nat) (h : i < s.size) (w : World) (hs : s.size < 4294967281) (c : s[i].toNat < 194) :
    Calls Tryd.prog 77 #[.string s, .int .i64 i] w fun e w' => e = .returned (.tuple #[.int .i64 1, .int .i64 1]) ∧ w = w' := by
  have h2nd : ∀ w, Calls Tryd.prog 97 #[.int .u8 s[i].toNat] w fun e w' => e = .returned (.tuple #[.int .u8 (loN s[i].toNat), .int .u8 (hiN s[i].toNat)]) ∧ w = w' := fun w => second_any _ (UInt8.toNat_lt _) w
  obtain ⟨lo, hlo⟩ : ∃ n, loN s[i].toNat = n := ⟨_, rfl⟩
  obtain ⟨hi, hhi⟩ : ∃ n, hiN s[i].toNat = n := ⟨_, rfl⟩
  simp only [hlo, hhi] at h2nd
  have H2 := Lib.hid h2nd
  clear h2nd hlo hhi
  have q0 : ¬ (194 : Int) ≤ (s[i].toNat : Int) := by omega
  have q1 : ¬ (224 : Int) ≤ (s[i].toNat : Int) := by omega
  have q2 : ¬ (240 : Int) ≤ (s[i].toNat : Int) := by omega
  clear c
  go_enter Tryd.func77, Tryd.ntmps77
  go_wp2_with fail
  refine (H2.out _).mono ?_
  rintro e w' ⟨rfl, rfl⟩
  go_wp2_with fail
  go_ret2
  exact ⟨rfl, rfl⟩

set_option maxRecDepth 100000 in
set_option maxHeartbeats 2000000 in
theorem char_1b (s : ByteArray) (i : Nat) (h : i < s.size) (w : World) (hs : s.size < 4294967281) (c : 244 < s[i].toNat) :
    Calls Tryd.prog 77 #[.string s, .int .i64 i] w fun e w' => e = .returned (.tuple #[.int .i64 1, .int .i64 1]) ∧ w = w' := by
  have h2nd : ∀ w, Calls Tryd.prog 97 #[.int .u8 s[i].toNat] w fun e w' => e = .returned (.tuple #[.int .u8 (loN s[i].toNat), .int .u8 (hiN s[i].toNat)]) ∧ w = w' := fun w => second_any _ (UInt8.toNat_lt _) w
  obtain ⟨lo, hlo⟩ : ∃ n, loN s[i].toNat = n := ⟨_, rfl⟩
  obtain ⟨hi, hhi⟩ : ∃ n, hiN s[i].toNat = n := ⟨_, rfl⟩
  simp only [hlo, hhi] at h2nd
  have H2 := Lib.hid h2nd
  clear h2nd hlo hhi
  have q0 : (194 : Int) ≤ (s[i].toNat : Int) := by omega
  have q1 : ¬ (s[i].toNat : Int) ≤ 223 := by omega
  have q2 : (224 : Int) ≤ (s[i].toNat : Int) := by omega
  have q3 : ¬ (s[i].toNat : Int) ≤ 239 := by omega
  have q4 : (240 : Int) ≤ (s[i].toNat : Int) := by omega
  have q5 : ¬ (s[i].toNat : Int) ≤ 244 := by omega
  clear c
  go_enter Tryd.func77, Tryd.ntmps77
  go_wp2_with fail
  refine (H2.out _).mono ?_
  rintro e w' ⟨rfl, rfl⟩
  go_wp2_with fail
  go_ret2
  exact ⟨rfl, rfl⟩

theorem char_any (s : ByteArray) (i : Nat) (h : i < s.size) (w : World) (hs : s.size < 4294967281) :
    Calls Tryd.prog 77 #[.string s, .int .i64 i] w fun e w' => e = .returned (.tuple #[.int .i64 (chL ((bl s).drop i)).1, .int .i64 (chL ((bl s).drop i)).2]) ∧ w = w' := by
  rw [chL_drop s i h]
  by_cases c1 : 194 ≤ s[i].toNat ∧ s[i].toNat ≤ 223
  · rw [if_pos c1]
    cases e1 : btw (bl s) (i + 1) 128 191
    · rw [if_neg (by simp)]; exact char_2f s i h w hs c1 e1
    · rw [if_pos rfl]; exact char_2t s i h w hs c1 e1
  rw [if_neg c1]
  by_cases c2 : 224 ≤ s[i].toNat ∧ s[i].toNat ≤ 239
  · rw [if_pos c2]
    cases e1 : btw (bl s) (i + 1) (loN s[i].toNat) (hiN s[i].toNat)
    · rw [if_neg (by simp)]; exact char_3f s i h w hs c2 e1
    cases e2 : btw (bl s) (i + 2) 128 191
    · rw [if_neg (by simp)]; exact char_3g s i h w hs c2 e1 e2
    · rw [if_pos ⟨rfl, rfl⟩]; exact char_3t s i h w hs c2 e1 e2
  rw [if_neg c2]
  by_cases c3 : 240 ≤ s[i].toNat ∧ s[i].toNat ≤ 244
  · rw [if_pos c3]
    cases e1 : btw (bl s) (i + 1) (loN s[i].toNat) (hiN s[i].toNat)
    · rw [if_neg (by simp)]; exact char_4f s i h w hs c3 e1
    cases e2 : btw (bl s) (i + 2) 128 191
    · rw [if_neg (by simp)]; exact char_4g s i h w hs c3 e1 e2
    cases e3 : btw (bl s) (i + 3) 128 191
    · rw [if_neg (by simp)]; exact char_4h s i h w hs c3 e1 e2 e3
    · rw [if_pos ⟨rfl, rfl, rfl⟩]; exact char_4t s i h w hs c3 e1 e2 e3
  rw [if_neg c3]
  by_cases d1 : s[i].toNat < 194
  · exact char_1a s i h w hs d1
  · exact char_1b s i h w hs (by omega)

theorem tk_at_most {p : UInt8 → Bool} {l : Bs} {k : Nat} {c : UInt8} (h : l[k]? = some c) (hc : p c = false) : tk p l ≤ k := by
  apply Classical.byContradiction
  intro hn
  have := tk_run (p := p) (l := l) (i := k) (by omega) h
  rw [hc] at this; cases this
theorem tk_at_least {p : UInt8 → Bool} {l : Bs} {k : Nat} {c : UInt8} (hk : k ≤ tk p l) (h : l[k]? = some c) (hc : p c = true) : k + 1 ≤ tk p l := by
  apply Classical.byContradiction
  intro hn
  obtain rfl : tk p l = k := by omega
  have := tk_stop h
  rw [hc] at this; cases this

theorem chL_le (l : Bs) (h : l ≠ []) : 1 ≤ (chL l).1 ∧ (chL l).1 ≤ l.length := by
  rw [← (decodeL_ch l).1]
  exact ⟨Lib.decodeL_width l, Lib.decodeL_le l h⟩

set_option maxRecDepth 100000 in
set_option maxHeartbeats 1000000 in
theorem proper_any (s : ByteArray) (w : World) (hs : s.size < 4294967281) :
    Calls Tryd.prog 60 #[.string s] w fun e w' => e = .returned (.bool (Lib.validD (bl s))) ∧ w = w' := by
  obtain ⟨V, hV⟩ : ∃ V, Lib.validD (bl s) = V := ⟨_, rfl⟩
  rw [hV]
  have HV := Lib.hid hV; clear hV
  go_enter Tryd.func60, Tryd.ntmps60
  go_wp2_with fail
  go_loopw [3] (fun i wr => ∃ k : Nat, k ≤ s.size ∧ i = .int .i64 k ∧ Lib.validD ((bl s).drop k) = V ∧ w = wr) (fun i _ => s.size - (intOf i).toNat)
  case atStart => exact ⟨0, by omega, rfl, HV.out, rfl⟩
  case round =>
    obtain ⟨k, hk, rfl, hv, rfl⟩ := hrel
    by_cases hlt : k < s.size
    · have hne : (bl s).drop k ≠ [] := by intro e; have := List.drop_eq_nil_iff.1 e; rw [bl_len] at this; omega
      have hc := validD_cons _ hne
      have hle := chL_le _ hne
      have hg : ((bl s).drop k).getD 0 0 = s[k] := by rw [List.getD_eq_getElem?_getD, List.getElem?_drop, Nat.add_zero, bl_get s k hlt]; rfl
      rw [hv, hg, List.drop_drop] at hc
      rw [drop_len] at hle
      have hch := fun w => char_any s k hlt w hs
      obtain ⟨n, hn⟩ : ∃ n, (chL ((bl s).drop k)).1 = n := ⟨_, rfl⟩
      obtain ⟨u, hu⟩ : ∃ u, (chL ((bl s).drop k)).2 = u := ⟨_, rfl⟩
      simp only [hn, hu] at hch
      rw [hn] at hc hle
      have HCh := Lib.hid hch; have HC := Lib.hid hc; have HLt := Lib.hid hlt
      clear hch hc hn hu hg hne hv
      by_cases h1 : n = 1
      · have q1 : ((n : Int) == 1) = true := by rw [h1]; rfl
        by_cases h2 : 128 ≤ s[k].toNat
        · have q2 : (128 : Int) ≤ (s[k].toNat : Int) := by omega
          have hf : V = false := by have := HC.out; rwa [if_pos ⟨h1, h2⟩] at this
          have HF := Lib.hid hf
          clear h1 h2 hf
          go_wp2_with (go_at_call 77; refine (HCh.out _).mono ?_; rintro e w' ⟨rfl, rfl⟩)
          go_ret
          exact ⟨by rw [HF.out]; rfl, rfl⟩
        · have q2 : ¬ (128 : Int) ≤ (s[k].toNat : Int) := by omega
          have hf : V = Lib.validD ((bl s).drop (k + n)) := by have := HC.out; rwa [if_neg (fun h => h2 h.2)] at this
          have HF := Lib.hid hf
          have hkn : k + n < 4294967281 := by omega
          clear h1 h2 hf
          go_wp2_with (go_at_call 77; refine (HCh.out _).mono ?_; rintro e w' ⟨rfl, rfl⟩)
          exact ⟨⟨k + n, by have := HLt.out; omega, by go_num, HF.out.symm, trivial⟩, by have := HLt.out; simp [intOf]; omega⟩
      · have q1 : ((n : Int) == 1) = false := by rw [← Bool.not_eq_true, beq_iff_eq]; omega
        have hf : V = Lib.validD ((bl s).drop (k + n)) := by have := HC.out; rwa [if_neg (fun h => h1 h.1)] at this
        have HF := Lib.hid hf
        have hkn : k + n < 4294967281 := by omega
        clear h1 hf
        go_wp2_with (go_at_call 77; refine (HCh.out _).mono ?_; rintro e w' ⟨rfl, rfl⟩)
        exact ⟨⟨k + n, by have := HLt.out; omega, by go_num, HF.out.symm, trivial⟩, by have := HLt.out; simp [intOf]; omega⟩
    · rw [List.drop_eq_nil_of_le (by rw [bl_len]; omega)] at hv
      have hf : V = true := by rw [← hv]; rfl
      have HF := Lib.hid hf
      clear hv hf
      go_wp2_with fail
      go_ret
      exact ⟨by rw [HF.out]; rfl, rfl⟩

set_option maxRecDepth 100000 in
set_option maxHeartbeats 1000000 in
theorem refContents_any (s : ByteArray) (w : World) (hs : s.size < 4294967281) :
    Calls Tryd.prog 42 #[.string s] w fun e w' => e = .returned (.int .i64 (conE (bl s))) ∧ w = w' := by
  have hP := fun w => proper_any s w hs
  have hE : conE (bl s) = if Lib.validD (bl s) = false then 1 else if tk notQ (bl s) < s.size then 1 else if 64 < s.size then 4 else 0 := by
    unfold conE; rw [bl_len]; split <;> (try split) <;> rfl
  obtain ⟨V, hV⟩ : ∃ V, Lib.validD (bl s) = V := ⟨_, rfl⟩
  obtain ⟨E, hE2⟩ : ∃ E, conE (bl s) = E := ⟨_, rfl⟩
  rw [hV] at hP hE
  rw [hE2] at hE ⊢
  have HP := Lib.hid hP; have HE := Lib.hid hE
  clear hP hE hV hE2
  cases V
  · have hE := HE.out
    rw [if_pos rfl] at hE
    have HE1 := Lib.hid hE; clear hE
    go_enter Tryd.func42, Tryd.ntmps42
    go_wp2_with (go_at_call 60; refine (HP.out _).mono ?_; rintro e w' ⟨rfl, rfl⟩)
    go_ret
    exact ⟨by rw [HE1.out]; rfl, rfl⟩
  · have hE := HE.out
    rw [if_neg (by simp)] at hE
    have HE1 := Lib.hid hE; clear hE
    go_enter Tryd.func42, Tryd.ntmps42
    go_wp2_with (go_at_call 60; refine (HP.out _).mono ?_; rintro e w' ⟨rfl, rfl⟩)
    go_loopw [4] (fun i wr => ∃ k : Nat, k ≤ s.size ∧ i = .int .i64 k ∧ k ≤ tk notQ (bl s) ∧ w = wr) (fun i _ => s.size - (intOf i).toNat)
    case atStart => exact ⟨0, by omega, rfl, by omega, rfl⟩
    case round =>
      obtain ⟨k, hk, rfl, hv, rfl⟩ := hrel
      have HV := Lib.hid hv; clear hv
      by_cases hlt : k < s.size
      · have hb := bl_get s k hlt
        by_cases h34 : s[k] = 34
        · have q1 : ((s[k].toNat : Int) == 34) = true := by rw [h34]; rfl
          have h1 := tk_at_most (p := notQ) hb (by rw [h34]; decide)
          have hE := HE1.out
          rw [if_pos (by omega)] at hE
          have HE2 := Lib.hid hE
          clear hb h34 h1 hE
          go_wp2_with fail
          go_ret
          exact ⟨by rw [HE2.out]; rfl, rfl⟩
        · have q1 : ((s[k].toNat : Int) == 34) = false := by
            have e34 := u8_eq s[k] 34
            rw [show ((34 : UInt8).toNat : Int) = 34 from rfl] at e34
            rw [← e34]; simpa using h34
          by_cases h10 : s[k] = 10
          · have q2 : ((s[k].toNat : Int) == 10) = true := by rw [h10]; rfl
            have h1 := tk_at_most (p := notQ) hb (by rw [h10]; decide)
            have hE := HE1.out
            rw [if_pos (by omega)] at hE
            have HE2 := Lib.hid hE
            clear hb h34 h10 h1 hE
            go_wp2_with fail
            go_ret
            exact ⟨by rw [HE2.out]; rfl, rfl⟩
          · have q2 : ((s[k].toNat : Int) == 10) = false := by
              have e10 := u8_eq s[k] 10
              rw [show ((10 : UInt8).toNat : Int) = 10 from rfl] at e10
              rw [← e10]; simpa using h10
            have h1 := tk_at_least HV.out hb (by simp [notQ, h34, h10])
            have H1 := Lib.hid h1; have HLt := Lib.hid hlt
            clear hb h34 h10 h1
            go_wp2_with fail
            exact ⟨⟨k + 1, by have := HLt.out; omega, by go_num, H1.out, trivial⟩, by have := HLt.out; simp [intOf]; omega⟩
      · have hE := HE1.out
        rw [if_neg (by have := HV.out; omega)] at hE
        by_cases h64 : 64 < s.size
        · rw [if_pos h64] at hE
          have HE2 := Lib.hid hE
          have h64' : (64 : Int) < (s.size : Int) := by omega
          clear hE h64
          go_wp2_with fail
          go_ret
          exact ⟨by rw [HE2.out]; rfl, rfl⟩
        · rw [if_neg h64] at hE
          have HE2 := Lib.hid hE
          have h64' : ¬ (64 : Int) < (s.size : Int) := by omega
          clear hE h64
          go_wp2_with fail
          go_ret
          exact ⟨by rw [HE2.out]; rfl, rfl⟩

theorem refQuote_any (s : ByteArray) (w : World) (hs : s.size < 4294967281) :
    Calls Tryd.prog 25 #[.string s] w fun e w' => (∃ r : ByteArray, e = .returned (.tuple #[.string r, .int .i64 (conE (bl s))]) ∧ bl r = quoB (bl s)) ∧ w = w' := by
  have hC : ∀ w, Calls Tryd.prog 42 #[.string s] w fun e w' => e = .returned (.int .i64 (conE (bl s))) ∧ w = w' := fun w => refContents_any s w hs
  have hQ : quoB (bl s) = if conE (bl s) = 0 then 34 :: (bl s ++ [34]) else [] := rfl
  rw [hQ]
  obtain ⟨c, hc⟩ : ∃ c, conE (bl s) = c := ⟨_, rfl⟩
  rw [hc] at hC ⊢
  have HC := Lib.hid hC
  clear hC hc hQ
  by_cases h0 : c = 0
  · subst h0
    go_enter Tryd.func25, Tryd.ntmps25
    go_wp2_with (go_at_call 42; refine (HC.out _).mono ?_; rintro e w' ⟨rfl, rfl⟩)
    go_ret2
    exact ⟨⟨_, rfl, by rw [bl_append, bl_append]; rfl⟩, rfl⟩
  · have hb : ((c : Int) != 0) = true := by rw [bne_iff_ne]; omega
    rw [if_neg h0]
    go_enter Tryd.func25, Tryd.ntmps25
    go_wp2_with (go_at_call 42; refine (HC.out _).mono ?_; rintro e w' ⟨rfl, rfl⟩)
    go_ret2
    exact ⟨⟨_, rfl, rfl⟩, rfl⟩
end Go.Proofs.YtolgoojlpmgblaaDoor

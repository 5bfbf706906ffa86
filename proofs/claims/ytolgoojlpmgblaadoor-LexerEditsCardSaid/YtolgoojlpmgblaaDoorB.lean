/- The function lexer.run returns the number of the leading bytes of a class, for each of the five classes of the program. -/
import Derived.Test.YtolgoojlpmgblaaDoorA
import Derived.WalkKit
import Derived.WalkSpells
import Derived.WalkLawsBesides
import Derived.Outline
import Derived.Lib.Hide
namespace Go.Proofs.YtolgoojlpmgblaaDoor
open Go.RowKit

theorem bl_get (s : ByteArray) (n : Nat) (h : n < s.size) : (bl s)[n]? = some s[n] := by
  simp only [bl, Array.getElem?_toList]
  exact Array.getElem?_eq_getElem h
theorem bl_len (s : ByteArray) : (bl s).length = s.size := Array.length_toList
theorem tk_more {p : UInt8 → Bool} {s : ByteArray} {n : Nat} (hn : n ≤ tk p (bl s)) (h : n < s.size) (hp : p s[n] = true) : n + 1 ≤ tk p (bl s) := by
  rcases Nat.lt_or_ge n (tk p (bl s)) with h' | h'
  · omega
  · have e : tk p (bl s) = n := by omega
    have := tk_stop (p := p) (l := bl s) (c := s[n]) (by rw [e]; exact bl_get s n h)
    rw [hp] at this; cases this
theorem tk_end {p : UInt8 → Bool} {s : ByteArray} {n : Nat} (hn : n ≤ tk p (bl s)) (h : n < s.size) (hp : p s[n] = false) : tk p (bl s) = n := by
  rcases Nat.lt_or_ge n (tk p (bl s)) with h' | h'
  · have := tk_run h' (bl_get s n h); rw [hp] at this; cases this
  · omega
theorem tk_out {p : UInt8 → Bool} {s : ByteArray} {n : Nat} (hn : n ≤ tk p (bl s)) (h : ¬ n < s.size) : tk p (bl s) = n := by
  have := tk_le p (bl s); rw [bl_len] at this; omega
theorem ret_int {k : IntKind} {a b : Int} (h : a = b) : Ending.returned (.int k a) = .returned (.int k b) := by rw [h]

theorem run_space (s : ByteArray) (w : World) (hs : s.size ≤ maxLen) :
    Calls Tryd.prog 71 #[.string s, .func (.func 85) #[] #[]] w fun e w' => e = .returned (.int .i64 (tk isSp (bl s))) ∧ w = w' := by
  unfold maxLen at hs
  go_enter Tryd.func71, Tryd.ntmps71
  go_wp2
  go_loop [5] (fun i => ∃ k : Nat, k ≤ tk isSp (bl s) ∧ i = .int .i64 k) (fun i => s.size - (intOf i).toNat)
  case atStart => exact ⟨0, Nat.zero_le _, rfl⟩
  case round =>
    obtain ⟨n, hn, rfl⟩ := hrel
    have HN := Lib.hid hn; clear hn
    by_cases hlt : n < s.size
    · by_cases hp : isSp s[n] = true
      · have HM := Lib.hid (tk_more HN.out hlt hp)
        go_wp2_with (go_at_call 85; refine (space_any _ _).mono ?_; rintro e w' ⟨rfl, rfl⟩)
        go_round
        case rel => exact ⟨n + 1, HM.out, by go_num⟩
        case measure => simp [intOf]; omega
      · have hp' : isSp s[n] = false := by simpa using hp
        have HM := Lib.hid (tk_end HN.out hlt hp'); clear hp
        go_wp2_with (go_at_call 85; refine (space_any _ _).mono ?_; rintro e w' ⟨rfl, rfl⟩)
        go_ret
        exact ⟨ret_int (by rw [HM.out]), rfl⟩
    · have HM := Lib.hid (tk_out HN.out hlt)
      go_wp2
      go_ret
      exact ⟨ret_int (by rw [HM.out]), rfl⟩

theorem run_line (s : ByteArray) (w : World) (hs : s.size ≤ maxLen) :
    Calls Tryd.prog 71 #[.string s, .func (.func 72) #[] #[]] w fun e w' => e = .returned (.int .i64 (tk isLn (bl s))) ∧ w = w' := by
  unfold maxLen at hs
  go_enter Tryd.func71, Tryd.ntmps71
  go_wp2
  go_loop [5] (fun i => ∃ k : Nat, k ≤ tk isLn (bl s) ∧ i = .int .i64 k) (fun i => s.size - (intOf i).toNat)
  case atStart => exact ⟨0, Nat.zero_le _, rfl⟩
  case round =>
    obtain ⟨n, hn, rfl⟩ := hrel
    have HN := Lib.hid hn; clear hn
    by_cases hlt : n < s.size
    · by_cases hp : isLn s[n] = true
      · have HM := Lib.hid (tk_more HN.out hlt hp)
        go_wp2_with (go_at_call 72; refine (line_any _ _).mono ?_; rintro e w' ⟨rfl, rfl⟩)
        go_round
        case rel => exact ⟨n + 1, HM.out, by go_num⟩
        case measure => simp [intOf]; omega
      · have hp' : isLn s[n] = false := by simpa using hp
        have HM := Lib.hid (tk_end HN.out hlt hp'); clear hp
        go_wp2_with (go_at_call 72; refine (line_any _ _).mono ?_; rintro e w' ⟨rfl, rfl⟩)
        go_ret
        exact ⟨ret_int (by rw [HM.out]), rfl⟩
    · have HM := Lib.hid (tk_out HN.out hlt)
      go_wp2
      go_ret
      exact ⟨ret_int (by rw [HM.out]), rfl⟩

theorem run_word (s : ByteArray) (w : World) (hs : s.size ≤ maxLen) :
    Calls Tryd.prog 71 #[.string s, .func (.func 87) #[] #[]] w fun e w' => e = .returned (.int .i64 (tk isWo (bl s))) ∧ w = w' := by
  unfold maxLen at hs
  go_enter Tryd.func71, Tryd.ntmps71
  go_wp2
  go_loop [5] (fun i => ∃ k : Nat, k ≤ tk isWo (bl s) ∧ i = .int .i64 k) (fun i => s.size - (intOf i).toNat)
  case atStart => exact ⟨0, Nat.zero_le _, rfl⟩
  case round =>
    obtain ⟨n, hn, rfl⟩ := hrel
    have HN := Lib.hid hn; clear hn
    by_cases hlt : n < s.size
    · by_cases hp : isWo s[n] = true
      · have HM := Lib.hid (tk_more HN.out hlt hp)
        go_wp2_with (go_at_call 87; refine (word_any _ _).mono ?_; rintro e w' ⟨rfl, rfl⟩)
        go_round
        case rel => exact ⟨n + 1, HM.out, by go_num⟩
        case measure => simp [intOf]; omega
      · have hp' : isWo s[n] = false := by simpa using hp
        have HM := Lib.hid (tk_end HN.out hlt hp'); clear hp
        go_wp2_with (go_at_call 87; refine (word_any _ _).mono ?_; rintro e w' ⟨rfl, rfl⟩)
        go_ret
        exact ⟨ret_int (by rw [HM.out]), rfl⟩
    · have HM := Lib.hid (tk_out HN.out hlt)
      go_wp2
      go_ret
      exact ⟨ret_int (by rw [HM.out]), rfl⟩

theorem run_name (s : ByteArray) (w : World) (hs : s.size ≤ maxLen) :
    Calls Tryd.prog 71 #[.string s, .func (.func 89) #[] #[]] w fun e w' => e = .returned (.int .i64 (tk isNa (bl s))) ∧ w = w' := by
  unfold maxLen at hs
  go_enter Tryd.func71, Tryd.ntmps71
  go_wp2
  go_loop [5] (fun i => ∃ k : Nat, k ≤ tk isNa (bl s) ∧ i = .int .i64 k) (fun i => s.size - (intOf i).toNat)
  case atStart => exact ⟨0, Nat.zero_le _, rfl⟩
  case round =>
    obtain ⟨n, hn, rfl⟩ := hrel
    have HN := Lib.hid hn; clear hn
    by_cases hlt : n < s.size
    · by_cases hp : isNa s[n] = true
      · have HM := Lib.hid (tk_more HN.out hlt hp)
        go_wp2_with (go_at_call 89; refine (name_any _ _).mono ?_; rintro e w' ⟨rfl, rfl⟩)
        go_round
        case rel => exact ⟨n + 1, HM.out, by go_num⟩
        case measure => simp [intOf]; omega
      · have hp' : isNa s[n] = false := by simpa using hp
        have HM := Lib.hid (tk_end HN.out hlt hp'); clear hp
        go_wp2_with (go_at_call 89; refine (name_any _ _).mono ?_; rintro e w' ⟨rfl, rfl⟩)
        go_ret
        exact ⟨ret_int (by rw [HM.out]), rfl⟩
    · have HM := Lib.hid (tk_out HN.out hlt)
      go_wp2
      go_ret
      exact ⟨ret_int (by rw [HM.out]), rfl⟩

theorem run_digit (s : ByteArray) (w : World) (hs : s.size ≤ maxLen) :
    Calls Tryd.prog 71 #[.string s, .func (.func 90) #[] #[]] w fun e w' => e = .returned (.int .i64 (tk isDi (bl s))) ∧ w = w' := by
  unfold maxLen at hs
  go_enter Tryd.func71, Tryd.ntmps71
  go_wp2
  go_loop [5] (fun i => ∃ k : Nat, k ≤ tk isDi (bl s) ∧ i = .int .i64 k) (fun i => s.size - (intOf i).toNat)
  case atStart => exact ⟨0, Nat.zero_le _, rfl⟩
  case round =>
    obtain ⟨n, hn, rfl⟩ := hrel
    have HN := Lib.hid hn; clear hn
    by_cases hlt : n < s.size
    · by_cases hp : isDi s[n] = true
      · have HM := Lib.hid (tk_more HN.out hlt hp)
        go_wp2_with (go_at_call 90; refine (digit_any _ _).mono ?_; rintro e w' ⟨rfl, rfl⟩)
        go_round
        case rel => exact ⟨n + 1, HM.out, by go_num⟩
        case measure => simp [intOf]; omega
      · have hp' : isDi s[n] = false := by simpa using hp
        have HM := Lib.hid (tk_end HN.out hlt hp'); clear hp
        go_wp2_with (go_at_call 90; refine (digit_any _ _).mono ?_; rintro e w' ⟨rfl, rfl⟩)
        go_ret
        exact ⟨ret_int (by rw [HM.out]), rfl⟩
    · have HM := Lib.hid (tk_out HN.out hlt)
      go_wp2
      go_ret
      exact ⟨ret_int (by rw [HM.out]), rfl⟩
end Go.Proofs.YtolgoojlpmgblaaDoor

/- The functions contents, Quote, separator of package lexer, as the plain model has them. -/
import Derived.Test.YtolgoojlpmgblaaDoorS
import Derived.WalkKit
import Derived.WalkSpells
import Derived.WalkLawsBesides
import Derived.Outline
import Derived.Lib.Hide
import Derived.Handy
namespace Go.Proofs.YtolgoojlpmgblaaDoor
open Go.RowKit

/-- The error of the contents of a literal: 0 OK, 1 ErrArg, 4 ErrLimit. -/
def conE (l : Bs) : Nat := if tk notQ l < l.length then 1 else if Lib.validD l = false then 1 else if 64 < l.length then 4 else 0

theorem containsAny_q (s : ByteArray) (w : World) (hs : s.size < 4294967281) :
    Calls Tryd.prog 58 #[.string s, .string { data := #[34, 10] }] w fun e w' => e = .returned (.bool (decide (tk notQ (bl s) < s.size))) ∧ Below w.heap.size w w' := by
  have hC : ∀ w, Calls Tryd.prog 75 #[.string s, .string { data := #[34, 10] }] w fun e w' => e = .returned (.int .i64 (ixQ (bl s))) ∧ Below w.heap.size w w' := fun w => indexAny_q s w hs
  by_cases h : tk notQ (bl s) < s.size
  · have e1 : ixQ (bl s) = (tk notQ (bl s) : Nat) := by unfold ixQ; rw [if_pos (by rw [bl_len]; exact h)]
    rw [e1] at hC
    rw [decide_eq_true h]
    have HC := Lib.hid hC; clear hC e1
    go_enter Tryd.func58, Tryd.ntmps58
    go_wp2_with (go_at_call 75; refine (HC.out _).mono ?_; rintro e w' ⟨rfl, hw⟩)
    go_ret
    exact ⟨by simp, hw⟩
  · have e1 : ixQ (bl s) = -1 := by unfold ixQ; rw [if_neg (by rw [bl_len]; exact h)]
    rw [e1] at hC
    rw [decide_eq_false h]
    have HC := Lib.hid hC; clear hC e1
    go_enter Tryd.func58, Tryd.ntmps58
    go_wp2_with (go_at_call 75; refine (HC.out _).mono ?_; rintro e w' ⟨rfl, hw⟩)
    go_ret
    exact ⟨by simp, hw⟩

theorem valid_any (s : ByteArray) (w : World) (hs : s.size < 4294967281) (hT : Tabs w) :
    Calls Tryd.prog 59 #[.string s] w fun e w' => e = .returned (.bool (Lib.validD (bl s))) ∧ Below w.heap.size w w' :=
  Any.utf8_ValidString Tryd.laysValid s w (by omega) hT.u8

set_option maxHeartbeats 1000000 in
theorem contents_any (s : ByteArray) (w : World) (hs : s.size < 4294967281) (hT : Tabs w) :
    Calls Tryd.prog 41 #[.string s] w fun e w' => e = .returned (.int .i64 (conE (bl s))) ∧ Below w.heap.size w w' := by
  have hc : ∀ w, Calls Tryd.prog 58 #[.string s, .string { data := #[34, 10] }] w fun e w' => e = .returned (.bool (decide (tk notQ (bl s) < s.size))) ∧ Below w.heap.size w w' := fun w => containsAny_q s w hs
  have hv : ∀ w, Tabs w → Calls Tryd.prog 59 #[.string s] w fun e w' => e = .returned (.bool (Lib.validD (bl s))) ∧ Below w.heap.size w w' := fun w h => valid_any s w hs h
  have hE : conE (bl s) = if decide (tk notQ (bl s) < s.size) = true then 1 else if Lib.validD (bl s) = false then 1 else if 64 < s.size then 4 else 0 := by
    unfold conE; rw [bl_len]; simp
  rw [hE]
  obtain ⟨b1, h1⟩ : ∃ b, decide (tk notQ (bl s) < s.size) = b := ⟨_, rfl⟩
  obtain ⟨b2, h2⟩ : ∃ b, Lib.validD (bl s) = b := ⟨_, rfl⟩
  rw [h1] at hc ⊢
  rw [h2] at hv ⊢
  have HC := Lib.hid hc; have HV := Lib.hid hv; have HT := Lib.hid hT
  clear hc hv hT h1 h2 hE
  cases b1 with
  | true =>
    go_enter Tryd.func41, Tryd.ntmps41
    go_wp2_with (go_at_call 58; refine (HC.out _).mono ?_; rintro e w' ⟨rfl, hw⟩)
    go_ret
    exact ⟨rfl, hw⟩
  | false =>
    cases b2 with
    | false =>
      go_enter Tryd.func41, Tryd.ntmps41
      go_wp2_with (first | (go_at_call 58; refine (HC.out _).mono ?_; rintro e w' ⟨rfl, hw⟩) | (go_at_call 59; refine (HV.out _ (HT.out.of_below hw)).mono ?_; rintro e w2 ⟨rfl, hw2⟩))
      go_ret
      exact ⟨rfl, hw.trans (hw2.mono hw.size)⟩
    | true =>
      by_cases h3 : 64 < s.size
      · go_enter Tryd.func41, Tryd.ntmps41
        go_wp2_with (first | (go_at_call 58; refine (HC.out _).mono ?_; rintro e w' ⟨rfl, hw⟩) | (go_at_call 59; refine (HV.out _ (HT.out.of_below hw)).mono ?_; rintro e w2 ⟨rfl, hw2⟩))
        go_ret
        exact ⟨by simp [h3], hw.trans (hw2.mono hw.size)⟩
      · go_enter Tryd.func41, Tryd.ntmps41
        go_wp2_with (first | (go_at_call 58; refine (HC.out _).mono ?_; rintro e w' ⟨rfl, hw⟩) | (go_at_call 59; refine (HV.out _ (HT.out.of_below hw)).mono ?_; rintro e w2 ⟨rfl, hw2⟩))
        go_ret
        exact ⟨by simp [h3], hw.trans (hw2.mono hw.size)⟩
end Go.Proofs.YtolgoojlpmgblaaDoor

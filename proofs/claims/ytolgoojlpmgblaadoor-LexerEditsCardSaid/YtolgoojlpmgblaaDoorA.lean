/- The plain leaf functions of package lexer return what the plain model says, and leave the world as it is. No conditions but those named. -/
import Derived.Test.YtolgoojlpmgblaaDoorRows
import Derived.Test.YtolgoojlpmgblaaDoorLx
import Derived.WalkKit
import Derived.WalkSpells
import Derived.WalkLawsBesides
import Derived.Outline
import Derived.Lib.Hide
namespace Go.Proofs.YtolgoojlpmgblaaDoor
open Go.RowKit

theorem in_any (c lo hi : Int) (w : World) : Calls Tryd.prog 104 #[.int .u8 c, .int .u8 lo, .int .u8 hi] w fun e w' => e = .returned (.bool (decide (lo ≤ c) && decide (c ≤ hi))) ∧ w = w' := by
  go_enter Tryd.func104, Tryd.ntmps104
  go_wp2
  all_goals (go_ret; exact ⟨by simp [*] <;> omega, rfl⟩)

theorem u8_le (a b : UInt8) : decide (a ≤ b) = decide ((a.toNat : Int) ≤ (b.toNat : Int)) := by
  simp [UInt8.le_iff_toNat_le]
theorem digit_eq (c : UInt8) : isDi c = (decide ((48 : Int) ≤ (c.toNat : Int)) && decide ((c.toNat : Int) ≤ 57)) := by
  unfold isDi; rw [u8_le, u8_le]; rfl
theorem lower_eq (c : UInt8) : isLo c = (decide ((97 : Int) ≤ (c.toNat : Int)) && decide ((c.toNat : Int) ≤ 122)) := by
  unfold isLo; rw [u8_le, u8_le]; rfl
theorem upper_eq (c : UInt8) : isUp c = (decide ((65 : Int) ≤ (c.toNat : Int)) && decide ((c.toNat : Int) ≤ 90)) := by
  unfold isUp; rw [u8_le, u8_le]; rfl

theorem digit_any (c : UInt8) (w : World) : Calls Tryd.prog 90 #[.int .u8 c.toNat] w fun e w' => e = .returned (.bool (isDi c)) ∧ w = w' := by
  rw [digit_eq]
  go_enter Tryd.func90, Tryd.ntmps90
  go_wp2_with (go_at_call 104; refine (in_any _ _ _ _).mono ?_; rintro e w' ⟨rfl, rfl⟩)
  go_ret
  exact ⟨rfl, rfl⟩
theorem lower_any (c : UInt8) (w : World) : Calls Tryd.prog 86 #[.int .u8 c.toNat] w fun e w' => e = .returned (.bool (isLo c)) ∧ w = w' := by
  rw [lower_eq]
  go_enter Tryd.func86, Tryd.ntmps86
  go_wp2_with (go_at_call 104; refine (in_any _ _ _ _).mono ?_; rintro e w' ⟨rfl, rfl⟩)
  go_ret
  exact ⟨rfl, rfl⟩
theorem upper_any (c : UInt8) (w : World) : Calls Tryd.prog 88 #[.int .u8 c.toNat] w fun e w' => e = .returned (.bool (isUp c)) ∧ w = w' := by
  rw [upper_eq]
  go_enter Tryd.func88, Tryd.ntmps88
  go_wp2_with (go_at_call 104; refine (in_any _ _ _ _).mono ?_; rintro e w' ⟨rfl, rfl⟩)
  go_ret
  exact ⟨rfl, rfl⟩

theorem u8_eq (a b : UInt8) : (a == b) = ((a.toNat : Int) == (b.toNat : Int)) := by
  rw [Bool.eq_iff_iff, beq_iff_eq, beq_iff_eq, ← UInt8.toNat_inj]; omega
theorem space_eq (c : UInt8) : isSp c = ((c.toNat : Int) == 9 || (c.toNat : Int) == 10 || (c.toNat : Int) == 13 || (c.toNat : Int) == 32) := by
  unfold isSp; rw [u8_eq, u8_eq, u8_eq, u8_eq]; rfl
theorem space_any (c : UInt8) (w : World) : Calls Tryd.prog 85 #[.int .u8 c.toNat] w fun e w' => e = .returned (.bool (isSp c)) ∧ w = w' := by
  rw [space_eq]
  go_enter Tryd.func85, Tryd.ntmps85
  go_wp2
  all_goals (go_ret; exact ⟨by simp [*], rfl⟩)
theorem line_any (c : UInt8) (w : World) : Calls Tryd.prog 72 #[.int .u8 c.toNat] w fun e w' => e = .returned (.bool (isLn c)) ∧ w = w' := by
  have h : isLn c = ((c.toNat : Int) != 10) := by unfold isLn; simp only [bne]; rw [u8_eq]; rfl
  rw [h]
  go_enter Tryd.func72, Tryd.ntmps72
  go_wp2
  all_goals (go_ret; exact ⟨by simp [*], rfl⟩)
theorem word_any (c : UInt8) (w : World) : Calls Tryd.prog 87 #[.int .u8 c.toNat] w fun e w' => e = .returned (.bool (isWo c)) ∧ w = w' := by
  have h : isWo c = (isLo c || isDi c || ((c.toNat : Int) == 95)) := by unfold isWo; rw [u8_eq]; rfl
  rw [h]
  go_enter Tryd.func87, Tryd.ntmps87
  go_wp2_with (first | (go_at_call 86; refine (lower_any _ _).mono ?_; rintro e w' ⟨rfl, rfl⟩) | (go_at_call 90; refine (digit_any _ _).mono ?_; rintro e w' ⟨rfl, rfl⟩))
  all_goals (go_ret; exact ⟨by simp [*], rfl⟩)
theorem name_any (c : UInt8) (w : World) : Calls Tryd.prog 89 #[.int .u8 c.toNat] w fun e w' => e = .returned (.bool (isNa c)) ∧ w = w' := by
  unfold isNa
  go_enter Tryd.func89, Tryd.ntmps89
  go_wp2_with (first | (go_at_call 86; refine (lower_any _ _).mono ?_; rintro e w' ⟨rfl, rfl⟩) | (go_at_call 90; refine (digit_any _ _).mono ?_; rintro e w' ⟨rfl, rfl⟩) | (go_at_call 88; refine (upper_any _ _).mono ?_; rintro e w' ⟨rfl, rfl⟩))
  all_goals (go_ret; exact ⟨by simp [*], rfl⟩)

/-- Of a string: its bytes. -/
abbrev bl (s : ByteArray) : Bs := s.data.toList

end Go.Proofs.YtolgoojlpmgblaaDoor

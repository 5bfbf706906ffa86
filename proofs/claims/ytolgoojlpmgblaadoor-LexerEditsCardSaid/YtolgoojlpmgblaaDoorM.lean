/- The reference's token: the end of the good token at a place, or the place. -/
import Derived.Test.YtolgoojlpmgblaaDoorL
import Derived.WalkKit
import Derived.WalkSpells
import Derived.WalkLawsBesides
import Derived.Outline
import Derived.Lib.Hide
import Derived.Handy
namespace Go.Proofs.YtolgoojlpmgblaaDoor
open Go.RowKit

theorem all256 (P : UInt8 → Bool) (h : (List.range 256).all (fun n => P (UInt8.ofNat n)) = true) (c : UInt8) : P c = true := by
  have := List.all_eq_true.1 h c.toNat (by simpa using c.toNat_lt)
  simpa using this
theorem cls_sp (c : UInt8) : isSp c = decide (clsR c = 0) := by
  have := all256 (fun c => isSp c == decide (clsR c = 0)) (by decide +kernel) c
  simpa using this
theorem cls_wo (c : UInt8) : isWo c = decide (clsR c = 1 ∨ clsR c = 3 ∨ clsR c = 4) := by
  have := all256 (fun c => isWo c == decide (clsR c = 1 ∨ clsR c = 3 ∨ clsR c = 4)) (by decide +kernel) c
  simpa using this
theorem cls_na (c : UInt8) : isNa c = decide (1 ≤ clsR c ∧ clsR c ≤ 3) := by
  have := all256 (fun c => isNa c == decide (1 ≤ clsR c ∧ clsR c ≤ 3)) (by decide +kernel) c
  simpa using this
theorem cls_di (c : UInt8) : isDi c = decide (clsR c = 3) := by
  have := all256 (fun c => isDi c == decide (clsR c = 3)) (by decide +kernel) c
  simpa using this
theorem cls_lo (c : UInt8) : isLo c = decide (clsR c = 1) := by
  have := all256 (fun c => isLo c == decide (clsR c = 1)) (by decide +kernel) c
  simpa using this
theorem cls_up (c : UInt8) : isUp c = decide (clsR c = 2) := by
  have := all256 (fun c => isUp c == decide (clsR c = 2)) (by decide +kernel) c
  simpa using this
theorem cls_5 (c : UInt8) (h : 4 ≤ clsR c) : isSp c = false ∧ isLo c = false ∧ isUp c = false ∧ isDi c = false := by
  rw [cls_sp, cls_lo, cls_up, cls_di]; simp; omega
theorem cls_le (c : UInt8) : clsR c ≤ 5 := by
  have := all256 (fun c => decide (clsR c ≤ 5)) (by decide +kernel) c
  simpa using this
theorem class_is (c : UInt8) (v : Nat) (h : clsR c = v) (w : World) : Calls Tryd.prog 73 #[.int .u8 c.toNat] w fun e w' => e = .returned (.int .i64 v) ∧ w = w' := by
  rw [← h]; exact class_ref c w
theorem tk_first {p : UInt8 → Bool} {s : ByteArray} {a : Nat} (ha : a < s.size) (hp : p s[a] = true) : 1 ≤ tk p ((bl s).drop a) :=
  tkl_more (Nat.zero_le _) (by rw [List.getElem?_drop, Nat.add_zero]; exact bl_get s a ha) hp
theorem drop_cons (s : ByteArray) (a : Nat) (ha : a < s.size) : (bl s).drop a = s[a] :: (bl s).drop (a + 1) := by
  have h := bl_get s a ha
  rw [List.drop_eq_getElem_cons (by rw [bl_len]; exact ha)]
  rw [List.getElem?_eq_getElem (by rw [bl_len]; exact ha)] at h
  rw [Option.some.inj h]

/-- What token returns: the kind counts only where there is a token. -/
def TokR (l : Bs) (a : Nat) (e : Ending) : Prop := ∃ k : Nat, e = .returned (.tuple #[.int .i64 k, .int .i64 (a + (good l).2 : Nat)]) ∧ (0 < (good l).2 → k = (good l).1)

set_option maxHeartbeats 1000000 in
theorem token_sp (s : ByteArray) (a : Nat) (w : World) (hs : s.size < 4294967281) (ha : a < s.size) (hcl : clsR (s[a]'ha) = 0) :
    Calls Tryd.prog 55 #[.string s, .int .i64 a] w fun e w' => TokR ((bl s).drop a) a e ∧ w = w' := by
  have HF := Lib.hid (tk_first (p := isSp) ha (by rw [cls_sp, hcl]; decide))
  have HG : Hid (good ((bl s).drop a) = (0, tk isSp ((bl s).drop a))) := Lib.hid (by
    rw [drop_cons s a ha]
    rw [good_cons, cls_sp, hcl]; rfl)
  have HCl := Lib.hid hcl; clear hcl
  go_enter Tryd.func55, Tryd.ntmps55
  go_wp2_with (go_at_call 73; refine (class_is _ 0 HCl.out _).mono ?_; rintro e w' ⟨rfl, rfl⟩)
  go_loop [7] (fun i => ∃ k : Nat, a + 1 ≤ k ∧ k ≤ s.size ∧ k - a ≤ tk isSp ((bl s).drop a) ∧ i = .int .i64 k) (fun i => s.size - (intOf i).toNat)
  case atStart => exact ⟨a + 1, Nat.le_refl _, ha, by have := HF.out; omega, by go_num⟩
  case round =>
    obtain ⟨k, hk1, hk2, hk3, rfl⟩ := hrel
    have HK := Lib.hid hk3; clear hk3
    by_cases hlt : k < s.size
    · obtain ⟨v, hv⟩ : ∃ v, clsR (s[k]'hlt) = v := ⟨_, rfl⟩
      have HV := Lib.hid hv; clear hv
      by_cases hc : v = 0
      · have q0 : ((v : Int) == 0) = true := by simpa using (by omega : (v : Int) = 0)
        have HC := Lib.hid hc; clear hc
        have HM := Lib.hid (tkl_more (p := isSp) HK.out (drop_get s a k (by omega) hlt) (by rw [cls_sp, HV.out]; simp; have := HC.out; omega))
        go_wp2_with (go_at_call 73; refine (class_is _ v HV.out _).mono ?_; rintro e w' ⟨rfl, rfl⟩)
        go_round
        case rel => exact ⟨k + 1, by omega, by omega, by have := HM.out; omega, by go_num⟩
        case measure => simp [intOf]; omega
      by_cases hc : v ≠ 0
      · have q0 : ((v : Int) == 0) = false := by simpa using (by omega : ¬ (v : Int) = 0)
        have HC := Lib.hid hc; clear hc
        have HM := Lib.hid (tkl_end (p := isSp) HK.out (drop_get s a k (by omega) hlt) (by rw [cls_sp, HV.out]; simp; have := HC.out; omega))
        go_wp2_with (go_at_call 73; refine (class_is _ v HV.out _).mono ?_; rintro e w' ⟨rfl, rfl⟩)
        go_ret2
        exact ⟨⟨0, ret2 rfl (by rw [HG.out]; have := HM.out; simp only; omega), fun _ => by rw [HG.out]⟩, rfl⟩
      omega
    · have HM := Lib.hid (tkl_out (p := isSp) HK.out (by rw [drop_len]; omega))
      go_wp2
      go_ret2
      exact ⟨⟨0, ret2 rfl (by rw [HG.out]; have := HM.out; simp only; omega), fun _ => by rw [HG.out]⟩, rfl⟩

set_option maxHeartbeats 1000000 in
theorem token_di (s : ByteArray) (a : Nat) (w : World) (hs : s.size < 4294967281) (ha : a < s.size) (hcl : clsR (s[a]'ha) = 3) :
    Calls Tryd.prog 55 #[.string s, .int .i64 a] w fun e w' => TokR ((bl s).drop a) a e ∧ w = w' := by
  have HF := Lib.hid (tk_first (p := isDi) ha (by rw [cls_di, hcl]; decide))
  have HG : Hid (good ((bl s).drop a) = (4, tk isDi ((bl s).drop a))) := Lib.hid (by
    rw [drop_cons s a ha]
    have h1 : isSp (s[a]'ha) = false := by rw [cls_sp, hcl]; rfl
    have h2 : isLo (s[a]'ha) = false := by rw [cls_lo, hcl]; rfl
    have h3 : isUp (s[a]'ha) = false := by rw [cls_up, hcl]; rfl
    have h4 : isDi (s[a]'ha) = true := by rw [cls_di, hcl]; rfl
    have h5 : ((s[a]'ha) == 35) = false := by rw [beq_eq_false_iff_ne]; intro e; rw [e] at hcl; exact absurd hcl (by decide)
    rw [good_cons, h1, h2, h3, h4, h5]; rfl)
  have HCl := Lib.hid hcl; clear hcl
  go_enter Tryd.func55, Tryd.ntmps55
  go_wp2_with (go_at_call 73; refine (class_is _ 3 HCl.out _).mono ?_; rintro e w' ⟨rfl, rfl⟩)
  go_loop [7] (fun i => ∃ k : Nat, a + 1 ≤ k ∧ k ≤ s.size ∧ k - a ≤ tk isDi ((bl s).drop a) ∧ i = .int .i64 k) (fun i => s.size - (intOf i).toNat)
  case atStart => exact ⟨a + 1, Nat.le_refl _, ha, by have := HF.out; omega, by go_num⟩
  case round =>
    obtain ⟨k, hk1, hk2, hk3, rfl⟩ := hrel
    have HK := Lib.hid hk3; clear hk3
    by_cases hlt : k < s.size
    · obtain ⟨v, hv⟩ : ∃ v, clsR (s[k]'hlt) = v := ⟨_, rfl⟩
      have HV := Lib.hid hv; clear hv
      by_cases hc : v = 3
      · have q0 : ((v : Int) == 3) = true := by simpa using (by omega : (v : Int) = 3)
        have HC := Lib.hid hc; clear hc
        have HM := Lib.hid (tkl_more (p := isDi) HK.out (drop_get s a k (by omega) hlt) (by rw [cls_di, HV.out]; simp; have := HC.out; omega))
        go_wp2_with (go_at_call 73; refine (class_is _ v HV.out _).mono ?_; rintro e w' ⟨rfl, rfl⟩)
        go_round
        case rel => exact ⟨k + 1, by omega, by omega, by have := HM.out; omega, by go_num⟩
        case measure => simp [intOf]; omega
      by_cases hc : v ≠ 3
      · have q0 : ((v : Int) == 3) = false := by simpa using (by omega : ¬ (v : Int) = 3)
        have HC := Lib.hid hc; clear hc
        have HM := Lib.hid (tkl_end (p := isDi) HK.out (drop_get s a k (by omega) hlt) (by rw [cls_di, HV.out]; simp; have := HC.out; omega))
        go_wp2_with (go_at_call 73; refine (class_is _ v HV.out _).mono ?_; rintro e w' ⟨rfl, rfl⟩)
        go_ret2
        exact ⟨⟨4, ret2 rfl (by rw [HG.out]; have := HM.out; simp only; omega), fun _ => by rw [HG.out]⟩, rfl⟩
      omega
    · have HM := Lib.hid (tkl_out (p := isDi) HK.out (by rw [drop_len]; omega))
      go_wp2
      go_ret2
      exact ⟨⟨4, ret2 rfl (by rw [HG.out]; have := HM.out; simp only; omega), fun _ => by rw [HG.out]⟩, rfl⟩

set_option maxHeartbeats 1000000 in
theorem token_up (s : ByteArray) (a : Nat) (w : World) (hs : s.size < 4294967281) (ha : a < s.size) (hcl : clsR (s[a]'ha) = 2) :
    Calls Tryd.prog 55 #[.string s, .int .i64 a] w fun e w' => TokR ((bl s).drop a) a e ∧ w = w' := by
  have HF := Lib.hid (tk_first (p := isNa) ha (by rw [cls_na, hcl]; decide))
  have HG : Hid (good ((bl s).drop a) = (3, tk isNa ((bl s).drop a))) := Lib.hid (by
    rw [drop_cons s a ha]
    have h1 : isSp (s[a]'ha) = false := by rw [cls_sp, hcl]; rfl
    have h2 : isLo (s[a]'ha) = false := by rw [cls_lo, hcl]; rfl
    have h3 : isUp (s[a]'ha) = true := by rw [cls_up, hcl]; rfl
    have h5 : ((s[a]'ha) == 35) = false := by rw [beq_eq_false_iff_ne]; intro e; rw [e] at hcl; exact absurd hcl (by decide)
    rw [good_cons, h1, h2, h3, h5]; rfl)
  have HCl := Lib.hid hcl; clear hcl
  go_enter Tryd.func55, Tryd.ntmps55
  go_wp2_with (go_at_call 73; refine (class_is _ 2 HCl.out _).mono ?_; rintro e w' ⟨rfl, rfl⟩)
  go_loop [7] (fun i => ∃ k : Nat, a + 1 ≤ k ∧ k ≤ s.size ∧ k - a ≤ tk isNa ((bl s).drop a) ∧ i = .int .i64 k) (fun i => s.size - (intOf i).toNat)
  case atStart => exact ⟨a + 1, Nat.le_refl _, ha, by have := HF.out; omega, by go_num⟩
  case round =>
    obtain ⟨k, hk1, hk2, hk3, rfl⟩ := hrel
    have HK := Lib.hid hk3; clear hk3
    by_cases hlt : k < s.size
    · obtain ⟨v, hv⟩ : ∃ v, clsR (s[k]'hlt) = v := ⟨_, rfl⟩
      have HV := Lib.hid hv; clear hv
      by_cases hc : 1 ≤ v ∧ v ≤ 3
      · have q0 : decide ((1 : Int) ≤ (v : Int)) = true := by simp; omega
        have q1 : decide ((v : Int) ≤ 3) = true := by simp; omega
        have HC := Lib.hid hc; clear hc
        have HM := Lib.hid (tkl_more (p := isNa) HK.out (drop_get s a k (by omega) hlt) (by rw [cls_na, HV.out]; simp; have := HC.out; omega))
        go_wp2_with (go_at_call 73; refine (class_is _ v HV.out _).mono ?_; rintro e w' ⟨rfl, rfl⟩)
        go_round
        case rel => exact ⟨k + 1, by omega, by omega, by have := HM.out; omega, by go_num⟩
        case measure => simp [intOf]; omega
      by_cases hc : v < 1
      · have q0 : decide ((1 : Int) ≤ (v : Int)) = false := by simp; omega
        have HC := Lib.hid hc; clear hc
        have HM := Lib.hid (tkl_end (p := isNa) HK.out (drop_get s a k (by omega) hlt) (by rw [cls_na, HV.out]; simp; have := HC.out; omega))
        go_wp2_with (go_at_call 73; refine (class_is _ v HV.out _).mono ?_; rintro e w' ⟨rfl, rfl⟩)
        go_ret2
        exact ⟨⟨3, ret2 rfl (by rw [HG.out]; have := HM.out; simp only; omega), fun _ => by rw [HG.out]⟩, rfl⟩
      by_cases hc : 3 < v
      · have q0 : decide ((1 : Int) ≤ (v : Int)) = true := by simp; omega
        have q1 : decide ((v : Int) ≤ 3) = false := by simp; omega
        have HC := Lib.hid hc; clear hc
        have HM := Lib.hid (tkl_end (p := isNa) HK.out (drop_get s a k (by omega) hlt) (by rw [cls_na, HV.out]; simp; have := HC.out; omega))
        go_wp2_with (go_at_call 73; refine (class_is _ v HV.out _).mono ?_; rintro e w' ⟨rfl, rfl⟩)
        go_ret2
        exact ⟨⟨3, ret2 rfl (by rw [HG.out]; have := HM.out; simp only; omega), fun _ => by rw [HG.out]⟩, rfl⟩
      omega
    · have HM := Lib.hid (tkl_out (p := isNa) HK.out (by rw [drop_len]; omega))
      go_wp2
      go_ret2
      exact ⟨⟨3, ret2 rfl (by rw [HG.out]; have := HM.out; simp only; omega), fun _ => by rw [HG.out]⟩, rfl⟩
end Go.Proofs.YtolgoojlpmgblaaDoor

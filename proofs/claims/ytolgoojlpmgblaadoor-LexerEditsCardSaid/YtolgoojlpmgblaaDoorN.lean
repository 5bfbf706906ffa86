/- The reference's token at a lower letter, and at what begins no word; then for every byte. -/
import Derived.Test.YtolgoojlpmgblaaDoorM
import Derived.WalkKit
import Derived.WalkSpells
import Derived.WalkLawsBesides
import Derived.Outline
import Derived.Lib.Hide
import Derived.Handy
namespace Go.Proofs.YtolgoojlpmgblaaDoor
open Go.RowKit

set_option maxHeartbeats 2000000 in
theorem token_lo (s : ByteArray) (a : Nat) (w : World) (hs : s.size < 4294967281) (ha : a < s.size) (hcl : clsR (s[a]'ha) = 1) :
    Calls Tryd.prog 55 #[.string s, .int .i64 a] w fun e w' => TokR ((bl s).drop a) a e ∧ Below w.heap.size w w' := by
  have HF := Lib.hid (tk_first (p := isWo) ha (by rw [cls_wo, hcl]; decide))
  have HG : Hid (good ((bl s).drop a) = (if isKw (((bl s).drop a).take (tk isWo ((bl s).drop a))) then 7 else 2, tk isWo ((bl s).drop a))) := Lib.hid (by
    rw [drop_cons s a ha]
    have h1 : isSp (s[a]'ha) = false := by rw [cls_sp, hcl]; rfl
    have h2 : isLo (s[a]'ha) = true := by rw [cls_lo, hcl]; rfl
    have h5 : ((s[a]'ha) == 35) = false := by rw [beq_eq_false_iff_ne]; intro e; rw [e] at hcl; exact absurd hcl (by decide)
    rw [good_cons, h1, h2, h5]; rfl)
  have HCl := Lib.hid hcl; clear hcl
  go_enter Tryd.func55, Tryd.ntmps55
  go_wp2_with (go_at_call 73; refine (class_is _ 1 HCl.out _).mono ?_; rintro e w' ⟨rfl, rfl⟩)
  go_loop [7] (fun i => ∃ k : Nat, a + 1 ≤ k ∧ k ≤ s.size ∧ k - a ≤ tk isWo ((bl s).drop a) ∧ i = .int .i64 k) (fun i => s.size - (intOf i).toNat)
  case atStart => exact ⟨a + 1, Nat.le_refl _, ha, by have := HF.out; omega, by go_num⟩
  case round =>
    obtain ⟨k, hk1, hk2, hk3, rfl⟩ := hrel
    have HK := Lib.hid hk3; clear hk3
    by_cases hlt : k < s.size
    · obtain ⟨v, hv⟩ : ∃ v, clsR (s[k]'hlt) = v := ⟨_, rfl⟩
      have HV := Lib.hid hv; clear hv
      by_cases hc : v = 1
      · have q0 : ((v : Int) == 1) = true := by simpa using (by omega : (v : Int) = 1)
        have HC := Lib.hid hc; clear hc
        have HM := Lib.hid (tkl_more (p := isWo) HK.out (drop_get s a k (by omega) hlt) (by rw [cls_wo, HV.out]; simp; have := HC.out; omega))
        go_wp2_with (go_at_call 73; refine (class_is _ v HV.out _).mono ?_; rintro e w' ⟨rfl, rfl⟩)
        go_round
        case rel => exact ⟨k + 1, by omega, by omega, by have := HM.out; omega, by go_num⟩
        case measure => simp [intOf]; omega
      by_cases hc : v = 3
      · have q0 : ((v : Int) == 1) = false := by simpa using (by omega : ¬ (v : Int) = 1)
        have q1 : ((v : Int) == 3) = true := by simpa using (by omega : (v : Int) = 3)
        have HC := Lib.hid hc; clear hc
        have HM := Lib.hid (tkl_more (p := isWo) HK.out (drop_get s a k (by omega) hlt) (by rw [cls_wo, HV.out]; simp; have := HC.out; omega))
        go_wp2_with (go_at_call 73; refine (class_is _ v HV.out _).mono ?_; rintro e w' ⟨rfl, rfl⟩)
        go_round
        case rel => exact ⟨k + 1, by omega, by omega, by have := HM.out; omega, by go_num⟩
        case measure => simp [intOf]; omega
      by_cases hc : v = 4
      · have q0 : ((v : Int) == 1) = false := by simpa using (by omega : ¬ (v : Int) = 1)
        have q1 : ((v : Int) == 3) = false := by simpa using (by omega : ¬ (v : Int) = 3)
        have q2 : ((v : Int) == 4) = true := by simpa using (by omega : (v : Int) = 4)
        have HC := Lib.hid hc; clear hc
        have HM := Lib.hid (tkl_more (p := isWo) HK.out (drop_get s a k (by omega) hlt) (by rw [cls_wo, HV.out]; simp; have := HC.out; omega))
        go_wp2_with (go_at_call 73; refine (class_is _ v HV.out _).mono ?_; rintro e w' ⟨rfl, rfl⟩)
        go_round
        case rel => exact ⟨k + 1, by omega, by omega, by have := HM.out; omega, by go_num⟩
        case measure => simp [intOf]; omega
      by_cases hc : v ≠ 1 ∧ v ≠ 3 ∧ v ≠ 4
      · have q0 : ((v : Int) == 1) = false := by simpa using (by omega : ¬ (v : Int) = 1)
        have q1 : ((v : Int) == 3) = false := by simpa using (by omega : ¬ (v : Int) = 3)
        have q2 : ((v : Int) == 4) = false := by simpa using (by omega : ¬ (v : Int) = 4)
        have HC := Lib.hid hc; clear hc
        have HM := Lib.hid (tkl_end (p := isWo) HK.out (drop_get s a k (by omega) hlt) (by rw [cls_wo, HV.out]; simp; have := HC.out; omega))
        have hlen : k - a = tk isWo ((bl s).drop a) := by have := HM.out; omega
        obtain ⟨b, hb⟩ : ∃ b, isKw (bl (s.extract a k)) = b := ⟨_, rfl⟩
        have hG : good ((bl s).drop a) = (if b = true then 7 else 2, k - a) := by
          rw [HG.out, ← hb, bl_extract, hlen]
        have hkw : ∀ w, Calls Tryd.prog 33 #[.string (s.extract a k)] w fun e w' => e = .returned (.bool b) ∧ Below w.heap.size w w' := by
          intro w
          have := keyword_ref (s.extract a k) w
          rwa [hb] at this
        have HKW := Lib.hid hkw; have HG2 := Lib.hid hG
        clear hkw hG hb hlen
        cases b with
        | true =>
          go_wp2_with (first | (go_at_call 73; refine (class_is _ v HV.out _).mono ?_; rintro e w' ⟨rfl, rfl⟩) | (go_at_call 33; refine (HKW.out _).mono ?_; rintro e w' ⟨rfl, hw⟩))
          go_ret2
          exact ⟨⟨7, ret2 rfl (by rw [HG2.out]; simp only; omega), fun _ => by rw [HG2.out]; rfl⟩, hw⟩
        | false =>
          go_wp2_with (first | (go_at_call 73; refine (class_is _ v HV.out _).mono ?_; rintro e w' ⟨rfl, rfl⟩) | (go_at_call 33; refine (HKW.out _).mono ?_; rintro e w' ⟨rfl, hw⟩))
          go_ret2
          exact ⟨⟨2, ret2 rfl (by rw [HG2.out]; simp only; omega), fun _ => by rw [HG2.out]; rfl⟩, hw⟩
      omega
    · have HM := Lib.hid (tkl_out (p := isWo) HK.out (by rw [drop_len]; omega))
      have hlen : k - a = tk isWo ((bl s).drop a) := by have := HM.out; omega
      obtain ⟨b, hb⟩ : ∃ b, isKw (bl (s.extract a k)) = b := ⟨_, rfl⟩
      have hG : good ((bl s).drop a) = (if b = true then 7 else 2, k - a) := by
        rw [HG.out, ← hb, bl_extract, hlen]
      have hkw : ∀ w, Calls Tryd.prog 33 #[.string (s.extract a k)] w fun e w' => e = .returned (.bool b) ∧ Below w.heap.size w w' := by
        intro w
        have := keyword_ref (s.extract a k) w
        rwa [hb] at this
      have HKW := Lib.hid hkw; have HG2 := Lib.hid hG
      clear hkw hG hb hlen
      cases b with
      | true =>
        go_wp2_with (first | (go_at_call 33; refine (HKW.out _).mono ?_; rintro e w' ⟨rfl, hw⟩))
        go_ret2
        exact ⟨⟨7, ret2 rfl (by rw [HG2.out]; simp only; omega), fun _ => by rw [HG2.out]; rfl⟩, hw⟩
      | false =>
        go_wp2_with (first | (go_at_call 33; refine (HKW.out _).mono ?_; rintro e w' ⟨rfl, hw⟩))
        go_ret2
        exact ⟨⟨2, ret2 rfl (by rw [HG2.out]; simp only; omega), fun _ => by rw [HG2.out]; rfl⟩, hw⟩

/-- The rest of the bytes: the comment, the text, the symbol. -/
theorem good_rest (s : ByteArray) (a : Nat) (ha : a < s.size) (hcl : 4 ≤ clsR (s[a]'ha)) :
    good ((bl s).drop a) = if (((s[a]'ha).toNat : Int) == 35) = true then (1, tk isLn ((bl s).drop a)) else if (((s[a]'ha).toNat : Int) == 34) = true then (5, quo ((bl s).drop (a + 1))) else (6, sym ((bl s).drop a)) := by
  obtain ⟨h1, h2, h3, h4⟩ := cls_5 _ hcl
  have e35 := u8_eq (s[a]'ha) 35
  rw [show ((35 : UInt8).toNat : Int) = 35 from rfl] at e35
  have e34 := u8_eq (s[a]'ha) 34
  rw [show ((34 : UInt8).toNat : Int) = 34 from rfl] at e34
  rw [← e35, ← e34, drop_cons s a ha, good_cons, h1, h2, h3, h4]
  simp only [Bool.false_eq_true, if_false]

set_option maxHeartbeats 2000000 in
theorem token_comment (s : ByteArray) (a : Nat) (w : World) (hs : s.size < 4294967281) (ha : a < s.size) (hcl : 4 ≤ clsR (s[a]'ha)) (h35 : (((s[a]'ha).toNat : Int) == 35) = true) :
    Calls Tryd.prog 55 #[.string s, .int .i64 a] w fun e w' => TokR ((bl s).drop a) a e ∧ w = w' := by
  have HG := Lib.hid (good_rest s a ha hcl)
  have hm : s.size ≤ maxLen := by unfold maxLen; omega
  have HM := Lib.hid hm; clear hm
  have HC := Lib.hid hcl
  obtain ⟨v, hv⟩ : ∃ v, clsR (s[a]'ha) = v := ⟨_, rfl⟩
  rw [hv] at hcl
  have HV := Lib.hid hv; clear hv
  have q0 : ((v : Int) == 0) = false := by simpa using (by omega : ¬ (v : Int) = 0)
  have q1 : ((v : Int) == 1) = false := by simpa using (by omega : ¬ (v : Int) = 1)
  have q2 : ((v : Int) == 2) = false := by simpa using (by omega : ¬ (v : Int) = 2)
  have q3 : ((v : Int) == 3) = false := by simpa using (by omega : ¬ (v : Int) = 3)
  go_enter Tryd.func55, Tryd.ntmps55
  go_wp2_with (first | (go_at_call 73; refine (class_is _ v HV.out _).mono ?_; rintro e w' ⟨rfl, rfl⟩) | (go_at_call 56; refine (line_ref s a _ HM.out (by omega)).mono ?_; rintro e w' ⟨rfl, rfl⟩))
  go_ret2
  exact ⟨⟨1, ret2 rfl (by rw [HG.out, if_pos h35]; rfl), fun _ => by rw [HG.out, if_pos h35]⟩, rfl⟩

set_option maxHeartbeats 2000000 in
theorem token_symbol (s : ByteArray) (a : Nat) (w : World) (hs : s.size < 4294967281) (ha : a < s.size) (hcl : 4 ≤ clsR (s[a]'ha)) (h35 : (((s[a]'ha).toNat : Int) == 35) = false) (h34 : (((s[a]'ha).toNat : Int) == 34) = false) :
    Calls Tryd.prog 55 #[.string s, .int .i64 a] w fun e w' => TokR ((bl s).drop a) a e ∧ Below w.heap.size w w' := by
  have hG := good_rest s a ha hcl
  rw [h35, h34] at hG
  simp only [Bool.false_eq_true, if_false] at hG
  have hle := sym_le2 ((bl s).drop a)
  have hsym : ∀ w, Calls Tryd.prog 74 #[.string s, .int .i64 a] w fun e w' => e = .returned (.int .i64 (sym ((bl s).drop a))) ∧ Below w.heap.size w w' := fun w => symbol_ref s a w (by omega) ha
  obtain ⟨n, hn⟩ : ∃ n, sym ((bl s).drop a) = n := ⟨_, rfl⟩
  rw [hn] at hG hle hsym
  have HG := Lib.hid hG; have HS := Lib.hid hsym
  clear hG hsym hn
  obtain ⟨v, hv⟩ : ∃ v, clsR (s[a]'ha) = v := ⟨_, rfl⟩
  rw [hv] at hcl
  have HV := Lib.hid hv; clear hv
  have q0 : ((v : Int) == 0) = false := by simpa using (by omega : ¬ (v : Int) = 0)
  have q1 : ((v : Int) == 1) = false := by simpa using (by omega : ¬ (v : Int) = 1)
  have q2 : ((v : Int) == 2) = false := by simpa using (by omega : ¬ (v : Int) = 2)
  have q3 : ((v : Int) == 3) = false := by simpa using (by omega : ¬ (v : Int) = 3)
  go_enter Tryd.func55, Tryd.ntmps55
  go_wp2_with (first | (go_at_call 73; refine (class_is _ v HV.out _).mono ?_; rintro e w' ⟨rfl, rfl⟩) | (go_at_call 74; refine (HS.out _).mono ?_; rintro e w' ⟨rfl, hw⟩))
  go_ret2
  exact ⟨⟨6, ret2 rfl (by rw [HG.out]; simp only; omega), fun _ => by rw [HG.out]⟩, hw⟩
end Go.Proofs.YtolgoojlpmgblaaDoor

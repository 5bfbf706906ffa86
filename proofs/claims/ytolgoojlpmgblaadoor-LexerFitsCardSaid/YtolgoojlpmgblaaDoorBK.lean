/- The reference's small, at digits: the number is at most 2^40. -/
import Derived.Test.YtolgoojlpmgblaaDoorLxF
import Derived.WalkKit
import Derived.WalkSpells
import Derived.WalkLawsBesides
import Derived.Outline
import Derived.Lib.Hide
import Derived.Handy
namespace Go.Proofs.YtolgoojlpmgblaaDoor
open Go.RowKit

theorem numL_le_take (l : Bs) (k : Nat) : numL 0 (l.take k) ≤ numL 0 l := by
  have h : numL 0 l = numL (numL 0 (l.take k)) (l.drop k) := by
    unfold numL
    rw [← List.foldl_append, List.take_append_drop]
  rw [h]
  exact numL_ge _ _

set_option maxHeartbeats 1000000 in
theorem small_any (s : ByteArray) (w : World) (hs : s.size < 4294967281) (hd : ∀ c ∈ bl s, isDi c = true) :
    Calls Tryd.prog 52 #[.string s] w fun e w' => e = .returned (.bool (decide (numL 0 (bl s) ≤ 1099511627776))) ∧ w = w' := by
  obtain ⟨R, hR⟩ : ∃ R, decide (numL 0 (bl s) ≤ 1099511627776) = R := ⟨_, rfl⟩
  rw [hR]
  have HD := Lib.hid hd; have HR := Lib.hid hR
  clear hd hR
  go_enter Tryd.func52, Tryd.ntmps52
  go_wp2_with fail
  go_loopw [3, 4] (fun n i wr => ∃ k : Nat, k ≤ s.size ∧ i = .int .i64 k ∧ n = .int .i64 (numL 0 ((bl s).take k)) ∧ numL 0 ((bl s).take k) ≤ 1099511627776 ∧ w = wr) (fun _ i _ => s.size - (intOf i).toNat)
  case atStart => exact ⟨0, by omega, rfl, rfl, by simp [numL], rfl⟩
  case round =>
    obtain ⟨k, hk, rfl, rfl, hle, rfl⟩ := hrel
    by_cases hlt : k < s.size
    · have hb := bl_get s k hlt
      have hr := di_range _ (HD.out _ (List.mem_of_getElem? hb))
      have hst : numL 0 ((bl s).take (k + 1)) = numL 0 ((bl s).take k) * 10 + (s[k].toNat - 48) := by
        rw [List.take_add_one, hb, Option.toList_some, numL_snoc]
      have HSt := Lib.hid hst; have HLt := Lib.hid hlt
      obtain ⟨n, hn⟩ : ∃ n, numL 0 ((bl s).take k) = n := ⟨_, rfl⟩
      rw [hn] at hle ⊢
      have HN := Lib.hid hn
      obtain ⟨h48, h57⟩ := hr
      have hw1 : IntKind.i64.wrap (10 * (n : Int)) = 10 * (n : Int) := IntWalk.i64_in _ (by omega)
      clear hb hst hn
      by_cases hgt : 10 * n + (s[k].toNat - 48) ≤ 1099511627776
      · have hgt' : ¬ (1099511627776 : Int) < 10 * (n : Int) + ((s[k].toNat : Int) - 48) := by omega
        go_wp2_with fail
        have hlt := HLt.out
        have hst := HSt.out
        rw [HN.out] at hst
        refine ⟨⟨k + 1, by omega, by go_num, ?_, by rw [hst]; omega, trivial⟩, by simp [intOf]; omega⟩
        rw [hst, show ((n * 10 + (s[k].toNat - 48) : Nat) : Int) = 10 * (n : Int) + ((s[k].toNat : Int) - 48) by omega]
      · have hgt' : (1099511627776 : Int) < 10 * (n : Int) + ((s[k].toNat : Int) - 48) := by omega
        have hf : R = false := by
          have h1 := numL_le_take (bl s) (k + 1)
          rw [HSt.out, HN.out] at h1
          rw [← HR.out]
          simp only [decide_eq_false_iff_not]
          omega
        have HF := Lib.hid hf
        clear hf hgt
        go_wp2_with fail
        go_ret
        exact ⟨by rw [HF.out]; rfl, rfl⟩
    · have hf : R = true := by
        rw [List.take_of_length_le (by rw [bl_len]; omega)] at hle
        rw [← HR.out]; simpa using hle
      have HF := Lib.hid hf
      clear hf
      go_wp2_with fail
      go_ret
      exact ⟨by rw [HF.out]; rfl, rfl⟩
end Go.Proofs.YtolgoojlpmgblaaDoor

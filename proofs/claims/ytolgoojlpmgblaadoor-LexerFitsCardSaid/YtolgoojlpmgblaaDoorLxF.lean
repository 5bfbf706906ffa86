/- Plain laws for Fits: what digits spell, and when a token is within its limits. -/
import Derived.Test.YtolgoojlpmgblaaDoorLxD
import Derived.Lib.AtoiAll
namespace Go.Proofs.YtolgoojlpmgblaaDoor

/-- What digits spell behind what was spelt before. -/
def numL (acc : Nat) (l : Bs) : Nat := l.foldl (fun a c => a * 10 + (c.toNat - 48)) acc
theorem numL_nil (acc : Nat) : numL acc [] = acc := by unfold numL; rw [List.foldl_nil]
theorem numL_cons (acc : Nat) (c : UInt8) (t : Bs) : numL acc (c :: t) = numL (acc * 10 + (c.toNat - 48)) t := by unfold numL; rw [List.foldl_cons]
theorem numL_ge (l : Bs) : ∀ acc : Nat, acc ≤ numL acc l := by
  induction l with
  | nil => intro acc; rw [numL_nil]; exact Nat.le_refl _
  | cons c t ih =>
    intro acc
    have := ih (acc * 10 + (c.toNat - 48))
    rw [numL_cons]; omega
theorem numL_snoc (l : Bs) (c : UInt8) (acc : Nat) : numL acc (l ++ [c]) = numL acc l * 10 + (c.toNat - 48) := by
  simp [numL]

theorem di_range (c : UInt8) (h : isDi c = true) : 48 ≤ c.toNat ∧ c.toNat ≤ 57 := by
  simp only [isDi, Bool.and_eq_true, decide_eq_true_eq] at h
  have h1 := UInt8.le_iff_toNat_le.1 h.1
  have h2 := UInt8.le_iff_toNat_le.1 h.2
  rw [show (48 : UInt8).toNat = 48 from rfl] at h1
  rw [show (57 : UInt8).toNat = 57 from rfl] at h2
  exact ⟨h1, h2⟩

theorem parse_num : ∀ (l : Bs) (acc : Nat), (∀ c ∈ l, isDi c = true) → (Lib.parseUint10 acc l = .ok (numL acc l)) ∨ (Lib.parseUint10 acc l = .range ∧ 18446744073709551616 ≤ numL acc l)
  | [], acc, _ => .inl rfl
  | c :: t, acc, h => by
    have hc := di_range c (h c (by simp))
    rw [Lib.parseUint10, if_pos hc, numL_cons]
    by_cases h1 : 1844674407370955162 ≤ acc
    · rw [if_pos h1]
      have := numL_ge t (acc * 10 + (c.toNat - 48))
      exact .inr ⟨rfl, by omega⟩
    · rw [if_neg h1]
      by_cases h2 : 18446744073709551616 ≤ acc * 10 + (c.toNat - 48)
      · rw [if_pos h2]
        have := numL_ge t (acc * 10 + (c.toNat - 48))
        exact .inr ⟨rfl, by omega⟩
      · rw [if_neg h2]
        exact parse_num t _ (fun d hd => h d (by simp [hd]))

/-- How Atoi ends at digits alone. -/
theorem atoi_digits (l : Bs) (hne : l ≠ []) (h : ∀ c ∈ l, isDi c = true) :
    (Lib.atoiAll l = .ok (numL 0 l : Nat) ∧ numL 0 l < 9223372036854775808) ∨ (Lib.atoiAll l = .range ∧ 9223372036854775808 ≤ numL 0 l) := by
  match l, hne with
  | c :: t, _ =>
    have hc := di_range c (h c (by simp))
    have h45 : ¬ c.toNat = 45 := by omega
    have h43 : ¬ c.toNat = 43 := by omega
    unfold Lib.atoiAll Lib.parseMag
    simp only [h43, h45, or_false, not_false_eq_true, true_and, false_and, if_false, reduceCtorEq]
    rcases parse_num (c :: t) 0 h with e | ⟨e, hr⟩
    · rw [e]
      by_cases hb : 9223372036854775808 ≤ numL 0 (c :: t)
      · right
        simp only [hb, if_true, and_self]
      · left
        simp only [hb, if_false, true_and]
        omega
    · rw [e]
      exact .inr ⟨rfl, by omega⟩

/-- Is the token within its limits? (kind: the number that the caller states) -/
def fitsB (kind : Int) (l : Bs) : Bool :=
  decide (l ≠ []) && decide ((nxt l).2 = l.length) && decide (((nxt l).1 : Int) = kind) &&
    (if (nxt l).1 = 2 ∨ (nxt l).1 = 3 then decide (l.length ≤ 16)
     else if (nxt l).1 = 4 then decide (numL 0 l ≤ 1099511627776)
     else if (nxt l).1 = 5 then decide (conE (inner l) = 0)
     else decide ((nxt l).1 ≠ 8))

theorem four_digits (l : Bs) (h4 : (nxt l).1 = 4) (he : (nxt l).2 = l.length) : ∀ c ∈ l, isDi c = true := by
  match l with
  | [] => intro c hc; cases hc
  | c :: t =>
    have hd : tk isDi (c :: t) = (c :: t).length := by
      rw [nxt_cons] at h4 he
      split at h4
      · rename_i hp
        rw [if_pos hp] at he
        rw [good_cons] at h4 he
        split at h4; · simp at h4
        split at h4; · simp at h4
        split at h4
        · simp only at h4
          split at h4 <;> simp at h4
        split at h4; · simp at h4
        split at h4
        · rename_i h1 h2 h3 h4' h5
          simpa only [h1, h2, h3, h4', h5, if_true, if_false, Bool.false_eq_true] using he
        split at h4 <;> simp at h4
      · split at h4 <;> simp at h4
    intro d hdm
    obtain ⟨k, hk⟩ := List.mem_iff_getElem?.1 hdm
    have hkl := (List.getElem?_eq_some_iff.1 hk).1
    exact tk_run (p := isDi) (l := c :: t) (i := k) (by omega) hk
end Go.Proofs.YtolgoojlpmgblaaDoor

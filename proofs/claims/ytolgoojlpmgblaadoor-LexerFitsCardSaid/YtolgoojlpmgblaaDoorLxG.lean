/- Plain law: a token of a text is a keyword by its text just if it is of the kind Keyword. -/
import Derived.Test.YtolgoojlpmgblaaDoorLxF
namespace Go.Proofs.YtolgoojlpmgblaaDoor

theorem kws_lower : ∀ x ∈ kws, ∃ c t, x = c :: t ∧ isLo c = true := by
  intro x hx
  have h : (kws.all fun x => match x with | [] => false | c :: _ => isLo c) = true := by decide
  rw [List.all_eq_true] at h
  have := h x hx
  match x, this with
  | c :: t, h => exact ⟨c, t, rfl, h⟩

theorem kw_kind (l : Bs) (hne : l ≠ []) (he : (nxt l).2 = l.length) : isKw l = decide ((nxt l).1 = 7) := by
  match l, hne with
  | c :: t, _ =>
    by_cases hlo : isLo c = true
    · have hsp : isSp c = false := by
        rw [← Bool.not_eq_true]; intro h
        simp only [isSp, Bool.or_eq_true, beq_iff_eq] at h
        rcases h with ((h | h) | h) | h <;> subst h <;> simp [isLo] at hlo
      have h35 : (c == 35) = false := by
        rw [← Bool.not_eq_true]; intro h
        obtain rfl : c = 35 := by simpa using h
        simp [isLo] at hlo
      have hg : good (c :: t) = (if isKw ((c :: t).take (tk isWo (c :: t))) then 7 else 2, tk isWo (c :: t)) := by
        rw [good_cons]; simp only [hsp, h35, hlo, if_true, Bool.false_eq_true, if_false]
      have hp := good_pos c t (.inr (.inr (.inl hlo)))
      rw [nxt_good c t hp, hg] at he ⊢
      simp only at he
      rw [he, List.take_length]
      cases isKw (c :: t) <;> simp
    · have h1 : isKw (c :: t) = false := by
        rw [← Bool.not_eq_true]
        intro h
        obtain ⟨d, u, e, hd⟩ := kws_lower _ (List.contains_iff_mem.1 h)
        cases e
        exact hlo hd
      rw [h1]
      symm
      rw [decide_eq_false_iff_not]
      intro h7
      rw [nxt_cons] at h7
      split at h7
      · rw [good_cons] at h7
        simp only [hlo, Bool.false_eq_true, if_false] at h7
        split at h7; · simp at h7
        split at h7; · simp at h7
        split at h7; · simp at h7
        split at h7; · simp at h7
        split at h7 <;> simp at h7
      · split at h7 <;> simp at h7
end Go.Proofs.YtolgoojlpmgblaaDoor

/- Plain laws for the edits: a token begins at a character's beginning; the tokens of a beginning and of the rest; a byte 10 put in at a token's beginning. -/
import Derived.Test.YtolgoojlpmgblaaDoorLxD
import Derived.Test.YtolgoojlpmgblaaDoorBD
namespace Go.Proofs.YtolgoojlpmgblaaDoor

/-! ### The tokens of a beginning, and of the rest. -/
theorem pre_cons (x : Tok) (ts : List Tok) (k : Nat) : pre (x :: ts) (k + 1) = x.text ++ pre ts k := by simp [pre]
theorem pre_none (ts : List Tok) : pre ts 0 = [] := by simp [pre]

theorem toks_drop (l : Bs) (a : Nat) : ∀ k, k ≤ (toks l a).length → toks (l.drop (pre (toks l a) k).length) (a + (pre (toks l a) k).length) = (toks l a).drop k := by
  refine toks_ind (P := fun l a ts => ∀ k, k ≤ ts.length → toks (l.drop (pre ts k).length) (a + (pre ts k).length) = ts.drop k) ?_ ?_ l a
  · intro a k hk
    have : k = 0 := by simpa using hk
    subst this
    simp [pre, toks_nil]
  · intro l a hl ih k hk
    have hle := nxt_le l
    cases k with
    | zero => rw [pre_none]; simp only [List.length_nil, List.drop_zero, Nat.add_zero]; exact toks_cons l a hl
    | succ k =>
      have := ih k (by simpa using hk)
      rw [pre_cons, List.drop_succ_cons, ← this, List.length_append, List.length_take, Nat.min_eq_left hle, List.drop_drop, Nat.add_assoc]

theorem toks_take (l : Bs) (a : Nat) : ∀ k, k ≤ (toks l a).length → toks (l.take (pre (toks l a) k).length) a = (toks l a).take k := by
  refine toks_ind (P := fun l a ts => ∀ k, k ≤ ts.length → toks (l.take (pre ts k).length) a = ts.take k) ?_ ?_ l a
  · intro a k hk
    simp [toks_nil]
  · intro l a hl ih k hk
    have hle := nxt_le l
    have hpos := nxt_pos l hl
    cases k with
    | zero => rw [pre_none]; simp [toks_nil]
    | succ k =>
      have hi := ih k (by simpa using hk)
      rw [pre_cons, List.take_succ_cons, List.length_append, List.length_take, Nat.min_eq_left hle]
      obtain ⟨m, hm⟩ : ∃ m, (pre (toks (l.drop (nxt l).2) (a + (nxt l).2)) k).length = m := ⟨_, rfl⟩
      rw [hm] at hi ⊢
      have hnx : nxt (l.take ((nxt l).2 + m)) = nxt l := by
        refine nxt_take l _ (Nat.le_add_right _ _) (fun h1 h2 => ?_)
        have hk1 : 0 < k := by
          apply Nat.pos_of_ne_zero
          intro e; subst e
          rw [pre_none] at hm
          simp at hm; omega
        obtain ⟨k', rfl⟩ : ∃ k', k = k' + 1 := ⟨k - 1, by omega⟩
        have hdne : l.drop (nxt l).2 ≠ [] := by intro e; have := List.drop_eq_nil_iff.1 e; omega
        rw [toks_cons _ _ hdne, pre_cons, List.length_append, List.length_take] at hm
        have := nxt_le (l.drop (nxt l).2)
        omega
      have hne : l.take ((nxt l).2 + m) ≠ [] := by
        intro e
        have := congrArg List.length e
        rw [List.length_take] at this
        have h0 := List.length_pos_iff.2 hl
        simp at this
        rcases this with h | h
        · omega
        · exact hl h
      rw [toks_cons _ _ hne, hnx, List.take_take, Nat.min_eq_left (Nat.le_add_right _ _), List.drop_take, Nat.add_sub_cancel_left, hi]

theorem edits_law (l : Bs) (k : Nat) (x : Tok) (hx : (toks l 0)[k]? = some x) :
    (solid (toks (l.take x.at' ++ 10 :: l.drop x.at') 0)).map (fun t => (t.kind, t.text)) = (solid (toks l 0)).map (fun t => (t.kind, t.text)) := by
  have hk : k ≤ (toks l 0).length := by have := (List.getElem?_eq_some_iff.1 hx).1; omega
  have hat := ((toks_whole l 0).2 k x hx).1
  rw [Nat.zero_add] at hat
  have h1 := toks_take l 0 k hk
  have h2 := toks_drop l 0 k hk
  rw [← hat] at h1 h2
  rw [Nat.zero_add] at h2
  have hle : x.at' ≤ l.length := by
    have := toks_at_le l 0 x (List.mem_of_getElem? hx)
    omega
  have hlen : (l.take x.at').length = x.at' := by rw [List.length_take]; omega
  rw [toks_lines, h1, hlen, Nat.zero_add, toks_shift, h2, solid_shift, List.map_append, List.map_map]
  have hs : ((fun t : Tok => (t.kind, t.text)) ∘ shift 1) = fun t => (t.kind, t.text) := rfl
  rw [hs, ← List.map_append]
  congr 1
  unfold solid
  rw [← List.filter_append, List.take_append_drop]

/-! ### A token ends at the end, ahead of an ASCII byte, or behind one. -/
theorem sp_ascii (c : UInt8) (h : isSp c = true) : c.toNat < 128 := by
  simp only [isSp, Bool.or_eq_true, beq_iff_eq] at h
  rcases h with ((h | h) | h) | h <;> subst h <;> decide
theorem le_nat {a b : UInt8} (h : a ≤ b) : a.toNat ≤ b.toNat := UInt8.le_iff_toNat_le.1 h
theorem di_ascii (c : UInt8) (h : isDi c = true) : c.toNat < 128 := by
  simp only [isDi, Bool.and_eq_true, decide_eq_true_eq] at h
  have := le_nat h.2
  rw [show (57 : UInt8).toNat = 57 from rfl] at this; omega
theorem lo_ascii (c : UInt8) (h : isLo c = true) : c.toNat < 128 := by
  simp only [isLo, Bool.and_eq_true, decide_eq_true_eq] at h
  have := le_nat h.2
  rw [show (122 : UInt8).toNat = 122 from rfl] at this; omega
theorem up_ascii (c : UInt8) (h : isUp c = true) : c.toNat < 128 := by
  simp only [isUp, Bool.and_eq_true, decide_eq_true_eq] at h
  have := le_nat h.2
  rw [show (90 : UInt8).toNat = 90 from rfl] at this; omega
theorem wo_ascii (c : UInt8) (h : isWo c = true) : c.toNat < 128 := by
  simp only [isWo, Bool.or_eq_true, beq_iff_eq] at h
  rcases h with (h | h) | h
  · exact lo_ascii c h
  · exact di_ascii c h
  · subst h; decide
theorem na_ascii (c : UInt8) (h : isNa c = true) : c.toNat < 128 := by
  simp only [isNa, Bool.or_eq_true] at h
  rcases h with (h | h) | h
  · exact lo_ascii c h
  · exact up_ascii c h
  · exact di_ascii c h

/-- n is the end of l, or lies ahead of an ASCII byte, or behind one. -/
def Stop (l : Bs) (n : Nat) : Prop := n = l.length ∨ (∃ c, l[n]? = some c ∧ c.toNat < 128) ∨ (∃ m c, n = m + 1 ∧ l[m]? = some c ∧ c.toNat < 128)

theorem tk_stops {p : UInt8 → Bool} (hp : ∀ c, p c = true → c.toNat < 128) (l : Bs) (h : 0 < tk p l) : Stop l (tk p l) := by
  obtain ⟨m, hm⟩ : ∃ m, tk p l = m + 1 := ⟨tk p l - 1, by omega⟩
  have hle := tk_le p l
  obtain ⟨c, hc⟩ : ∃ c, l[m]? = some c := ⟨_, List.getElem?_eq_getElem (by omega)⟩
  exact .inr (.inr ⟨m, c, hm, hc, hp c (tk_run (p := p) (l := l) (i := m) (by omega) hc)⟩)
theorem ln_stops (l : Bs) : Stop l (tk isLn l) := by
  have hle := tk_le isLn l
  by_cases h : tk isLn l = l.length
  · exact .inl h
  · obtain ⟨c, hc⟩ : ∃ c, l[tk isLn l]? = some c := ⟨_, List.getElem?_eq_getElem (by omega)⟩
    refine .inr (.inl ⟨c, hc, ?_⟩)
    have := tk_stop hc
    simp only [isLn, bne_eq_false_iff_eq] at this
    subst this; decide
theorem syms_ascii : ∀ x ∈ syms, ∀ c ∈ x, c.toNat < 128 := by decide
theorem sym_in (l : Bs) (h : 0 < sym l) : l.take (sym l) ∈ syms := by
  rw [sym_eq] at h ⊢
  split
  · rename_i h2; simp at h2; exact h2.2
  · rename_i h2
    rw [if_neg h2] at h
    split
    · rename_i h1; simp at h1; exact h1.2
    · rename_i h1; rw [if_neg h1] at h; omega
theorem sym_stops (l : Bs) (h : 0 < sym l) : Stop l (sym l) := by
  obtain ⟨m, hm⟩ : ∃ m, sym l = m + 1 := ⟨sym l - 1, by omega⟩
  have hle := sym_le l
  obtain ⟨c, hc⟩ : ∃ c, l[m]? = some c := ⟨_, List.getElem?_eq_getElem (by omega)⟩
  refine .inr (.inr ⟨m, c, hm, hc, syms_ascii _ (sym_in l h) c ?_⟩)
  apply List.mem_of_getElem? (i := m)
  rw [List.getElem?_take_of_lt (by omega), hc]
theorem quo_stops (t : Bs) (h : 0 < quo t) : Stop (34 :: t) (quo t) := by
  unfold quo at h ⊢
  split
  · rename_i hq
    exact .inr (.inr ⟨tk notQ t + 1, 34, rfl, by rw [List.getElem?_cons_succ]; exact hq, by decide⟩)
  · rename_i hq; rw [if_neg hq] at h; omega

theorem good_stops (c : UInt8) (t : Bs) (h : 0 < (good (c :: t)).2) : Stop (c :: t) (good (c :: t)).2 := by
  rw [good_cons] at h ⊢
  by_cases h1 : isSp c = true
  · simp only [h1, if_true] at h ⊢; exact tk_stops sp_ascii _ h
  simp only [h1] at h ⊢
  by_cases h2 : (c == 35) = true
  · simp only [h2, if_true] at h ⊢; exact ln_stops _
  simp only [h2] at h ⊢
  by_cases h3 : isLo c = true
  · simp only [h3, if_true] at h ⊢; exact tk_stops wo_ascii _ h
  simp only [h3] at h ⊢
  by_cases h4 : isUp c = true
  · simp only [h4, if_true] at h ⊢; exact tk_stops na_ascii _ h
  simp only [h4] at h ⊢
  by_cases h5 : isDi c = true
  · simp only [h5, if_true] at h ⊢; exact tk_stops di_ascii _ h
  simp only [h5] at h ⊢
  by_cases h6 : (c == 34) = true
  · obtain rfl : c = 34 := by simpa using h6
    simp only [h6, if_true] at h ⊢; exact quo_stops t h
  simp only [h6] at h ⊢
  exact sym_stops _ h

theorem good_first (c : UInt8) (t : Bs) (h : 0 < (good (c :: t)).2) : c.toNat < 128 := by
  rw [good_cons] at h
  by_cases h1 : isSp c = true
  · exact sp_ascii c h1
  simp only [h1] at h
  by_cases h2 : (c == 35) = true
  · obtain rfl : c = 35 := by simpa using h2
    decide
  simp only [h2] at h
  by_cases h3 : isLo c = true
  · exact lo_ascii c h3
  simp only [h3] at h
  by_cases h4 : isUp c = true
  · exact up_ascii c h4
  simp only [h4] at h
  by_cases h5 : isDi c = true
  · exact di_ascii c h5
  simp only [h5] at h
  by_cases h6 : (c == 34) = true
  · obtain rfl : c = 34 := by simpa using h6
    decide
  simp only [h6] at h
  have hin := sym_in (c :: t) h
  refine syms_ascii _ hin c ?_
  obtain ⟨m, hm⟩ : ∃ m, sym (c :: t) = m + 1 := ⟨sym (c :: t) - 1, by have : 0 < sym (c :: t) := h; omega⟩
  rw [hm, List.take_succ_cons]
  simp

theorem badLen_stops : ∀ t : Bs, badLen t < t.length → ∃ d, t[badLen t]? = some d ∧ d.toNat < 128
  | [], h => by simp at h
  | c :: t, h => by
    by_cases hc : (c == 34 || decide (0 < (good (c :: t)).2)) = true
    · have e : badLen (c :: t) = 0 := by simp only [badLen, hc, if_true]
      rw [e]
      refine ⟨c, rfl, ?_⟩
      rw [Bool.or_eq_true, decide_eq_true_eq] at hc
      rcases hc with hc | hc
      · obtain rfl : c = 34 := by simpa using hc
        decide
      · exact good_first c t hc
    · have e : badLen (c :: t) = badLen t + 1 := by simp only [badLen, hc]; rfl
      rw [e] at h ⊢
      obtain ⟨d, h1, h2⟩ := badLen_stops t (by simpa using h)
      exact ⟨d, by rw [List.getElem?_cons_succ]; exact h1, h2⟩

theorem nxt_stops (l : Bs) (h : l ≠ []) : Stop l (nxt l).2 := by
  match l, h with
  | c :: t, _ =>
    rw [nxt_cons]
    by_cases hg : 0 < (good (c :: t)).2
    · rw [if_pos hg]; exact good_stops c t hg
    rw [if_neg hg]
    by_cases hq : (c == 34) = true
    · rw [if_pos hq]; exact ln_stops _
    rw [if_neg hq]
    have hle := badLen_le t
    by_cases he : badLen t = t.length
    · exact .inl (by simp [he])
    · obtain ⟨d, h1, h2⟩ := badLen_stops t (by omega)
      exact .inr (.inl ⟨d, by rw [List.getElem?_cons_succ]; exact h1, h2⟩)

/-- Each token but the first begins so. -/
theorem toks_stops (l : Bs) (a : Nat) : ∀ (k : Nat) (x : Tok), (toks l a)[k]? = some x → x.at' = a ∨ Stop l (x.at' - a) := by
  refine toks_ind (P := fun l a ts => ∀ (k : Nat) (x : Tok), ts[k]? = some x → x.at' = a ∨ Stop l (x.at' - a)) ?_ ?_ l a
  · intro a k x hx; simp at hx
  · intro l a hl ih k x hx
    have hle := nxt_le l
    cases k with
    | zero => simp at hx; subst hx; exact .inl rfl
    | succ k =>
      right
      have hx' : (toks (l.drop (nxt l).2) (a + (nxt l).2))[k]? = some x := by simpa using hx
      rcases ih k x hx' with e | e
      · rw [e, Nat.add_sub_cancel_left]; exact nxt_stops l hl
      · have hat : a + (nxt l).2 ≤ x.at' := by
          have := ((toks_whole (l.drop (nxt l).2) (a + (nxt l).2)).2 k x hx').1
          omega
        obtain ⟨d, hd⟩ : ∃ d, x.at' - (a + (nxt l).2) = d := ⟨_, rfl⟩
        have hd2 : x.at' - a = (nxt l).2 + d := by omega
        rw [hd] at e
        rw [hd2]
        rcases e with e | ⟨c, e1, e2⟩ | ⟨m, c, e1, e2, e3⟩
        · exact .inl (by rw [e, List.length_drop]; omega)
        · exact .inr (.inl ⟨c, by rw [List.getElem?_drop] at e1; exact e1, e2⟩)
        · exact .inr (.inr ⟨(nxt l).2 + m, c, by omega, by rw [List.getElem?_drop] at e2; exact e2, e3⟩)
end Go.Proofs.YtolgoojlpmgblaaDoor

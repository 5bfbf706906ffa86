/- Plain laws of the lexer's model: the texts of the tokens make up the text; the tokens of a beginning; a byte 10 between two texts. -/
import Derived.Test.YtolgoojlpmgblaaDoorLx
namespace Go.Proofs.YtolgoojlpmgblaaDoor

theorem toks_ind {P : Bs → Nat → List Tok → Prop} (h0 : ∀ a, P [] a []) (h1 : ∀ l a, l ≠ [] → P (l.drop (nxt l).2) (a + (nxt l).2) (toks (l.drop (nxt l).2) (a + (nxt l).2)) → P l a (⟨(nxt l).1, l.take (nxt l).2, a⟩ :: toks (l.drop (nxt l).2) (a + (nxt l).2))) (l : Bs) (a : Nat) : P l a (toks l a) := by
  obtain ⟨n, hn⟩ : ∃ n, l.length ≤ n := ⟨_, Nat.le_refl _⟩
  induction n generalizing l a with
  | zero =>
    obtain rfl : l = [] := List.eq_nil_of_length_eq_zero (by omega)
    rw [toks_nil]; exact h0 a
  | succ n ih =>
    by_cases h : l = []
    · subst h; rw [toks_nil]; exact h0 a
    · rw [toks_cons l a h]
      have hp := nxt_pos l h
      exact h1 l a h (ih _ _ (by rw [List.length_drop]; omega))

/-- The bytes of the first k tokens. -/
def pre (ts : List Tok) (k : Nat) : Bs := ((ts.take k).map (·.text)).flatten

theorem pre_zero (ts : List Tok) : pre ts 0 = [] := by simp [pre]
theorem pre_succ (ts : List Tok) (k : Nat) (x : Tok) (h : ts[k]? = some x) : pre ts (k + 1) = pre ts k ++ x.text := by
  unfold pre
  rw [List.take_add_one, h]
  simp

theorem toks_whole (l : Bs) (a : Nat) : pre (toks l a) (toks l a).length = l ∧ ∀ k x, (toks l a)[k]? = some x → x.at' = a + (pre (toks l a) k).length ∧ x.text ≠ [] ∧ toks x.text 0 = [⟨x.kind, x.text, 0⟩] := by
  refine toks_ind (P := fun l a ts => pre ts ts.length = l ∧ ∀ k x, ts[k]? = some x → x.at' = a + (pre ts k).length ∧ x.text ≠ [] ∧ toks x.text 0 = [⟨x.kind, x.text, 0⟩]) ?_ ?_ l a
  · intro a; simp [pre]
  · intro l a hl ih
    have hp := nxt_pos l hl
    have hle := nxt_le l
    refine ⟨?_, fun k x hx => ?_⟩
    · have := ih.1
      simp only [pre, List.length_cons, List.take_succ_cons, List.map_cons, List.flatten_cons] at this ⊢
      rw [this, List.take_append_drop]
    · cases k with
      | zero =>
        simp at hx
        subst hx
        refine ⟨by simp [pre], ?_, toks_own l hl⟩
        intro e
        have := congrArg List.length e
        simp at this
        rcases this with h | h
        · omega
        · exact hl h
      | succ k =>
        obtain ⟨e1, e2, e3⟩ := ih.2 k x (by simpa using hx)
        refine ⟨?_, e2, e3⟩
        rw [e1]
        simp only [pre, List.take_succ_cons, List.map_cons, List.flatten_cons, List.length_append, List.length_take]
        omega

theorem toks_local (l r : Bs) (a : Nat) : (toks l a).length ≤ (toks (l ++ r) a).length ∧ ∀ k, k + 1 < (toks l a).length → (toks l a)[k]? = (toks (l ++ r) a)[k]? := by
  refine toks_ind (P := fun l a ts => ts.length ≤ (toks (l ++ r) a).length ∧ ∀ k, k + 1 < ts.length → ts[k]? = (toks (l ++ r) a)[k]?) ?_ ?_ l a
  · intro a; simp
  · intro l a hl ih
    have hle := nxt_le l
    have hlr : l ++ r ≠ [] := by simp [hl]
    by_cases he : (nxt l).2 = l.length
    · rw [he, List.drop_length, toks_nil]
      refine ⟨?_, by simp⟩
      rw [toks_cons _ _ hlr]; simp
    · have h1 := nxt_app l r (by omega)
      rw [toks_cons _ _ hlr, h1, List.take_append_of_le_length hle, List.drop_append_of_le_length hle]
      refine ⟨by simpa using ih.1, fun k hk => ?_⟩
      cases k with
      | zero => simp
      | succ k => simpa using ih.2 k (by simpa using hk)

/-! ### A byte 10 ends what is not space. -/
theorem tk_nl (p : UInt8 → Bool) (hp : p 10 = false) (b : Bs) : ∀ l : Bs, tk p (l ++ 10 :: b) = tk p l
  | [] => by simp [tk, hp]
  | c :: t => by simp [tk, tk_nl p hp b t]
theorem tk_nl_take (p : UInt8 → Bool) (hp : p 10 = false) : ∀ l : Bs, (10 : UInt8) ∉ l.take (tk p l)
  | [] => by simp [tk]
  | c :: t => by
    by_cases hc : p c
    · have : c ≠ 10 := by intro e; subst e; simp [hp] at hc
      rw [tk_pos hc, List.take_succ_cons]
      simp only [List.mem_cons, not_or]
      exact ⟨fun e => this e.symm, tk_nl_take p hp t⟩
    · simp [tk, hc]
theorem syms_nl : ∀ x ∈ syms, (10 : UInt8) ∉ x := by decide
theorem sym_nl (l b : Bs) (hl : l ≠ []) : sym (l ++ 10 :: b) = sym l := by
  match l with
  | [c] =>
    have h2 : [c, 10] ∉ syms := fun h => syms_nl _ h (by simp)
    rw [sym_eq, sym_eq]
    simp [h2]
  | c :: d :: t => exact sym_app (c :: d :: t) _ (by simp)
theorem sym_nl_take (l : Bs) : (10 : UInt8) ∉ l.take (sym l) := by
  rw [sym_eq]
  split
  · rename_i h; simp at h; exact syms_nl _ h.2
  split
  · rename_i h; simp at h; exact syms_nl _ h.2
  · simp
theorem quo_nl (t b : Bs) : quo (t ++ 10 :: b) = quo t := by
  unfold quo
  rw [tk_nl notQ (by decide)]
  by_cases h : tk notQ t < t.length
  · rw [List.getElem?_append_left h]
  · have e : tk notQ t = t.length := by have := tk_le notQ t; omega
    rw [e, List.getElem?_append_right (by omega)]
    simp

theorem good_nl (c : UInt8) (t b : Bs) (hc : isSp c = false) : good (c :: t ++ 10 :: b) = good (c :: t) := by
  rw [List.cons_append, good_cons, good_cons]
  simp only [hc, Bool.false_eq_true, if_false]
  have h0 : ∀ p : UInt8 → Bool, p 10 = false → tk p (c :: (t ++ 10 :: b)) = tk p (c :: t) := fun p hp => tk_nl p hp b (c :: t)
  rw [h0 isLn (by decide), h0 isWo (by decide), h0 isNa (by decide), h0 isDi (by decide), quo_nl, ← List.cons_append, sym_nl _ _ (by simp), List.take_append_of_le_length (tk_le isWo (c :: t))]

theorem good_sp (c : UInt8) (t : Bs) (hc : isSp c = true) : good (c :: t) = (0, tk isSp (c :: t)) := by rw [good_cons]; simp [hc]
theorem good_sp_pos (c : UInt8) (t : Bs) (hc : isSp c = true) : 0 < (good (c :: t)).2 := by rw [good_sp c t hc]; simp [tk, hc]
theorem badLen_nl (b : Bs) : ∀ t : Bs, badLen (t ++ 10 :: b) = badLen t
  | [] => by
    have := good_sp_pos 10 b (by decide)
    simp [badLen, this]
  | c :: t => by
    by_cases hs : isSp c
    · have h1 := good_sp_pos c t hs
      have h2 := good_sp_pos c (t ++ 10 :: b) hs
      simp [badLen, h1, h2]
    · have hs' : isSp c = false := by simpa using hs
      have := good_nl c t b hs'
      rw [List.cons_append] at this
      simp only [List.cons_append, badLen, this, badLen_nl b t]

theorem nxt_nl (c : UInt8) (t b : Bs) (hc : isSp c = false) : nxt (c :: t ++ 10 :: b) = nxt (c :: t) := by
  have := good_nl c t b hc
  rw [List.cons_append] at this ⊢
  rw [nxt_cons, nxt_cons, this, badLen_nl b t]
  have h0 : tk isLn (c :: (t ++ 10 :: b)) = tk isLn (c :: t) := tk_nl isLn (by decide) b (c :: t)
  rw [h0]

theorem nxt_sp (c : UInt8) (t : Bs) (hc : isSp c = true) : nxt (c :: t) = (0, tk isSp (c :: t)) := by
  rw [nxt_cons, if_pos (good_sp_pos c t hc), good_sp c t hc]

theorem badLen_nl_take : ∀ t : Bs, (10 : UInt8) ∉ t.take (badLen t)
  | [] => by simp
  | c :: t => by
    by_cases h : (c == 34 || decide (0 < (good (c :: t)).2)) = true
    · simp only [badLen, h, if_true, List.take_zero, List.not_mem_nil, not_false_eq_true]
    · have hc : c ≠ 10 := by
        intro e; subst e
        exact h (by simp [good_sp_pos 10 t (by decide)])
      simp only [badLen, h, Bool.false_eq_true, if_false, List.take_succ_cons, List.mem_cons, not_or]
      exact ⟨fun e => hc e.symm, badLen_nl_take t⟩

theorem quo_nl_take (t : Bs) : (10 : UInt8) ∉ (34 :: t).take (quo t) := by
  unfold quo
  split
  · rename_i h
    have h1 := tk_nl_take notQ (by decide) t
    rw [show tk notQ t + 2 = tk notQ t + 1 + 1 by omega, List.take_succ_cons, List.take_add_one, h]
    simp [h1]
  · simp

theorem kind_not_zero (c : UInt8) (t : Bs) (hc : isSp c = false) : (nxt (c :: t)).1 ≠ 0 ∧ (10 : UInt8) ∉ (c :: t).take (nxt (c :: t)).2 := by
  have hbad : ((8, badLen t + 1) : Nat × Nat).1 ≠ 0 ∧ (10 : UInt8) ∉ (c :: t).take ((8, badLen t + 1) : Nat × Nat).2 := by
    refine ⟨by simp, ?_⟩
    simp only [List.take_succ_cons, List.mem_cons, not_or]
    exact ⟨by intro e; subst e; simp [isSp] at hc, badLen_nl_take t⟩
  have hln : ∀ k : Nat, k ≠ 0 → ((k, tk isLn (c :: t)) : Nat × Nat).1 ≠ 0 ∧ (10 : UInt8) ∉ (c :: t).take ((k, tk isLn (c :: t)) : Nat × Nat).2 := fun k hk => ⟨hk, tk_nl_take isLn (by decide) _⟩
  rw [nxt_cons]
  split
  · rw [good_cons]
    simp only [hc, Bool.false_eq_true, if_false]
    split; · exact hln 1 (by decide)
    split; · exact ⟨by split <;> simp, tk_nl_take isWo (by decide) _⟩
    split; · exact ⟨by simp, tk_nl_take isNa (by decide) _⟩
    split; · exact ⟨by simp, tk_nl_take isDi (by decide) _⟩
    split
    · rename_i h; obtain rfl : c = 34 := by simpa using h
      exact ⟨by simp, quo_nl_take t⟩
    · exact ⟨by simp, sym_nl_take _⟩
  · split
    · exact hln 8 (by decide)
    · exact hbad

/-! ### The tokens that are not space. -/
def shift (n : Nat) (t : Tok) : Tok := { t with at' := t.at' + n }

theorem toks_shift (l : Bs) (a n : Nat) : toks l (a + n) = (toks l a).map (shift n) := by
  refine toks_ind (P := fun l a ts => toks l (a + n) = ts.map (shift n)) ?_ ?_ l a
  · intro a; simp [toks_nil]
  · intro l a hl ih
    rw [toks_cons _ _ hl, List.map_cons, ← ih, show a + n + (nxt l).2 = a + (nxt l).2 + n by omega]
    rfl

theorem solid_cons_sp (t : Tok) (ts : List Tok) (h : t.kind = 0) : solid (t :: ts) = solid ts := by simp [solid, h]
theorem solid_cons_ns (t : Tok) (ts : List Tok) (h : t.kind ≠ 0) : solid (t :: ts) = t :: solid ts := by simp [solid, h]

/-- Space ahead of a text adds no token that is not space. -/
theorem solid_space (l : Bs) (a : Nat) : solid (toks (l.drop (tk isSp l)) (a + tk isSp l)) = solid (toks l a) := by
  match l with
  | [] => simp [tk]
  | c :: t =>
    by_cases hc : isSp c
    · rw [toks_cons (c :: t) a (by simp), nxt_sp c t hc, solid_cons_sp _ _ rfl]
    · have : isSp c = false := by simpa using hc
      simp [tk, this]

theorem tk_all_sp (l r : Bs) (h : tk isSp l = l.length) : (l ++ r).drop (tk isSp (l ++ r)) = r.drop (tk isSp r) := by
  rw [tk_through isSp l r h, ← List.drop_drop, List.drop_left]

theorem toks_lines (l b : Bs) (a : Nat) : solid (toks (l ++ 10 :: b) a) = solid (toks l a) ++ solid (toks b (a + l.length + 1)) := by
  refine toks_ind (P := fun l a ts => solid (toks (l ++ 10 :: b) a) = solid ts ++ solid (toks b (a + l.length + 1))) ?_ ?_ l a
  · intro a
    rw [← solid_space ([] ++ 10 :: b) a]
    have h10 : isSp 10 = true := by decide
    simp only [List.nil_append, tk, h10, if_true, List.drop_succ_cons, List.length_nil, Nat.add_zero]
    rw [show a + (tk isSp b + 1) = a + 1 + tk isSp b by omega, solid_space]
    simp [solid]
  · intro l a hl ih
    match l, hl with
    | c :: t, hl =>
      have hle := nxt_le (c :: t)
      by_cases hc : isSp c
      · by_cases he : (nxt (c :: t)).2 < (c :: t).length
        · have h1 := nxt_app (c :: t) (10 :: b) he
          rw [toks_cons _ _ (by simp), h1, List.take_append_of_le_length hle, List.drop_append_of_le_length hle]
          rw [nxt_sp c t hc] at ih ⊢
          rw [solid_cons_sp _ _ rfl, solid_cons_sp _ _ rfl, ih]
          congr 3
          rw [nxt_sp c t hc] at hle
          simp only [List.length_drop] at hle ⊢
          omega
        · have he' : tk isSp (c :: t) = (c :: t).length := by rw [nxt_sp c t hc] at he hle; simp only at he hle; omega
          rw [nxt_sp c t hc, solid_cons_sp _ _ rfl]
          simp only [he', List.drop_length, toks_nil]
          rw [← solid_space (c :: t ++ 10 :: b) a, tk_all_sp _ _ he', tk_through _ _ _ he']
          have h10 : isSp 10 = true := by decide
          simp only [tk, h10, if_true, List.drop_succ_cons]
          rw [show a + ((c :: t).length + (tk isSp b + 1)) = a + (c :: t).length + 1 + tk isSp b by omega, solid_space]
          simp [solid]
      · have hs : isSp c = false := by simpa using hc
        have h1 := nxt_nl c t b hs
        have hk := (kind_not_zero c t hs).1
        rw [toks_cons (c :: t ++ 10 :: b) _ (by simp), h1, List.take_append_of_le_length hle, List.drop_append_of_le_length hle, solid_cons_ns _ _ hk, solid_cons_ns _ _ hk, ih, List.cons_append]
        congr 4
        simp only [List.length_drop]
        omega

theorem toks_no_nl (l : Bs) (a : Nat) : ∀ x ∈ solid (toks l a), (10 : UInt8) ∉ x.text := by
  refine toks_ind (P := fun l a ts => ∀ x ∈ solid ts, (10 : UInt8) ∉ x.text) ?_ ?_ l a
  · intro a x hx; simp [solid] at hx
  · intro l a hl ih x hx
    match l, hl with
    | c :: t, _ =>
      by_cases hc : isSp c
      · rw [solid_cons_sp _ _ (by rw [nxt_sp c t hc])] at hx
        exact ih x hx
      · have hs : isSp c = false := by simpa using hc
        have hk := kind_not_zero c t hs
        rw [solid_cons_ns _ _ hk.1] at hx
        rcases List.mem_cons.1 hx with e | e
        · subst e; exact hk.2
        · exact ih x e
end Go.Proofs.YtolgoojlpmgblaaDoor

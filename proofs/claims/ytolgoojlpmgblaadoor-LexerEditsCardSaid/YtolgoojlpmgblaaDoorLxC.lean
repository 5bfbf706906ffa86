/- Plain law: the tokens of a joined text that are not space are the tokens that were joined. -/
import Derived.Test.YtolgoojlpmgblaaDoorLxB
import Derived.Test.YtolgoojlpmgblaaDoorX
namespace Go.Proofs.YtolgoojlpmgblaaDoor

/-! ### A blank ends what is neither space nor a comment nor an open literal. -/
theorem tk_ends (p : UInt8 → Bool) (d : UInt8) (hp : p d = false) (b : Bs) : ∀ l : Bs, tk p (l ++ d :: b) = tk p l
  | [] => by simp [tk, hp]
  | c :: t => by simp [tk, tk_ends p d hp b t]
theorem syms_32 : ∀ x ∈ syms, (32 : UInt8) ∉ x := by decide
theorem sym_32 (l b : Bs) (hl : l ≠ []) : sym (l ++ 32 :: b) = sym l := by
  match l with
  | [c] =>
    have h2 : [c, 32] ∉ syms := fun h => syms_32 _ h (by simp)
    rw [sym_eq, sym_eq]
    simp [h2]
  | c :: d :: t => exact sym_app (c :: d :: t) _ (by simp)

theorem good_32 (c : UInt8) (t b : Bs) (hc : isSp c = false) (h35 : (c == 35) = false) (h34 : (c == 34) = true → tk notQ t < t.length) : good (c :: t ++ 32 :: b) = good (c :: t) := by
  rw [List.cons_append, good_cons, good_cons]
  simp only [hc, h35, Bool.false_eq_true, if_false]
  have h0 : ∀ p : UInt8 → Bool, p 32 = false → tk p (c :: (t ++ 32 :: b)) = tk p (c :: t) := fun p hp => tk_ends p 32 hp b (c :: t)
  rw [h0 isWo (by decide), h0 isNa (by decide), h0 isDi (by decide), ← List.cons_append, sym_32 _ _ (by simp), List.take_append_of_le_length (tk_le isWo (c :: t))]
  by_cases h : (c == 34) = true
  · rw [quo_app t _ (h34 h)]
  · simp only [h]
    rfl

theorem badLen_32 (b : Bs) : ∀ t : Bs, badLen (t ++ 32 :: b) = badLen t
  | [] => by
    have := good_sp_pos 32 b (by decide)
    simp [badLen, this]
  | c :: t => by
    have ih := badLen_32 b t
    by_cases hq : c == 34
    · simp [badLen, hq]
    by_cases hs : isSp c
    · have h1 := good_sp_pos c t hs
      have h2 := good_sp_pos c (t ++ 32 :: b) hs
      simp [badLen, h1, h2]
    by_cases h35 : c == 35
    · have h1 := good_pos c t (.inr (.inl h35))
      have h2 := good_pos c (t ++ 32 :: b) (.inr (.inl h35))
      simp [badLen, h1, h2]
    · have := good_32 c t b (by simpa using hs) (by simpa using h35) (fun h => absurd h hq)
      rw [List.cons_append] at this
      simp only [List.cons_append, badLen, this, ih]

theorem nxt_32 (x b : Bs) (hx : okTok x = true) (h1 : (nxt x).1 ≠ 1) (h8 : ¬ ((nxt x).1 = 8 ∧ x.head? = some 34)) : nxt (x ++ 32 :: b) = nxt x := by
  unfold okTok at hx
  simp only [Bool.and_eq_true, decide_eq_true_eq] at hx
  obtain ⟨⟨hp, hlen⟩, hk⟩ := hx
  match x, hp with
  | c :: t, _ =>
    have hs : isSp c = false := by
      rw [← Bool.not_eq_true]; intro h; rw [nxt_sp c t h] at hk; exact hk rfl
    have h35 : (c == 35) = false := by
      rw [← Bool.not_eq_true]; intro h
      have hp := good_pos c t (.inr (.inl h))
      rw [nxt_good c t hp, good_cons] at h1
      simp [hs, h] at h1
    have h34 : (c == 34) = true → tk notQ t < t.length := by
      intro h
      obtain rfl : c = 34 := by simpa using h
      by_cases hq : t[tk notQ t]? = some 34
      · exact (List.getElem?_eq_some_iff.1 hq).1
      · exfalso
        apply h8
        rw [nxt_cons, good_kind_q, quo_zero t hq]
        simp
    have hg := good_32 c t b hs h35 h34
    rw [List.cons_append] at hg ⊢
    rw [nxt_cons, nxt_cons, hg, badLen_32 b t]
    by_cases hq : (c == 34) = true
    · obtain rfl : c = 34 := by simpa using hq
      by_cases hq : t[tk notQ t]? = some 34
      · have : 0 < (good (34 :: t)).2 := by rw [good_kind_q, quo_eq t hq]; simp
        rw [if_pos this, if_pos this]
      · exfalso
        apply h8
        rw [nxt_cons, good_kind_q, quo_zero t hq]
        simp
    · simp only [hq, Bool.false_eq_true, if_false]

theorem okTok_first (c : UInt8) (t : Bs) (h : okTok (c :: t) = true) : isSp c = false := by
  unfold okTok at h
  simp only [Bool.and_eq_true, decide_eq_true_eq] at h
  rw [← Bool.not_eq_true]; intro h'; rw [nxt_sp c t h'] at h; exact h.2 rfl

/-- The first token of a joined text is the first one that was joined. -/
theorem join_first (x y r : Bs) (hx : okTok x = true) (hy : okTok y = true) : nxt (x ++ (sepB x y ++ y ++ r)) = nxt x := by
  have hx' := hx
  unfold okTok at hx'
  simp only [Bool.and_eq_true, decide_eq_true_eq] at hx'
  obtain ⟨⟨hp, hlen⟩, hk⟩ := hx'
  have hyp : 0 < y.length := by
    unfold okTok at hy
    simp only [Bool.and_eq_true, decide_eq_true_eq] at hy
    exact hy.1.1
  unfold sepB
  split
  · match x, hp with
    | c :: t, _ => simpa using nxt_nl c t (y ++ r) (okTok_first c t hx)
  · rename_i hn
    rw [not_or] at hn
    split
    · simpa using nxt_32 x (y ++ r) hx hn.1 hn.2
    · rename_i he
      have he' : (nxt (x ++ y)).2 = x.length := by simpa using he
      have h1 : nxt ((x ++ y) ++ r) = nxt (x ++ y) := nxt_app _ _ (by rw [List.length_append]; omega)
      have h2 := nxt_take_self (x ++ y)
      rw [he', List.take_left] at h2
      rw [List.nil_append, ← List.append_assoc, h1, ← h2]

theorem solid_sep (x y r : Bs) (a : Nat) (hy : okTok y = true) : ∃ a', solid (toks (sepB x y ++ y ++ r) a) = solid (toks (y ++ r) a') := by
  have hyp : y ≠ [] := by
    intro e; subst e; simp [okTok] at hy
  match y, hyp with
  | c :: t, _ =>
    have hc := okTok_first c t hy
    have hsp : ∀ d : UInt8, isSp d = true → ∃ a', solid (toks (d :: (c :: t ++ r)) a) = solid (toks (c :: t ++ r) a') := by
      intro d hd
      refine ⟨a + 1, ?_⟩
      rw [← solid_space (d :: (c :: t ++ r)) a]
      have h0 : tk isSp (d :: (c :: t ++ r)) = 1 := by simp [tk, hd, hc]
      rw [h0]; rfl
    unfold sepB
    split
    · exact hsp 10 (by decide)
    · split
      · exact hsp 32 (by decide)
      · exact ⟨a, rfl⟩

theorem joined_toks : ∀ (rest : List Bs) (x : Bs) (a : Nat), okTok x = true → rest.all okTok = true → (solid (toks (x ++ joinS x rest) a)).map (·.text) = x :: rest
  | [], x, a, hx, _ => by
    unfold okTok at hx
    simp only [Bool.and_eq_true, decide_eq_true_eq] at hx
    obtain ⟨⟨hp, hlen⟩, hk⟩ := hx
    rw [joinS, List.append_nil, toks_one x a (by intro e; subst e; simp at hp) hlen, solid_cons_ns _ _ hk]
    simp [solid]
  | y :: rest, x, a, hx, hr => by
    simp only [List.all_cons, Bool.and_eq_true] at hr
    have hx' := hx
    unfold okTok at hx'
    simp only [Bool.and_eq_true, decide_eq_true_eq] at hx'
    obtain ⟨⟨hp, hlen⟩, hk⟩ := hx'
    have hne : x ≠ [] := by intro e; subst e; simp at hp
    rw [joinS, if_neg hne]
    have hj := join_first x y (joinS y rest) hx hr.1
    rw [toks_cons _ _ (by simp [hne]), hj, solid_cons_ns _ _ (by exact hk), hlen, List.take_left, List.drop_left]
    obtain ⟨a', e⟩ := solid_sep x y (joinS y rest) (a + x.length) hr.1
    rw [e, List.map_cons, joined_toks rest y a' hr.1 hr.2]

theorem joined_all (ls : List Bs) (h : ls.all okTok = true) (a : Nat) : (solid (toks (joinB ls) a)).map (·.text) = ls := by
  unfold joinB
  rw [if_pos h]
  match ls with
  | [] => simp [joinS, toks_nil, solid]
  | x :: rest =>
    simp only [List.all_cons, Bool.and_eq_true] at h
    rw [joinS, if_pos rfl]
    exact joined_toks rest x a h.1 h.2

/-- Each token of a text is one token. -/
theorem okTok_of_solid (l : Bs) (a : Nat) : ∀ x ∈ solid (toks l a), okTok x.text = true := by
  intro x hx
  obtain ⟨hx1, hx2⟩ := List.mem_filter.1 hx
  obtain ⟨k, hk⟩ := List.mem_iff_getElem?.1 hx1
  obtain ⟨_, hne, ho⟩ := (toks_whole l a).2 k x hk
  have hl : (toks x.text 0).length = 1 := by rw [ho]; rfl
  obtain ⟨_, he⟩ := (toks_len_one x.text 0).1 hl
  rw [toks_one x.text 0 hne he] at ho
  have hkk : (nxt x.text).1 = x.kind := by simpa using ho
  unfold okTok
  simp only [Bool.and_eq_true, decide_eq_true_eq]
  refine ⟨⟨List.length_pos_iff.2 hne, he⟩, ?_⟩
  rw [hkk]
  simpa using hx2
end Go.Proofs.YtolgoojlpmgblaaDoor

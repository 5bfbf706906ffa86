namespace Go.Proofs.YthkkmklnapkgaaaGreatDoor
/-! The plain model of package lexer. -/
abbrev Bs := List UInt8

def isSp (c : UInt8) : Bool := c == 9 || c == 10 || c == 13 || c == 32
def isDi (c : UInt8) : Bool := 48 ≤ c && c ≤ 57
def isLo (c : UInt8) : Bool := 97 ≤ c && c ≤ 122
def isUp (c : UInt8) : Bool := 65 ≤ c && c ≤ 90
def isWo (c : UInt8) : Bool := isLo c || isDi c || c == 95
def isNa (c : UInt8) : Bool := isLo c || isUp c || isDi c
def isLn (c : UInt8) : Bool := c != 10

/-- The number of leading bytes of a class. -/
def tk (p : UInt8 → Bool) : Bs → Nat
  | [] => 0
  | c :: t => if p c then tk p t + 1 else 0

def syms : List Bs := [[61, 61], [33, 61], [60, 61], [60, 45], [45, 62], [43, 43], [60], [62], [61], [43], [45], [42], [40], [41], [123], [125], [91], [93], [44], [46], [58], [124], [59], [63]]

/-- The length of the symbol at the beginning, or 0. -/
def sym (l : Bs) : Nat := match syms.find? (fun x => x.isPrefixOf l) with
  | some x => x.length
  | none => 0

def notQ (c : UInt8) : Bool := c != 34 && c != 10

/-- The length of the literal whose bytes behind the first quote are t, or 0. -/
def quo (t : Bs) : Nat := if t[tk notQ t]? = some 34 then tk notQ t + 2 else 0

def kws : List Bs := [[97, 110, 100], [97, 115], [99, 104, 101, 99, 107], [100, 101, 108, 101, 116, 101], [101, 108, 115, 101], [102, 97, 108, 115, 101], [102, 117, 110], [105, 102], [105, 110], [105, 110, 115, 101, 114, 116], [107, 101, 121], [108, 101, 116], [109, 97, 116, 99, 104], [110, 111, 116], [111, 114], [112, 114, 111, 99], [114, 101, 102], [115, 101, 116], [116, 97, 98, 108, 101], [116, 104, 101, 110], [116, 111], [116, 114, 117, 101], [116, 121, 112, 101], [117, 112, 100, 97, 116, 101], [119, 104, 101, 114, 101], [119, 105, 116, 104]]

def isKw (l : Bs) : Bool := kws.contains l

/-- Kind and length of the token at the beginning; the length is 0 if it is bad. -/
def good : Bs → Nat × Nat
  | [] => (6, 0)
  | c :: t =>
    if isSp c then (0, tk isSp (c :: t))
    else if c == 35 then (1, tk isLn (c :: t))
    else if isLo c then (if isKw ((c :: t).take (tk isWo (c :: t))) then 7 else 2, tk isWo (c :: t))
    else if isUp c then (3, tk isNa (c :: t))
    else if isDi c then (4, tk isDi (c :: t))
    else if c == 34 then (5, quo t)
    else (6, sym (c :: t))

/-- How many bytes go on a bad token. -/
def badLen : Bs → Nat
  | [] => 0
  | c :: t => if c == 34 || decide (0 < (good (c :: t)).2) then 0 else badLen t + 1

/-- Kind and length of the token at the beginning. -/
def nxt : Bs → Nat × Nat
  | [] => (0, 0)
  | c :: t =>
    if 0 < (good (c :: t)).2 then good (c :: t)
    else if c == 34 then (8, tk isLn (c :: t))
    else (8, badLen t + 1)

structure Tok where
  kind : Nat
  text : Bs
  at' : Nat
deriving DecidableEq

def toksF : Nat → Bs → Nat → List Tok
  | 0, _, _ => []
  | n + 1, l, a => if l = [] then [] else ⟨(nxt l).1, l.take (nxt l).2, a⟩ :: toksF n (l.drop (nxt l).2) (a + (nxt l).2)

def toks (l : Bs) (a : Nat) : List Tok := toksF l.length l a

def solid (l : List Tok) : List Tok := l.filter fun t => t.kind != 0

/-! ### First facts -/
theorem tk_le (p : UInt8 → Bool) : ∀ l, tk p l ≤ l.length
  | [] => Nat.le_refl _
  | c :: t => by
    have := tk_le p t
    unfold tk; split <;> simp <;> omega

theorem tk_pos {p : UInt8 → Bool} {c : UInt8} {t : Bs} (h : p c = true) : tk p (c :: t) = tk p t + 1 := by simp [tk, h]

theorem tk_take (p : UInt8 → Bool) : ∀ (l : Bs) (m : Nat), tk p l ≤ m → tk p (l.take m) = tk p l
  | [], m, _ => by simp
  | c :: t, m, h => by
    by_cases hc : p c
    · rw [tk_pos hc] at h ⊢
      obtain ⟨m, rfl⟩ : ∃ k, m = k + 1 := ⟨m - 1, by omega⟩
      rw [List.take_succ_cons, tk_pos hc, tk_take p t m (by omega)]
    · cases m with
      | zero => simp [tk, hc]
      | succ m => simp [tk, hc]

/-- A run that stops within l stops there whatever follows. -/
theorem tk_app (p : UInt8 → Bool) : ∀ (l r : Bs), tk p l < l.length → tk p (l ++ r) = tk p l
  | [], r, h => by simp at h
  | c :: t, r, h => by
    by_cases hc : p c
    · rw [tk_pos hc] at h ⊢
      rw [List.cons_append, tk_pos hc, tk_app p t r (by simpa using h)]
    · simp [tk, hc]

/-- A run that goes through l goes on. -/
theorem tk_through (p : UInt8 → Bool) : ∀ (l r : Bs), tk p l = l.length → tk p (l ++ r) = l.length + tk p r
  | [], r, h => by simp
  | c :: t, r, h => by
    by_cases hc : p c
    · rw [tk_pos hc] at h
      rw [List.cons_append, tk_pos hc, tk_through p t r (by simpa using h)]; simp; omega
    · simp [tk, hc] at h

theorem tk_stop {p : UInt8 → Bool} : ∀ {l : Bs} {c : UInt8}, l[tk p l]? = some c → p c = false
  | [], c, h => by simp at h
  | d :: t, c, h => by
    by_cases hd : p d
    · rw [tk_pos hd] at h
      exact tk_stop (l := t) (by simpa using h)
    · simp [tk, hd] at h
      subst h; simpa using hd

theorem tk_run {p : UInt8 → Bool} : ∀ {l : Bs} {i : Nat} {c : UInt8}, i < tk p l → l[i]? = some c → p c = true
  | [], i, c, h, _ => by simp [tk] at h
  | d :: t, i, c, h, hc => by
    by_cases hd : p d
    · rw [tk_pos hd] at h
      cases i with
      | zero => simp at hc; subst hc; exact hd
      | succ i => exact tk_run (l := t) (i := i) (by omega) (by simpa using hc)
    · simp [tk, hd] at h



def syms2 : List Bs := syms.take 6
def syms1 : List Bs := syms.drop 6

theorem find_pre (n : Nat) (l : Bs) (hl : n ≤ l.length) : ∀ S : List Bs, (∀ x ∈ S, x.length = n) →
    S.find? (fun x => x.isPrefixOf l) = if S.contains (l.take n) then some (l.take n) else none
  | [], _ => by simp
  | x :: S, h => by
    have hx := h x (by simp)
    have ih := find_pre n l hl S (fun y hy => h y (by simp [hy]))
    have e : x.isPrefixOf l = (l.take n == x) := by
      rw [Bool.eq_iff_iff]
      simp only [List.isPrefixOf_iff_prefix, beq_iff_eq]
      constructor
      · intro hp; rw [List.prefix_iff_eq_take] at hp; rw [hp, hx]
      · intro hp; rw [← hp]; exact List.take_prefix _ _
    rw [List.find?_cons, e, List.contains_cons, ih]
    by_cases hb : l.take n == x
    · have : l.take n = x := by simpa using hb
      simp [this]
    · simp [hb]

theorem find_short (n : Nat) (l : Bs) (hl : l.length < n) : ∀ S : List Bs, (∀ x ∈ S, x.length = n) →
    S.find? (fun x => x.isPrefixOf l) = none := by
  intro S h
  rw [List.find?_eq_none]
  intro x hx hp
  have := (List.isPrefixOf_iff_prefix.1 hp).length_le
  have := h x hx
  omega

/-- As the reference has it. -/
theorem sym_eq (l : Bs) : sym l = if 2 ≤ l.length && syms.contains (l.take 2) then 2 else if 1 ≤ l.length && syms.contains (l.take 1) then 1 else 0 := by
  have e : syms = syms2 ++ syms1 := rfl
  have h2 : ∀ x ∈ syms2, x.length = 2 := by decide
  have h1 : ∀ x ∈ syms1, x.length = 1 := by decide
  have c2 : ∀ x : Bs, x.length = 2 → syms.contains x = syms2.contains x := by
    intro x hx
    rw [e, Bool.eq_iff_iff]
    simp only [List.contains_iff_mem, List.mem_append]
    constructor
    · rintro (h | h)
      · exact h
      · have := h1 x h; omega
    · exact .inl
  have c1 : ∀ x : Bs, x.length = 1 → syms.contains x = syms1.contains x := by
    intro x hx
    rw [e, Bool.eq_iff_iff]
    simp only [List.contains_iff_mem, List.mem_append]
    constructor
    · rintro (h | h)
      · have := h2 x h; omega
      · exact h
    · exact .inr
  unfold sym
  rw [e, List.find?_append]
  by_cases l2 : 2 ≤ l.length
  · have l1 : 1 ≤ l.length := by omega
    rw [find_pre 2 l l2 _ h2, find_pre 1 l l1 _ h1, ← e, c2 _ (by simp; omega), c1 _ (by simp; omega)]
    by_cases b2 : syms2.contains (l.take 2)
    · simp only [b2, l2]; simp; omega
    · by_cases b1 : syms1.contains (l.take 1)
      · simp only [b1, b2, l1]; simp; omega
      · simp only [b1, b2]; simp
  · rw [find_short 2 l (by omega) _ h2]
    by_cases l1 : 1 ≤ l.length
    · rw [find_pre 1 l l1 _ h1, ← e, c1 (l.take 1) (by simp; omega)]
      have l2' : decide (2 ≤ l.length) = false := by simpa using l2
      simp only [l2', Bool.false_and, Bool.false_eq_true, if_false]
      by_cases b1 : syms1.contains (l.take 1)
      · simp only [b1, l1]; simp; omega
      · simp only [b1]; simp
    · rw [find_short 1 l (by omega) _ h1]
      simp [l1, l2]

theorem sym_le2 (l : Bs) : sym l ≤ 2 := by rw [sym_eq]; split <;> (try split) <;> omega
theorem sym_le (l : Bs) : sym l ≤ l.length := by
  rw [sym_eq]; split
  · rename_i h; simp at h; omega
  · split
    · rename_i h; simp at h; omega
    · omega

theorem sym_app (l r : Bs) (h : 2 ≤ l.length) : sym (l ++ r) = sym l := by
  rw [sym_eq, sym_eq, List.take_append_of_le_length h, List.take_append_of_le_length (by omega)]
  simp [h, show 1 ≤ l.length by omega, show 2 ≤ l.length + r.length by omega, show 1 ≤ l.length + r.length by omega]

/-- Cut behind the symbol, the same symbol. -/
theorem sym_take (l : Bs) (m : Nat) (h1 : 1 ≤ m) (h : sym l ≤ m) : sym (l.take m) = sym l := by
  by_cases hm : 2 ≤ m
  · rw [sym_eq, sym_eq, List.take_take, List.take_take, Nat.min_eq_left hm, Nat.min_eq_left h1, List.length_take]
    congr 2
    · congr 1; simp; omega
    · congr 2; simp; omega
  · obtain rfl : m = 1 := by omega
    rw [sym_eq l] at h ⊢
    split at h
    · omega
    · rename_i hb
      rw [if_neg hb, sym_eq, List.take_take, List.take_take, List.length_take]
      have : ¬ (2 ≤ min 1 l.length) := by omega
      have e : (1 ≤ min 1 l.length) = (1 ≤ l.length) := by rw [eq_iff_iff]; omega
      simp [this, e]

theorem quo_eq (t : Bs) (h : t[tk notQ t]? = some 34) : quo t = tk notQ t + 2 := by simp [quo, h]
theorem quo_zero (t : Bs) (h : t[tk notQ t]? ≠ some 34) : quo t = 0 := by simp [quo, h]
theorem quo_le (t : Bs) : quo t ≤ t.length + 1 := by
  unfold quo; split
  · rename_i h
    have := (List.getElem?_eq_some_iff.1 h).1
    omega
  · omega

theorem quo_app (t r : Bs) (h : tk notQ t < t.length) : quo (t ++ r) = quo t := by
  unfold quo; rw [tk_app _ _ _ h, List.getElem?_append_left h]

theorem tk_append_le (p : UInt8 → Bool) : ∀ (l r : Bs), tk p l ≤ tk p (l ++ r)
  | [], r => by simp [tk]
  | c :: t, r => by
    by_cases hc : p c
    · rw [List.cons_append, tk_pos hc, tk_pos hc]; have := tk_append_le p t r; omega
    · simp [tk, hc]

theorem good_cons (c : UInt8) (t : Bs) : good (c :: t) =
    if isSp c then (0, tk isSp (c :: t))
    else if c == 35 then (1, tk isLn (c :: t))
    else if isLo c then (if isKw ((c :: t).take (tk isWo (c :: t))) then 7 else 2, tk isWo (c :: t))
    else if isUp c then (3, tk isNa (c :: t))
    else if isDi c then (4, tk isDi (c :: t))
    else if c == 34 then (5, quo t)
    else (6, sym (c :: t)) := rfl
theorem nxt_cons (c : UInt8) (t : Bs) : nxt (c :: t) =
    if 0 < (good (c :: t)).2 then good (c :: t)
    else if c == 34 then (8, tk isLn (c :: t))
    else (8, badLen t + 1) := rfl

theorem good_le : ∀ l : Bs, (good l).2 ≤ l.length
  | [] => by simp [good]
  | c :: t => by
    rw [good_cons]
    have := quo_le t
    split; · exact tk_le _ _
    split; · exact tk_le _ _
    split; · exact tk_le _ _
    split; · exact tk_le _ _
    split; · exact tk_le _ _
    split
    · simp; omega
    · exact sym_le _

/-- The classes of a first byte that always begins a token. -/
theorem good_pos (c : UInt8) (t : Bs) (h : isSp c = true ∨ (c == 35) = true ∨ isLo c = true ∨ isUp c = true ∨ isDi c = true) : 0 < (good (c :: t)).2 := by
  rw [good_cons]
  split
  · rename_i hs; simp only [tk_pos hs]; omega
  split
  · rename_i hs
    have : isLn c = true := by simp at hs; subst hs; decide
    simp only [tk_pos this]; omega
  split
  · rename_i hs
    have : isWo c = true := by simp [isWo, hs]
    simp only [tk_pos this]; omega
  split
  · rename_i hs
    have : isNa c = true := by simp [isNa, hs]
    simp only [tk_pos this]; omega
  split
  · rename_i hs; simp only [tk_pos hs]; omega
  · simp_all

/-- A token that ends within l is there whatever follows: also none. -/
theorem good_app (l r : Bs) (hl : 2 ≤ l.length) (h : (good l).2 < l.length) (hq : ∀ t, l = 34 :: t → tk notQ t < t.length) : good (l ++ r) = good l := by
  match l with
  | c :: t =>
    rw [List.cons_append, good_cons]
    rw [good_cons] at h ⊢
    by_cases h1 : isSp c
    · simp only [h1, if_true] at h ⊢; rw [← List.cons_append, tk_app _ _ _ h]
    simp only [h1] at h ⊢
    by_cases h2 : c == 35
    · simp only [h2, if_true] at h ⊢; rw [← List.cons_append]; simp only [Bool.false_eq_true, if_false] at h ⊢; rw [tk_app _ _ _ h]
    simp only [h2] at h ⊢
    by_cases h3 : isLo c
    · simp only [h3, if_true, Bool.false_eq_true, if_false] at h ⊢; rw [← List.cons_append, tk_app _ _ _ h, List.take_append_of_le_length (Nat.le_of_lt h)]
    simp only [h3] at h ⊢
    by_cases h4 : isUp c
    · simp only [h4, if_true, Bool.false_eq_true, if_false] at h ⊢; rw [← List.cons_append, tk_app _ _ _ h]
    simp only [h4] at h ⊢
    by_cases h5 : isDi c
    · simp only [h5, if_true, Bool.false_eq_true, if_false] at h ⊢; rw [← List.cons_append, tk_app _ _ _ h]
    simp only [h5] at h ⊢
    by_cases h6 : c == 34
    · simp only [h6, if_true, Bool.false_eq_true, if_false] at h ⊢
      rw [quo_app _ _ (hq t (by simp at h6; rw [h6]))]
    simp only [h6, Bool.false_eq_true, if_false] at h ⊢
    rw [← List.cons_append, sym_app _ _ hl]

theorem good_kind_q (t : Bs) : good (34 :: t) = (5, quo t) := by
  simp [good_cons, isSp, isLo, isUp, isDi]

theorem badLen_le : ∀ l, badLen l ≤ l.length
  | [] => by simp [badLen]
  | c :: t => by have := badLen_le t; unfold badLen; split <;> simp; omega

theorem sym_pos_app (l r : Bs) (h : 0 < sym l) : 0 < sym (l ++ r) := by
  by_cases hl : 2 ≤ l.length
  · rw [sym_app _ _ hl]; exact h
  · rw [sym_eq] at h
    rw [sym_eq (l ++ r)]
    have l2 : decide (2 ≤ l.length) = false := by simpa using hl
    simp only [l2, Bool.false_and, Bool.false_eq_true, if_false] at h
    split at h
    · rename_i hb
      simp only [Bool.and_eq_true, decide_eq_true_eq] at hb
      split
      · omega
      · rw [List.take_append_of_le_length hb.1, if_pos (by rw [hb.2]; simp; omega)]; omega
    · omega

/-- Of a byte that begins a token: it begins one whatever follows, but for quotes. -/
theorem good_pos_app (c : UInt8) (t r : Bs) (hq : (c == 34) = false) (h : 0 < (good (c :: t)).2) : 0 < (good (c :: t ++ r)).2 := by
  by_cases hc : isSp c = true ∨ (c == 35) = true ∨ isLo c = true ∨ isUp c = true ∨ isDi c = true
  · exact good_pos c (t ++ r) hc
  · simp only [not_or] at hc
    obtain ⟨h1, h2, h3, h4, h5⟩ := hc
    simp only [Bool.not_eq_true] at h1 h2 h3 h4 h5
    rw [List.cons_append]
    simp only [good_cons, h1, h2, h3, h4, h5, hq, Bool.false_eq_true, if_false] at h ⊢
    rw [← List.cons_append]
    exact sym_pos_app _ _ h

/-- A byte that begins no token with another byte behind it begins none. -/
theorem good_zero_app (c d : UInt8) (t r : Bs) (hq : (c == 34) = false) (h : (good (c :: d :: t)).2 = 0) : (good (c :: d :: t ++ r)).2 = 0 := by
  rw [good_app _ _ (by simp) (by rw [h]; simp) (by intro t' e; simp at e; simp [e.1] at hq)]
  exact h

theorem badLen_app : ∀ (l r : Bs), badLen l < l.length → badLen (l ++ r) = badLen l
  | [], r, h => by simp at h
  | c :: t, r, h => by
    rw [List.cons_append]
    by_cases hq : c == 34
    · simp [badLen, hq]
    · have hq' : (c == 34) = false := by simpa using hq
      by_cases hg : 0 < (good (c :: t)).2
      · have := good_pos_app c t r hq' hg
        rw [List.cons_append] at this
        simp [badLen, hq', hg, this]
      · have e : badLen (c :: t) = badLen t + 1 := by simp [badLen, hq', hg]
        rw [e] at h ⊢
        have hlt : badLen t < t.length := by simpa using h
        match t with
        | d :: t' =>
          have := good_zero_app c d t' r hq' (by omega)
          simp only [List.cons_append] at this
          rw [← badLen_app (d :: t') r hlt]
          simp [badLen, hq', this]

theorem nxt_le : ∀ l, (nxt l).2 ≤ l.length
  | [] => by simp [nxt]
  | c :: t => by
    rw [nxt_cons]
    split
    · exact good_le _
    split
    · exact tk_le _ _
    · have := badLen_le t; simp; omega

theorem nxt_pos : ∀ l, l ≠ [] → 1 ≤ (nxt l).2
  | [], h => absurd rfl h
  | c :: t, _ => by
    rw [nxt_cons]
    split
    · assumption
    split
    · rename_i h
      have : isLn c = true := by simp at h; subst h; decide
      simp only [tk_pos this]; omega
    · simp

/-- LOCAL: a token that ends within l is the token whatever follows. -/
theorem nxt_app (l r : Bs) (h : (nxt l).2 < l.length) : nxt (l ++ r) = nxt l := by
  match l with
  | [] => simp at h
  | c :: t =>
    by_cases hq : c == 34
    · obtain rfl : c = 34 := by simpa using hq
      rw [List.cons_append]
      by_cases hk : tk notQ t < t.length
      · simp only [nxt, good_kind_q, quo_app _ r hk] at h ⊢
        split
        · rfl
        · rename_i hz
          rw [if_neg hz] at h
          simp only [beq_self_eq_true, if_true] at h ⊢
          rw [← List.cons_append, tk_app _ _ _ h]
      · exfalso
        have hz : quo t = 0 := quo_zero _ (by rw [List.getElem?_eq_none (by omega)]; simp)
        have hall : tk notQ t = t.length := by have := tk_le notQ t; omega
        have hln : tk isLn (34 :: t) = (34 :: t).length := by
          have g : ∀ t : Bs, tk notQ t = t.length → tk isLn t = t.length := by
            intro t
            induction t with
            | nil => intro _; rfl
            | cons d t ih =>
              intro h'
              by_cases hd : notQ d
              · rw [tk_pos hd] at h'
                have : isLn d = true := by unfold notQ at hd; unfold isLn; simp at hd ⊢; exact hd.2
                rw [tk_pos this, ih (by simpa using h')]; simp
              · simp [tk, hd] at h'
          rw [tk_pos (by decide), g t hall]; simp
        simp only [nxt, good_kind_q, hz] at h
        simp [hln] at h
    · have hq' : (c == 34) = false := by simpa using hq
      by_cases hl : 2 ≤ (c :: t).length
      · by_cases hg : 0 < (good (c :: t)).2
        · have hn : nxt (c :: t) = good (c :: t) := by simp [nxt, hg]
          rw [hn] at h ⊢
          have hga := good_app (c :: t) r hl h (by intro t' e; simp at e; simp [e.1] at hq')
          rw [List.cons_append] at hga ⊢
          simp [nxt, hga, hg]
        · have hga := good_app (c :: t) r hl (by omega) (by intro t' e; simp at e; simp [e.1] at hq')
          rw [List.cons_append] at hga ⊢
          simp only [nxt, hga, hg, hq', if_false, Bool.false_eq_true] at h ⊢
          rw [badLen_app t r (by simpa using h)]
      · obtain rfl : t = [] := by cases t <;> simp_all
        have := nxt_pos [c] (by simp)
        simp at h; omega

/-- Cut at or behind its end, the same token. -/
theorem good_take (c : UInt8) (t : Bs) (m : Nat) (hp : 0 < (good (c :: t)).2) (h : (good (c :: t)).2 ≤ m + 1) : good (c :: t.take m) = good (c :: t) := by
  have e : c :: t.take m = (c :: t).take (m + 1) := by simp
  unfold good at h hp ⊢
  by_cases h1 : isSp c
  · simp only [h1, if_true] at h ⊢; rw [e, tk_take _ _ _ h]
  simp only [h1] at h hp ⊢
  by_cases h2 : c == 35
  · simp only [h2, if_true, Bool.false_eq_true, if_false] at h ⊢; rw [e, tk_take _ _ _ h]
  simp only [h2] at h hp ⊢
  by_cases h3 : isLo c
  · simp only [h3, if_true, Bool.false_eq_true, if_false] at h ⊢; rw [e, tk_take _ _ _ h, List.take_take, Nat.min_eq_left h]
  simp only [h3] at h hp ⊢
  by_cases h4 : isUp c
  · simp only [h4, if_true, Bool.false_eq_true, if_false] at h ⊢; rw [e, tk_take _ _ _ h]
  simp only [h4] at h hp ⊢
  by_cases h5 : isDi c
  · simp only [h5, if_true, Bool.false_eq_true, if_false] at h ⊢; rw [e, tk_take _ _ _ h]
  simp only [h5] at h hp ⊢
  by_cases h6 : c == 34
  · simp only [h6, if_true, Bool.false_eq_true, if_false] at h hp ⊢
    by_cases hz : t[tk notQ t]? = some 34
    · rw [quo_eq t hz] at h ⊢
      have e2 : tk notQ (t.take m) = tk notQ t := tk_take _ _ _ (by omega)
      rw [quo_eq _ (by rw [e2, List.getElem?_take, if_pos (by omega), hz]), e2]
    · rw [quo_zero t hz] at hp; omega
  simp only [h6, Bool.false_eq_true, if_false] at h ⊢
  rw [e, sym_take _ _ (by omega) h]

theorem sym_zero_take (l : Bs) (m : Nat) (h : sym l = 0) : sym (l.take m) = 0 := by
  cases m with
  | zero => simp [sym_eq]
  | succ m => rw [sym_take _ _ (by omega) (by omega)]; exact h

theorem good_zero_take (c : UInt8) (t : Bs) (m : Nat) (hz : (good (c :: t)).2 = 0) (hq : (c == 34) = false) : (good (c :: t.take m)).2 = 0 := by
  have hc : ¬ (isSp c = true ∨ (c == 35) = true ∨ isLo c = true ∨ isUp c = true ∨ isDi c = true) := fun h => by have := good_pos c t h; omega
  simp only [not_or, Bool.not_eq_true] at hc
  obtain ⟨h1, h2, h3, h4, h5⟩ := hc
  simp only [good, h1, h2, h3, h4, h5, hq, Bool.false_eq_true, if_false] at hz ⊢
  have e : c :: t.take m = (c :: t).take (m + 1) := by simp
  rw [e]
  exact sym_zero_take _ _ hz


theorem nxt_good (c : UInt8) (t : Bs) (h : 0 < (good (c :: t)).2) : nxt (c :: t) = good (c :: t) := by simp [nxt_cons, h]

theorem badLen_take : ∀ (t : Bs) (m : Nat), badLen t ≤ m → (badLen t < m → badLen t < t.length → badLen t + (nxt (t.drop (badLen t))).2 ≤ m) → badLen (t.take m) = badLen t
  | [], m, _, _ => by simp
  | c :: t, m, h, hn => by
    cases m with
    | zero => simp at h ⊢; rw [h]; simp [badLen]
    | succ m =>
      rw [List.take_succ_cons]
      by_cases hq : c == 34
      · simp [badLen, hq]
      · have hq' : (c == 34) = false := by simpa using hq
        by_cases hg : 0 < (good (c :: t)).2
        · have hz : badLen (c :: t) = 0 := by simp [badLen, hg]
          rw [hz] at hn ⊢
          have hn' := hn (by omega) (by simp)
          simp only [List.drop_zero, nxt_good c t hg] at hn'
          have hm := good_take c t m hg (by omega)
          simp [badLen, hm, hg]
        · have e : badLen (c :: t) = badLen t + 1 := by simp [badLen, hq', hg]
          rw [e] at h hn ⊢
          have hz := good_zero_take c t m (by omega) hq'
          have ih := badLen_take t m (by omega) (fun h1 h2 => by
            have := hn (by omega) (by simpa using h2)
            simp only [List.drop_succ_cons] at this
            omega)
          simp [badLen, hq', hz, ih]

/-- Cut at the end of the first token, or at the end of the second one or behind it, the same first token. -/
theorem nxt_take (l : Bs) (m : Nat) (h : (nxt l).2 ≤ m) (hn : (nxt l).2 < m → (nxt l).2 < l.length → (nxt l).2 + (nxt (l.drop (nxt l).2)).2 ≤ m) : nxt (l.take m) = nxt l := by
  match l with
  | [] => simp
  | c :: t =>
    have hp := nxt_pos (c :: t) (by simp)
    obtain ⟨m, rfl⟩ : ∃ k, m = k + 1 := ⟨m - 1, by omega⟩
    rw [List.take_succ_cons]
    by_cases hg : 0 < (good (c :: t)).2
    · have e := nxt_good c t hg
      rw [e] at h
      have hm := good_take c t m hg h
      rw [e, nxt_good _ _ (by rw [hm]; exact hg), hm]
    · by_cases hq : c == 34
      · obtain rfl : c = 34 := by simpa using hq
        have e : nxt (34 :: t) = (8, tk isLn (34 :: t)) := by simp [nxt_cons, hg]
        rw [e] at h ⊢
        have hz : quo t = 0 := by rw [good_kind_q] at hg; omega
        have ht : quo (t.take m) = 0 := by
          -- the first quote or line feed of t is no quote
          have hs : t[tk notQ t]? ≠ some 34 := by
            intro hs; rw [quo_eq t hs] at hz; omega
          apply quo_zero
          intro hs'
          by_cases hk : tk notQ t ≤ m
          · rw [tk_take _ _ _ hk, List.getElem?_take] at hs'
            split at hs'
            · exact hs hs'
            · cases hs'
          · have g : ∀ (t : Bs) (m : Nat), m ≤ tk notQ t → tk notQ (t.take m) = m := by
              intro t
              induction t with
              | nil => intro m hm; simp [tk] at hm ⊢; exact hm.symm
              | cons d t ih =>
                intro m hm
                cases m with
                | zero => simp [tk]
                | succ m =>
                  by_cases hd : notQ d
                  · rw [tk_pos hd] at hm
                    rw [List.take_succ_cons, tk_pos hd, ih m (by omega)]
                  · simp [tk, hd] at hm
            rw [g t m (by omega), List.getElem?_take, if_neg (by omega)] at hs'
            cases hs'
        have e2 : nxt (34 :: t.take m) = (8, tk isLn (34 :: t.take m)) := by simp [nxt_cons, good_kind_q, ht]
        rw [e2, show 34 :: t.take m = (34 :: t).take (m + 1) by simp, tk_take _ _ _ h]
      · have hq' : (c == 34) = false := by simpa using hq
        have e : nxt (c :: t) = (8, badLen t + 1) := by simp [nxt_cons, hg, hq']
        rw [e] at h hn ⊢
        have hb := badLen_take t m (by simpa using h) (fun h1 h2 => by
          have := hn (by simpa using h1) (by simpa using h2)
          simp only [List.drop_succ_cons] at this
          omega)
        have hz := good_zero_take c t m (by omega) hq'
        simp [nxt_cons, hz, hq', hb]

theorem nxt_take_self (l : Bs) : nxt (l.take (nxt l).2) = nxt l := nxt_take l _ (Nat.le_refl _) (fun h => by omega)

/-! ### The tokens -/
theorem toksF_enough : ∀ (n m : Nat) (l : Bs) (a : Nat), l.length ≤ n → l.length ≤ m → toksF n l a = toksF m l a
  | 0, 0, _, _, _, _ => rfl
  | 0, m + 1, l, a, h, _ => by
    obtain rfl : l = [] := by simpa using h
    simp [toksF]
  | n + 1, 0, l, a, _, h => by
    obtain rfl : l = [] := by simpa using h
    simp [toksF]
  | n + 1, m + 1, l, a, h1, h2 => by
    by_cases hl : l = []
    · simp [toksF, hl]
    · have hp := nxt_pos l hl
      simp only [toksF, hl, if_false]
      rw [toksF_enough n m _ _ (by rw [List.length_drop]; omega) (by rw [List.length_drop]; omega)]

theorem toks_nil (a : Nat) : toks [] a = [] := by simp [toks, toksF]

theorem toks_cons (l : Bs) (a : Nat) (h : l ≠ []) : toks l a = ⟨(nxt l).1, l.take (nxt l).2, a⟩ :: toks (l.drop (nxt l).2) (a + (nxt l).2) := by
  have hl : 0 < l.length := List.length_pos_iff.2 h
  have hp := nxt_pos l h
  unfold toks
  obtain ⟨n, hn⟩ : ∃ n, l.length = n + 1 := ⟨l.length - 1, by omega⟩
  rw [hn, toksF, if_neg h]
  congr 1
  exact toksF_enough _ _ _ _ (by rw [List.length_drop]; omega) (Nat.le_refl _)

theorem toks_one (l : Bs) (a : Nat) (h : l ≠ []) (he : (nxt l).2 = l.length) : toks l a = [⟨(nxt l).1, l, a⟩] := by
  rw [toks_cons l a h, he, List.take_length, List.drop_length, toks_nil]

/-- A list of tokens is one token: its own. -/
theorem toks_len_one (l : Bs) (a : Nat) : (toks l a).length = 1 ↔ l ≠ [] ∧ (nxt l).2 = l.length := by
  by_cases h : l = []
  · subst h; simp [toks_nil]
  · rw [toks_cons l a h]
    simp only [List.length_cons, ne_eq, h, not_false_eq_true, true_and]
    have hle := nxt_le l
    by_cases hd : l.drop (nxt l).2 = []
    · rw [hd, toks_nil]
      have := List.drop_eq_nil_iff.1 hd
      simp; omega
    · rw [toks_cons _ _ hd]
      have : ¬ l.length ≤ (nxt l).2 := fun h => hd (List.drop_eq_nil_iff.2 h)
      simp; omega

theorem toks_own (l : Bs) (h : l ≠ []) : toks (l.take (nxt l).2) 0 = [⟨(nxt l).1, l.take (nxt l).2, 0⟩] := by
  have hp := nxt_pos l h
  have hle := nxt_le l
  rw [toks_one _ _ (by intro e; have := congrArg List.length e; simp at this; rcases this with h' | h'; omega; exact h h') (by rw [nxt_take_self]; simp; omega), nxt_take_self]
end Go.Proofs.YthkkmklnapkgaaaGreatDoor

import Derived.Test.YthkkmklnapkgaaaGreatDoorQ01
import Derived.Below
import Derived.Laws.AppendOwn
import Derived.Laws.Rows
/- Plain values, and their order as the order of keys. -/
namespace Go.Proofs.YthkkmklnapkgaaaGreatDoor

/-- A value of the package api. -/
inductive Val where
  | mk (kind n : Int) (s : Bs) (names : List Bs) (kids : List Val)
namespace Val
def kind : Val → Int | mk k _ _ _ _ => k
def n : Val → Int | mk _ n _ _ _ => n
def s : Val → Bs | mk _ _ s _ _ => s
def names : Val → List Bs | mk _ _ _ l _ => l
def kids : Val → List Val | mk _ _ _ _ l => l
def zero : Val := mk 0 0 [] [] []
theorem eta (v : Val) : mk v.kind v.n v.s v.names v.kids = v := by cases v; rfl
end Val

/-! ### Orders. -/
def ord (a b : Int) : Int := if a < b then -1 else if b < a then 1 else 0
def thn (c d : Int) : Int := if c = 0 then d else c
theorem thn_zero (d : Int) : thn 0 d = d := rfl
theorem thn_assoc (a b c : Int) : thn (thn a b) c = thn a (thn b c) := by
  unfold thn; by_cases h : a = 0 <;> simp [h]
theorem thn_right (a : Int) : thn a 0 = a := by unfold thn; split <;> simp_all
theorem ord_self (a : Int) : ord a a = 0 := by unfold ord; split <;> omega
theorem ord_ne {a b : Int} (h : a ≠ b) : ord a b ≠ 0 := by unfold ord; split <;> (try split) <;> omega

def cmpB : Bs → Bs → Int
  | [], [] => 0
  | [], _ :: _ => -1
  | _ :: _, [] => 1
  | a :: s, b :: t => thn (ord a.toNat b.toNat) (cmpB s t)
def cmpN : List Bs → List Bs → Int
  | [], [] => 0
  | [], _ :: _ => -1
  | _ :: _, [] => 1
  | a :: s, b :: t => thn (cmpB a b) (cmpN s t)
mutual
def cmpV : Val → Val → Int
  | .mk k n s ns ks, .mk k' n' s' ns' ks' =>
    if k ≠ k' then ord k k'
    else if k = 0 ∨ k = 2 then ord n n'
    else if k = 1 then cmpB s s'
    else if k = 3 then thn (cmpB s s') (cmpVs ks ks')
    else if k = 4 then thn (cmpN ns ns') (cmpVs ks ks')
    else if k = 5 then cmpVs ks ks'
    else 0
def cmpVs : List Val → List Val → Int
  | [], [] => 0
  | [], _ :: _ => -1
  | _ :: _, [] => 1
  | a :: s, b :: t => thn (cmpV a b) (cmpVs s t)
end

/-! ### Keys. -/
def lex : List Int → List Int → Int
  | [], [] => 0
  | [], _ :: _ => -1
  | _ :: _, [] => 1
  | a :: s, b :: t => thn (ord a b) (lex s t)
def keyB (s : Bs) : List Int := s.map (fun c => (c.toNat : Int) + 1) ++ [0]
def keyN : List Bs → List Int
  | [] => [0]
  | s :: l => 1 :: (keyB s ++ keyN l)
mutual
def key : Val → List Int
  | .mk k n s ns ks => k :: (if k = 0 ∨ k = 2 then [n] else if k = 1 then keyB s else if k = 3 then keyB s ++ keys ks else if k = 4 then keyN ns ++ keys ks else if k = 5 then keys ks else [])
def keys : List Val → List Int
  | [] => [0]
  | v :: l => 1 :: (key v ++ keys l)
end

theorem ord_succ (a b : Int) : ord (a + 1) (b + 1) = ord a b := by unfold ord; repeat' split <;> omega

theorem lex_keyB (s t : Bs) (x y : List Int) : lex (keyB s ++ x) (keyB t ++ y) = thn (cmpB s t) (lex x y) := by
  induction s generalizing t with
  | nil =>
    cases t with
    | nil => rfl
    | cons b t =>
      have h : ord 0 ((b.toNat : Int) + 1) = -1 := by unfold ord; rw [if_pos (by omega)]
      simp [keyB, lex, cmpB, h, thn]
  | cons a s ih =>
    cases t with
    | nil =>
      have h : ord ((a.toNat : Int) + 1) 0 = 1 := by unfold ord; rw [if_neg (by omega), if_pos (by omega)]
      simp [keyB, lex, cmpB, h, thn]
    | cons b t =>
      have := ih t
      simp only [keyB, List.map_cons, List.cons_append, lex, cmpB, thn_assoc, ord_succ] at this ⊢
      rw [this]
theorem lex_keyN (s t : List Bs) (x y : List Int) : lex (keyN s ++ x) (keyN t ++ y) = thn (cmpN s t) (lex x y) := by
  induction s generalizing t with
  | nil =>
    cases t with
    | nil => rfl
    | cons b t => rfl
  | cons a s ih =>
    cases t with
    | nil => rfl
    | cons b t =>
      simp only [keyN, List.cons_append, List.append_assoc, lex, cmpN, thn_assoc, ord_self, thn_zero, lex_keyB]
      rw [ih t]
mutual
theorem lex_key (a b : Val) (x y : List Int) : lex (key a ++ x) (key b ++ y) = thn (cmpV a b) (lex x y) := by
  match a, b with
  | .mk k n s ns ks, .mk k' n' s' ns' ks' =>
    by_cases hk : k = k'
    · subst hk
      simp only [key, cmpV, List.cons_append, lex, ord_self, thn_zero, ne_eq, not_true, if_false]
      split
      · simp [lex, thn]
      split
      · exact lex_keyB _ _ _ _
      split
      · rw [List.append_assoc, List.append_assoc, lex_keyB, lex_keys ks ks', thn_assoc]
      split
      · rw [List.append_assoc, List.append_assoc, lex_keyN, lex_keys ks ks', thn_assoc]
      split
      · exact lex_keys ks ks' x y
      · rfl
    · simp only [key, cmpV, List.cons_append, lex, ne_eq, hk, not_false_eq_true, if_true]
      unfold thn
      rw [if_neg (ord_ne hk), if_neg (ord_ne hk)]
theorem lex_keys (a b : List Val) (x y : List Int) : lex (keys a ++ x) (keys b ++ y) = thn (cmpVs a b) (lex x y) := by
  match a, b with
  | [], [] => rfl
  | [], _ :: _ => rfl
  | _ :: _, [] => rfl
  | v :: l, w :: m =>
    simp only [keys, List.cons_append, List.append_assoc, lex, cmpVs, thn_assoc, ord_self, thn_zero]
    rw [lex_key v w, lex_keys l m]
end
theorem cmpV_lex (a b : Val) : cmpV a b = lex (key a) (key b) := by
  have := lex_key a b [] []
  rw [List.append_nil, List.append_nil] at this
  rw [this]; exact (thn_right _).symm
theorem cmpVs_lex (a b : List Val) : cmpVs a b = lex (keys a) (keys b) := by
  have := lex_keys a b [] []
  rw [List.append_nil, List.append_nil] at this
  rw [this]; exact (thn_right _).symm

theorem lex_self (a : List Int) : lex a a = 0 := by
  induction a with
  | nil => rfl
  | cons a s ih => simp [lex, ord_self, thn, ih]
theorem lex_zero {a b : List Int} (h : lex a b = 0) : a = b := by
  induction a generalizing b with
  | nil => cases b with | nil => rfl | cons b t => simp [lex] at h
  | cons a s ih =>
    cases b with
    | nil => simp [lex] at h
    | cons b t =>
      simp only [lex, thn] at h
      split at h
      · rename_i he
        have hab : a = b := Decidable.byContradiction fun hn => ord_ne hn he
        rw [hab, ih h]
      · contradiction
theorem ord_anti (a b : Int) : ord a b = - ord b a := by unfold ord; repeat' split <;> omega
theorem lex_anti (a b : List Int) : lex a b = - lex b a := by
  induction a generalizing b with
  | nil => cases b <;> rfl
  | cons a s ih =>
    cases b with
    | nil => rfl
    | cons b t =>
      simp only [lex, thn]
      rw [ord_anti a b, ih t]
      by_cases h : ord b a = 0
      · rw [if_pos (by omega), if_pos h]
      · rw [if_neg (by omega), if_neg h]
theorem ord_rng (a b : Int) : ord a b = -1 ∨ ord a b = 0 ∨ ord a b = 1 := by unfold ord; split <;> (try split) <;> simp
theorem lex_rng (a b : List Int) : lex a b = -1 ∨ lex a b = 0 ∨ lex a b = 1 := by
  induction a generalizing b with
  | nil => cases b <;> simp [lex]
  | cons a s ih =>
    cases b with
    | nil => simp [lex]
    | cons b t =>
      simp only [lex, thn]
      split
      · exact ih t
      · exact ord_rng a b
theorem ord_lt {a b : Int} : ord a b < 0 ↔ a < b := by unfold ord; split <;> (try split) <;> omega
theorem lex_trans {a b c : List Int} (h1 : lex a b < 0) (h2 : lex b c < 0) : lex a c < 0 := by
  induction a generalizing b c with
  | nil =>
    cases c with
    | nil => cases b <;> simp [lex] at h1 h2
    | cons c u => simp [lex]
  | cons a s ih =>
    cases b with
    | nil => simp [lex] at h1
    | cons b t =>
      cases c with
      | nil => simp [lex] at h2
      | cons c u =>
        simp only [lex, thn] at h1 h2 ⊢
        have e1 := ord_lt (a := a) (b := b)
        have e2 := ord_lt (a := b) (b := c)
        have e3 := ord_lt (a := a) (b := c)
        have z1 : ord a b = 0 → a = b := fun h => Decidable.byContradiction fun hn => ord_ne hn h
        have z2 : ord b c = 0 → b = c := fun h => Decidable.byContradiction fun hn => ord_ne hn h
        split at h1
        · rename_i ha
          have := z1 ha; subst this
          split at h2
          · rename_i hb
            have := z2 hb; subst this
            rw [if_pos (ord_self _)]
            exact ih h1 h2
          · rename_i hb
            rw [if_neg hb]; exact h2
        · rename_i ha
          have hlt := e1.1 h1
          split at h2
          · rename_i hb
            have := z2 hb; subst this
            rw [if_neg ha]; exact h1
          · have := e2.1 h2
            have h3 := e3.2 (by omega)
            rw [if_neg (by omega)]; exact h3
/-- Two values are equal for the order just when their keys are. -/
theorem cmpV_zero {a b : Val} : cmpV a b = 0 ↔ key a = key b := by
  rw [cmpV_lex]
  exact ⟨lex_zero, fun h => by rw [h]; exact lex_self _⟩
end Go.Proofs.YthkkmklnapkgaaaGreatDoor

/- Reading data out of memory: strings, slices, values, types, expressions; which blocks are looked into. -/
namespace Go.Proofs.YthkkmklnapkgaaaGreatDoor
open Go.RowKit

/-- The bytes of a string. -/
abbrev bl (s : ByteArray) : Bs := s.data.toList

/-- w' agrees with w on the blocks of S. -/
def Agree (S : Nat → Prop) (w w' : World) : Prop := ∀ b, S b → b < w.heap.size → w'.heap[b]? = w.heap[b]?
theorem Agree.refl (S : Nat → Prop) (w : World) : Agree S w w := fun _ _ _ => rfl
theorem Agree.of_below {S : Nat → Prop} {w w' : World} (h : Below w.heap.size w w') : Agree S w w' := fun b _ hb => h.block b hb
theorem Agree.cell {S : Nat → Prop} {w w' : World} (h : Agree S w w') {a : Addr} {v : Value} (hS : S a.block) (hc : w.cell? a = some v) : w'.cell? a = some v :=
  (World.cell?_of_block (h a.block hS (World.block_lt_of_cell? w a hc))).trans hc

/-- How an element of k cells is read; S: the blocks that may be looked into. -/
structure Rd (T : Type) where
  k : Nat
  R : (Nat → Prop) → World → List Value → T → Prop
  len : ∀ {S w cs x}, R S w cs x → cs.length = k
  frame : ∀ {S w w' cs x}, R S w cs x → Agree S w w' → R S w' cs x
  mono : ∀ {S S' : Nat → Prop} {w cs x}, R S w cs x → (∀ b, b < w.heap.size → S b → S' b) → R S' w cs x

/-- A slice of such elements. -/
def Sl {T : Type} (r : Rd T) (S : Nat → Prop) (w : World) (v : Value) (xs : List T) : Prop :=
  ∃ p cap, v = .slice p xs.length cap ∧ xs.length ≤ 1000000 ∧ (xs ≠ [] → ∃ b off, p = some ⟨b, off, none⟩ ∧ S b ∧ b < w.heap.size ∧
    ∀ i x, xs[i]? = some x → ∃ cs, (∀ j u, cs[j]? = some u → w.cell? ⟨b, off + i * r.k + j, none⟩ = some u) ∧ r.R S w cs x)

theorem Sl.len {T : Type} {r : Rd T} {S : Nat → Prop} {w : World} {v : Value} {xs : List T} (h : Sl r S w v xs) : ∃ p cap, v = .slice p xs.length cap ∧ xs.length ≤ 1000000 := by
  obtain ⟨p, cap, h1, h2, _⟩ := h; exact ⟨p, cap, h1, h2⟩
theorem Sl.nil {T : Type} (r : Rd T) (S : Nat → Prop) (w : World) : Sl r S w (.slice none 0 0) [] := ⟨none, 0, rfl, by simp, fun h => absurd rfl h⟩
theorem Sl.frame {T : Type} {r : Rd T} {S : Nat → Prop} {w w' : World} {v : Value} {xs : List T} (h : Sl r S w v xs) (hA : Agree S w w') : Sl r S w' v xs := by
  obtain ⟨p, cap, h1, h2, h3⟩ := h
  refine ⟨p, cap, h1, h2, fun hne => ?_⟩
  obtain ⟨b, off, e, hS, hb, hc⟩ := h3 hne
  have hb' : b < w'.heap.size := by
    have := hA b hS hb
    rw [Array.getElem?_eq_getElem hb] at this
    exact (Array.getElem?_eq_some_iff.1 this).1
  refine ⟨b, off, e, hS, hb', fun i x hx => ?_⟩
  obtain ⟨cs, hcs, hr⟩ := hc i x hx
  exact ⟨cs, fun j u hu => hA.cell (a := ⟨b, _, none⟩) hS (hcs j u hu), r.frame hr hA⟩
theorem Sl.mono {T : Type} {r : Rd T} {S S' : Nat → Prop} {w : World} {v : Value} {xs : List T} (h : Sl r S w v xs) (hS : ∀ b, b < w.heap.size → S b → S' b) : Sl r S' w v xs := by
  obtain ⟨p, cap, h1, h2, h3⟩ := h
  refine ⟨p, cap, h1, h2, fun hne => ?_⟩
  obtain ⟨b, off, e, hb, hlt, hc⟩ := h3 hne
  refine ⟨b, off, e, hS b hlt hb, hlt, fun i x hx => ?_⟩
  obtain ⟨cs, hcs, hr⟩ := hc i x hx
  exact ⟨cs, hcs, r.mono hr hS⟩
theorem Sl.below {T : Type} {r : Rd T} {S : Nat → Prop} {w w' : World} {v : Value} {xs : List T} (h : Sl r S w v xs) (hb : Below w.heap.size w w') : Sl r S w' v xs := h.frame (.of_below hb)

/-- A slice of another slice: a part of its elements. -/
theorem Sl.sub {T : Type} {r : Rd T} {S : Nat → Prop} {w : World} {b off n cap : Nat} {xs : List T} (h : Sl r S w (.slice (some ⟨b, off, none⟩) n cap) xs) (lo m cap' : Nat) (hm : lo + m ≤ xs.length) :
    Sl r S w (.slice (some ⟨b, off + lo * r.k, none⟩) m cap') ((xs.drop lo).take m) := by
  obtain ⟨p, c, h1, h2, h3⟩ := h
  have hl : ((xs.drop lo).take m).length = m := by rw [List.length_take, List.length_drop]; omega
  refine ⟨_, cap', by rw [hl], by rw [hl]; omega, fun hne => ?_⟩
  have hne' : xs ≠ [] := by intro e; subst e; simp at hne
  obtain ⟨b', off', e, hS, hb, hc⟩ := h3 hne'
  simp only [Value.slice.injEq] at h1
  rw [e] at h1
  simp only [Option.some.injEq, Addr.mk.injEq] at h1
  obtain ⟨⟨rfl, rfl, _⟩, _⟩ := h1
  refine ⟨_, _, rfl, hS, hb, fun i x hx => ?_⟩
  have hi : i < m := by have := (List.getElem?_eq_some_iff.1 hx).1; omega
  rw [List.getElem?_take_of_lt hi, List.getElem?_drop] at hx
  obtain ⟨cs, hcs, hr⟩ := hc _ x hx
  refine ⟨cs, fun j u hu => ?_, hr⟩
  have := hcs j u hu
  rwa [Nat.add_mul, ← Nat.add_assoc] at this

/-- A string as a value of the model. -/
def sv (l : Bs) : Value := .string ⟨l.toArray⟩
/-- Strings, one cell each. -/
def strRd : Rd Bs where
  k := 1
  R _ _ cs x := cs = [sv x] ∧ x.length ≤ 1000000
  len h := by rw [h.1]; rfl
  frame h _ := h
  mono h _ := h
/-- Integers, one cell each. -/
def intRd : Rd Int where
  k := 1
  R _ _ cs x := cs = [.int .i64 x]
  len h := by rw [h]; rfl
  frame h _ := h
  mono h _ := h

/-- A value in five cells. -/
inductive IsVal (S : Nat → Prop) (w : World) : List Value → Val → Prop
  | mk (k n : Int) (s : Bs) (names : List Bs) (kids : List Val) (nv : Value) (p : Option Addr) (cap b off : Nat) (cs : Nat → List Value) (hs : s.length ≤ 1000000) (hn : Sl strRd S w nv names) (hl : kids.length ≤ 1000000)
      (hp : kids ≠ [] → p = some ⟨b, off, none⟩ ∧ S b ∧ b < w.heap.size) (hc : ∀ i x, kids[i]? = some x → ∀ j u, (cs i)[j]? = some u → w.cell? ⟨b, off + i * 5 + j, none⟩ = some u)
      (hr : ∀ i x, kids[i]? = some x → IsVal S w (cs i) x) : IsVal S w [.int .i64 k, .int .i64 n, sv s, nv, .slice p kids.length cap] (.mk k n s names kids)

theorem IsVal.length {S : Nat → Prop} {w : World} {cs : List Value} {x : Val} (h : IsVal S w cs x) : cs.length = 5 := by cases h; rfl
theorem IsVal.move {S S' : Nat → Prop} {w w' : World} {cs : List Value} {x : Val} (h : IsVal S w cs x) (hA : Agree S w w') (hS : ∀ b, b < w.heap.size → S b → S' b) : IsVal S' w' cs x := by
  induction h with
  | mk k n s names kids nv p cap b off cs hs hn hl hp hc hr ih =>
    refine .mk k n s names kids nv p cap b off cs hs ((hn.mono (S' := fun b => S b ∧ S' b) (fun b hb h => ⟨h, hS b hb h⟩)).frame (fun b hb => hA b hb.1) |>.mono (fun b _ h => h.2)) hl ?_ ?_ ih
    · intro hne
      obtain ⟨e, h1, h2⟩ := hp hne
      refine ⟨e, hS b h2 h1, ?_⟩
      have := hA b h1 h2
      rw [Array.getElem?_eq_getElem h2] at this
      exact (Array.getElem?_eq_some_iff.1 this).1
    · intro i x hx j u hu
      have hne : kids ≠ [] := by intro e; rw [e] at hx; simp at hx
      exact hA.cell (a := ⟨b, _, none⟩) (hp hne).2.1 (hc i x hx j u hu)
def valRd : Rd Val where
  k := 5
  R := IsVal
  len h := h.length
  frame h hA := h.move hA (fun _ _ h => h)
  mono h hS := h.move (.refl _ _) hS

theorem isVal_mk {S : Nat → Prop} {w : World} {k n : Int} {s : Bs} {names : List Bs} {kids : List Val} {nv kv : Value} (hs : s.length ≤ 1000000) (hn : Sl strRd S w nv names) (hk : Sl valRd S w kv kids) :
    IsVal S w [.int .i64 k, .int .i64 n, sv s, nv, kv] (.mk k n s names kids) := by
  obtain ⟨p, cap, rfl, hl, h⟩ := hk
  by_cases hne : kids = []
  · subst hne
    exact .mk k n s names [] nv p cap 0 0 (fun _ => []) hs hn hl (fun h => absurd rfl h) (fun i x hx => by simp at hx) (fun i x hx => by simp at hx)
  · obtain ⟨b, off, e, hS, hb, hc⟩ := h hne
    obtain ⟨cs, hcs⟩ : ∃ cs : Nat → List Value, ∀ i x, kids[i]? = some x → (∀ j u, (cs i)[j]? = some u → w.cell? ⟨b, off + i * 5 + j, none⟩ = some u) ∧ IsVal S w (cs i) x := by
      refine ⟨fun i => if h : i < kids.length then Classical.choose (hc i kids[i] (List.getElem?_eq_getElem h)) else [], fun i x hx => ?_⟩
      obtain ⟨hi, rfl⟩ := List.getElem?_eq_some_iff.1 hx
      simp only [dif_pos hi]
      exact Classical.choose_spec (hc i kids[i] (List.getElem?_eq_getElem hi))
    exact .mk k n s names kids nv p cap b off cs hs hn hl (fun _ => ⟨e, hS, hb⟩) (fun i x hx => (hcs i x hx).1) (fun i x hx => (hcs i x hx).2)
theorem isVal_iff {S : Nat → Prop} {w : World} {cs : List Value} {k n : Int} {s : Bs} {names : List Bs} {kids : List Val} :
    IsVal S w cs (.mk k n s names kids) ↔ ∃ nv kv, cs = [.int .i64 k, .int .i64 n, sv s, nv, kv] ∧ s.length ≤ 1000000 ∧ Sl strRd S w nv names ∧ Sl valRd S w kv kids := by
  constructor
  · intro h
    cases h with
    | mk _ _ _ _ _ nv p cap b off cs hs hn hl hp hc hr =>
      exact ⟨nv, _, rfl, hs, hn, p, cap, rfl, hl, fun hne => ⟨b, off, (hp hne).1, (hp hne).2.1, (hp hne).2.2, fun i x hx => ⟨cs i, hc i x hx, hr i x hx⟩⟩⟩
  · rintro ⟨nv, kv, rfl, hs, hn, hk⟩
    exact isVal_mk hs hn hk
end Go.Proofs.YthkkmklnapkgaaaGreatDoor

import Derived.Test.YthkkmklnapkgaaaGreatDoorQ02
import Derived.Maps.AppendAt
import Derived.Shelf.SlLaysH0
import Derived.Shelf.SlLaysE0
import Derived.Test.YthkkmklnapkgaaaGreatDoorProg
/- Rows of the call's own that hold data: begun, grown, stored into, read. -/
namespace Go.Proofs.YthkkmklnapkgaaaGreatDoor
open Go.RowKit

theorem exists_list {α : Type} (n : Nat) (Q : Nat → α → Prop) (h : ∀ i, i < n → ∃ a, Q i a) : ∃ l : List α, l.length = n ∧ ∀ i a, l[i]? = some a → Q i a := by
  induction n with
  | zero => exact ⟨[], rfl, fun i a h => by simp at h⟩
  | succ n ih =>
    obtain ⟨l, hl, hq⟩ := ih (fun i hi => h i (by omega))
    obtain ⟨a, ha⟩ := h n (by omega)
    refine ⟨l ++ [a], by simp [hl], fun i b hb => ?_⟩
    by_cases hi : i < l.length
    · rw [List.getElem?_append_left hi] at hb; exact hq i b hb
    · rw [List.getElem?_append_right (by omega)] at hb
      have h0 : i - l.length = 0 := by
        have := (List.getElem?_eq_some_iff.1 hb).1
        simp at this; omega
      rw [h0] at hb
      simp at hb
      subst hb
      have : i = n := by omega
      rw [this]; exact ha

theorem flat_len {k : Nat} {css : List (List Value)} (h : ∀ c ∈ css, c.length = k) : css.flatten.length = css.length * k := by
  induction css with
  | nil => simp
  | cons c css ih =>
    rw [List.flatten_cons, List.length_append, h c (by simp), ih (fun d hd => h d (by simp [hd])), List.length_cons, Nat.add_mul]
    omega
theorem flat_get {k : Nat} {css : List (List Value)} (h : ∀ c ∈ css, c.length = k) {i j : Nat} {c : List Value} {u : Value} (hc : css[i]? = some c) (hu : c[j]? = some u) : css.flatten[i * k + j]? = some u := by
  induction css generalizing i with
  | nil => simp at hc
  | cons d css ih =>
    have hd := h d (by simp)
    rw [List.flatten_cons]
    cases i with
    | zero =>
      simp at hc; subst hc
      have hj : j < d.length := (List.getElem?_eq_some_iff.1 hu).1
      rw [Nat.zero_mul, Nat.zero_add, List.getElem?_append_left hj]; exact hu
    | succ i =>
      have := ih (fun e he => h e (by simp [he])) (i := i) (by simpa using hc)
      rw [List.getElem?_append_right (by rw [hd, Nat.add_mul]; omega), hd]
      rw [show (i + 1) * k + j - k = i * k + j by rw [Nat.add_mul]; omega]
      exact this
theorem flat_at {k : Nat} (hk : 0 < k) {css : List (List Value)} (h : ∀ c ∈ css, c.length = k) {m : Nat} {u : Value} (hu : css.flatten[m]? = some u) : ∃ c, css[m / k]? = some c ∧ c[m % k]? = some u := by
  have hm : m < css.length * k := by rw [← flat_len h]; exact (List.getElem?_eq_some_iff.1 hu).1
  have hi : m / k < css.length := Nat.div_lt_of_lt_mul (by rwa [Nat.mul_comm])
  have hc := List.getElem?_eq_getElem hi
  have hl := h _ (List.getElem_mem hi)
  have hj : m % k < (css[m / k]).length := by rw [hl]; exact Nat.mod_lt _ hk
  refine ⟨_, hc, ?_⟩
  have := flat_get h hc (List.getElem?_eq_getElem hj)
  rw [Nat.div_add_mod' m k] at this
  rw [List.getElem?_eq_getElem hj, ← hu, this]

/-- The cells of the elements, one list. -/
structure Cs {T : Type} (r : Rd T) (S : Nat → Prop) (w : World) (css : List (List Value)) (xs : List T) : Prop where
  len : css.length = xs.length
  R : ∀ (i : Nat) (c : List Value) (x : T), css[i]? = some c → xs[i]? = some x → r.R S w c x
theorem Cs.all {T : Type} {r : Rd T} {S : Nat → Prop} {w : World} {css : List (List Value)} {xs : List T} (h : Cs r S w css xs) : ∀ c ∈ css, c.length = r.k := by
  intro c hc
  obtain ⟨i, hi⟩ := List.getElem?_of_mem hc
  have hil := (List.getElem?_eq_some_iff.1 hi).1
  exact r.len (h.R i c _ hi (List.getElem?_eq_getElem (by rw [← h.len]; exact hil)))
theorem Cs.flat {T : Type} {r : Rd T} {S : Nat → Prop} {w : World} {css : List (List Value)} {xs : List T} (h : Cs r S w css xs) : css.flatten.length = xs.length * r.k := by rw [flat_len h.all, h.len]
theorem Cs.move {T : Type} {r : Rd T} {S S' : Nat → Prop} {w w' : World} {css : List (List Value)} {xs : List T} (h : Cs r S w css xs) (hA : Agree S w w') (hS : ∀ b, b < w.heap.size → S b → S' b) : Cs r S' w' css xs :=
  ⟨h.len, fun i c x hc hx => r.mono (r.frame (r.mono (S' := fun b => S b ∧ S' b) (h.R i c x hc hx) (fun b hb h => ⟨h, hS b hb h⟩)) (fun b hb => hA b hb.1)) (fun _ _ h => h.2)⟩
theorem Cs.app {T : Type} {r : Rd T} {S : Nat → Prop} {w : World} {css dss : List (List Value)} {xs ys : List T} (h : Cs r S w css xs) (g : Cs r S w dss ys) : Cs r S w (css ++ dss) (xs ++ ys) := by
  refine ⟨by rw [List.length_append, List.length_append, h.len, g.len], fun i c x hc hx => ?_⟩
  by_cases hi : i < css.length
  · rw [List.getElem?_append_left hi] at hc
    rw [List.getElem?_append_left (by rw [← h.len]; exact hi)] at hx
    exact h.R i c x hc hx
  · rw [List.getElem?_append_right (by omega)] at hc
    rw [List.getElem?_append_right (by rw [← h.len]; omega), ← h.len] at hx
    exact g.R _ c x hc hx
theorem Cs.one {T : Type} {r : Rd T} {S : Nat → Prop} {w : World} {c : List Value} {x : T} (h : r.R S w c x) : Cs r S w [c] [x] := by
  refine ⟨rfl, fun i c' x' hc hx => ?_⟩
  cases i with
  | zero => simp at hc hx; subst hc; subst hx; exact h
  | succ i => simp at hc
theorem Cs.nil {T : Type} (r : Rd T) (S : Nat → Prop) (w : World) : Cs r S w [] [] := ⟨rfl, fun i c x hc _ => by simp at hc⟩

theorem Sl.css {T : Type} {r : Rd T} (hk : 0 < r.k) {S : Nat → Prop} {w : World} {v : Value} {xs : List T} (h : Sl r S w v xs) :
    ∃ p cap css, v = .slice p xs.length cap ∧ Cs r S w css xs ∧ (xs ≠ [] → ∃ b off, p = some ⟨b, off, none⟩ ∧ S b ∧ b < w.heap.size ∧ ∀ j u, css.flatten[j]? = some u → w.cell? ⟨b, off + j, none⟩ = some u) := by
  obtain ⟨p, cap, h1, h2, h3⟩ := h
  by_cases hne : xs = []
  · subst hne; exact ⟨p, cap, [], h1, Cs.nil _ _ _, fun h => absurd rfl h⟩
  · obtain ⟨b, off, e, hS, hb, hc⟩ := h3 hne
    obtain ⟨css, hl, hq⟩ := exists_list xs.length (fun i cs => (∀ j u, cs[j]? = some u → w.cell? ⟨b, off + i * r.k + j, none⟩ = some u) ∧ ∀ x, xs[i]? = some x → r.R S w cs x) (fun i hi => by
      obtain ⟨cs, h4, h5⟩ := hc i _ (List.getElem?_eq_getElem hi)
      exact ⟨cs, h4, fun x hx => by rw [List.getElem?_eq_getElem hi] at hx; cases hx; exact h5⟩)
    have hCs : Cs r S w css xs := ⟨hl, fun i c x hci hx => (hq i c hci).2 x hx⟩
    refine ⟨p, cap, css, h1, hCs, fun _ => ⟨b, off, e, hS, hb, fun j u hu => ?_⟩⟩
    obtain ⟨c, hci, hcu⟩ := flat_at hk hCs.all hu
    have := (hq _ c hci).1 _ u hcu
    rwa [Nat.add_assoc, Nat.div_add_mod' j r.k] at this

theorem Sl.of_css {T : Type} {r : Rd T} {S : Nat → Prop} {w : World} {xs : List T} {b off cap : Nat} {css : List (List Value)} (hl : xs.length ≤ 1000000) (h : Cs r S w css xs) (hS : S b) (hb : b < w.heap.size)
    (hc : ∀ j u, css.flatten[j]? = some u → w.cell? ⟨b, off + j, none⟩ = some u) : Sl r S w (.slice (some ⟨b, off, none⟩) xs.length cap) xs := by
  refine ⟨_, cap, rfl, hl, fun _ => ⟨b, off, rfl, hS, hb, fun i x hx => ?_⟩⟩
  have hi : i < css.length := by rw [h.len]; exact (List.getElem?_eq_some_iff.1 hx).1
  refine ⟨css[i], fun j u hu => ?_, h.R i _ x (List.getElem?_eq_getElem hi) hx⟩
  have := hc _ u (flat_get h.all (List.getElem?_eq_getElem hi) hu)
  rwa [← Nat.add_assoc] at this

/-- The blocks of S but the one that v has. -/
def But (S : Nat → Prop) (v : Value) : Nat → Prop := fun b => S b ∧ some b ≠ v.ownBlock

/-- A row of the call's own (from block B on, elements of type E) that holds the elements xs. -/
structure Own {T : Type} (r : Rd T) (E : TypeId) (S : Nat → Prop) (B : Nat) (w : World) (v : Value) (xs : List T) (css : List (List Value)) : Prop where
  row : w.ownsRow B E r.k v xs.length css.flatten
  cs : Cs r (But S v) w css xs

theorem Own.nil {T : Type} (r : Rd T) (E : TypeId) (S : Nat → Prop) (B : Nat) (w : World) : Own r E S B w (.slice none 0 0) [] [] := ⟨by simpa using World.ownsRow_nil w B E r.k, Cs.nil _ _ _⟩

theorem ownsRow_keep {w w' : World} {B : Nat} {e : TypeId} {sz n : Nat} {v : Value} {xs : List Value} (h : w.ownsRow B e sz v n xs) (hb : Below w.heap.size w w') : w'.ownsRow B e sz v n xs := by
  refine ⟨h.1, ?_⟩
  rcases h.2 with hn | ⟨g, cap, cur, rfl, hB, hg, rest⟩
  · exact .inl hn
  · refine .inr ⟨g, cap, cur, rfl, hB, ?_, rest⟩
    rw [hb.block g (Array.getElem?_eq_some_iff.1 hg).1]; exact hg
theorem Own.below {T : Type} {r : Rd T} {E : TypeId} {S : Nat → Prop} {B : Nat} {w w' : World} {v : Value} {xs : List T} {css : List (List Value)} (h : Own r E S B w v xs css) (hb : Below w.heap.size w w') : Own r E S B w' v xs css :=
  ⟨ownsRow_keep h.row hb, h.cs.move (.of_below hb) (fun _ _ h => h)⟩

/-- What append makes of it: W is the world in which the new elements lie. -/
theorem Own.append {T : Type} {r : Rd T} {E : TypeId} {S : Nat → Prop} {B : Nat} {W w2 : World} {v v' : Value} {xs ys : List T} {css dss : List (List Value)} (h : Own r E S B W v xs css) (hd : Cs r (But S v) W dss ys)
    (hown : w2.ownsRow B E r.k v' (xs.length + ys.length) (css.flatten ++ dss.flatten)) (hgrow : W.grownBy w2 v.ownBlock) (hat : v'.ownBlock = v.ownBlock ∨ v'.ownBlock = some W.heap.size) : Own r E S B w2 v' (xs ++ ys) (css ++ dss) := by
  refine ⟨by rw [List.length_append, List.flatten_append]; exact hown, ?_⟩
  have hc := h.cs.app hd
  have h1 : Cs r (fun b => But S v b ∧ But S v' b) W (css ++ dss) (xs ++ ys) := hc.move (.refl _ _) (fun b hb h => ⟨h, h.1, by
    rcases hat with e | e
    · rw [e]; exact h.2
    · rw [e]; intro e2; have := Option.some.inj e2; omega⟩)
  exact h1.move (fun b hb hlt => hgrow.block b hlt hb.1.2) (fun _ _ h => h.2)

theorem cell_at {w : World} {g : Nat} {cur : Array Value} {E : TypeId} {n : Nat} {ys : List Value} (hg : w.heap[g]? = some (.cells cur E (0, 0))) (ht : cur.toList.take n = ys) {j : Nat} {u : Value} (hu : ys[j]? = some u) : w.cell? ⟨g, j, none⟩ = some u := by
  rw [cell_of_row w g j cur E (0, 0) hg]
  rw [← ht, List.getElem?_take] at hu
  split at hu
  · simpa using hu
  · cases hu

theorem Own.sl {T : Type} {r : Rd T} {E : TypeId} {S S' : Nat → Prop} {B : Nat} {w : World} {v : Value} {xs : List T} {css : List (List Value)} (h : Own r E S B w v xs css) (hl : xs.length ≤ 1000000)
    (h1 : ∀ b, B ≤ b → S' b) (h2 : ∀ b, b < w.heap.size → S b → S' b) : Sl r S' w v xs := by
  rcases h.row.2 with ⟨rfl, h0⟩ | ⟨g, cap, cur, rfl, hB, hg, _, _, _, ht⟩
  · rw [List.eq_nil_of_length_eq_zero h0]; exact Sl.nil _ _ _
  · refine Sl.of_css (css := css) hl (h.cs.move (.refl _ _) (fun b hb h => h2 b hb h.1)) (h1 g hB) (Array.getElem?_eq_some_iff.1 hg).1 (fun j u hu => ?_)
    rw [Nat.zero_add]; exact cell_at hg ht hu
end Go.Proofs.YthkkmklnapkgaaaGreatDoor

/-
  DERIVED: THE SHELF's CONTRACTS AT THIS DUMP, IN PLAIN WORDS (tools/lay-plain.mjs out of 'YthkkmklnapkgaaaGreatDoorShelfD.lean', which tools/lay-shelf.mjs wrote): THE SAME DECLARATIONS UNDER THE SAME NAMES: 'import', 'namespace', 'open', 'def', 'theorem' AND NOTHING ELSE: no command of the shelf's: FOR A HAND-IN. Each laying: the table of numbers ('.._ren') and one theorem, a field a fact of the dump's own or the kernel's comparison; each contract: ONE APPLICATION.
-/
namespace Go.Proofs
open Go.Shelf
def Tryz.ixRel_ren : Go.Shelf.Ren := ⟨fun | 6 => 33 | n => n, fun | 22 => 35 | 23 => 31 | 25 => 82 | 3 => 3 | 0 => 0 | 4 => 4 | n => n, fun | n => n⟩
theorem Tryz.ixRel : Go.Proofs.SlLaysH0.n6 Tryz.prog Tryz.ixRel_ren := {
  mixed := by kernel_rfl
  f6 := ⟨Tryz.f33.name, by decide, Tryz.func33.trans (congrArg some (by kernel_rfl))⟩
  t0 := Tryz.underlying0
  a0 := Tryz.isAgg0
  z0 := Tryz.sizeOf0
  v0 := Tryz.zeroValue0
  t3 := Tryz.underlying3
  a3 := Tryz.isAgg3
  z3 := Tryz.sizeOf3
  v3 := Tryz.zeroValue3
  t4 := Tryz.underlying4
  a4 := Tryz.isAgg4
  z4 := Tryz.sizeOf4
  v4 := Tryz.zeroValue4
  t22 := Tryz.underlying35
  a22 := Tryz.isAgg35
  z22 := Tryz.sizeOf35
  v22 := Tryz.zeroValue35
  t25 := Tryz.underlying82
  a25 := Tryz.isAgg82
  z25 := Tryz.sizeOf82
  v25 := Tryz.zeroValue82 }
def Tryz.ixVal_ren : Go.Shelf.Ren := ⟨fun | 6 => 47 | n => n, fun | 22 => 29 | 23 => 34 | 25 => 73 | 3 => 3 | 0 => 0 | 4 => 4 | n => n, fun | n => n⟩
theorem Tryz.ixVal : Go.Proofs.SlLaysH0.n6 Tryz.prog Tryz.ixVal_ren := {
  mixed := by kernel_rfl
  f6 := ⟨Tryz.f47.name, by decide, Tryz.func47.trans (congrArg some (by kernel_rfl))⟩
  t0 := Tryz.underlying0
  a0 := Tryz.isAgg0
  z0 := Tryz.sizeOf0
  v0 := Tryz.zeroValue0
  t3 := Tryz.underlying3
  a3 := Tryz.isAgg3
  z3 := Tryz.sizeOf3
  v3 := Tryz.zeroValue3
  t4 := Tryz.underlying4
  a4 := Tryz.isAgg4
  z4 := Tryz.sizeOf4
  v4 := Tryz.zeroValue4
  t22 := Tryz.underlying29
  a22 := Tryz.isAgg29
  z22 := Tryz.sizeOf29
  v22 := Tryz.zeroValue29
  t25 := Tryz.underlying73
  a25 := Tryz.isAgg73
  z25 := Tryz.sizeOf73
  v25 := Tryz.zeroValue73 }
def Tryz.ixSum_ren : Go.Shelf.Ren := ⟨fun | 6 => 81 | n => n, fun | 22 => 23 | 23 => 51 | 25 => 123 | 3 => 3 | 0 => 0 | 4 => 4 | n => n, fun | n => n⟩
theorem Tryz.ixSum : Go.Proofs.SlLaysH0.n6 Tryz.prog Tryz.ixSum_ren := {
  mixed := by kernel_rfl
  f6 := ⟨Tryz.f81.name, by decide, Tryz.func81.trans (congrArg some (by kernel_rfl))⟩
  t0 := Tryz.underlying0
  a0 := Tryz.isAgg0
  z0 := Tryz.sizeOf0
  v0 := Tryz.zeroValue0
  t3 := Tryz.underlying3
  a3 := Tryz.isAgg3
  z3 := Tryz.sizeOf3
  v3 := Tryz.zeroValue3
  t4 := Tryz.underlying4
  a4 := Tryz.isAgg4
  z4 := Tryz.sizeOf4
  v4 := Tryz.zeroValue4
  t22 := Tryz.underlying23
  a22 := Tryz.isAgg23
  z22 := Tryz.sizeOf23
  v22 := Tryz.zeroValue23
  t25 := Tryz.underlying123
  a25 := Tryz.isAgg123
  z25 := Tryz.sizeOf123
  v25 := Tryz.zeroValue123 }
def Tryz.ixCtor_ren : Go.Shelf.Ren := ⟨fun | 6 => 83 | n => n, fun | 22 => 49 | 23 => 48 | 25 => 125 | 3 => 3 | 0 => 0 | 4 => 4 | n => n, fun | n => n⟩
theorem Tryz.ixCtor : Go.Proofs.SlLaysH0.n6 Tryz.prog Tryz.ixCtor_ren := {
  mixed := by kernel_rfl
  f6 := ⟨Tryz.f83.name, by decide, Tryz.func83.trans (congrArg some (by kernel_rfl))⟩
  t0 := Tryz.underlying0
  a0 := Tryz.isAgg0
  z0 := Tryz.sizeOf0
  v0 := Tryz.zeroValue0
  t3 := Tryz.underlying3
  a3 := Tryz.isAgg3
  z3 := Tryz.sizeOf3
  v3 := Tryz.zeroValue3
  t4 := Tryz.underlying4
  a4 := Tryz.isAgg4
  z4 := Tryz.sizeOf4
  v4 := Tryz.zeroValue4
  t22 := Tryz.underlying49
  a22 := Tryz.isAgg49
  z22 := Tryz.sizeOf49
  v22 := Tryz.zeroValue49
  t25 := Tryz.underlying125
  a25 := Tryz.isAgg125
  z25 := Tryz.sizeOf125
  v25 := Tryz.zeroValue125 }
def Tryz.cfVal_ren : Go.Shelf.Ren := ⟨fun | 8 => 61 | 6 => 47 | n => n, fun | 22 => 29 | 23 => 34 | 25 => 73 | 4 => 4 | 3 => 3 | 0 => 0 | n => n, fun | n => n⟩
theorem Tryz.cfVal : Go.Proofs.SlLaysH0.n8 Tryz.prog Tryz.cfVal_ren := {
  mixed := by kernel_rfl
  f6 := ⟨Tryz.f47.name, by decide, Tryz.func47.trans (congrArg some (by kernel_rfl))⟩
  f8 := ⟨Tryz.f61.name, by decide, Tryz.func61.trans (congrArg some (by kernel_rfl))⟩
  t0 := Tryz.underlying0
  a0 := Tryz.isAgg0
  z0 := Tryz.sizeOf0
  v0 := Tryz.zeroValue0
  t3 := Tryz.underlying3
  a3 := Tryz.isAgg3
  z3 := Tryz.sizeOf3
  v3 := Tryz.zeroValue3
  t4 := Tryz.underlying4
  a4 := Tryz.isAgg4
  z4 := Tryz.sizeOf4
  v4 := Tryz.zeroValue4
  t22 := Tryz.underlying29
  a22 := Tryz.isAgg29
  z22 := Tryz.sizeOf29
  v22 := Tryz.zeroValue29
  t25 := Tryz.underlying73
  a25 := Tryz.isAgg73
  z25 := Tryz.sizeOf73
  v25 := Tryz.zeroValue73 }
def Tryz.cfExpr_ren : Go.Shelf.Ren := ⟨fun | 8 => 92 | 6 => 122 | n => n, fun | 22 => 52 | 23 => 54 | 25 => 103 | 4 => 4 | 3 => 3 | 0 => 0 | n => n, fun | n => n⟩
theorem Tryz.cfExpr : Go.Proofs.SlLaysH0.n8 Tryz.prog Tryz.cfExpr_ren := {
  mixed := by kernel_rfl
  f6 := ⟨Tryz.f122.name, by decide, Tryz.func122.trans (congrArg some (by kernel_rfl))⟩
  f8 := ⟨Tryz.f92.name, by decide, Tryz.func92.trans (congrArg some (by kernel_rfl))⟩
  t0 := Tryz.underlying0
  a0 := Tryz.isAgg0
  z0 := Tryz.sizeOf0
  v0 := Tryz.zeroValue0
  t3 := Tryz.underlying3
  a3 := Tryz.isAgg3
  z3 := Tryz.sizeOf3
  v3 := Tryz.zeroValue3
  t4 := Tryz.underlying4
  a4 := Tryz.isAgg4
  z4 := Tryz.sizeOf4
  v4 := Tryz.zeroValue4
  t22 := Tryz.underlying52
  a22 := Tryz.isAgg52
  z22 := Tryz.sizeOf52
  v22 := Tryz.zeroValue52
  t25 := Tryz.underlying103
  a25 := Tryz.isAgg103
  z25 := Tryz.sizeOf103
  v25 := Tryz.zeroValue103 }
def Tryz.clVal_ren : Go.Shelf.Ren := ⟨fun | 41 => 70 | n => n, fun | 22 => 29 | 23 => 34 | 4 => 4 | n => n, fun | n => n⟩
theorem Tryz.clVal : Go.Proofs.SlLaysE0.n41 Tryz.prog Tryz.clVal_ren := {
  mixed := by kernel_rfl
  f41 := ⟨Tryz.f70.name, by decide, Tryz.func70.trans (congrArg some (by kernel_rfl))⟩
  t4 := Tryz.underlying4
  a4 := Tryz.isAgg4
  z4 := Tryz.sizeOf4
  v4 := Tryz.zeroValue4
  t22 := Tryz.underlying29
  a22 := Tryz.isAgg29
  z22 := Tryz.sizeOf29
  v22 := Tryz.zeroValue29 }
def Tryz.clCol_ren : Go.Shelf.Ren := ⟨fun | 41 => 43 | n => n, fun | 22 => 56 | 23 => 61 | 4 => 4 | n => n, fun | n => n⟩
theorem Tryz.clCol : Go.Proofs.SlLaysE0.n41 Tryz.prog Tryz.clCol_ren := {
  mixed := by kernel_rfl
  f41 := ⟨Tryz.f43.name, by decide, Tryz.func43.trans (congrArg some (by kernel_rfl))⟩
  t4 := Tryz.underlying4
  a4 := Tryz.isAgg4
  z4 := Tryz.sizeOf4
  v4 := Tryz.zeroValue4
  t22 := Tryz.underlying56
  a22 := Tryz.isAgg56
  z22 := Tryz.sizeOf56
  v22 := Tryz.zeroValue56 }
def Tryz.clStr_ren : Go.Shelf.Ren := ⟨fun | 41 => 69 | n => n, fun | 22 => 32 | 23 => 9 | 4 => 4 | n => n, fun | n => n⟩
theorem Tryz.clStr : Go.Proofs.SlLaysE0.n41 Tryz.prog Tryz.clStr_ren := {
  mixed := by kernel_rfl
  f41 := ⟨Tryz.f69.name, by decide, Tryz.func69.trans (congrArg some (by kernel_rfl))⟩
  t4 := Tryz.underlying4
  a4 := Tryz.isAgg4
  z4 := Tryz.sizeOf4
  v4 := Tryz.zeroValue4
  t22 := Tryz.underlying32
  a22 := Tryz.isAgg32
  z22 := Tryz.sizeOf32
  v22 := Tryz.zeroValue32 }
def Tryz.clRel_ren : Go.Shelf.Ren := ⟨fun | 41 => 104 | n => n, fun | 22 => 35 | 23 => 31 | 4 => 4 | n => n, fun | n => n⟩
theorem Tryz.clRel : Go.Proofs.SlLaysE0.n41 Tryz.prog Tryz.clRel_ren := {
  mixed := by kernel_rfl
  f41 := ⟨Tryz.f104.name, by decide, Tryz.func104.trans (congrArg some (by kernel_rfl))⟩
  t4 := Tryz.underlying4
  a4 := Tryz.isAgg4
  z4 := Tryz.sizeOf4
  v4 := Tryz.zeroValue4
  t22 := Tryz.underlying35
  a22 := Tryz.isAgg35
  z22 := Tryz.sizeOf35
  v22 := Tryz.zeroValue35 }
def Tryz.clRef_ren : Go.Shelf.Ren := ⟨fun | 41 => 120 | n => n, fun | 22 => 57 | 23 => 64 | 4 => 4 | n => n, fun | n => n⟩
theorem Tryz.clRef : Go.Proofs.SlLaysE0.n41 Tryz.prog Tryz.clRef_ren := {
  mixed := by kernel_rfl
  f41 := ⟨Tryz.f120.name, by decide, Tryz.func120.trans (congrArg some (by kernel_rfl))⟩
  t4 := Tryz.underlying4
  a4 := Tryz.isAgg4
  z4 := Tryz.sizeOf4
  v4 := Tryz.zeroValue4
  t22 := Tryz.underlying57
  a22 := Tryz.isAgg57
  z22 := Tryz.sizeOf57
  v22 := Tryz.zeroValue57 }
def Tryz.clByte_ren : Go.Shelf.Ren := ⟨fun | 41 => 117 | n => n, fun | 22 => 97 | 23 => 5 | 4 => 4 | n => n, fun | n => n⟩
theorem Tryz.clByte : Go.Proofs.SlLaysE0.n41 Tryz.prog Tryz.clByte_ren := {
  mixed := by kernel_rfl
  f41 := ⟨Tryz.f117.name, by decide, Tryz.func117.trans (congrArg some (by kernel_rfl))⟩
  t4 := Tryz.underlying4
  a4 := Tryz.isAgg4
  z4 := Tryz.sizeOf4
  v4 := Tryz.zeroValue4
  t22 := Tryz.underlying97
  a22 := Tryz.isAgg97
  z22 := Tryz.sizeOf97
  v22 := Tryz.zeroValue97 }
end Go.Proofs

import Derived.Shelf.SlLaysF0
import Derived.Shelf.Lays2
import Derived.Test.YthkkmklnapkgaaaGreatDoorProg
import Derived.Test.YthkkmklnapkgaaaGreatDoorQ10
import Derived.Shelf.SlSortCmp.InsertionK
import Derived.Test.YthkkmklnapkgaaaGreatDoorQ06
/-
  DERIVED: THE SHELF's CONTRACTS AT THIS DUMP, IN PLAIN WORDS (tools/lay-plain.mjs out of 'YthkkmklnapkgaaaGreatDoorShelfE.lean', which tools/lay-shelf.mjs wrote): THE SAME DECLARATIONS UNDER THE SAME NAMES: 'import', 'namespace', 'open', 'def', 'theorem' AND NOTHING ELSE: no command of the shelf's: FOR A HAND-IN. Each laying: the table of numbers ('.._ren') and one theorem, a field a fact of the dump's own or the kernel's comparison; each contract: ONE APPLICATION.
-/
namespace Go.Proofs
open Go.Shelf
def Tryz.insVal_ren : Go.Shelf.Ren := ⟨fun | 20 => 109 | n => n, fun | 24 => 34 | 22 => 29 | 3 => 3 | 25 => 84 | 4 => 4 | 0 => 0 | n => n, fun | n => n⟩
theorem Tryz.insVal : Go.Proofs.SlLaysF0.n20 Tryz.prog Tryz.insVal_ren := {
  mixed := by kernel_rfl
  f20 := ⟨Tryz.f109.name, by decide, Tryz.func109.trans (congrArg some (by kernel_rfl))⟩
  t0 := Tryz.underlying0
  a0 := Tryz.isAgg0
  z0 := Tryz.sizeOf0
  v0 := Tryz.zeroValue0
  t3 := Tryz.underlying3
  a3 := Tryz.isAgg3
  z3 := Tryz.sizeOf3
  v3 := Tryz.zeroValue3
  t4 := Tryz.underlying4
  a4 := Tryz.isAgg4
  z4 := Tryz.sizeOf4
  v4 := Tryz.zeroValue4
  t22 := Tryz.underlying29
  a22 := Tryz.isAgg29
  z22 := Tryz.sizeOf29
  v22 := Tryz.zeroValue29
  t25 := Tryz.underlying84
  a25 := Tryz.isAgg84
  z25 := Tryz.sizeOf84
  v25 := Tryz.zeroValue84 }
def Tryz.insCol_ren : Go.Shelf.Ren := ⟨fun | 20 => 111 | n => n, fun | 24 => 61 | 22 => 56 | 3 => 3 | 25 => 93 | 4 => 4 | 0 => 0 | n => n, fun | n => n⟩
theorem Tryz.insCol : Go.Proofs.SlLaysF0.n20 Tryz.prog Tryz.insCol_ren := {
  mixed := by kernel_rfl
  f20 := ⟨Tryz.f111.name, by decide, Tryz.func111.trans (congrArg some (by kernel_rfl))⟩
  t0 := Tryz.underlying0
  a0 := Tryz.isAgg0
  z0 := Tryz.sizeOf0
  v0 := Tryz.zeroValue0
  t3 := Tryz.underlying3
  a3 := Tryz.isAgg3
  z3 := Tryz.sizeOf3
  v3 := Tryz.zeroValue3
  t4 := Tryz.underlying4
  a4 := Tryz.isAgg4
  z4 := Tryz.sizeOf4
  v4 := Tryz.zeroValue4
  t22 := Tryz.underlying56
  a22 := Tryz.isAgg56
  z22 := Tryz.sizeOf56
  v22 := Tryz.zeroValue56
  t25 := Tryz.underlying93
  a25 := Tryz.isAgg93
  z25 := Tryz.sizeOf93
  v25 := Tryz.zeroValue93 }
def Tryz.laysBS_ren : Go.Shelf.Ren := ⟨fun | 26 => 123 | 33 => 135 | 34 => 136 | 38 => 127 | n => n, fun | 24 => 32 | 9 => 9 | 3 => 3 | 4 => 4 | 40 => 168 | 0 => 0 | n => n, fun | n => n⟩
theorem Tryz.laysBS : Go.Proofs.Lays2.n26 Tryz.prog Tryz.laysBS_ren := {
  mixed := by kernel_rfl
  f26 := Tryz.func123.trans (congrArg some (by kernel_rfl))
  f33 := Tryz.func135.trans (congrArg some (by kernel_rfl))
  f34 := Tryz.func136.trans (congrArg some (by kernel_rfl))
  f38 := Tryz.func127.trans (congrArg some (by kernel_rfl))
  t0 := Tryz.underlying0
  a0 := Tryz.isAgg0
  z0 := Tryz.sizeOf0
  v0 := Tryz.zeroValue0
  t3 := Tryz.underlying3
  a3 := Tryz.isAgg3
  z3 := Tryz.sizeOf3
  v3 := Tryz.zeroValue3
  t4 := Tryz.underlying4
  a4 := Tryz.isAgg4
  z4 := Tryz.sizeOf4
  v4 := Tryz.zeroValue4
  t9 := Tryz.underlying9
  a9 := Tryz.isAgg9
  z9 := Tryz.sizeOf9
  v9 := Tryz.zeroValue9
  t24 := Tryz.underlying32
  a24 := Tryz.isAgg32
  z24 := Tryz.sizeOf32
  v24 := Tryz.zeroValue32
  t40 := Tryz.underlying168
  a40 := Tryz.isAgg168
  z40 := Tryz.sizeOf168
  v40 := Tryz.zeroValue168 }
end Go.Proofs

/- slices' insertion sort over a row of the call's own that is sorted already: it only reads. -/
namespace Go.Proofs.YthkkmklnapkgaaaGreatDoor
open Go.RowKit Go.Shelf Go.Lib

/-- The list is sorted. -/
def Srt {T : Type} (cf : T → T → Int) (xs : List T) : Prop := ∀ (i j : Nat) (x y : T), i < j → xs[i]? = some x → xs[j]? = some y → 0 ≤ cf y x

/-- An order on elements, as a function value may compute it in every world that agrees with w on the blocks of S. -/
def CmpOn {T : Type} (P : Program) (g : Nat) (r : Rd T) (S : Nat → Prop) (cf : T → T → Int) : Prop :=
  ∀ (W : World) (x y : T) (cx cy : List Value), r.R S W cx x → r.R S W cy y → Calls P g #[.agg cx.toArray, .agg cy.toArray] W fun e w' => e = .returned (.int .i64 (cf x y)) ∧ Gr W w'

theorem insOuter_sorted {α : Type} [Inhabited α] (lt : α → α → Bool) (a b : Nat) (d : Array α) (h : ∀ j, a < j → j < b → lt d[j]! d[j - 1]! = false) : ∀ (k i : Nat), b - i ≤ k → a < i → Sort.insOuter lt a b i d = d := by
  intro k
  induction k with
  | zero => intro i hi _; exact insOuter_stop _ _ _ _ _ (by omega)
  | succ k ih =>
    intro i hi ha
    by_cases hlt : i < b
    · rw [insOuter_go _ _ _ _ _ hlt, insInner_stop _ _ _ _ (.inr (h i ha hlt))]
      exact ih (i + 1) (by omega) (by omega)
    · exact insOuter_stop _ _ _ _ _ hlt

theorem sortWorld_agree {α : Type} [Inhabited α] (enc : α → List Value) (k : Nat) (w : World) (g m : Nat) (dk : Array α) (os : Array Obj) (b : Nat) (hb : b < w.heap.size) (hne : b ≠ g) : (sortWorldK enc k w g 0 m dk os).heap[b]? = w.heap[b]? := by
  unfold sortWorldK Sort.putRowK Sort.putRow Sort.mapBlock Sort.grow Sort.ahead
  simp only
  rw [Array.getElem?_append_left (by simpa using hb), Array.getElem?_modify, if_neg (fun e => hne e.symm)]

/-- The elements with their cells. -/
def El {T : Type} (r : Rd T) (S : Nat → Prop) (w : World) : Type := { p : List Value × T // r.R S w p.1 p.2 }

section
variable {P : Program} {ρ : Ren} {T : Type}
set_option maxHeartbeats 1000000 in
theorem insSorted (L : SlLaysF0.n20 P ρ) (r : Rd T) (hk0 : 0 < r.k) (E : TypeId) (aE : ∀ w, (isAgg (ρ.t 24)).run P w = .ok true w) (zE : ∀ w, (Go.sizeOf (ρ.t 24)).run P w = .ok r.k w) (h1 : ∀ S w cs x, r.R S w cs x → ∀ u ∈ cs, u.oneCell' = true)
    (cf : T → T → Int) (g : Nat) (eg : ∀ args w, (callFunc g args).run P w = .ok (.enter g args) w) (S : Nat → Prop) (B : Nat) (w : World) (q cap : Nat) (xs : List T) (css : List (List Value)) (hO : Own r E S B w (.slice (some ⟨q, 0, none⟩) xs.length cap) xs css)
    (z : List Value) (zt : T) (hz : r.R (But S (.slice (some ⟨q, 0, none⟩) xs.length cap)) w z zt)
    (hc : CmpOn P g r (But S (.slice (some ⟨q, 0, none⟩) xs.length cap)) cf) (ho : Srt cf xs) (hl : xs.length ≤ 1000000) (a b : Nat) (hab : a ≤ b) (hb : b ≤ xs.length) :
    Calls P (ρ.f 20) #[.slice (some ⟨q, 0, none⟩) xs.length cap, .int .i64 a, .int .i64 b, .func (.func g) #[] #[]] w fun e w' => e = .returned (.tuple #[]) ∧ Gr w w' := by
  haveI : Inhabited (El r (But S (.slice (some ⟨q, 0, none⟩) xs.length cap)) w) := ⟨⟨(z, zt), hz⟩⟩
  obtain ⟨l, hll, hlat⟩ := exists_list xs.length (fun i (e : El r (But S (.slice (some ⟨q, 0, none⟩) xs.length cap)) w) => css[i]? = some e.1.1 ∧ xs[i]? = some e.1.2) (fun i hi => by
    have h1 := List.getElem?_eq_getElem (l := css) (i := i) (by rw [hO.cs.len]; exact hi)
    have h2 := List.getElem?_eq_getElem hi
    exact ⟨⟨(_, _), hO.cs.R i _ _ h1 h2⟩, h1, h2⟩)
  have hsz : l.toArray.size = xs.length := by simpa using hll
  have hget : ∀ i, i < xs.length → css[i]? = some (l.toArray[i]!).1.1 ∧ xs[i]? = some (l.toArray[i]!).1.2 := by
    intro i hi
    refine hlat i _ ?_
    rw [List.getElem?_eq_getElem (by omega)]
    simp [hll, hi]
  have hq := (hO.row.lt q rfl).2
  have hH : Sort.HoldsK (fun e : El r (But S (.slice (some ⟨q, 0, none⟩) xs.length cap)) w => e.1.1) r.k w q 0 l.toArray := by
    intro j hj
    rw [Sort.size_flatK, hsz] at hj
    have hjk : j / r.k < xs.length := Nat.div_lt_of_lt_mul (by rwa [Nat.mul_comm])
    have hg := hget _ hjk
    refine ⟨?_, by rw [Nat.zero_add]; exact hO.row.frozenAt j⟩
    rw [Nat.zero_add, hO.row.cellAt j hj]
    have hmod : j % r.k < (l.toArray[j / r.k]!).1.1.length := by rw [r.len (l.toArray[j / r.k]!).2]; exact Nat.mod_lt _ hk0
    have := flat_get hO.cs.all hg.1 (List.getElem?_eq_getElem hmod)
    rw [Nat.div_add_mod' j r.k] at this
    rw [this, Sort.get_flatK _ _ _ _ (by rw [hsz]; exact hj), getElem!_pos ((l.toArray[j / r.k]!).1.1) (j % r.k) hmod]
    rfl
  have hcmp : CmpLays P g #[] (fun e : El r (But S (.slice (some ⟨q, 0, none⟩) xs.length cap)) w => e.1.1) r.k (fun x y => cf x.1.2 y.1.2) q 0 l.toArray.size w := by
    intro m os dk _ x y
    have hA : Agree (But S (.slice (some ⟨q, 0, none⟩) xs.length cap)) w (sortWorldK (fun e : El r (But S (.slice (some ⟨q, 0, none⟩) xs.length cap)) w => e.1.1) r.k w q 0 m dk os) := fun b hb hlt => sortWorld_agree _ _ _ _ _ _ _ b hlt (fun e => hb.2 (by rw [e]; rfl))
    exact hc _ x.1.2 y.1.2 _ _ (r.frame x.2 hA) (r.frame y.2 hA)
  have hcon := AnyQ.insertionSortCmpFunc (ρ := ρ) L r.k aE zE (fun e : El r (But S (.slice (some ⟨q, 0, none⟩) xs.length cap)) w => e.1.1) (fun e => r.len e.2) (fun e => h1 _ _ _ _ e.2) (fun x y => cf x.1.2 y.1.2) g #[] q 0 cap a b l.toArray w eg hcmp hH hq hab (by rw [hsz]; exact hb) (by rw [hsz]; omega)
  rw [hsz] at hcon
  refine hcon.mono ?_
  rintro e w' ⟨rfl, n, os, rfl⟩
  refine ⟨rfl, ?_⟩
  have hs : Sort.insertionSort (ltOf fun (x y : El r (But S (.slice (some ⟨q, 0, none⟩) xs.length cap)) w) => cf x.1.2 y.1.2) l.toArray a b = l.toArray := by
    refine insOuter_sorted _ _ _ _ (fun j hj1 hj2 => ?_) _ _ (Nat.le_refl _) (by omega)
    have h2 := (hget j (by omega)).2
    have h3 := (hget (j - 1) (by omega)).2
    have := ho (j - 1) j _ _ (by omega) h3 h2
    simp only [ltOf, decide_eq_false_iff_not]
    omega
  rw [hs]
  unfold sortWorldK
  rw [Sort.putRowK_self _ _ _ _ _ _ (Sort.holdsK_ahead _ _ _ _ _ _ _ hH)]
  exact ⟨n, os, rfl⟩
end
end Go.Proofs.YthkkmklnapkgaaaGreatDoor

/- append of one element to a row of the call's own that holds data. -/
namespace Go.Proofs.YthkkmklnapkgaaaGreatDoor
open Go.RowKit

/-- What an append leaves of old memory: all but the row that it grew. -/
structure Left (B : Nat) (w w1 : World) (v v1 : Value) : Prop where
  below : Below B w w1
  size : w.heap.size ≤ w1.heap.size
  other : ∀ b, b < w.heap.size → some b ≠ v.ownBlock → w1.heap[b]? = w.heap[b]?
  at' : v1.ownBlock = v.ownBlock ∨ ∃ g, v1.ownBlock = some g ∧ w.heap.size ≤ g

theorem grow_left {B : Nat} {w w1 : World} {o : Obj} {v v1 : Value} (hg : (w.alloc o).grownBy w1 v.ownBlock) (hv : ∀ g, v.ownBlock = some g → B ≤ g) (hB : B ≤ w.heap.size) (hat : v1.ownBlock = v.ownBlock ∨ v1.ownBlock = some (w.alloc o).heap.size) : Left B w w1 v v1 := by
  have hb : Below B w w1 := ((Below.refl B w).alloc hB o).grown hg (by simp; omega) hv
  refine ⟨hb, hb.size, fun b hlt hne => ?_, ?_⟩
  · rw [hg.block b (by simp; omega) (fun e => hne e), Below.heap_alloc w o b hlt]
  · rcases hat with h | h
    · exact .inl h
    · exact .inr ⟨_, h, by simp⟩

theorem Own.move {T : Type} {r : Rd T} {E : TypeId} {S : Nat → Prop} {B B' : Nat} {w w' : World} {v : Value} {xs : List T} {css : List (List Value)} (h : Own r E S B w v xs css) (hB : B' ≤ B) (hA : ∀ b, b < w.heap.size → (S b ∨ v.ownBlock = some b) → w'.heap[b]? = w.heap[b]?) : Own r E S B' w' v xs css := by
  refine ⟨⟨h.row.1, ?_⟩, h.cs.move (fun b hS hlt => hA b hlt (.inl hS.1)) (fun _ _ h => h)⟩
  rcases h.row.2 with hn | ⟨g, cap, cur, rfl, hg, hh, rest⟩
  · exact .inl hn
  · exact .inr ⟨g, cap, cur, rfl, by omega, (hA g (Array.getElem?_eq_some_iff.1 hh).1 (.inr rfl)).trans hh, rest⟩
/-- Rows of different element types lie in different blocks. -/
theorem rows_apart {w : World} {B B' : Nat} {e e' : TypeId} {k k' n n' : Nat} {v v' : Value} {xs ys : List Value} (h : w.ownsRow B e k v n xs) (h' : w.ownsRow B' e' k' v' n' ys) (hne : e ≠ e') {g : Nat} (hg : v.ownBlock = some g) : v'.ownBlock ≠ some g := by
  intro hg'
  rcases h.2 with ⟨rfl, _⟩ | ⟨a, cap, cur, rfl, _, hh, _⟩
  · cases hg
  rcases h'.2 with ⟨rfl, _⟩ | ⟨a', cap', cur', rfl, _, hh', _⟩
  · cases hg'
  have e1 : a = g := Option.some.inj hg
  have e2 : a' = g := Option.some.inj hg'
  subst e1; subst e2
  rw [hh] at hh'
  injection hh' with h1
  injection h1 with _ h2
  exact hne h2

section
variable {P : Program} {T : Type}
theorem wpList_app {r : Rd T} (hk : 0 < r.k) {ops : Array Oper} {rest : List Oper} {o : Oper} {a : Act} {Q : Exit → Act → World → Prop} (hgd : o.guard = none) (s x : Operand) (t : TypeId)
    (ho : o.op = .call { callee := .builtin .append, args := #[s, x], argTypes := #[t, t] }) (E : TypeId) (i : TypeInfo) (z : Value) (bytes : Nat) (ht : P.underlying t = some (.slice E)) (hi : P.info? E = some i) (hz : i.zero = some z)
    (hsize : i.size = r.k) (hby : i.bytes = bytes) (hzs : z.cells.size = r.k) (hb1 : bytes ≤ 1000) (S : Nat → Prop) (B : Nat) (w : World) (v : Value) (xs : List T) (css : List (List Value)) (cs : List Value) (y : T) (hs : a.eval s = v)
    (hO : Own r E S B w v xs css) (hx : a.eval x = .slice (some ⟨w.heap.size, 0, none⟩) 1 1) (hR : r.R (But S v) w cs y) (h1 : ∀ u ∈ cs, u.oneCell' = true) (n : Nat) (hn : xs.length = n) (hl : n < 1000000) (hB : B ≤ w.heap.size)
    (h : ∀ p cap css' w1, Own r E S B w1 (.slice p (n + 1) cap) (xs ++ [y]) css' → Left B w w1 v (.slice p (n + 1) cap) → wpList P ops Q rest (a.put o.dst (.slice p (n + 1) cap)) w1) :
    wpList P ops Q (o :: rest) a (w.alloc (.cells cs.toArray E)) := by
  subst hn
  have hlen := r.len hR
  have hba : Below w.heap.size w (w.alloc (.cells cs.toArray E)) := (Below.refl _ _).alloc (Nat.le_refl _) _
  have hO1 : Own r E S B (w.alloc (.cells cs.toArray E)) v xs css := hO.below hba
  refine wpList_append_own_at (P := P) (w := w.alloc (.cells cs.toArray E)) hgd s x t ho B E i z r.k bytes ht hi hz hsize hby hzs hk v xs.length css.flatten hs hO1.row ⟨w.heap.size, 0, none⟩ 1 1 cs hx (by rw [hlen, Nat.one_mul]) (fun j u hu => ?_) h1 (by unfold maxLen; omega) (by
      have := Nat.mul_le_mul (show xs.length + 1 ≤ 1000000 by omega) hb1
      omega) (by simp; omega) (fun v1 w1 hown hgrow _ hat => ?_)
  · rw [show (⟨w.heap.size, 0, none⟩ : Addr).add j = ⟨w.heap.size, j, none⟩ by unfold Addr.add; split <;> simp_all]
    rw [cell_of_row _ _ _ _ _ _ (heap_alloc_new w _)]
    simpa using hu
  · have hO2 := hO1.append (Cs.one (r.mono (r.frame hR (.of_below hba)) (fun _ _ h => h))) (ys := [y]) (dss := [cs]) (v' := v1) (w2 := w1) (by simpa using hown) hgrow hat
    rcases hown.2 with ⟨_, hn⟩ | ⟨g, cap, cur, rfl, _⟩
    · omega
    · exact h _ _ _ _ hO2 (grow_left hgrow (fun g hg => (hO.row.lt g hg).1) hB hat)
end
end Go.Proofs.YthkkmklnapkgaaaGreatDoor

/- The stable sort of columns that are sorted already (20 at most); schema.Row. -/
namespace Go.Proofs.YthkkmklnapkgaaaGreatDoor
open Go.RowKit Go.Shelf Go.Lib

theorem colZero (S : Nat → Prop) (w : World) : colRd.R S w [.string ⟨#[]⟩, .int .i64 0, .string ⟨#[]⟩, .int .i64 0, .slice none 0 0, .slice none 0 0] ⟨[], .mk 0 [] 0 [] []⟩ :=
  ⟨_, rfl, by simp, isTy_mk (s := []) (by simp) (Sl.nil _ _ _) (Sl.nil _ _ _)⟩
def cmpCol (a b : Col) : Int := cmpB a.name b.name
theorem row1_on (S : Nat → Prop) : CmpOn Tryz.prog 45 colRd S cmpCol := fun W x y cx cy hx hy => row1_any S x y cx cy W hx hy

theorem insCol (S : Nat → Prop) (B : Nat) (w : World) (q cap : Nat) (xs : List Col) (css : List (List Value)) (hO : Own colRd 61 S B w (.slice (some ⟨q, 0, none⟩) xs.length cap) xs css)
    (ho : Srt cmpCol xs) (hl : xs.length ≤ 1000000) (a b : Nat) (hab : a ≤ b) (hb : b ≤ xs.length) :
    Calls Tryz.prog 111 #[.slice (some ⟨q, 0, none⟩) xs.length cap, .int .i64 a, .int .i64 b, .func (.func 45) #[] #[]] w fun e w' => e = .returned (.tuple #[]) ∧ Gr w w' :=
  insSorted Tryz.insCol colRd (by decide) 61 Tryz.isAgg61 Tryz.sizeOf61 col_one cmpCol 45 (enters_of Tryz.func45 (by kernel_rfl) rfl) S B w q cap xs css hO _ _ (colZero _ _) (row1_on _) ho hl a b hab hb

set_option maxRecDepth 100000 in
theorem stableCol (S : Nat → Prop) (B : Nat) (w : World) (q cap : Nat) (xs : List Col) (css : List (List Value)) (hO : Own colRd 61 S B w (.slice (some ⟨q, 0, none⟩) xs.length cap) xs css)
    (ho : Srt cmpCol xs) (hl : xs.length ≤ 19) :
    Calls Tryz.prog 72 #[.slice (some ⟨q, 0, none⟩) xs.length cap, .int .i64 xs.length, .func (.func 45) #[] #[]] w fun e w' => e = .returned (.tuple #[]) ∧ Gr w w' := by
  have HI := Lib.hid (insCol S B w q cap xs css hO ho (by omega) 0 xs.length (Nat.zero_le _) (Nat.le_refl _))
  clear hO ho
  have h1 : (xs.length : Int) < 20 := by omega
  generalize xs.length = n at HI h1 hl ⊢
  rw [show ((0 : Nat) : Int) = 0 from rfl] at HI
  go_enter Tryz.func72, Tryz.ntmps72
  go_wp2_with fail
  go_loop [7, 8] (fun a b => a = .int .i64 0 ∧ b = .int .i64 20) (fun _ _ => 0)
  case atStart => exact ⟨rfl, rfl⟩
  case round =>
    obtain ⟨rfl, rfl⟩ := hrel
    go_wp2_with (go_at_call 111; refine HI.out.mono ?_; rintro e w' ⟨rfl, hw⟩)
    go_loopw [6] (fun s wr => s = .int .i64 20 ∧ Gr w wr) (fun _ _ => 0)
    case atStart => exact ⟨rfl, hw⟩
    case round =>
      obtain ⟨rfl, hB⟩ := hrel
      have HB := Lib.hid hB
      clear hB hw
      go_wp2_with fail
      go_end0
      exact ⟨rfl, HB.out⟩
theorem sortCol (S : Nat → Prop) (B : Nat) (w : World) (p : Option Addr) (cap : Nat) (xs : List Col) (css : List (List Value)) (hO : Own colRd 61 S B w (.slice p xs.length cap) xs css)
    (ho : Srt cmpCol xs) (hl : xs.length ≤ 19) (hne : xs ≠ []) :
    Calls Tryz.prog 44 #[.slice p xs.length cap, .func (.func 45) #[] #[]] w fun e w' => e = .returned (.tuple #[]) ∧ Gr w w' := by
  have hpos : 0 < xs.length := List.length_pos_iff.2 hne
  obtain ⟨q, cap', hv, _⟩ := hO.row.form hpos
  simp only [Value.slice.injEq] at hv
  obtain ⟨rfl, -, rfl⟩ := hv
  have HI := Lib.hid (stableCol S B w q cap xs css hO ho hl)
  clear hO ho hne hpos
  generalize xs.length = n at HI hl ⊢
  go_enter Tryz.func44, Tryz.ntmps44
  go_wp2_with (go_at_call 72; refine HI.out.mono ?_; rintro e w' ⟨rfl, hw⟩)
  go_end0
  exact ⟨rfl, hw⟩
end Go.Proofs.YthkkmklnapkgaaaGreatDoor

import Derived.Test.YtppbaladeefnkaaGreatDoorU04
set_option maxRecDepth 100000
set_option maxHeartbeats 400000000
namespace Go.Proofs.YtppbaladeefnkaaGreatDoor
open Go.RowKit Go.Shelf Go.Lib Tryz
def Srt {T : Type} (cf : T → T → Int) (xs : List T) : Prop := ∀ (i j : Nat) (x y : T), i < j → xs[i]? = some x → xs[j]? = some y → 0 ≤ cf y x
def CmpOn {T : Type} (P : Program) (g : Nat) (r : Rd T) (S : Nat → Prop) (cf : T → T → Int) : Prop :=
 ∀ (W : World) (x y : T) (cx cy : List Value), r.R S W cx x → r.R S W cy y → Calls P g #[.agg cx.toArray, .agg cy.toArray] W fun e w' => e = .returned (.int .i64 (cf x y)) ∧ Gr W w'
theorem Du {α : Type} [Inhabited α] (lt : α → α → Bool) (a b : Nat) (d : Array α) (h : ∀ j, a < j → j < b → lt d[j]! d[j - 1]! = false) : ∀ (k i : Nat), b - i ≤ k → a < i → Sort.insOuter lt a b i d = d := by
 intro k
 induction k with
 | zero => intro i hi _; exact insOuter_stop _ _ _ _ _ (by omega)
 | succ k ih =>
  intro i hi ha
  by_cases hlt : i < b
  ·rw [insOuter_go _ _ _ _ _ hlt, insInner_stop _ _ _ _ (.inr (h i ha hlt))]
   exact ih (i + 1) (by omega) (by omega)
  exact insOuter_stop _ _ _ _ _ hlt
theorem Dr {α : Type} [Inhabited α] (enc : α → List Value) (k : Nat) (w : World) (g m : Nat) (dk : Array α) (os : Array Obj) (b : Nat) (hb : b < w.heap.size) (hne : b ≠ g) : (sortWorldK enc k w g 0 m dk os).heap[b]? = w.heap[b]? := by
 unfold sortWorldK Sort.putRowK Sort.putRow Sort.mapBlock Sort.grow Sort.ahead
 simp only
 rw [Array.getElem?_append_left (by simpa using hb), Array.getElem?_modify, if_neg (fun e => hne e.symm)]
def El {T : Type} (r : Rd T) (S : Nat → Prop) (w : World) : Type := { p : List Value × T // r.R S w p.1 p.2 }
section
variable {P : Program} {ρ : Ren} {T : Type}
theorem Oe (L : SlLaysF0.n20 P ρ) (r : Rd T) (hk0 : 0 < r.k) (E : TypeId) (aE : ∀ w, (isAgg (ρ.t 24)).run P w = .ok true w) (zE : ∀ w, (Go.sizeOf (ρ.t 24)).run P w = .ok r.k w) (h1 : ∀ S w cs x, r.R S w cs x → ∀ u ∈ cs, u.oneCell' = true)
  (cf : T → T → Int) (g : Nat) (eg : ∀ args w, (callFunc g args).run P w = .ok (.enter g args) w) (S : Nat → Prop) (B : Nat) (w : World) (q cap : Nat) (xs : List T) (css : List (List Value)) (hO : Own r E S B w (.slice (some ⟨q, 0, none⟩) xs.length cap) xs css)
  (z : List Value) (zt : T) (hz : r.R (But S (.slice (some ⟨q, 0, none⟩) xs.length cap)) w z zt)
  (hc : CmpOn P g r (But S (.slice (some ⟨q, 0, none⟩) xs.length cap)) cf) (ho : Srt cf xs) (hl : xs.length ≤ 1000000) (a b : Nat) (hab : a ≤ b) (hb : b ≤ xs.length) :
  Calls P (ρ.f 20) #[.slice (some ⟨q, 0, none⟩) xs.length cap, .int .i64 a, .int .i64 b, .func (.func g) #[] #[]] w fun e w' => e = .returned (.tuple #[]) ∧ Gr w w' := by
 haveI : Inhabited (El r (But S (.slice (some ⟨q, 0, none⟩) xs.length cap)) w) := ⟨⟨(z, zt), hz⟩⟩
 obtain ⟨l, hll, hlat⟩ := Dw xs.length (fun i (e : El r (But S (.slice (some ⟨q, 0, none⟩) xs.length cap)) w) => css[i]? = some e.1.1 ∧ xs[i]? = some e.1.2) (fun i hi => by
  have h1 := Qx (l := css) (i := i) (by rw [hO.cs.len]; exact hi)
  have h2 := Qx hi
  exact ⟨⟨(_, _), hO.cs.R i _ _ h1 h2⟩, h1, h2⟩)
 have hsz : l.toArray.size = xs.length := by simpa using hll
 have hget : ∀ i, i < xs.length → css[i]? = some (l.toArray[i]!).1.1 ∧ xs[i]? = some (l.toArray[i]!).1.2 := by
  intro i hi
  refine hlat i _ ?_
  rw [Qx (by omega)]
  simp [hll, hi]
 have hq := (hO.row.lt q rfl).2
 have hH : Sort.HoldsK (fun e : El r (But S (.slice (some ⟨q, 0, none⟩) xs.length cap)) w => e.1.1) r.k w q 0 l.toArray := by
  intro j hj
  rw [Sort.size_flatK, hsz] at hj
  have hjk : j / r.k < xs.length := Nat.div_lt_of_lt_mul (by rwa [Nat.mul_comm])
  have hg := hget _ hjk
  refine ⟨?_, by rw [Nat.zero_add]; exact hO.row.frozenAt j⟩
  rw [Nat.zero_add, hO.row.cellAt j hj]
  have hmod : j % r.k < (l.toArray[j / r.k]!).1.1.length := by rw [r.len (l.toArray[j / r.k]!).2]; exact Nat.mod_lt _ hk0
  have := Xv hO.cs.all hg.1 (Qx hmod)
  rw [Nat.div_add_mod' j r.k] at this
  rw [this, Sort.get_flatK _ _ _ _ (by rw [hsz]; exact hj), getElem!_pos ((l.toArray[j / r.k]!).1.1) (j % r.k) hmod]
  rfl
 have hcmp : CmpLays P g #[] (fun e : El r (But S (.slice (some ⟨q, 0, none⟩) xs.length cap)) w => e.1.1) r.k (fun x y => cf x.1.2 y.1.2) q 0 l.toArray.size w := by
  intro m os dk _ x y
  have hA : V9 (But S (.slice (some ⟨q, 0, none⟩) xs.length cap)) w (sortWorldK (fun e : El r (But S (.slice (some ⟨q, 0, none⟩) xs.length cap)) w => e.1.1) r.k w q 0 m dk os) := fun b hb hlt => Dr _ _ _ _ _ _ _ b hlt (fun e => hb.2 (by rw [e]; rfl))
  exact hc _ x.1.2 y.1.2 _ _ (r.frame x.2 hA) (r.frame y.2 hA)
 have hcon := AnyQ.insertionSortCmpFunc (ρ := ρ) L r.k aE zE (fun e : El r (But S (.slice (some ⟨q, 0, none⟩) xs.length cap)) w => e.1.1) (fun e => r.len e.2) (fun e => h1 _ _ _ _ e.2) (fun x y => cf x.1.2 y.1.2) g #[] q 0 cap a b l.toArray w eg hcmp hH hq hab (by rw [hsz]; exact hb) (by rw [hsz]; omega)
 rw [hsz] at hcon
 refine hcon.mono ?_
 rintro e w' ⟨rfl, n, os, rfl⟩
 refine ⟨rfl, ?_⟩
 have hs : Sort.insertionSort (ltOf fun (x y : El r (But S (.slice (some ⟨q, 0, none⟩) xs.length cap)) w) => cf x.1.2 y.1.2) l.toArray a b = l.toArray := by
  refine Du _ _ _ _ (fun j hj1 hj2 => ?_) _ _ (Q9 _) (by omega)
  have h2 := (hget j (by omega)).2
  have h3 := (hget (j - 1) (by omega)).2
  have := ho (j - 1) j _ _ (by omega) h3 h2
  simp only [ltOf, decide_eq_false_iff_not]
  omega
 rw [hs]
 unfold sortWorldK
 rw [Sort.putRowK_self _ _ _ _ _ _ (Sort.holdsK_ahead _ _ _ _ _ _ _ hH)]
 exact ⟨n, os, rfl⟩
end
open Go.RowKit
structure Gu (B : Nat) (w w1 : World) (v v1 : Value) : Prop where
 below : Below B w w1
 size : w.heap.size ≤ w1.heap.size
 other : ∀ b, b < w.heap.size → some b ≠ v.ownBlock → w1.heap[b]? = w.heap[b]?
 at' : v1.ownBlock = v.ownBlock ∨ ∃ g, v1.ownBlock = some g ∧ w.heap.size ≤ g
theorem Po {B : Nat} {w w1 : World} {o : Obj} {v v1 : Value} (hg : (w.alloc o).grownBy w1 v.ownBlock) (hv : ∀ g, v.ownBlock = some g → B ≤ g) (hB : B ≤ w.heap.size) (hat : v1.ownBlock = v.ownBlock ∨ v1.ownBlock = some (w.alloc o).heap.size) : Gu B w w1 v v1 := by
 have hb : Below B w w1 := ((Qz B w).alloc hB o).grown hg (by simp; omega) hv
 refine ⟨hb, hb.size, fun b hlt hne => ?_, ?_⟩
 ·rw [hg.block b (by simp; omega) (fun e => hne e), Below.heap_alloc w o b hlt]
 rcases hat with h | h
 ·exact .inl h
 exact .inr ⟨_, h, by simp⟩
theorem Own.move {T : Type} {r : Rd T} {E : TypeId} {S : Nat → Prop} {B B' : Nat} {w w' : World} {v : Value} {xs : List T} {css : List (List Value)} (h : Own r E S B w v xs css) (hB : B' ≤ B) (hA : ∀ b, b < w.heap.size → (S b ∨ v.ownBlock = some b) → w'.heap[b]? = w.heap[b]?) : Own r E S B' w' v xs css := by
 refine ⟨⟨h.row.1, ?_⟩, h.cs.move (fun b hS hlt => hA b hlt (.inl hS.1)) (fun _ _ h => h)⟩
 rcases h.row.2 with hn | ⟨g, cap, cur, rfl, hg, hh, rest⟩
 ·exact .inl hn
 exact .inr ⟨g, cap, cur, rfl, by omega, (hA g (Array.getElem?_eq_some_iff.1 hh).1 (.inr rfl)).trans hh, rest⟩
theorem Yz {w : World} {B B' : Nat} {e e' : TypeId} {k k' n n' : Nat} {v v' : Value} {xs ys : List Value} (h : w.ownsRow B e k v n xs) (h' : w.ownsRow B' e' k' v' n' ys) (hne : e ≠ e') {g : Nat} (hg : v.ownBlock = some g) : v'.ownBlock ≠ some g := by
 intro hg'
 rcases h.2 with ⟨rfl, _⟩ | ⟨a, cap, cur, rfl, _, hh, _⟩
 ·cases hg
 rcases h'.2 with ⟨rfl, _⟩ | ⟨a', cap', cur', rfl, _, hh', _⟩
 ·cases hg'
 have e1 : a = g := Qb hg
 have e2 : a' = g := Qb hg'
 subst e1; subst e2
 rw [hh] at hh'
 injection hh' with h1
 injection h1 with _ h2
 exact hne h2
section
variable {P : Program} {T : Type}
theorem Zm {r : Rd T} (hk : 0 < r.k) {ops : Array Oper} {rest : List Oper} {o : Oper} {a : Act} {Q : Exit → Act → World → Prop} (hgd : o.guard = none) (s x : Operand) (t : TypeId)
  (ho : o.op = .call { callee := .builtin .append, args := #[s, x], argTypes := #[t, t] }) (E : TypeId) (i : TypeInfo) (z : Value) (bytes : Nat) (ht : P.underlying t = some (.slice E)) (hi : P.info? E = some i) (hz : i.zero = some z)
  (hsize : i.size = r.k) (hby : i.bytes = bytes) (hzs : z.cells.size = r.k) (hb1 : bytes ≤ 1000) (S : Nat → Prop) (B : Nat) (w : World) (v : Value) (xs : List T) (css : List (List Value)) (cs : List Value) (y : T) (hs : a.eval s = v)
  (hO : Own r E S B w v xs css) (hx : a.eval x = .slice (some ⟨w.heap.size, 0, none⟩) 1 1) (hR : r.R (But S v) w cs y) (h1 : ∀ u ∈ cs, u.oneCell' = true) (n : Nat) (hn : xs.length = n) (hl : n < 1000000) (hB : B ≤ w.heap.size)
  (h : ∀ p cap css' w1, Own r E S B w1 (.slice p (n + 1) cap) (xs ++ [y]) css' → Gu B w w1 v (.slice p (n + 1) cap) → wpList P ops Q rest (a.put o.dst (.slice p (n + 1) cap)) w1) :
  wpList P ops Q (o :: rest) a (w.alloc (.cells cs.toArray E)) := by
 subst hn
 have hlen := r.len hR
 have hba : Below w.heap.size w (w.alloc (.cells cs.toArray E)) := (Qz _ _).alloc (Q9 _) _
 have hO1 : Own r E S B (w.alloc (.cells cs.toArray E)) v xs css := hO.below hba
 refine wpList_append_own_at (P := P) (w := w.alloc (.cells cs.toArray E)) hgd s x t ho B E i z r.k bytes ht hi hz hsize hby hzs hk v xs.length css.flatten hs hO1.row ⟨w.heap.size, 0, none⟩ 1 1 cs hx (by rw [hlen, Nat.one_mul]) (fun j u hu => ?_) h1 (by unfold maxLen; omega) (by
   have := Nat.mul_le_mul (show xs.length + 1 ≤ 1000000 by omega) hb1
   omega) (by simp; omega) (fun v1 w1 hown hgrow _ hat => ?_)
 ·rw [show (⟨w.heap.size, 0, none⟩ : Addr).add j = ⟨w.heap.size, j, none⟩ by unfold Addr.add; split <;> simp_all]
  rw [Qk _ _ _ _ _ _ (Qw w _)]
  simpa using hu
 have hO2 := hO1.append (Cs.one (r.mono (r.frame hR (.of_below hba)) (fun _ _ h => h))) (ys := [y]) (dss := [cs]) (v' := v1) (w2 := w1) (by simpa using hown) hgrow hat
 rcases hown.2 with ⟨_, hn⟩ | ⟨g, cap, cur, rfl, _⟩
 ·omega
 exact h _ _ _ _ hO2 (Po hgrow (fun g hg => (hO.row.lt g hg).1) hB hat)
end
theorem colZero (S : Nat → Prop) (w : World) : Yy.R S w [.string ⟨#[]⟩, .int .i64 0, .string ⟨#[]⟩, .int .i64 0, .slice none 0 0, .slice none 0 0] ⟨[], .mk 0 [] 0 [] []⟩ :=
 ⟨_, rfl, by simp, Ug (s := []) (by simp) (Sl.nil _ _ _) (Sl.nil _ _ _)⟩
def Jj (a b : Col) : Int := Zg a.name b.name
theorem row1_on (S : Nat → Prop) : CmpOn prog 121 Yy S Jj := fun W x y cx cy hx hy => row1_any S x y cx cy W hx hy
theorem insCol (S : Nat → Prop) (B : Nat) (w : World) (q cap : Nat) (xs : List Col) (css : List (List Value)) (hO : Own Yy 78 S B w (.slice (some ⟨q, 0, none⟩) xs.length cap) xs css)
  (ho : Srt Jj xs) (hl : xs.length ≤ 1000000) (a b : Nat) (hab : a ≤ b) (hb : b ≤ xs.length) :
  Calls prog 185 #[.slice (some ⟨q, 0, none⟩) xs.length cap, .int .i64 a, .int .i64 b, .func (.func 121) #[] #[]] w fun e w' => e = .returned (.tuple #[]) ∧ Gr w w' :=
 Oe Tryz.insCol Yy (by decide) 78 isAgg78 sizeOf78 Nn Jj 121 (enters_of func121 (by kernel_rfl) rfl) S B w q cap xs css hO _ _ (colZero _ _) (row1_on _) ho hl a b hab hb
theorem R9 (S : Nat → Prop) (B : Nat) (w : World) (q cap : Nat) (xs : List Col) (css : List (List Value)) (hO : Own Yy 78 S B w (.slice (some ⟨q, 0, none⟩) xs.length cap) xs css)
  (ho : Srt Jj xs) (hl : xs.length ≤ 19) :
  Calls prog 144 #[.slice (some ⟨q, 0, none⟩) xs.length cap, .int .i64 xs.length, .func (.func 121) #[] #[]] w fun e w' => e = .returned (.tuple #[]) ∧ Gr w w' := by
 have HI := Qq (insCol S B w q cap xs css hO ho (by omega) 0 xs.length (Q8 _) (Q9 _))
 clear hO ho
 have h1 : (xs.length : Int) < 20 := by omega
 generalize xs.length = n at HI h1 hl ⊢
 rw [show ((0 : Nat) : Int) = 0 from rfl] at HI
 go_enter func144, ntmps144
 go_wp2_with fail
 go_loop [7, 8] (fun a b => a = .int .i64 0 ∧ b = .int .i64 20) (fun _ _ => 0)
 case atStart => exact ⟨rfl, rfl⟩
 obtain ⟨rfl, rfl⟩ := hrel
 go_wp2_with (go_at_call 185; refine HI.out.mono ?_; rintro e w' ⟨rfl, hw⟩)
 go_loopw [6] (fun s wr => s = .int .i64 20 ∧ Gr w wr) (fun _ _ => 0)
 case atStart => exact ⟨rfl, hw⟩
 obtain ⟨rfl, hB⟩ := hrel
 have HB := Qq hB
 clear hB hw
 go_wp2_with fail
 go_end0
 exact ⟨rfl, HB.out⟩
theorem sortCol (S : Nat → Prop) (B : Nat) (w : World) (p : Option Addr) (cap : Nat) (xs : List Col) (css : List (List Value)) (hO : Own Yy 78 S B w (.slice p xs.length cap) xs css)
  (ho : Srt Jj xs) (hl : xs.length ≤ 19) (hne : xs ≠ []) :
  Calls prog 120 #[.slice p xs.length cap, .func (.func 121) #[] #[]] w fun e w' => e = .returned (.tuple #[]) ∧ Gr w w' := by
 have hpos : 0 < xs.length := List.length_pos_iff.2 hne
 obtain ⟨q, cap', hv, _⟩ := hO.row.form hpos
 simp only [Value.slice.injEq] at hv
 obtain ⟨rfl, -, rfl⟩ := hv
 have HI := Qq (R9 S B w q cap xs css hO ho hl)
 clear hO ho hne hpos
 generalize xs.length = n at HI hl ⊢
 go_enter func120, ntmps120
 go_wp2_with (go_at_call 144; refine HI.out.mono ?_; rintro e w' ⟨rfl, hw⟩)
 go_end0
 exact ⟨rfl, hw⟩
theorem Zj {w : World} {b o : Nat} {v : Value} (hb : b < w.heap.size) (h : w.cell? ⟨b, o, none⟩ = some v) : ∀ n os, (Sort.grow (w.drewN n) os).cell? ⟨b, o, none⟩ = some v := fun n os => cell_grown hb h n os
theorem Zf (w : World) (n : Nat) (os : Array Obj) : Gr w (Sort.grow (w.drewN n) os) := ⟨n, os, rfl⟩
theorem Vt (x y : Int) (w : World) : Calls Tryz.prog 46 #[.int .i64 x, .int .i64 y] w fun e w' => e = .returned (.int .i64 (ord x y)) ∧ w = w' := by
 have key : ∀ r, ord x y = r → Calls Tryz.prog 46 #[.int .i64 x, .int .i64 y] w fun e w' => e = .returned (.int .i64 r) ∧ w = w' := by
  intro r hr
  by_cases h1 : x < y
  ·have : r = -1 := by rw [← hr]; unfold ord; rw [if_pos h1]
   subst this
   clear hr
   go_enter Tryz.func46, Tryz.ntmps46
   go_wp2_with fail
   go_ret
   exact ⟨rfl, rfl⟩
  by_cases h2 : y < x
  ·have : r = 1 := by rw [← hr]; unfold ord; rw [if_neg h1, if_pos h2]
   subst this
   clear hr
   go_enter Tryz.func46, Tryz.ntmps46
   go_wp2_with fail
   go_ret
   exact ⟨rfl, rfl⟩
  have : r = 0 := by rw [← hr]; unfold ord; rw [if_neg h1, if_neg h2]
  subst this
  clear hr
  go_enter Tryz.func46, Tryz.ntmps46
  go_wp2_with fail
  go_ret
  exact ⟨rfl, rfl⟩
 exact key _ rfl
theorem Ge (x y : ByteArray) (w : World) : Calls Tryz.prog 47 #[.string x, .string y] w fun e w' => e = .returned (.int .i64 (Zg (bl x) (bl y))) ∧ w = w' := by
 obtain ⟨h1, h2, h3⟩ := Xq (bl x) (bl y)
 obtain ⟨g1, g2, g3⟩ := Xq (bl y) (bl x)
 have ha : Zg (bl x) (bl y) = - Zg (bl y) (bl x) := by
  have := X8 (bl x) (bl y) [] []
  have h := X8 (bl y) (bl x) [] []
  simp only [List.append_nil, lex, U7] at this h
  rw [← this, ← h]; exact Jv _ _
 rw [← J6 x, ← J6 y] at h1 h2 h3 g1 g2 g3 ha ⊢
 obtain ⟨c, hc⟩ := eX (Zg x.toList y.toList)
 obtain ⟨d, hd⟩ := eX (Zg y.toList x.toList)
 rw [hc] at h1 h2 h3 ha ⊢
 rw [hd] at g1 g2 g3 ha
 have HC := Qq hc; have HD := Qq hd
 clear hc hd
 rcases h3 with h3 | h3 | h3 <;> subst h3
 ·have k1 : Op.bytesLess x.toList y.toList = true := h1.trans (by decide)
  clear h1 h2 g1 g2 g3 ha
  go_enter Tryz.func47, Tryz.ntmps47
  go_wp2_with fail
  go_ret
  exact ⟨rfl, rfl⟩
 ·have k1 : Op.bytesLess x.toList y.toList = false := h1.trans (by decide)
  have hd0 : d = 0 := by omega
  subst hd0
  have k2 : (x.toList == y.toList) = true := h2.trans (by decide)
  clear h1 h2 g1 g2 g3 ha
  go_enter Tryz.func47, Tryz.ntmps47
  go_wp2_with fail
  go_ret
  exact ⟨rfl, rfl⟩
 have k1 : Op.bytesLess x.toList y.toList = false := h1.trans (by decide)
 have hd0 : d = -1 := by omega
 subst hd0
 have k2 : (x.toList == y.toList) = false := h2.trans (by decide)
 clear h1 h2 g1 g2 g3 ha
 go_enter Tryz.func47, Tryz.ntmps47
 go_wp2_with fail
 go_ret
 exact ⟨rfl, rfl⟩
theorem cmpN_end {a b : List Bs} {k : Nat} (ha : k ≤ a.length) (hb : k ≤ b.length) (h : k = a.length ∨ k = b.length) : U4 (a.drop k) (b.drop k) = ord a.length b.length := by
 by_cases h1 : k = a.length
 ·rw [List.drop_eq_nil_of_le (by omega : a.length ≤ k)]
  by_cases h2 : k = b.length
  ·rw [List.drop_eq_nil_of_le (by omega)]; unfold ord; rw [if_neg (by omega), if_neg (by omega)]; rfl
  rw [List.drop_eq_getElem_cons (by omega : k < b.length)]; unfold ord; rw [if_pos (by omega)]; rfl
 have h2 : k = b.length := by omega
 rw [List.drop_eq_nil_of_le (by omega : b.length ≤ k), List.drop_eq_getElem_cons (by omega : k < a.length)]; unfold ord; rw [if_neg (by omega), if_pos (by omega)]; rfl
theorem Ps {a b : List Val} {k : Nat} (ha : k ≤ a.length) (hb : k ≤ b.length) (h : k = a.length ∨ k = b.length) : Yg (a.drop k) (b.drop k) = ord a.length b.length := by
 by_cases h1 : k = a.length
 ·rw [List.drop_eq_nil_of_le (by omega : a.length ≤ k)]
  by_cases h2 : k = b.length
  ·rw [List.drop_eq_nil_of_le (by omega)]; unfold ord; rw [if_neg (by omega), if_neg (by omega)]; simp [Yg]
  rw [List.drop_eq_getElem_cons (by omega : k < b.length)]; unfold ord; rw [if_pos (by omega)]; simp [Yg]
 have h2 : k = b.length := by omega
 rw [List.drop_eq_nil_of_le (by omega : b.length ≤ k), List.drop_eq_getElem_cons (by omega : k < a.length)]; unfold ord; rw [if_neg (by omega), if_pos (by omega)]; simp [Yg]
theorem Lp (S S' : Nat → Prop) (av bv : Value) (a b : List Bs) (w : World) (ha : Sl Qp S w av a) (hb : Sl Qp S' w bv b) :
  Calls Tryz.prog 48 #[av, bv] w fun e w' => e = .returned (.int .i64 (U4 a b)) ∧ Gr w w' := by
 obtain ⟨pa, ca, rfl, hla⟩ := ha.len
 obtain ⟨pb, cb, rfl, hlb⟩ := hb.len
 have HA := Qq ha; have HB := Qq hb
 obtain ⟨r, hr⟩ := eX (U4 a b)
 rw [hr]
 have HR := Qq hr
 have HO := Qq (fun W => Vt a.length b.length W)
 clear ha hb hr
 go_enter Tryz.func48, Tryz.ntmps48
 go_wp2_with fail
 go_loopw [5, 6] (fun i _ wr => ∃ k : Nat, k ≤ a.length ∧ k ≤ b.length ∧ i = .int .i64 k ∧ Aside (U4 (a.drop k) (b.drop k) = r) ∧ Aside (Gr w wr)) (fun i _ _ => a.length - (intOf i).toNat)
 case atStart => exact ⟨0, Q8 _, Q8 _, rfl, HR.out, Gr.refl _⟩
 obtain ⟨k, hka, hkb, rfl, hc, hBl⟩ := hrel
 have HBl := Qq (show Gr w wr from hBl)
 clear hBl
 by_cases hlt : k < a.length ∧ k < b.length
 ·obtain ⟨hlt, hlb2⟩ := hlt
  obtain ⟨x, hx⟩ : ∃ x, a[k]? = some x := ⟨_, Qx hlt⟩
  have hda : a.drop k = x :: a.drop (k + 1) := by
   rw [List.drop_eq_getElem_cons hlt]; rw [Qx hlt] at hx; cases hx; rfl
  obtain ⟨ga, oa, rfl, c1, l1⟩ := (HA.out.below HBl.out.bl).str hx
  obtain ⟨y, hy⟩ : ∃ y, b[k]? = some y := ⟨_, Qx hlb2⟩
  have hdb : b.drop k = y :: b.drop (k + 1) := by
   rw [List.drop_eq_getElem_cons hlb2]; rw [Qx hlb2] at hy; cases hy; rfl
  obtain ⟨gb, ob, rfl, c2, l2⟩ := (HB.out.below HBl.out.bl).str hy
  have hc1 : U4 (a.drop k) (b.drop k) = r := hc
  rw [hda, hdb] at hc1
  have HS := Qq (Ge ⟨x.toArray⟩ ⟨y.toArray⟩)
  have hxy : Zg (bl ⟨x.toArray⟩) (bl ⟨y.toArray⟩) = Zg x y := rfl
  rw [hxy] at HS
  have hc' : thn (Zg x y) (U4 (a.drop (k + 1)) (b.drop (k + 1))) = r := hc1
  generalize Zg x y = c at HS hc'
  have hi1 : (0 : Int) ≤ (k : Int) := by omega
  have hi2 : (k : Int) < a.length := by omega
  have hi3 : (k : Int) < b.length := by omega
  by_cases hc0 : c = 0
  ·subst hc0
   have HC := Qq hc'
   clear hc hc' hc1 hda hdb hx hy hxy
   go_wp2_with fail
   go_quiet ((go_at_call 47; exact Calls.quiet_of_same ((HS.out _).mono fun _ _ h => ⟨h.1, h.2.symm⟩)))
   go_wp2_with fail
   go_roundw
   case rel => exact ⟨k + 1, by omega, by omega, by go_num, HC.out, HBl.out.thn ⟨_, #[], by rw [Sort.grow_empty]⟩⟩
   case measure => simp [intOf]; omega
  have hq2 : (c != 0) = true := by rw [bne_iff_ne]; exact hc0
  have hcr : c = r := by rw [← hc']; unfold thn; rw [if_neg hc0]
  subst hcr
  clear hc hc' hc1 hda hdb hx hy hxy hc0
  go_wp2_with fail
  go_quiet ((go_at_call 47; exact Calls.quiet_of_same ((HS.out _).mono fun _ _ h => ⟨h.1, h.2.symm⟩)))
  go_wp2_with fail
  go_ret
  exact ⟨rfl, HBl.out.thn ⟨_, #[], by rw [Sort.grow_empty]⟩⟩
 have hend : k = a.length ∨ k = b.length := by omega
 have hr2 : r = ord a.length b.length := by rw [← cmpN_end hka hkb hend]; exact (show U4 (a.drop k) (b.drop k) = r from hc).symm
 generalize ord a.length b.length = r2 at hr2 HO
 subst hr2
 rcases hend with hend | hend
 ·have hi2 : ¬ (k : Int) < a.length := by omega
  have hi4 : decide (k < a.length) = false := by simp; omega
  clear hc hlt hend
  go_wp2_with (go_at_call 46; refine (HO.out _).mono ?_; rintro e w' ⟨rfl, rfl⟩)
  go_ret
  exact ⟨rfl, HBl.out⟩
 have hi2 : ¬ (k : Int) < b.length := by omega
 have hi4 : decide (k < b.length) = false := by simp; omega
 clear hc hlt hend
 go_wp2_with (go_at_call 46; refine (HO.out _).mono ?_; rintro e w' ⟨rfl, rfl⟩)
 all_goals (go_ret; exact ⟨rfl, HBl.out⟩)
def Er (x : Val) : Prop := ∀ (y : Val) (S S' : Nat → Prop) (cx cy : List Value) (w : World), Qh S w cx x → Qh S' w cy y →
 Calls Tryz.prog 17 #[.agg cx.toArray, .agg cy.toArray] w fun e w' => e = .returned (.int .i64 (Z1 x y)) ∧ Gr w w'
theorem rkids_of (S S' : Nat → Prop) (av bv : Value) (a b : List Val) (hC : ∀ x ∈ a, Er x) (w : World) (ha : Sl Ql S w av a) (hb : Sl Ql S' w bv b) :
  Calls Tryz.prog 49 #[av, bv] w fun e w' => e = .returned (.int .i64 (Yg a b)) ∧ Gr w w' := by
 obtain ⟨pa, ca, rfl, hla⟩ := ha.len
 obtain ⟨pb, cb, rfl, hlb⟩ := hb.len
 have HA := Qq ha; have HB := Qq hb; have HC := Qq hC
 obtain ⟨r, hr⟩ := eX (Yg a b)
 rw [hr]
 have HR := Qq hr
 have HO := Qq (fun W => Vt a.length b.length W)
 have mixed : Tryz.prog.follows .mixedOrders = true := by kernel_rfl
 clear ha hb hr hC
 go_enter Tryz.func49, Tryz.ntmps49
 go_wp2_with fail
 go_loopw [5, 6] (fun i _ wr => ∃ k : Nat, k ≤ a.length ∧ k ≤ b.length ∧ i = .int .i64 k ∧ Aside (Yg (a.drop k) (b.drop k) = r) ∧ Aside (Gr w wr)) (fun i _ _ => a.length - (intOf i).toNat)
 case atStart => exact ⟨0, Q8 _, Q8 _, rfl, HR.out, Gr.refl _⟩
 obtain ⟨k, hka, hkb, rfl, hc, hBl⟩ := hrel
 have HBl := Qq (show Gr w wr from hBl)
 clear hBl
 by_cases hlt : k < a.length ∧ k < b.length
 ·obtain ⟨hlt, hlb2⟩ := hlt
  obtain ⟨x, hx⟩ : ∃ x, a[k]? = some x := ⟨_, Qx hlt⟩
  have hda : a.drop k = x :: a.drop (k + 1) := by
   rw [List.drop_eq_getElem_cons hlt]; rw [Qx hlt] at hx; cases hx; rfl
  obtain ⟨ga, oa, p3, k3, p4, k4, rfl, hga, hva, d0, d1, d2, d3, d4⟩ := (HA.out.below HBl.out.bl).val hx
  obtain ⟨y, hy⟩ : ∃ y, b[k]? = some y := ⟨_, Qx hlb2⟩
  have hdb : b.drop k = y :: b.drop (k + 1) := by
   rw [List.drop_eq_getElem_cons hlb2]; rw [Qx hlb2] at hy; cases hy; rfl
  obtain ⟨gb, ob, q3, l3, q4, l4, rfl, hgb, hvb, e0, e1, e2, e3, e4⟩ := (HB.out.below HBl.out.bl).val hy
  have hc1 : Yg (a.drop k) (b.drop k) = r := hc
  rw [hda, hdb] at hc1
  have hc' : thn (Z1 x y) (Yg (a.drop (k + 1)) (b.drop (k + 1))) = r := by simpa [Yg] using hc1
  have HX := Qq (HC.out x (Qy hx) y S S')
  have HVa := Qq hva; have HVb := Qq hvb
  generalize Z1 x y = c at HX hc'
  have hi1 : (0 : Int) ≤ (k : Int) := by omega
  have hi2 : (k : Int) < a.length := by omega
  have hi3 : (k : Int) < b.length := by omega
  clear hva hvb hc hc1 hda hdb hx hy
  have hcg : ∀ n os, Calls Tryz.prog 17 #[.agg (vcs x p3 k3 p4 k4).toArray, .agg (vcs y q3 l3 q4 l4).toArray] (Sort.grow (wr.drewN n) os) fun e w' => e = .returned (.int .i64 c) ∧ Gr (Sort.grow (wr.drewN n) os) w' := fun n os => HX.out _ _ _ (HVa.out.move (.of_below (Zf _ _ _).bl) (fun _ _ h => h)) (HVb.out.move (.of_below (Zf _ _ _).bl) (fun _ _ h => h))
  unfold vcs at hcg
  have D0 := Zj hga d0; have D1 := Zj hga d1; have D2 := Zj hga d2; have D3 := Zj hga d3; have D4 := Zj hga d4
  have E0 := Zj hgb e0; have E1 := Zj hgb e1; have E2 := Zj hgb e2; have E3 := Zj hgb e3; have E4 := Zj hgb e4
  clear d0 d1 d2 d3 d4 e0 e1 e2 e3 e4
  by_cases hc0 : c = 0
  ·subst hc0
   have HC2 := Qq hc'
   clear hc'
   go_wp2_with fail
   go_quiet_grown (first | (go_at_call 17; refine Calls.grown_of (hcg _ _)))
   go_wp2_with fail
   go_roundw
   case rel => exact ⟨k + 1, by omega, by omega, by go_num, HC2.out, HBl.out.thn (Zf _ _ _)⟩
   case measure => simp [intOf]; omega
  have hq2 : (c != 0) = true := by rw [bne_iff_ne]; exact hc0
  have hcr : c = r := by rw [← hc']; unfold thn; rw [if_neg hc0]
  subst hcr
  clear hc' hc0
  go_wp2_with fail
  go_quiet_grown (first | (go_at_call 17; refine Calls.grown_of (hcg _ _)))
  go_wp2_with fail
  go_ret
  exact ⟨rfl, HBl.out.thn (Zf _ _ _)⟩
 have hend : k = a.length ∨ k = b.length := by omega
 have hr2 : r = ord a.length b.length := by rw [← Ps hka hkb hend]; exact (show Yg (a.drop k) (b.drop k) = r from hc).symm
 generalize ord a.length b.length = r2 at hr2 HO
 subst hr2
 rcases hend with hend | hend
 ·have hi2 : ¬ (k : Int) < a.length := by omega
  have hi4 : decide (k < a.length) = false := by simp; omega
  clear hc hlt hend
  go_wp2_with (go_at_call 46; refine (HO.out _).mono ?_; rintro e w' ⟨rfl, rfl⟩)
  go_ret
  exact ⟨rfl, HBl.out⟩
 have hi2 : ¬ (k : Int) < b.length := by omega
 have hi4 : decide (k < b.length) = false := by simp; omega
 clear hc hlt hend
 go_wp2_with (go_at_call 46; refine (HO.out _).mono ?_; rintro e w' ⟨rfl, rfl⟩)
 all_goals (go_ret; exact ⟨rfl, HBl.out⟩)
theorem P8 (k n : Int) (s : Bs) (ns : List Bs) (ks : List Val) (ih : ∀ x ∈ ks, Er x) : Er (.mk k n s ns ks) := by
 rintro ⟨k', n', s', ns', ks'⟩ S S' cx cy w hx hy
 obtain ⟨nv, kv, rfl, hs, hn, hk⟩ := Ve.1 hx
 obtain ⟨nv', kv', rfl, hs', hn', hk'⟩ := Ve.1 hy
 have hN : ∀ w', Below w.heap.size w w' → Calls Tryz.prog 48 #[nv, nv'] w' fun e w'' => e = .returned (.int .i64 (U4 ns ns')) ∧ Gr w' w'' :=
  fun w' hb => Lp S S' nv nv' ns ns' w' (hn.below hb) (hn'.below hb)
 have hK : ∀ w', Below w.heap.size w w' → Calls Tryz.prog 49 #[kv, kv'] w' fun e w'' => e = .returned (.int .i64 (Yg ks ks')) ∧ Gr w' w'' :=
  fun w' hb => rkids_of S S' kv kv' ks ks' ih w' (hk.below hb) (hk'.below hb)
 have hS : ∀ w', Calls Tryz.prog 47 #[sv s, sv s'] w' fun e w'' => e = .returned (.int .i64 (Zg s s')) ∧ w' = w'' := fun w' => Ge _ _ w'
 have HN := Qq hN; have HK := Qq hK; have HS := Qq hS
 obtain ⟨cb, hcb⟩ := eX (Zg s s')
 obtain ⟨cn, hcn⟩ := eX (U4 ns ns')
 obtain ⟨cv, hcv⟩ := eX (Yg ks ks')
 rw [hcb] at HS; rw [hcn] at HN; rw [hcv] at HK
 have hB2 := Qq (fun o1 o2 => Zv w o1 o2)
 clear hN hK hS hx hy ih hn hn' hk hk'
 by_cases hkk : k = k'
 ·subst hkk
  by_cases h0 : k = 0
  ·subst h0
   rw [show Z1 (.mk 0 n s ns ks) (.mk 0 n' s' ns' ks') = ord n n' by simp [Z1]]
   have HI := Qq (fun w => Vt n n' w)
   generalize ord n n' = r at HI ⊢
   clear hcb hcn hcv
   go_enter Tryz.func17, Tryz.ntmps17
   go_wp2_with (go_at_call 46; refine (HI.out _).mono ?_; rintro e w' ⟨rfl, rfl⟩)
   go_ret
   exact ⟨rfl, X7 _ _ _⟩
  by_cases h2 : k = 2
  ·subst h2
   rw [show Z1 (.mk 2 n s ns ks) (.mk 2 n' s' ns' ks') = ord n n' by simp [Z1]]
   have HI := Qq (fun w => Vt n n' w)
   generalize ord n n' = r at HI ⊢
   clear hcb hcn hcv h0
   go_enter Tryz.func17, Tryz.ntmps17
   go_wp2_with (go_at_call 46; refine (HI.out _).mono ?_; rintro e w' ⟨rfl, rfl⟩)
   go_ret
   exact ⟨rfl, X7 _ _ _⟩
  by_cases h1 : k = 1
  ·subst h1
   rw [show Z1 (.mk 1 n s ns ks) (.mk 1 n' s' ns' ks') = cb by simp [Z1, hcb]]
   clear hcb hcn hcv h0 h2
   go_enter Tryz.func17, Tryz.ntmps17
   go_wp2_with (go_at_call 47; refine (HS.out _).mono ?_; rintro e w' ⟨rfl, rfl⟩)
   go_ret
   exact ⟨rfl, X7 _ _ _⟩
  by_cases h3 : k = 3
  ·subst h3
   have hv : Z1 (.mk 3 n s ns ks) (.mk 3 n' s' ns' ks') = thn cb cv := by simp [Z1, hcb, hcv]
   clear hcb hcn hcv h0 h2 h1
   by_cases hz : cb = 0
   ·subst hz
    rw [hv, V0]
    clear hv
    go_enter Tryz.func17, Tryz.ntmps17
    go_wp2_with (first | (go_at_call 47; refine (HS.out _).mono ?_; rintro e w' ⟨rfl, rfl⟩) | (go_at_call 49; refine (HK.out _ (Zv _ _ _)).mono ?_; rintro e w' ⟨rfl, hw⟩; have HW := Qq ((X7 w _ _).thn hw); clear hw))
    go_ret
    exact ⟨rfl, HW.out⟩
   have hq : (cb != 0) = true := by rw [bne_iff_ne]; exact hz
   have hv' : Z1 (.mk 3 n s ns ks) (.mk 3 n' s' ns' ks') = cb := by rw [hv]; unfold thn; rw [if_neg hz]
   rw [hv']
   clear hv hv' hz
   go_enter Tryz.func17, Tryz.ntmps17
   go_wp2_with (go_at_call 47; refine (HS.out _).mono ?_; rintro e w' ⟨rfl, rfl⟩)
   go_ret
   exact ⟨rfl, X7 _ _ _⟩
  by_cases h4 : k = 4
  ·subst h4
   have hv : Z1 (.mk 4 n s ns ks) (.mk 4 n' s' ns' ks') = thn cn cv := by simp [Z1, hcn, hcv]
   clear hcb hcn hcv h0 h2 h1 h3
   by_cases hz : cn = 0
   ·subst hz
    rw [hv, V0]
    clear hv
    go_enter Tryz.func17, Tryz.ntmps17
    go_wp2_with (first | (go_at_call 48; refine (HN.out _ (Zv _ _ _)).mono ?_; rintro e wn ⟨rfl, hwn⟩; have HWn := Qq ((X7 w _ _).thn hwn); obtain ⟨hc9, hf9⟩ := Hn hwn.bl; clear hwn) | (go_at_call 49; refine (HK.out _ HWn.out.bl).mono ?_; rintro e w' ⟨rfl, hw⟩; have HW := Qq (HWn.out.thn hw); clear hw))
    go_ret
    exact ⟨rfl, HW.out⟩
   have hq : (cn != 0) = true := by rw [bne_iff_ne]; exact hz
   have hv' : Z1 (.mk 4 n s ns ks) (.mk 4 n' s' ns' ks') = cn := by rw [hv]; unfold thn; rw [if_neg hz]
   rw [hv']
   clear hv hv' hz
   go_enter Tryz.func17, Tryz.ntmps17
   go_wp2_with (go_at_call 48; refine (HN.out _ (Zv _ _ _)).mono ?_; rintro e wn ⟨rfl, hwn⟩; have HWn := Qq ((X7 w _ _).thn hwn); obtain ⟨hc9, hf9⟩ := Hn hwn.bl; clear hwn)
   go_ret
   exact ⟨rfl, HWn.out⟩
  by_cases h5 : k = 5
  ·subst h5
   rw [show Z1 (.mk 5 n s ns ks) (.mk 5 n' s' ns' ks') = cv by simp [Z1, hcv]]
   clear hcb hcn hcv h0 h2 h1 h3 h4
   go_enter Tryz.func17, Tryz.ntmps17
   go_wp2_with (go_at_call 49; refine (HK.out _ (Zv _ _ _)).mono ?_; rintro e w' ⟨rfl, hw⟩; have HW := Qq ((X7 w _ _).thn hw); clear hw)
   go_ret
   exact ⟨rfl, HW.out⟩
  have hv : Z1 (.mk k n s ns ks) (.mk k n' s' ns' ks') = 0 := by simp [Z1, h0, h1, h2, h3, h4, h5]
  rw [hv]
  have q0 : (k == 0) = false := by simpa using h0
  have q1 : (k == 1) = false := by simpa using h1
  have q2 : (k == 2) = false := by simpa using h2
  have q3 : (k == 3) = false := by simpa using h3
  have q4 : (k == 4) = false := by simpa using h4
  have q5 : (k == 5) = false := by simpa using h5
  clear hv hcb hcn hcv h0 h1 h2 h3 h4 h5
  go_enter Tryz.func17, Tryz.ntmps17
  go_wp2_with fail
  go_ret
  exact ⟨rfl, X7 _ _ _⟩
 have hv : Z1 (.mk k n s ns ks) (.mk k' n' s' ns' ks') = ord k k' := by simp [Z1, hkk]
 rw [hv]
 have hq : (k != k') = true := by rw [bne_iff_ne]; exact hkk
 have HI := Qq (fun w => Vt k k' w)
 generalize ord k k' = r at HI ⊢
 clear hv hcb hcn hcv hkk
 go_enter Tryz.func17, Tryz.ntmps17
 go_wp2_with (go_at_call 46; refine (HI.out _).mono ?_; rintro e w' ⟨rfl, rfl⟩)
 go_ret
 exact ⟨rfl, X7 _ _ _⟩
theorem rcmpAt : ∀ x : Val, Er x
 | .mk k n s ns ks => P8 k n s ns ks fun x _ => rcmpAt x
termination_by x => SizeOf.sizeOf x
decreasing_by
 have := List.sizeOf_lt_of_mem ‹_ ∈ ks›
 simp only [Val.mk.sizeOf_spec]
 omega
theorem Kk (S S' : Nat → Prop) (a b : Val) (ca cb : List Value) (w : World) (ha : Qh S w ca a) (hb : Qh S' w cb b) :
  Calls Tryz.prog 17 #[.agg ca.toArray, .agg cb.toArray] w fun e w' => e = .returned (.int .i64 (Z1 a b)) ∧ Gr w w' := rcmpAt a b S S' ca cb w ha hb
end Go.Proofs.YtppbaladeefnkaaGreatDoor

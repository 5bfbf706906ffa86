import Derived.Test.YthkkmklnapkgaaaGreatDoorQ07
import Derived.Test.YthkkmklnapkgaaaGreatDoorQ03
/- Reading relations, columns, references, tables, schemas; what is one cell; rows.index. -/
namespace Go.Proofs.YthkkmklnapkgaaaGreatDoor
open Go.RowKit Go.Shelf Go.Lib

def relRd : Rd Rel where
  k := 2
  R S w cs x := ∃ v, cs = [sv x.table, v] ∧ x.table.length ≤ 1000000 ∧ Sl valRd S w v x.rows
  len h := by obtain ⟨v, rfl, _⟩ := h; rfl
  frame h hA := by obtain ⟨v, rfl, h1, h2⟩ := h; exact ⟨v, rfl, h1, h2.frame hA⟩
  mono h hS := by obtain ⟨v, rfl, h1, h2⟩ := h; exact ⟨v, rfl, h1, h2.mono hS⟩
def colRd : Rd Col where
  k := 6
  R S w cs x := ∃ tc, cs = sv x.name :: tc ∧ x.name.length ≤ 1000000 ∧ IsTy S w tc x.type
  len h := by obtain ⟨v, rfl, _, h2⟩ := h; rw [List.length_cons, h2.length]
  frame h hA := by obtain ⟨v, rfl, h1, h2⟩ := h; exact ⟨v, rfl, h1, h2.move hA (fun _ _ h => h)⟩
  mono h hS := by obtain ⟨v, rfl, h1, h2⟩ := h; exact ⟨v, rfl, h1, h2.move (.refl _ _) hS⟩
def rfRd : Rd Rf where
  k := 2
  R _ _ cs x := cs = [sv x.column, sv x.table] ∧ x.column.length ≤ 1000000 ∧ x.table.length ≤ 1000000
  len h := by rw [h.1]; rfl
  frame h _ := h
  mono h _ := h
def tblRd : Rd Tbl where
  k := 13
  R S w cs x := ∃ cv kv rv ec, cs = sv x.name :: cv :: kv :: rv :: ec ∧ x.name.length ≤ 1000000 ∧ Sl colRd S w cv x.columns ∧ Sl strRd S w kv x.key ∧ Sl rfRd S w rv x.refs ∧ IsEx S w ec x.check
  len h := by obtain ⟨_, _, _, _, rfl, _, _, _, _, h2⟩ := h; simp only [List.length_cons, h2.length]
  frame h hA := by obtain ⟨cv, kv, rv, ec, rfl, h1, h2, h3, h4, h5⟩ := h; exact ⟨cv, kv, rv, ec, rfl, h1, h2.frame hA, h3.frame hA, h4.frame hA, h5.move hA (fun _ _ h => h)⟩
  mono h hS := by obtain ⟨cv, kv, rv, ec, rfl, h1, h2, h3, h4, h5⟩ := h; exact ⟨cv, kv, rv, ec, rfl, h1, h2.mono hS, h3.mono hS, h4.mono hS, h5.move (.refl _ _) hS⟩
def ctRd : Rd Ct where
  k := 7
  R S w cs x := ∃ tc, cs = sv x.name :: .bool x.has :: tc ∧ x.name.length ≤ 1000000 ∧ IsTy S w tc x.arg
  len h := by obtain ⟨v, rfl, _, h2⟩ := h; simp only [List.length_cons, h2.length]
  frame h hA := by obtain ⟨v, rfl, h1, h2⟩ := h; exact ⟨v, rfl, h1, h2.move hA (fun _ _ h => h)⟩
  mono h hS := by obtain ⟨v, rfl, h1, h2⟩ := h; exact ⟨v, rfl, h1, h2.move (.refl _ _) hS⟩
def smRd : Rd Sm where
  k := 2
  R S w cs x := ∃ v, cs = [sv x.name, v] ∧ x.name.length ≤ 1000000 ∧ Sl ctRd S w v x.ctors
  len h := by obtain ⟨v, rfl, _⟩ := h; rfl
  frame h hA := by obtain ⟨v, rfl, h1, h2⟩ := h; exact ⟨v, rfl, h1, h2.frame hA⟩
  mono h hS := by obtain ⟨v, rfl, h1, h2⟩ := h; exact ⟨v, rfl, h1, h2.mono hS⟩
/-- A schema in two cells. -/
def IsSc (S : Nat → Prop) (w : World) (cs : List Value) (x : Sc) : Prop := ∃ uv tv, cs = [uv, tv] ∧ Sl smRd S w uv x.sums ∧ Sl tblRd S w tv x.tables
theorem IsSc.below {S : Nat → Prop} {w w' : World} {cs : List Value} {x : Sc} (h : IsSc S w cs x) (hb : Below w.heap.size w w') : IsSc S w' cs x := by
  obtain ⟨uv, tv, rfl, h1, h2⟩ := h; exact ⟨uv, tv, rfl, h1.below hb, h2.below hb⟩

theorem val_one : ∀ S w cs x, valRd.R S w cs x → ∀ u ∈ cs, u.oneCell' = true := by
  intro S w cs x h u hu
  obtain ⟨p3, k3, p4, k4, rfl, _⟩ := IsVal.cells (show IsVal S w cs x from h)
  simp only [vcs, List.mem_cons, List.not_mem_nil, or_false] at hu
  rcases hu with rfl | rfl | rfl | rfl | rfl <;> rfl
theorem str_one : ∀ S w cs x, strRd.R S w cs x → ∀ u ∈ cs, u.oneCell' = true := by
  intro S w cs x h u hu
  obtain ⟨rfl, _⟩ := h
  simp only [List.mem_cons, List.not_mem_nil, or_false] at hu
  subst hu; rfl
theorem sl_one {T : Type} {r : Rd T} {S : Nat → Prop} {w : World} {v : Value} {xs : List T} (h : Sl r S w v xs) : v.oneCell' = true := by
  obtain ⟨p, cap, rfl, _⟩ := h.len; rfl
theorem rel_one : ∀ S w cs x, relRd.R S w cs x → ∀ u ∈ cs, u.oneCell' = true := by
  intro S w cs x h u hu
  obtain ⟨v, rfl, _, h2⟩ := h
  simp only [List.mem_cons, List.not_mem_nil, or_false] at hu
  rcases hu with rfl | rfl
  · rfl
  · exact sl_one h2
theorem rf_one : ∀ S w cs x, rfRd.R S w cs x → ∀ u ∈ cs, u.oneCell' = true := by
  intro S w cs x h u hu
  obtain ⟨rfl, _⟩ := h
  simp only [List.mem_cons, List.not_mem_nil, or_false] at hu
  rcases hu with rfl | rfl <;> rfl
theorem ty_one {S : Nat → Prop} {w : World} {cs : List Value} {x : Ty} (h : IsTy S w cs x) : ∀ u ∈ cs, u.oneCell' = true := by
  intro u hu
  cases h with
  | mk k n s names kids nv p cap b off cs hs hn =>
    simp only [List.mem_cons, List.not_mem_nil, or_false] at hu
    rcases hu with rfl | rfl | rfl | rfl | rfl
    · rfl
    · rfl
    · rfl
    · exact sl_one hn
    · rfl
theorem col_one : ∀ S w cs x, colRd.R S w cs x → ∀ u ∈ cs, u.oneCell' = true := by
  intro S w cs x h u hu
  obtain ⟨tc, rfl, _, h2⟩ := h
  rcases List.mem_cons.1 hu with rfl | hu
  · rfl
  · exact ty_one h2 u hu

theorem info_of {P : Program} {t : TypeId} {z : Value} {n b : Nat} (h : (P.info? t).map (fun i => (i.zero, i.size, i.bytes)) = some (some z, n, b)) : ∃ i0, P.info? t = some i0 ∧ i0.zero = some z ∧ i0.size = n ∧ i0.bytes = b := by
  cases hi : P.info? t with
  | none => rw [hi] at h; cases h
  | some i0 =>
    rw [hi] at h
    simp only [Option.map_some, Option.some.injEq, Prod.mk.injEq] at h
    exact ⟨i0, rfl, h.1, h.2.1, h.2.2⟩

/-- slices.Clone at values. -/
theorem cloneVal (S : Nat → Prop) (v : Value) (xs : List Val) (w : World) (hs : Sl valRd S w v xs) : Calls Tryz.prog 70 #[v] w (Cloned valRd 34 S w xs) := by
  obtain ⟨i0, h1, h2, h3, h4⟩ := info_of (P := Tryz.prog) (t := 34) (z := .agg #[.int .i64 0, .int .i64 0, .string ⟨#[]⟩, .slice none 0 0, .slice none 0 0]) (n := 5) (b := 80) (by kernel_rfl)
  exact cloneFn Tryz.clVal valRd (by decide) 80 i0 _ h1 h2 h3 h4 rfl Tryz.sizeOf34 (by omega) val_one S v xs w hs
theorem cloneStr (S : Nat → Prop) (v : Value) (xs : List Bs) (w : World) (hs : Sl strRd S w v xs) : Calls Tryz.prog 69 #[v] w (Cloned strRd 9 S w xs) := by
  obtain ⟨i0, h1, h2, h3, h4⟩ := info_of (P := Tryz.prog) (t := 9) (z := .string ⟨#[]⟩) (n := 1) (b := 16) (by kernel_rfl)
  exact cloneFn Tryz.clStr strRd (by decide) 16 i0 _ h1 h2 h3 h4 rfl Tryz.sizeOf9 (by omega) str_one S v xs w hs
theorem cloneRel (S : Nat → Prop) (v : Value) (xs : List Rel) (w : World) (hs : Sl relRd S w v xs) : Calls Tryz.prog 104 #[v] w (Cloned relRd 31 S w xs) := by
  obtain ⟨i0, h1, h2, h3, h4⟩ := info_of (P := Tryz.prog) (t := 31) (z := .agg #[.string ⟨#[]⟩, .slice none 0 0]) (n := 2) (b := 40) (by kernel_rfl)
  exact cloneFn Tryz.clRel relRd (by decide) 40 i0 _ h1 h2 h3 h4 rfl Tryz.sizeOf31 (by omega) rel_one S v xs w hs
theorem cloneRef (S : Nat → Prop) (v : Value) (xs : List Rf) (w : World) (hs : Sl rfRd S w v xs) : Calls Tryz.prog 120 #[v] w (Cloned rfRd 64 S w xs) := by
  obtain ⟨i0, h1, h2, h3, h4⟩ := info_of (P := Tryz.prog) (t := 64) (z := .agg #[.string ⟨#[]⟩, .string ⟨#[]⟩]) (n := 2) (b := 32) (by kernel_rfl)
  exact cloneFn Tryz.clRef rfRd (by decide) 32 i0 _ h1 h2 h3 h4 rfl Tryz.sizeOf64 (by omega) rf_one S v xs w hs
theorem cloneCol (S : Nat → Prop) (v : Value) (xs : List Col) (w : World) (hs : Sl colRd S w v xs) : Calls Tryz.prog 43 #[v] w (Cloned colRd 61 S w xs) := by
  obtain ⟨i0, h1, h2, h3, h4⟩ := info_of (P := Tryz.prog) (t := 61) (z := .agg #[.string ⟨#[]⟩, .int .i64 0, .string ⟨#[]⟩, .int .i64 0, .slice none 0 0, .slice none 0 0]) (n := 6) (b := 96) (by kernel_rfl)
  exact cloneFn Tryz.clCol colRd (by decide) 96 i0 _ h1 h2 h3 h4 rfl Tryz.sizeOf61 (by omega) col_one S v xs w hs

/-- rows.index: the place of the relation of a table, or -1. -/
theorem index_any (S : Nat → Prop) (v : Value) (l : List Rel) (t : Bs) (w : World) (hs : Sl relRd S w v l) :
    Calls Tryz.prog 13 #[v, sv t] w fun e w' => e = .returned (.int .i64 (idxP (fun r => decide (r.table = t)) l)) ∧ Below w.heap.size w w' := by
  have hp : ∀ w1 : World, Below w.heap.size w w1 → w1.cell? ⟨w.heap.size, 0, none⟩ = some (sv t) → PredRd Tryz.prog 34 #[.pointer (some ⟨w.heap.size, 0, none⟩)] relRd S l (fun r => decide (r.table = t)) w1 := by
    rintro w1 hb1 hc W x cs hb hx ⟨rv, rfl, _, _⟩
    have hc' : W.cell? ⟨w.heap.size, 0, none⟩ = some (sv t) := (hb.cell (p := ⟨w.heap.size, 0, none⟩) (World.block_lt_of_cell? w1 _ hc)).trans hc
    have hlt := World.block_lt_of_cell? W _ hc'
    have hne : w.heap.size ≠ W.heap.size := by
      intro e; rw [e] at hlt; simp at hlt
    have hq : (x.table == t) = decide (x.table = t) := by rw [Bool.eq_iff_iff, beq_iff_eq, decide_eq_true_eq]
    have HQ := Lib.hid hq
    clear hq hc hb hb1 hx
    show Calls Tryz.prog 34 #[.agg #[sv x.table, rv], .pointer (some ⟨w.heap.size, 0, none⟩)] W _
    unfold sv at hc' ⊢
    go_enter Tryz.func34, Tryz.ntmps34
    go_wp2_with fail
    go_ret
    exact ⟨by rw [← HQ.out]; rfl, bal1 _ _⟩
  have HI : ∀ w1 : World, Below w.heap.size w w1 → w1.cell? ⟨w.heap.size, 0, none⟩ = some (sv t) → Calls Tryz.prog 33 #[v, .func (.func 34) #[] #[.pointer (some ⟨w.heap.size, 0, none⟩)]] w1 fun e w' => e = .returned (.int .i64 (idxP (fun r => decide (r.table = t)) l)) ∧ Below w1.heap.size w1 w' :=
    fun w1 hb hc => idxFn Tryz.ixRel relRd Tryz.isAgg31 Tryz.sizeOf31 _ _ (enters_of Tryz.func34 (by kernel_rfl) rfl) S v l w1 _ (hs.below hb) (hp w1 hb hc)
  have HI2 := Lib.hid HI
  clear HI hp hs
  generalize idxP _ l = r at HI2 ⊢
  unfold sv at HI2 ⊢
  go_enter Tryz.func13, Tryz.ntmps13
  go_wp2_with (go_at_call 33; refine (HI2.out _ (bal1 _ _) (by simp)).mono ?_; rintro e w' ⟨rfl, hw⟩)
  go_ret
  exact ⟨rfl, (bal1 _ _).thn hw⟩
end Go.Proofs.YthkkmklnapkgaaaGreatDoor

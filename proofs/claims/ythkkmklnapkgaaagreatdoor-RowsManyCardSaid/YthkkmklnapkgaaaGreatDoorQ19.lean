import Derived.Test.YthkkmklnapkgaaaGreatDoorQ18
/- rows.unique: the first two rows with equal keys. -/
namespace Go.Proofs.YthkkmklnapkgaaaGreatDoor
open Go.RowKit Go.Shelf Go.Lib Go.WideMaps Go.Maps

/-- Twelve cells stored into a block of twelve. -/
def put12 (W : World) (R : Nat) (a0 a1 a2 a3 a4 a5 a6 a7 a8 a9 a10 a11 : Value) : World := ((((((((((((W.setCell ⟨R, 0, none⟩ a0).setCell ⟨R, 1, none⟩ a1).setCell ⟨R, 2, none⟩ a2).setCell ⟨R, 3, none⟩ a3).setCell ⟨R, 4, none⟩ a4).setCell ⟨R, 5, none⟩ a5).setCell ⟨R, 6, none⟩ a6).setCell ⟨R, 7, none⟩ a7).setCell ⟨R, 8, none⟩ a8).setCell ⟨R, 9, none⟩ a9).setCell ⟨R, 10, none⟩ a10).setCell ⟨R, 11, none⟩ a11)
theorem put12_heap {W : World} {R : Nat} {a0 a1 a2 a3 a4 a5 a6 a7 a8 a9 a10 a11 x0 x1 x2 x3 x4 x5 x6 x7 x8 x9 x10 x11 : Value} {t : TypeId} (h : W.heap[R]? = some (.cells #[x0, x1, x2, x3, x4, x5, x6, x7, x8, x9, x10, x11] t (0, 0))) : (put12 W R a0 a1 a2 a3 a4 a5 a6 a7 a8 a9 a10 a11).heap[R]? = some (.cells #[a0, a1, a2, a3, a4, a5, a6, a7, a8, a9, a10, a11] t (0, 0)) := by
  have h1 : (W.setCell ⟨R, 0, none⟩ a0).heap[R]? = some (.cells #[a0, x1, x2, x3, x4, x5, x6, x7, x8, x9, x10, x11] t (0, 0)) := by rw [heap_setCell_same _ _ _ _ _ _ h]; rfl
  have h2 : ((W.setCell ⟨R, 0, none⟩ a0).setCell ⟨R, 1, none⟩ a1).heap[R]? = some (.cells #[a0, a1, x2, x3, x4, x5, x6, x7, x8, x9, x10, x11] t (0, 0)) := by rw [heap_setCell_same _ _ _ _ _ _ h1]; rfl
  have h3 : (((W.setCell ⟨R, 0, none⟩ a0).setCell ⟨R, 1, none⟩ a1).setCell ⟨R, 2, none⟩ a2).heap[R]? = some (.cells #[a0, a1, a2, x3, x4, x5, x6, x7, x8, x9, x10, x11] t (0, 0)) := by rw [heap_setCell_same _ _ _ _ _ _ h2]; rfl
  have h4 : ((((W.setCell ⟨R, 0, none⟩ a0).setCell ⟨R, 1, none⟩ a1).setCell ⟨R, 2, none⟩ a2).setCell ⟨R, 3, none⟩ a3).heap[R]? = some (.cells #[a0, a1, a2, a3, x4, x5, x6, x7, x8, x9, x10, x11] t (0, 0)) := by rw [heap_setCell_same _ _ _ _ _ _ h3]; rfl
  have h5 : (((((W.setCell ⟨R, 0, none⟩ a0).setCell ⟨R, 1, none⟩ a1).setCell ⟨R, 2, none⟩ a2).setCell ⟨R, 3, none⟩ a3).setCell ⟨R, 4, none⟩ a4).heap[R]? = some (.cells #[a0, a1, a2, a3, a4, x5, x6, x7, x8, x9, x10, x11] t (0, 0)) := by rw [heap_setCell_same _ _ _ _ _ _ h4]; rfl
  have h6 : ((((((W.setCell ⟨R, 0, none⟩ a0).setCell ⟨R, 1, none⟩ a1).setCell ⟨R, 2, none⟩ a2).setCell ⟨R, 3, none⟩ a3).setCell ⟨R, 4, none⟩ a4).setCell ⟨R, 5, none⟩ a5).heap[R]? = some (.cells #[a0, a1, a2, a3, a4, a5, x6, x7, x8, x9, x10, x11] t (0, 0)) := by rw [heap_setCell_same _ _ _ _ _ _ h5]; rfl
  have h7 : (((((((W.setCell ⟨R, 0, none⟩ a0).setCell ⟨R, 1, none⟩ a1).setCell ⟨R, 2, none⟩ a2).setCell ⟨R, 3, none⟩ a3).setCell ⟨R, 4, none⟩ a4).setCell ⟨R, 5, none⟩ a5).setCell ⟨R, 6, none⟩ a6).heap[R]? = some (.cells #[a0, a1, a2, a3, a4, a5, a6, x7, x8, x9, x10, x11] t (0, 0)) := by rw [heap_setCell_same _ _ _ _ _ _ h6]; rfl
  have h8 : ((((((((W.setCell ⟨R, 0, none⟩ a0).setCell ⟨R, 1, none⟩ a1).setCell ⟨R, 2, none⟩ a2).setCell ⟨R, 3, none⟩ a3).setCell ⟨R, 4, none⟩ a4).setCell ⟨R, 5, none⟩ a5).setCell ⟨R, 6, none⟩ a6).setCell ⟨R, 7, none⟩ a7).heap[R]? = some (.cells #[a0, a1, a2, a3, a4, a5, a6, a7, x8, x9, x10, x11] t (0, 0)) := by rw [heap_setCell_same _ _ _ _ _ _ h7]; rfl
  have h9 : (((((((((W.setCell ⟨R, 0, none⟩ a0).setCell ⟨R, 1, none⟩ a1).setCell ⟨R, 2, none⟩ a2).setCell ⟨R, 3, none⟩ a3).setCell ⟨R, 4, none⟩ a4).setCell ⟨R, 5, none⟩ a5).setCell ⟨R, 6, none⟩ a6).setCell ⟨R, 7, none⟩ a7).setCell ⟨R, 8, none⟩ a8).heap[R]? = some (.cells #[a0, a1, a2, a3, a4, a5, a6, a7, a8, x9, x10, x11] t (0, 0)) := by rw [heap_setCell_same _ _ _ _ _ _ h8]; rfl
  have h10 : ((((((((((W.setCell ⟨R, 0, none⟩ a0).setCell ⟨R, 1, none⟩ a1).setCell ⟨R, 2, none⟩ a2).setCell ⟨R, 3, none⟩ a3).setCell ⟨R, 4, none⟩ a4).setCell ⟨R, 5, none⟩ a5).setCell ⟨R, 6, none⟩ a6).setCell ⟨R, 7, none⟩ a7).setCell ⟨R, 8, none⟩ a8).setCell ⟨R, 9, none⟩ a9).heap[R]? = some (.cells #[a0, a1, a2, a3, a4, a5, a6, a7, a8, a9, x10, x11] t (0, 0)) := by rw [heap_setCell_same _ _ _ _ _ _ h9]; rfl
  have h11 : (((((((((((W.setCell ⟨R, 0, none⟩ a0).setCell ⟨R, 1, none⟩ a1).setCell ⟨R, 2, none⟩ a2).setCell ⟨R, 3, none⟩ a3).setCell ⟨R, 4, none⟩ a4).setCell ⟨R, 5, none⟩ a5).setCell ⟨R, 6, none⟩ a6).setCell ⟨R, 7, none⟩ a7).setCell ⟨R, 8, none⟩ a8).setCell ⟨R, 9, none⟩ a9).setCell ⟨R, 10, none⟩ a10).heap[R]? = some (.cells #[a0, a1, a2, a3, a4, a5, a6, a7, a8, a9, a10, x11] t (0, 0)) := by rw [heap_setCell_same _ _ _ _ _ _ h10]; rfl
  unfold put12
  rw [heap_setCell_same _ _ _ _ _ _ h11]; rfl
theorem put12_cell {W : World} {R : Nat} {a0 a1 a2 a3 a4 a5 a6 a7 a8 a9 a10 a11 x0 x1 x2 x3 x4 x5 x6 x7 x8 x9 x10 x11 : Value} {t : TypeId} (h : W.heap[R]? = some (.cells #[x0, x1, x2, x3, x4, x5, x6, x7, x8, x9, x10, x11] t (0, 0))) (j : Nat) : (put12 W R a0 a1 a2 a3 a4 a5 a6 a7 a8 a9 a10 a11).cell? ⟨R, j, none⟩ = #[a0, a1, a2, a3, a4, a5, a6, a7, a8, a9, a10, a11][j]? :=
  cell_of_row _ _ _ _ _ _ (put12_heap h)
theorem put12_other {W : World} {R k : Nat} {a0 a1 a2 a3 a4 a5 a6 a7 a8 a9 a10 a11 : Value} (h : k ≠ R) : (put12 W R a0 a1 a2 a3 a4 a5 a6 a7 a8 a9 a10 a11).heap[k]? = W.heap[k]? := by
  unfold put12
  rw [heap_setCell_ne h, heap_setCell_ne h, heap_setCell_ne h, heap_setCell_ne h, heap_setCell_ne h, heap_setCell_ne h, heap_setCell_ne h, heap_setCell_ne h, heap_setCell_ne h, heap_setCell_ne h, heap_setCell_ne h, heap_setCell_ne h]
theorem put12_below {B R : Nat} {w W : World} {a0 a1 a2 a3 a4 a5 a6 a7 a8 a9 a10 a11 : Value} (h : Below B w W) (hR : B ≤ R) : Below B w (put12 W R a0 a1 a2 a3 a4 a5 a6 a7 a8 a9 a10 a11) :=
  (((((((((((h.setCell (p := ⟨R, 0, none⟩) hR _).setCell (p := ⟨R, 1, none⟩) hR _).setCell (p := ⟨R, 2, none⟩) hR _).setCell (p := ⟨R, 3, none⟩) hR _).setCell (p := ⟨R, 4, none⟩) hR _).setCell (p := ⟨R, 5, none⟩) hR _).setCell (p := ⟨R, 6, none⟩) hR _).setCell (p := ⟨R, 7, none⟩) hR _).setCell (p := ⟨R, 8, none⟩) hR _).setCell (p := ⟨R, 9, none⟩) hR _).setCell (p := ⟨R, 10, none⟩) hR _).setCell (p := ⟨R, 11, none⟩) hR _

/-- Where a key occurs first. -/
def firstAt (P : List Bs) (k : Bs) : Option Nat := P.findIdx? (fun y => decide (y = k))
theorem firstAt_snoc (P : List Bs) (k s : Bs) : firstAt (P ++ [k]) s = (match firstAt P s with | some a => some a | none => if k = s then some P.length else none) := by
  unfold firstAt
  rw [List.findIdx?_append]
  cases P.findIdx? (fun y => decide (y = s)) with
  | some a => rfl
  | none => by_cases h : k = s <;> simp [h]
def ustep (P : List Bs) (st : Nat × Nat) (k : Bs) : Nat × Nat := match firstAt P k with
  | none => st
  | some a => if a < st.1 then (a, P.length) else st
def ust (n : Nat) (ks : List Bs) : Nat → Nat × Nat
  | 0 => (n, 0)
  | i + 1 => ustep (ks.take i) (ust n ks i) (ks.getD i [])
theorem firstAt_lt {P : List Bs} {k : Bs} {a : Nat} (h : firstAt P k = some a) : a < P.length := by
  unfold firstAt at h
  rw [List.findIdx?_eq_some_iff_getElem] at h
  exact h.1
theorem ust_bd (n : Nat) (ks : List Bs) : ∀ i, i ≤ ks.length → (ust n ks i).1 = n ∨ ((ust n ks i).1 < i ∧ (ust n ks i).2 < i)
  | 0, _ => .inl rfl
  | i + 1, hi => by
    have ih := ust_bd n ks i (by omega)
    have hl : (ks.take i).length = i := by rw [List.length_take]; omega
    have e : ust n ks (i + 1) = ustep (ks.take i) (ust n ks i) (ks.getD i []) := rfl
    rw [e]
    generalize ust n ks i = st at ih ⊢
    unfold ustep
    cases hf : firstAt (ks.take i) (ks.getD i []) with
    | none =>
      rcases ih with h | h
      · exact .inl h
      · exact .inr ⟨by show st.1 < i + 1; omega, by show st.2 < i + 1; omega⟩
    | some a =>
      have ha := firstAt_lt hf
      by_cases hlt : a < st.1
      · simp only [if_pos hlt]
        exact .inr ⟨by omega, by omega⟩
      · simp only [if_neg hlt]
        rcases ih with h | h
        · exact .inl h
        · exact .inr ⟨by omega, by omega⟩

/-- What the map of first places reads as. -/
def InvD (D : DataW Unit) (P : List Bs) : Prop := IsMap D ∧ ∀ s : Bs, Maps.has D (.string s) = (firstAt P s).isSome ∧ ∀ a, firstAt P s = some a → D.atKey (.string s) (.lit (.int .i64 0)) = .lit (.int .i64 (a : Nat))
theorem invD_nil : InvD (.map []) [] := ⟨isMap_empty, fun _ => ⟨rfl, fun _ h => by cases h⟩⟩
theorem keyLit (s : Bs) : WideAt.IsKeyLit (.string s) := by simp [WideAt.IsKeyLit]
theorem invD_new {D : DataW Unit} {P : List Bs} {k : Bs} (h : InvD D P) (hk : firstAt P k = none) : InvD (D.put (.string k) (.lit (.int .i64 (P.length : Nat)))) (P ++ [k]) := by
  refine ⟨h.1.put _ _, fun s => ?_⟩
  rw [firstAt_snoc]
  by_cases hs : s = k
  · subst hs
    rw [hk]
    simp only [if_true]
    refine ⟨has_put_same h.1 (keyLit _) _, fun a ha => ?_⟩
    cases ha
    exact atKey_put_same h.1 (keyLit _) _ _
  · have hne : (Lit.string s) ≠ .string k := fun e => hs (by injection e)
    rw [has_put_other hne, atKey_put_other hne]
    have h2 := (h.2 s)
    cases hf : firstAt P s with
    | none => rw [hf] at h2; simp only [if_neg (fun e => hs (Eq.symm e))]; exact ⟨h2.1, fun a ha => by cases ha⟩
    | some a => rw [hf] at h2; exact h2
theorem invD_old {D : DataW Unit} {P : List Bs} {k : Bs} {a : Nat} (h : InvD D P) (hk : firstAt P k = some a) : InvD D (P ++ [k]) := by
  refine ⟨h.1, fun s => ?_⟩
  rw [firstAt_snoc]
  have h2 := h.2 s
  cases hf : firstAt P s with
  | some b => rw [hf] at h2; exact h2
  | none =>
    have hs : k ≠ s := fun e => by subst e; rw [hf] at hk; cases hk
    rw [hf] at h2
    simp only [if_neg hs]
    exact h2
theorem ownsMap_move {w w' : World} {k : TypeId} {R : Value → Option (DataW Unit × List MemPlace)} {b n : Nat} {D : DataW Unit} (h : w.ownsMap Tryz.prog k R b n D) (e : w'.heap[b]? = w.heap[b]?) : w'.ownsMap Tryz.prog k R b n D := by
  obtain ⟨es, c, h1, h2⟩ := h
  exact ⟨es, c, e.trans h1, h2⟩
theorem ownsMap_lt {w : World} {k : TypeId} {R : Value → Option (DataW Unit × List MemPlace)} {b n : Nat} {D : DataW Unit} (h : w.ownsMap Tryz.prog k R b n D) : b < w.heap.size := by
  obtain ⟨es, c, h1, h2⟩ := h
  exact World.block_lt_some h1

/-- The bytes of a key. -/
def kb (l : List Int) : Bs := (l.map encI).flatten
/-- Rows with keys of numbers. -/
structure IntKeys (t : Tbl) (rows : List Val) (K : Val → List Int) : Prop where
  key : ∀ row ∈ rows, keyOf t.key row = some ((K row).map vInt)
  bd : ∀ row ∈ rows, ∀ x ∈ K row, -2305843009213693952 ≤ x ∧ x < 2305843009213693952
  len : ∀ row ∈ rows, (K row).length ≤ 3
/-- The fault that unique finds. -/
def uniqF (rows : List Val) (st : Nat × Nat) : Ft := if st.1 = rows.length then Ft.zero else ⟨11, [], rows.getD st.1 Val.zero, rows.getD st.2 Val.zero⟩

structure UMid (w W1 : World) (ks : List Bs) (k : Nat) (wr : World) : Prop where
  below : Below w.heap.size w wr
  keep : ∀ b, b < w.heap.size + 2 → wr.heap[b]? = W1.heap[b]?
  map : ∃ D, wr.ownsMap Tryz.prog 9 (plainElem Tryz.prog 3) (w.heap.size + 2) k D ∧ InvD D (ks.take k)
theorem law9 : Keyed Tryz.prog 9 := string_keyed Tryz.underlying9
theorem zero3 (w : World) : (zeroValue 3).run Tryz.prog w = .ok (.int .i64 0) w := by kernel_rfl

set_option maxRecDepth 100000 in
set_option maxHeartbeats 2000000 in
theorem unique_any (S S' : Nat → Prop) (t : Tbl) (rows : List Val) (K : Val → List Int) (ct : List Value) (v : Value) (w : World) (ht : tblRd.R S w ct t) (hv0 : Sl valRd S' w v rows) (hK : IntKeys t rows K) (hl : rows.length ≤ 100000) (hkl : t.key.length ≤ 1000) :
    Calls Tryz.prog 24 #[.agg ct.toArray, v] w (FtAt S' w (uniqF rows (ust rows.length (rows.map fun r => kb (K r)) rows.length))) := by
  have hmm := @run_makeMap Tryz.prog
  have hv : Sl valRd (fun b => S' b ∧ b < w.heap.size) w v rows := hv0.mono (fun b hb h => ⟨h, hb⟩)
  have HKey := Lib.hid (fun row cr (hm : row ∈ rows) W (hb : Below w.heap.size w W) (hr : IsVal (fun b => S' b ∧ b < w.heap.size) W cr row) => (hK.key row hm) ▸ key_any S (fun b => S' b ∧ b < w.heap.size) t row ct cr W (tblRd.frame ht (.of_below hb)) hr hkl)
  have HEnc := Lib.hid (fun (n : Int) cs W (h0 : -2305843009213693952 ≤ n) (h1 : n < 2305843009213693952) (h : IsVal (fun _ => True) W cs (vInt n)) => encode_int _ n [] [] cs W h h0 h1)
  obtain ⟨cp0, cc0, kp0, kc0, rp0, rc0, k0, s1, n0, s2, p1, n1, c1, p2, n2, c2, p3, n3, c3, a0, z0, rfl, _, _, _, _, _⟩ := tbl_cells ht
  obtain ⟨vp, vcap, rfl, _⟩ := hv.len
  unfold tcs at HKey ⊢
  have HV := Lib.hid hv; have HKK := Lib.hid hK
  obtain ⟨i5, j1, j2, j3, j4⟩ := info_of (P := Tryz.prog) (t := 5) (z := .int .u8 0) (n := 1) (b := 1) (by kernel_rfl)
  have HJ := Lib.hid j1; have HJ2 := Lib.hid j2; have HJ3 := Lib.hid j3; have HJ4 := Lib.hid j4
  clear ht hv hv0 hK j1 j2 j3 j4
  obtain ⟨ks, hks⟩ : ∃ ks, (rows.map fun r => kb (K r)) = ks := ⟨_, rfl⟩
  rw [hks]
  have hkn : ks.length = rows.length := by rw [← hks, List.length_map]
  obtain ⟨n, hn⟩ : ∃ n, rows.length = n := ⟨_, rfl⟩
  rw [hn] at HV hl hkn ⊢
  have HN := Lib.hid hn; have HKs := Lib.hid hks; have HKN := Lib.hid hkn
  clear hn hks hkn
  go_enter Tryz.func24, Tryz.ntmps24
  go_wp2_with fail
  generalize hW1 : ((w.alloc (.cells #[.string ⟨t.name.toArray⟩, .slice cp0 t.columns.length cc0, .slice kp0 t.key.length kc0, .slice rp0 t.refs.length rc0, .int .i64 k0, .string s1, .int .i64 n0, .string s2, .slice p1 n1 c1, .slice p2 n2 c2, .slice p3 n3 c3, .int .i64 a0, .int .i64 z0] 59)).alloc (.cells #[.int .i64 0, .string ⟨#[]⟩, .int .i64 0, .int .i64 0, .string ⟨#[]⟩, .slice none 0 0, .slice none 0 0, .int .i64 0, .int .i64 0, .string ⟨#[]⟩, .slice none 0 0, .slice none 0 0] 40)).alloc (.map #[] 0) = W1
  have hM0 : UMid w W1 ks 0 W1 := by
    refine ⟨by rw [← hW1]; exact bal3 _ _ _ _, fun _ _ => rfl, .map [], ?_, invD_nil⟩
    rw [← hW1]
    have e : ((w.alloc (.cells #[.string ⟨t.name.toArray⟩, .slice cp0 t.columns.length cc0, .slice kp0 t.key.length kc0, .slice rp0 t.refs.length rc0, .int .i64 k0, .string s1, .int .i64 n0, .string s2, .slice p1 n1 c1, .slice p2 n2 c2, .slice p3 n3 c3, .int .i64 a0, .int .i64 z0] 59)).alloc (.cells #[.int .i64 0, .string ⟨#[]⟩, .int .i64 0, .int .i64 0, .string ⟨#[]⟩, .slice none 0 0, .slice none 0 0, .int .i64 0, .int .i64 0, .string ⟨#[]⟩, .slice none 0 0, .slice none 0 0] 40)).heap.size = w.heap.size + 2 := by simp
    rw [← e]
    exact World.ownsMap_made _ _ _ _
  have hX0 : W1.heap[w.heap.size]? = some (.cells #[.string ⟨t.name.toArray⟩, .slice cp0 t.columns.length cc0, .slice kp0 t.key.length kc0, .slice rp0 t.refs.length rc0, .int .i64 k0, .string s1, .int .i64 n0, .string s2, .slice p1 n1 c1, .slice p2 n2 c2, .slice p3 n3 c3, .int .i64 a0, .int .i64 z0] 59 (0, 0)) := by rw [← hW1, Below.heap_alloc _ _ _ (by simp; omega)]; exact heap_alloc2_old _ _ _
  have hR0 : W1.heap[w.heap.size + 1]? = some (.cells #[.int .i64 0, .string ⟨#[]⟩, .int .i64 0, .int .i64 0, .string ⟨#[]⟩, .slice none 0 0, .slice none 0 0, .int .i64 0, .int .i64 0, .string ⟨#[]⟩, .slice none 0 0, .slice none 0 0] 40 (0, 0)) := by rw [← hW1, Below.heap_alloc _ _ _ (by simp)]; exact heap_alloc2_new _ _ _
  have HM0 := Lib.hid hM0; have HX0 := Lib.hid hX0; have HR0 := Lib.hid hR0
  clear hM0 hX0 hR0 hW1
  go_loopw [6, 7, 21] (fun bst oth i wr => ∃ (k : Nat) (st : Nat × Nat), k ≤ n ∧ i = .int .i64 k ∧ Aside (ust n ks k = st) ∧ bst = .int .i64 (st.1 : Nat) ∧ oth = .int .i64 (st.2 : Nat) ∧ UMid w W1 ks k wr) (fun _ _ i _ => n - (intOf i).toNat)
  case atStart => exact ⟨0, (n, 0), Nat.zero_le _, rfl, rfl, rfl, rfl, HM0.out⟩
  case round =>
    obtain ⟨k, st, hk, rfl, hst, rfl, rfl, hM⟩ := hrel
    have HM := Lib.hid hM; have HSt := Lib.hid hst.out
    have hX := (hM.keep _ (by omega)).trans HX0.out
    have hR := (hM.keep _ (by omega)).trans HR0.out
    have hszr : w.heap.size + 2 < wr.heap.size := by
      obtain ⟨D, hD, _⟩ := hM.map
      exact ownsMap_lt hD
    clear hst
    have hx0 : w.heap.size < wr.heap.size := by omega
    have hxn : w.heap.size ≠ wr.heap.size := by omega
    by_cases hlt : k < n
    · have hi1 : (0 : Int) ≤ (k : Int) := by omega
      have hi2 : (k : Int) < (n : Int) := by omega
      obtain ⟨row, hrow⟩ : ∃ row, rows[k]? = some row := ⟨_, List.getElem?_eq_getElem (by rw [HN.out]; exact hlt)⟩
      obtain ⟨vb', voff, p3', k3', p4', k4', rfl, hvb, hvr, d0, d1, d2, d3, d4⟩ := (HV.out.below hM.below).val hrow
      have y0 := cell_of_row _ _ 0 _ _ _ hX; have y1 := cell_of_row _ _ 1 _ _ _ hX; have y2 := cell_of_row _ _ 2 _ _ _ hX; have y3 := cell_of_row _ _ 3 _ _ _ hX; have y4 := cell_of_row _ _ 4 _ _ _ hX; have y5 := cell_of_row _ _ 5 _ _ _ hX; have y6 := cell_of_row _ _ 6 _ _ _ hX; have y7 := cell_of_row _ _ 7 _ _ _ hX; have y8 := cell_of_row _ _ 8 _ _ _ hX; have y9 := cell_of_row _ _ 9 _ _ _ hX; have y10 := cell_of_row _ _ 10 _ _ _ hX; have y11 := cell_of_row _ _ 11 _ _ _ hX; have y12 := cell_of_row _ _ 12 _ _ _ hX
      simp only [List.getElem?_toArray, List.getElem?_cons_zero, List.getElem?_cons_succ] at y0 y1 y2 y3 y4 y5 y6 y7 y8 y9 y10 y11 y12
      have hmem := List.mem_of_getElem? hrow
      have hKey5 := HKey.out row (vcs row p3' k3' p4' k4') hmem (wr.alloc (.cells #[.int .i64 row.kind, .int .i64 row.n, .string ⟨row.s.toArray⟩, .slice p3' row.names.length k3', .slice p4' row.kids.length k4'] 34)) (hM.below.thn (bal1 _ _)) (hvr.move (.of_below (bal1 _ _)) (fun _ _ h => h))
      have HKey5 := Lib.hid hKey5
      have hbd := HKK.out.bd row hmem
      have hlen3 := HKK.out.len row hmem
      have hkey : ks[k]? = some (kb (K row)) := by rw [← HKs.out, List.getElem?_map, hrow]; rfl
      have HBd := Lib.hid hbd; have HKs1 := Lib.hid hkey
      clear hrow hvr hmem hKey5 hbd hkey hM hX hR
      obtain ⟨L, hL⟩ : ∃ L, K row = L := ⟨_, rfl⟩
      rw [hL] at HKey5 HBd HKs1 hlen3
      clear hL
      go_wp2_with fail
      unfold vcs at HKey5
      refine HKey5.out.mono ?_
      rintro e w5 ⟨kp, kn, kcap, rfl, hkn5, hsl5, hb5⟩
      rw [Option.getD_some, List.length_map] at hkn5
      subst hkn5
      rw [Option.getD_some] at hsl5
      have hbr5 : Below wr.heap.size wr w5 := (bal1 _ _).thn hb5
      have HSl5 := Lib.hid (hsl5.mono (S' := fun _ => True) (fun _ _ _ => trivial)); have HBr5 := Lib.hid hbr5
      have hsz5 := hbr5.size
      clear hsl5 hb5 hbr5 y0 y1 y2 y3 y4 y5 y6 y7 y8 y9 y10 y11 y12 d0 d1 d2 d3 d4
      go_wp2_with fail
      go_loopw [11, 31] (fun b j wv => ∃ (q : Nat) (bs : Bs) (p : Option Addr) (cap : Nat), q ≤ L.length ∧ j = .int .i64 q ∧ b = .slice p bs.length cap ∧ Aside (bs = kb (L.take q)) ∧ Below w5.heap.size w5 wv ∧ bs.length ≤ 20 * q ∧
        ∃ css, Own byteRd 5 (fun _ => True) w5.heap.size wv (.slice p bs.length cap) bs css) (fun _ j _ => L.length - (intOf j).toNat)
      case atStart => exact ⟨0, [], none, 0, Nat.zero_le _, rfl, rfl, rfl, Below.refl _ _, by simp, [], Own.nil _ _ _ _ _⟩
      case round =>
        obtain ⟨q, bs, p, cap, hq, rfl, rfl, hE, hBv, hbl, css, hO⟩ := hrel
        have HBv := Lib.hid hBv; have HO := Lib.hid hO; have HE := Lib.hid hE.out
        have hszv := hBv.size
        clear hBv hO hE
        by_cases hql : q < L.length
        · have hi3 : (0 : Int) ≤ (q : Int) := by omega
          have hi4 : (q : Int) < (L.length : Int) := by omega
          obtain ⟨x, hx⟩ : ∃ x, L[q]? = some x := ⟨_, List.getElem?_eq_getElem hql⟩
          have hxv : (L.map vInt)[q]? = some (vInt x) := by rw [List.getElem?_map, hx]; rfl
          have hsv := (HSl5.out.below HBv.out).val hxv
          simp only [vInt, Val.kind, Val.n, Val.s, Val.names, Val.kids, List.length_nil] at hsv
          obtain ⟨ub, uoff, q3, l3, q4, l4, rfl, hub, huv, e0, e1, e2, e3, e4⟩ := hsv
          simp only [vcs, Val.kind, Val.n, Val.s, Val.names, Val.kids, List.length_nil] at huv
          have HX := Lib.hid hx
          have hbx := HBd.out x (List.mem_of_getElem? hx)
          have hEn := HEnc.out x _ (wr.alloc (.cells #[.int .i64 0, .int .i64 x, .string ⟨#[]⟩, .slice q3 0 l3, .slice q4 0 l4] 34)) hbx.1 hbx.2 (IsVal.move huv (.of_below (bal1 _ _)) (fun _ _ h => h))
          have HEn := Lib.hid hEn
          have hel := encI_len hbx.1 hbx.2
          have hne : encI x ≠ [] := by
            unfold encI
            intro e
            have := congrArg List.length e
            rw [List.length_append] at this
            have h2 : vb (zz 0) = [0] := by rw [show zz 0 = 0 from rfl, vb_lt (by omega)]; rfl
            rw [h2] at this
            simp at this
          have HNe := Lib.hid hne
          clear hx hxv huv hbx hEn hne
          go_wp2_with fail
          refine HEn.out.mono ?_
          rintro e w6 ⟨ep, ecap, ecs, rfl, hO6, hb6⟩
          have hb6' : Below wr.heap.size wr w6 := (bal1 _ _).thn hb6
          have hOv : Own byteRd 5 (fun _ => True) w5.heap.size w6 (.slice p bs.length cap) bs css := HO.out.below hb6'
          have hY : Sl byteRd (But (fun _ => True) (.slice p bs.length cap)) w6 (.slice ep (encI x).length ecap) (encI x) := by
            have hO6' : Own byteRd 5 (fun _ => False) _ w6 (.slice ep (encI x).length ecap) (encI x) ecs := ⟨hO6.row, ⟨hO6.cs.len, fun i c y hc hy => hO6.cs.R i c y hc hy⟩⟩
            refine hO6'.sl (by omega) (fun b hb => ⟨trivial, fun e => ?_⟩) (fun b hb h => h.elim)
            have h1 := (HO.out.row.lt b e.symm).2
            have h2 : wr.heap.size + 1 ≤ b := by simpa using hb
            omega
          have HB6 := Lib.hid hb6'; have HOv := Lib.hid hOv; have HY := Lib.hid hY
          have hsz6 := hb6'.size
          clear hO6 hb6 hb6' hOv hY e0 e1 e2 e3 e4
          go_wp2_with (at_builtin; refine wpList_cat (r := byteRd) (by decide) rfl (.tmp 35) (.tmp 37) _ rfl 5 i5 (.int .u8 0) 1 Tryz.underlying97 HJ.out HJ2.out HJ3.out HJ4.out rfl (by omega) (fun _ => True) w5.heap.size w6 (.slice p bs.length cap) bs css (encI x) ep (encI x).length ecap rfl HOv.out rfl HY.out rfl HNe.out byte_one (by omega) (by omega) ?_; intro p7 cap7 css7 w7 hO7 hg7 hat7; have HO7 := Lib.hid hO7; have HG7 := Lib.hid hg7; clear hO7 hg7 hat7)
          go_roundw
          case measure => simp [intOf]; omega
          case rel =>
            refine ⟨q + 1, bs ++ encI x, p7, cap7, by omega, by go_num, by rw [List.length_append], (show Aside _ from ?_), (HBv.out.thn HB6.out).grown HG7.out (by omega) (fun g hg => (HOv.out.row.lt g hg).1), by rw [List.length_append]; omega, css7, by rw [List.length_append]; exact HO7.out⟩
            have : bs ++ encI x = kb (L.take (q + 1)) := by
              obtain ⟨hq', rfl⟩ := List.getElem?_eq_some_iff.1 HX.out
              rw [HE.out, List.take_succ_eq_append_getElem hq']
              unfold kb
              rw [List.map_append, List.flatten_append]
              simp only [List.map_cons, List.map_nil, List.flatten_cons, List.flatten_nil, List.append_nil]
            exact this
        · have hqm : q = L.length := by omega
          subst hqm
          have hbs : bs = kb L := by rw [HE.out, List.take_of_length_le (Nat.le_refl _)]
          have hconv := conv_own HO.out
          obtain ⟨D, hD, hI⟩ := HM.out.map
          have hDv : wr.ownsMap Tryz.prog 9 (plainElem Tryz.prog 3) (w.heap.size + 2) k D := ownsMap_move hD (by rw [HBv.out.block _ (by omega), HBr5.out.block _ hszr])
          have hko : Go.keyOf Tryz.prog 9 (.string ⟨bs.toArray⟩) = some (.string bs) := keyOf_string_mk Tryz.underlying9 (by rw [size_mk]; unfold maxLen; omega)
          have hkeep : ∀ b, b < w.heap.size + 2 → wr.heap[b]? = W1.heap[b]? := fun b hb => by
            rw [HBv.out.block _ (by omega), HBr5.out.block _ (by omega)]
            exact HM.out.keep b hb
          have hbelow : Below w.heap.size w wr := HM.out.below.thn (HBr5.out.thn HBv.out)
          have hlk : (ks.take k).length = k := by rw [List.length_take, HKN.out]; omega
          have htk : ks.take (k + 1) = ks.take k ++ [bs] := by
            obtain ⟨hk', e⟩ := List.getElem?_eq_some_iff.1 HKs1.out
            rw [List.take_succ_eq_append_getElem hk', e, hbs]
          have hus : ust n ks (k + 1) = ustep (ks.take k) st bs := by
            show ustep (ks.take k) (ust n ks k) (ks.getD k []) = _
            rw [HSt.out, List.getD_eq_getElem?_getD, HKs1.out, Option.getD_some, hbs]
          have HD := Lib.hid hDv; have HI := Lib.hid hI; have HKO := Lib.hid hko; have HKeep := Lib.hid hkeep; have HBel := Lib.hid hbelow; have HLk := Lib.hid hlk; have HTk := Lib.hid htk; have HUs := Lib.hid hus
          have hwf : (Lit.int .i64 (k : Int)).wf = true := WalkArith.wf_i64 (by omega)
          have HWf := Lib.hid hwf
          clear hbs hD hI hDv hko hkeep hbelow hlk htk hus hwf
          cases hf : firstAt (ks.take k) bs with
          | none =>
            have hhas : Maps.has D (.string bs) = false := by rw [(HI.out.2 bs).1, hf]; rfl
            have HF := Lib.hid hf
            clear hf
            go_wp2_with (first | (at_lookup; refine wpList_lookup_own_ok_int _ rfl (.tmp 41) (.tmp 43) _ rfl 9 3 .i64 law9 Tryz.underlying95 Tryz.underlying3 (zero3 _) (w.heap.size + 2) k D rfl HD.out (.string ⟨bs.toArray⟩) (.string bs) rfl HKO.out ?_; intro c hat hwc; clear hat hwc) | (at_mapUpdate; refine wpList_mapUpdate_own _ rfl (.tmp 49) (.tmp 51) (.tmp 52) _ rfl 9 3 law9 Tryz.underlying95 _ (w.heap.size + 2) k D rfl HD.out (by unfold maxLen; omega) (.string ⟨bs.toArray⟩) (.int .i64 k) (.string bs) rfl rfl HKO.out _ [] (plainElem_int Tryz.underlying3 HWf.out) ?_; intro w8 hown8 hgrow8; have HO8 := Lib.hid hown8; have HG8 := Lib.hid hgrow8; clear hown8 hgrow8))
            go_roundw
            case measure => simp [intOf]; omega
            case rel =>
              have hlt2 := ownsMap_lt HD.out
              refine ⟨k + 1, st, by omega, by go_num, (show Aside _ from ?_), rfl, rfl, ⟨HBel.out.grown HG8.out HBel.out.size (fun g hg => by have := Option.some.inj hg; omega), fun b hb => ?_, _, HO8.out, ?_⟩⟩
              · have : ust n ks (k + 1) = st := by rw [HUs.out]; unfold ustep; rw [HF.out]
                exact this
              · rw [HG8.out.block b (by omega) (fun e => by have := Option.some.inj e; omega)]; exact HKeep.out b hb
              · rw [HTk.out]
                have := invD_new HI.out HF.out
                rwa [HLk.out] at this
          | some a =>
            have hhas : Maps.has D (.string bs) = true := by rw [(HI.out.2 bs).1, hf]; rfl
            have HAt := Lib.hid ((HI.out.2 bs).2 a hf)
            have hal := firstAt_lt hf
            rw [HLk.out] at hal
            have HF := Lib.hid hf
            clear hf
            by_cases hab : a < st.1
            · have hab' : (a : Int) < (st.1 : Int) := by omega
              go_wp2_with (at_lookup; refine wpList_lookup_own_ok_int _ rfl (.tmp 41) (.tmp 43) _ rfl 9 3 .i64 law9 Tryz.underlying95 Tryz.underlying3 (zero3 _) (w.heap.size + 2) k D rfl HD.out (.string ⟨bs.toArray⟩) (.string bs) rfl HKO.out ?_; intro c hat hwc; obtain rfl : c = (a : Int) := (by have h1 := hat.symm.trans HAt.out; simpa using h1); clear hat hwc)
              go_roundw
              case measure => simp [intOf]; omega
              case rel =>
                refine ⟨k + 1, (a, k), by omega, by go_num, (show Aside _ from ?_), rfl, rfl, ⟨HBel.out, HKeep.out, D, ?_, ?_⟩⟩
                · have : ust n ks (k + 1) = (a, k) := by rw [HUs.out]; unfold ustep; rw [HF.out]; simp only [if_pos hab, HLk.out]
                  exact this
                · obtain ⟨es, cl, h1, h2, h3, h4⟩ := HD.out
                  exact ⟨es, cl, h1, h2, by omega, h4⟩
                · rw [HTk.out]; exact invD_old HI.out HF.out
            · have hab' : ¬ ((a : Int) < (st.1 : Int)) := by omega
              go_wp2_with (at_lookup; refine wpList_lookup_own_ok_int _ rfl (.tmp 41) (.tmp 43) _ rfl 9 3 .i64 law9 Tryz.underlying95 Tryz.underlying3 (zero3 _) (w.heap.size + 2) k D rfl HD.out (.string ⟨bs.toArray⟩) (.string bs) rfl HKO.out ?_; intro c hat hwc; obtain rfl : c = (a : Int) := (by have h1 := hat.symm.trans HAt.out; simpa using h1); clear hat hwc)
              go_roundw
              case measure => simp [intOf]; omega
              case rel =>
                refine ⟨k + 1, st, by omega, by go_num, (show Aside _ from ?_), rfl, rfl, ⟨HBel.out, HKeep.out, D, ?_, ?_⟩⟩
                · have : ust n ks (k + 1) = st := by rw [HUs.out]; unfold ustep; rw [HF.out]; simp only [if_neg hab]
                  exact this
                · obtain ⟨es, cl, h1, h2, h3, h4⟩ := HD.out
                  exact ⟨es, cl, h1, h2, by omega, h4⟩
                · rw [HTk.out]; exact invD_old HI.out HF.out
    · have hkn' : k = n := by omega
      subst hkn'
      have fz := fun j => frozen_of_row _ _ j _ _ hR
      have rr := fun j => cell_of_row _ _ j _ _ _ hR
      have r0 := rr 0; have f0 := fz 0; have r1 := rr 1; have f1 := fz 1; have r2 := rr 2; have f2 := fz 2; have r3 := rr 3; have f3 := fz 3; have r4 := rr 4; have f4 := fz 4; have r5 := rr 5; have f5 := fz 5; have r6 := rr 6; have f6 := fz 6; have r7 := rr 7; have f7 := fz 7; have r8 := rr 8; have f8 := fz 8; have r9 := rr 9; have f9 := fz 9; have r10 := rr 10; have f10 := fz 10; have r11 := rr 11; have f11 := fz 11
      simp only [List.getElem?_toArray, List.getElem?_cons_zero, List.getElem?_cons_succ] at r0 r1 r2 r3 r4 r5 r6 r7 r8 r9 r10 r11
      have HR := Lib.hid hR
      have hbd := ust_bd k ks k (by rw [HKN.out]; exact Nat.le_refl _)
      rw [HSt.out] at hbd
      clear fz rr hR hX hM
      by_cases hz : st.1 = k
      · have hq : ((st.1 : Int) == (k : Int)) = true := by rw [hz]; simp
        have hun : uniqF rows (ust k ks k) = Ft.zero := by rw [HSt.out]; unfold uniqF; rw [if_pos (by rw [HN.out]; exact hz)]
        have HUn := Lib.hid hun
        clear hun hbd
        have HZ := Lib.hid hz
        clear hz
        go_wp2_with fail
        show bodyPost _ _ _ _ _ (put12 wr _ _ _ _ _ _ _ _ _ _ _ _ _)
        refine bodyPost_ret (v := .agg #[.int .i64 0, .string ⟨#[]⟩, .int .i64 0, .int .i64 0, .string ⟨#[]⟩, .slice none 0 0, .slice none 0 0, .int .i64 0, .int .i64 0, .string ⟨#[]⟩, .slice none 0 0, .slice none 0 0]) (by simp [results, Tryz.results24, go_sem, put12_cell HR.out]) rfl ⟨[.int .i64 0, .string ⟨#[]⟩, .int .i64 0, .int .i64 0, .string ⟨#[]⟩, .slice none 0 0, .slice none 0 0, .int .i64 0, .int .i64 0, .string ⟨#[]⟩, .slice none 0 0, .slice none 0 0], rfl, by rw [HUn.out]; exact isFt_zero _ _, put12_below HM.out.below (by omega)⟩
      · obtain ⟨hb1, hb2⟩ := hbd.resolve_left hz
        have hq : ((st.1 : Int) == (k : Int)) = false := by rw [← Bool.not_eq_true, beq_iff_eq]; omega
        obtain ⟨x, hx⟩ : ∃ x, rows[st.1]? = some x := ⟨_, List.getElem?_eq_getElem (by rw [HN.out]; exact hb1)⟩
        obtain ⟨y, hy⟩ : ∃ y, rows[st.2]? = some y := ⟨_, List.getElem?_eq_getElem (by rw [HN.out]; exact hb2)⟩
        have hun : uniqF rows (ust k ks k) = ⟨11, [], x, y⟩ := by
          rw [HSt.out]
          unfold uniqF
          rw [if_neg (by rw [HN.out]; exact hz), List.getD_eq_getElem?_getD, List.getD_eq_getElem?_getD, hx, hy]; rfl
        have HUn := Lib.hid hun
        obtain ⟨xb, xoff, p3', k3', p4', k4', rfl, hxb, hvx, d0, d1, d2, d3, d4⟩ := (HV.out.below HM.out.below).val hx
        obtain ⟨yb, yoff, q3', l3', q4', l4', he, hyb, hvy, e0, e1, e2, e3, e4⟩ := (HV.out.below HM.out.below).val hy
        obtain ⟨rfl, rfl, -⟩ : xb = yb ∧ xoff = yoff ∧ True := by simpa using he
        have hi1 : (0 : Int) ≤ (st.1 : Int) := by omega
        have hi2 : (st.1 : Int) < (k : Int) := by omega
        have hi3 : (0 : Int) ≤ (st.2 : Int) := by omega
        have hi4 : (st.2 : Int) < (k : Int) := by omega
        have HVX := Lib.hid hvx; have HVY := Lib.hid hvy
        clear hun hbd hz hx hy he hvx hvy hb1 hb2
        go_wp2_with fail
        go_region
        go_wp2_with fail
        obtain ⟨W, hW⟩ : ∃ W, put12 wr (w.heap.size + 1) (.int .i64 11) (.string ⟨#[]⟩) (.int .i64 x.kind) (.int .i64 x.n) (.string ⟨x.s.toArray⟩) (.slice p3' x.names.length k3') (.slice p4' x.kids.length k4') (.int .i64 y.kind) (.int .i64 y.n) (.string ⟨y.s.toArray⟩) (.slice q3' y.names.length l3') (.slice q4' y.kids.length l4') = W := ⟨_, rfl⟩
        have q : ∀ j, W.cell? ⟨w.heap.size + 1, j, none⟩ = #[.int .i64 11, .string ⟨#[]⟩, .int .i64 x.kind, .int .i64 x.n, .string ⟨x.s.toArray⟩, .slice p3' x.names.length k3', .slice p4' x.kids.length k4', .int .i64 y.kind, .int .i64 y.n, .string ⟨y.s.toArray⟩, .slice q3' y.names.length l3', .slice q4' y.kids.length l4'][j]? := fun j => by rw [← hW]; exact put12_cell HR.out j
        have hoth : ∀ b, b < w.heap.size → W.heap[b]? = wr.heap[b]? := fun b hb => by rw [← hW]; exact put12_other (by omega)
        have hbel : Below w.heap.size w W := by rw [← hW]; exact put12_below HM.out.below (by omega)
        show bodyPost _ _ _ _ _ (World.drew (put12 wr (w.heap.size + 1) (.int .i64 11) (.string ⟨#[]⟩) (.int .i64 x.kind) (.int .i64 x.n) (.string ⟨x.s.toArray⟩) (.slice p3' x.names.length k3') (.slice p4' x.kids.length k4') (.int .i64 y.kind) (.int .i64 y.n) (.string ⟨y.s.toArray⟩) (.slice q3' y.names.length l3') (.slice q4' y.kids.length l4')))
        rw [hW]
        have HOth := Lib.hid hoth; have HBel := Lib.hid hbel
        have q0 := q 0; have q1 := q 1; have q2 := q 2; have q3 := q 3; have q4 := q 4; have q5 := q 5; have q6 := q 6; have q7 := q 7; have q8 := q 8; have q9 := q 9; have q10 := q 10; have q11 := q 11
        simp only [List.getElem?_toArray, List.getElem?_cons_zero, List.getElem?_cons_succ] at q0 q1 q2 q3 q4 q5 q6 q7 q8 q9 q10 q11
        clear hW hoth hbel q r0 r1 r2 r3 r4 r5 r6 r7 r8 r9 r10 r11 f0 f1 f2 f3 f4 f5 f6 f7 f8 f9 f10 f11
        refine bodyPost_ret (v := .agg #[.int .i64 11, .string ⟨#[]⟩, .int .i64 x.kind, .int .i64 x.n, .string ⟨x.s.toArray⟩, .slice p3' x.names.length k3', .slice p4' x.kids.length k4', .int .i64 y.kind, .int .i64 y.n, .string ⟨y.s.toArray⟩, .slice q3' y.names.length l3', .slice q4' y.kids.length l4']) (by simp [results, Tryz.results24, go_sem, q0, q1, q2, q3, q4, q5, q6, q7, q8, q9, q10, q11]) rfl ⟨[.int .i64 11, .string ⟨#[]⟩, .int .i64 x.kind, .int .i64 x.n, .string ⟨x.s.toArray⟩, .slice p3' x.names.length k3', .slice p4' x.kids.length k4', .int .i64 y.kind, .int .i64 y.n, .string ⟨y.s.toArray⟩, .slice q3' y.names.length l3', .slice q4' y.kids.length l4'], rfl, ?_, HBel.out.drew⟩
        rw [HUn.out]
        refine ⟨vcs x p3' k3' p4' k4', vcs y q3' l3' q4' l4', rfl, by simp, ?_, ?_⟩
        · exact IsVal.move (S' := S') HVX.out (fun b hb _ => HOth.out b hb.2) (fun _ _ h => h.1)
        · exact IsVal.move (S' := S') HVY.out (fun b hb _ => HOth.out b hb.2) (fun _ _ h => h.1)
end Go.Proofs.YthkkmklnapkgaaaGreatDoor

import Derived.Test.YthkkmklnapkgaaaGreatDoorQ19
/- schema.named at tables, schema.Table. -/
namespace Go.Proofs.YthkkmklnapkgaaaGreatDoor
open Go.RowKit Go.Shelf Go.Lib

/-- 13 cells stored into a block of as many. -/
def put13 (W : World) (R : Nat) (a0 a1 a2 a3 a4 a5 a6 a7 a8 a9 a10 a11 a12 : Value) : World := (((((((((((((W.setCell ⟨R, 0, none⟩ a0).setCell ⟨R, 1, none⟩ a1).setCell ⟨R, 2, none⟩ a2).setCell ⟨R, 3, none⟩ a3).setCell ⟨R, 4, none⟩ a4).setCell ⟨R, 5, none⟩ a5).setCell ⟨R, 6, none⟩ a6).setCell ⟨R, 7, none⟩ a7).setCell ⟨R, 8, none⟩ a8).setCell ⟨R, 9, none⟩ a9).setCell ⟨R, 10, none⟩ a10).setCell ⟨R, 11, none⟩ a11).setCell ⟨R, 12, none⟩ a12)
theorem put13_heap {W : World} {R : Nat} {a0 a1 a2 a3 a4 a5 a6 a7 a8 a9 a10 a11 a12 x0 x1 x2 x3 x4 x5 x6 x7 x8 x9 x10 x11 x12 : Value} {t : TypeId} (h : W.heap[R]? = some (.cells #[x0, x1, x2, x3, x4, x5, x6, x7, x8, x9, x10, x11, x12] t (0, 0))) : (put13 W R a0 a1 a2 a3 a4 a5 a6 a7 a8 a9 a10 a11 a12).heap[R]? = some (.cells #[a0, a1, a2, a3, a4, a5, a6, a7, a8, a9, a10, a11, a12] t (0, 0)) := by
  have h1 : (W.setCell ⟨R, 0, none⟩ a0).heap[R]? = some (.cells #[a0, x1, x2, x3, x4, x5, x6, x7, x8, x9, x10, x11, x12] t (0, 0)) := by rw [heap_setCell_same _ _ _ _ _ _ h]; rfl
  have h2 : ((W.setCell ⟨R, 0, none⟩ a0).setCell ⟨R, 1, none⟩ a1).heap[R]? = some (.cells #[a0, a1, x2, x3, x4, x5, x6, x7, x8, x9, x10, x11, x12] t (0, 0)) := by rw [heap_setCell_same _ _ _ _ _ _ h1]; rfl
  have h3 : (((W.setCell ⟨R, 0, none⟩ a0).setCell ⟨R, 1, none⟩ a1).setCell ⟨R, 2, none⟩ a2).heap[R]? = some (.cells #[a0, a1, a2, x3, x4, x5, x6, x7, x8, x9, x10, x11, x12] t (0, 0)) := by rw [heap_setCell_same _ _ _ _ _ _ h2]; rfl
  have h4 : ((((W.setCell ⟨R, 0, none⟩ a0).setCell ⟨R, 1, none⟩ a1).setCell ⟨R, 2, none⟩ a2).setCell ⟨R, 3, none⟩ a3).heap[R]? = some (.cells #[a0, a1, a2, a3, x4, x5, x6, x7, x8, x9, x10, x11, x12] t (0, 0)) := by rw [heap_setCell_same _ _ _ _ _ _ h3]; rfl
  have h5 : (((((W.setCell ⟨R, 0, none⟩ a0).setCell ⟨R, 1, none⟩ a1).setCell ⟨R, 2, none⟩ a2).setCell ⟨R, 3, none⟩ a3).setCell ⟨R, 4, none⟩ a4).heap[R]? = some (.cells #[a0, a1, a2, a3, a4, x5, x6, x7, x8, x9, x10, x11, x12] t (0, 0)) := by rw [heap_setCell_same _ _ _ _ _ _ h4]; rfl
  have h6 : ((((((W.setCell ⟨R, 0, none⟩ a0).setCell ⟨R, 1, none⟩ a1).setCell ⟨R, 2, none⟩ a2).setCell ⟨R, 3, none⟩ a3).setCell ⟨R, 4, none⟩ a4).setCell ⟨R, 5, none⟩ a5).heap[R]? = some (.cells #[a0, a1, a2, a3, a4, a5, x6, x7, x8, x9, x10, x11, x12] t (0, 0)) := by rw [heap_setCell_same _ _ _ _ _ _ h5]; rfl
  have h7 : (((((((W.setCell ⟨R, 0, none⟩ a0).setCell ⟨R, 1, none⟩ a1).setCell ⟨R, 2, none⟩ a2).setCell ⟨R, 3, none⟩ a3).setCell ⟨R, 4, none⟩ a4).setCell ⟨R, 5, none⟩ a5).setCell ⟨R, 6, none⟩ a6).heap[R]? = some (.cells #[a0, a1, a2, a3, a4, a5, a6, x7, x8, x9, x10, x11, x12] t (0, 0)) := by rw [heap_setCell_same _ _ _ _ _ _ h6]; rfl
  have h8 : ((((((((W.setCell ⟨R, 0, none⟩ a0).setCell ⟨R, 1, none⟩ a1).setCell ⟨R, 2, none⟩ a2).setCell ⟨R, 3, none⟩ a3).setCell ⟨R, 4, none⟩ a4).setCell ⟨R, 5, none⟩ a5).setCell ⟨R, 6, none⟩ a6).setCell ⟨R, 7, none⟩ a7).heap[R]? = some (.cells #[a0, a1, a2, a3, a4, a5, a6, a7, x8, x9, x10, x11, x12] t (0, 0)) := by rw [heap_setCell_same _ _ _ _ _ _ h7]; rfl
  have h9 : (((((((((W.setCell ⟨R, 0, none⟩ a0).setCell ⟨R, 1, none⟩ a1).setCell ⟨R, 2, none⟩ a2).setCell ⟨R, 3, none⟩ a3).setCell ⟨R, 4, none⟩ a4).setCell ⟨R, 5, none⟩ a5).setCell ⟨R, 6, none⟩ a6).setCell ⟨R, 7, none⟩ a7).setCell ⟨R, 8, none⟩ a8).heap[R]? = some (.cells #[a0, a1, a2, a3, a4, a5, a6, a7, a8, x9, x10, x11, x12] t (0, 0)) := by rw [heap_setCell_same _ _ _ _ _ _ h8]; rfl
  have h10 : ((((((((((W.setCell ⟨R, 0, none⟩ a0).setCell ⟨R, 1, none⟩ a1).setCell ⟨R, 2, none⟩ a2).setCell ⟨R, 3, none⟩ a3).setCell ⟨R, 4, none⟩ a4).setCell ⟨R, 5, none⟩ a5).setCell ⟨R, 6, none⟩ a6).setCell ⟨R, 7, none⟩ a7).setCell ⟨R, 8, none⟩ a8).setCell ⟨R, 9, none⟩ a9).heap[R]? = some (.cells #[a0, a1, a2, a3, a4, a5, a6, a7, a8, a9, x10, x11, x12] t (0, 0)) := by rw [heap_setCell_same _ _ _ _ _ _ h9]; rfl
  have h11 : (((((((((((W.setCell ⟨R, 0, none⟩ a0).setCell ⟨R, 1, none⟩ a1).setCell ⟨R, 2, none⟩ a2).setCell ⟨R, 3, none⟩ a3).setCell ⟨R, 4, none⟩ a4).setCell ⟨R, 5, none⟩ a5).setCell ⟨R, 6, none⟩ a6).setCell ⟨R, 7, none⟩ a7).setCell ⟨R, 8, none⟩ a8).setCell ⟨R, 9, none⟩ a9).setCell ⟨R, 10, none⟩ a10).heap[R]? = some (.cells #[a0, a1, a2, a3, a4, a5, a6, a7, a8, a9, a10, x11, x12] t (0, 0)) := by rw [heap_setCell_same _ _ _ _ _ _ h10]; rfl
  have h12 : ((((((((((((W.setCell ⟨R, 0, none⟩ a0).setCell ⟨R, 1, none⟩ a1).setCell ⟨R, 2, none⟩ a2).setCell ⟨R, 3, none⟩ a3).setCell ⟨R, 4, none⟩ a4).setCell ⟨R, 5, none⟩ a5).setCell ⟨R, 6, none⟩ a6).setCell ⟨R, 7, none⟩ a7).setCell ⟨R, 8, none⟩ a8).setCell ⟨R, 9, none⟩ a9).setCell ⟨R, 10, none⟩ a10).setCell ⟨R, 11, none⟩ a11).heap[R]? = some (.cells #[a0, a1, a2, a3, a4, a5, a6, a7, a8, a9, a10, a11, x12] t (0, 0)) := by rw [heap_setCell_same _ _ _ _ _ _ h11]; rfl
  unfold put13
  rw [heap_setCell_same _ _ _ _ _ _ h12]; rfl
theorem put13_cell {W : World} {R : Nat} {a0 a1 a2 a3 a4 a5 a6 a7 a8 a9 a10 a11 a12 x0 x1 x2 x3 x4 x5 x6 x7 x8 x9 x10 x11 x12 : Value} {t : TypeId} (h : W.heap[R]? = some (.cells #[x0, x1, x2, x3, x4, x5, x6, x7, x8, x9, x10, x11, x12] t (0, 0))) (j : Nat) : (put13 W R a0 a1 a2 a3 a4 a5 a6 a7 a8 a9 a10 a11 a12).cell? ⟨R, j, none⟩ = #[a0, a1, a2, a3, a4, a5, a6, a7, a8, a9, a10, a11, a12][j]? :=
  cell_of_row _ _ _ _ _ _ (put13_heap h)
theorem put13_other {W : World} {R k : Nat} {a0 a1 a2 a3 a4 a5 a6 a7 a8 a9 a10 a11 a12 : Value} (h : k ≠ R) : (put13 W R a0 a1 a2 a3 a4 a5 a6 a7 a8 a9 a10 a11 a12).heap[k]? = W.heap[k]? := by
  unfold put13
  rw [heap_setCell_ne h, heap_setCell_ne h, heap_setCell_ne h, heap_setCell_ne h, heap_setCell_ne h, heap_setCell_ne h, heap_setCell_ne h, heap_setCell_ne h, heap_setCell_ne h, heap_setCell_ne h, heap_setCell_ne h, heap_setCell_ne h, heap_setCell_ne h]
theorem put13_below {B R : Nat} {w W : World} {a0 a1 a2 a3 a4 a5 a6 a7 a8 a9 a10 a11 a12 : Value} (h : Below B w W) (hR : B ≤ R) : Below B w (put13 W R a0 a1 a2 a3 a4 a5 a6 a7 a8 a9 a10 a11 a12) :=
  ((((((((((((h.setCell (p := ⟨R, 0, none⟩) hR _).setCell (p := ⟨R, 1, none⟩) hR _).setCell (p := ⟨R, 2, none⟩) hR _).setCell (p := ⟨R, 3, none⟩) hR _).setCell (p := ⟨R, 4, none⟩) hR _).setCell (p := ⟨R, 5, none⟩) hR _).setCell (p := ⟨R, 6, none⟩) hR _).setCell (p := ⟨R, 7, none⟩) hR _).setCell (p := ⟨R, 8, none⟩) hR _).setCell (p := ⟨R, 9, none⟩) hR _).setCell (p := ⟨R, 10, none⟩) hR _).setCell (p := ⟨R, 11, none⟩) hR _).setCell (p := ⟨R, 12, none⟩) hR _

def Tbl.zero : Tbl := ⟨[], [], [], [], .mk 0 [] 0 [] [] [] [] 0 0⟩
theorem isTbl_zero (S : Nat → Prop) (w : World) : tblRd.R S w [.string ⟨#[]⟩, .slice none 0 0, .slice none 0 0, .slice none 0 0, .int .i64 0, .string ⟨#[]⟩, .int .i64 0, .string ⟨#[]⟩, .slice none 0 0, .slice none 0 0, .slice none 0 0, .int .i64 0, .int .i64 0] Tbl.zero :=
  ⟨_, _, _, _, rfl, by simp [Tbl.zero], Sl.nil _ _ _, Sl.nil _ _ _, Sl.nil _ _ _, isEx_mk (nm := []) (s := []) (by simp) (by simp) (Sl.nil _ _ _) (Sl.nil _ _ _) (Sl.nil _ _ _)⟩

theorem nameOf_any (S : Nat → Prop) (t : Tbl) (ct : List Value) (w : World) (h : tblRd.R S w ct t) :
    Calls Tryz.prog 119 #[.agg ct.toArray] w fun e w' => e = .returned (sv t.name) ∧ Below w.heap.size w w' := by
  obtain ⟨cp, cc, kp, kc, rp, rc, k, s1, n, s2, p1, n1, c1, p2, n2, c2, p3, n3, c3, a, z, hcs, _⟩ := tbl_cells h
  simp only [tcs] at hcs
  subst hcs
  clear h
  unfold sv
  go_enter Tryz.func119, Tryz.ntmps119
  go_wp2_with fail
  go_ret
  exact ⟨rfl, bal1 _ _⟩

/-- The first table with a name. -/
def tblNamed (l : List Tbl) (x : Bs) : Option Tbl := l.find? (fun t => decide (t.name = x))
def NamedIs (S : Nat → Prop) (w : World) (o : Option Tbl) (e : Ending) (w' : World) : Prop := ∃ cs', e = .returned (.tuple #[.agg cs'.toArray, .bool o.isSome]) ∧ tblRd.R (fun b => S b ∧ b < w.heap.size) w' cs' (o.getD Tbl.zero) ∧ Below w.heap.size w w'

set_option maxRecDepth 100000 in
set_option maxHeartbeats 1000000 in
theorem named_any (S : Nat → Prop) (l : List Tbl) (v : Value) (x0 : Bs) (w : World) (hv0 : Sl tblRd S w v l) :
    Calls Tryz.prog 118 #[v, .func (.func 119) #[] #[], sv x0] w (NamedIs S w (tblNamed l x0)) := by
  have hv : Sl tblRd (fun b => S b ∧ b < w.heap.size) w v l := hv0.mono (fun b hb h => ⟨h, hb⟩)
  obtain ⟨vp, vcap, rfl, hl⟩ := hv.len
  have HV := Lib.hid hv
  clear hv hv0
  obtain ⟨m, hm⟩ : ∃ m, l.length = m := ⟨_, rfl⟩
  rw [hm] at HV hl ⊢
  have HN := Lib.hid hm
  clear hm
  obtain ⟨r, hr⟩ : ∃ r, tblNamed l x0 = r := ⟨_, rfl⟩
  rw [hr]
  have HR := Lib.hid hr
  clear hr
  unfold sv
  go_enter Tryz.func118, Tryz.ntmps118
  go_wp2_with fail
  generalize hW1 : w.alloc (.cells #[.string ⟨#[]⟩, .slice none 0 0, .slice none 0 0, .slice none 0 0, .int .i64 0, .string ⟨#[]⟩, .int .i64 0, .string ⟨#[]⟩, .slice none 0 0, .slice none 0 0, .slice none 0 0, .int .i64 0, .int .i64 0] 59) = W1
  have hb1 : Below w.heap.size w W1 := by rw [← hW1]; exact bal1 _ _
  have hR1 : W1.heap[w.heap.size]? = some (.cells #[.string ⟨#[]⟩, .slice none 0 0, .slice none 0 0, .slice none 0 0, .int .i64 0, .string ⟨#[]⟩, .int .i64 0, .string ⟨#[]⟩, .slice none 0 0, .slice none 0 0, .slice none 0 0, .int .i64 0, .int .i64 0] 59 (0, 0)) := by rw [← hW1]; exact heap_alloc_new _ _
  have HB1 := Lib.hid hb1; have HR1 := Lib.hid hR1
  clear hW1 hb1 hR1
  go_loopw [13] (fun i wr => ∃ k : Nat, k ≤ m ∧ i = .int .i64 k ∧ Aside (∀ (j : Nat) (y : Tbl), j < k → l[j]? = some y → decide (y.name = x0) = false) ∧ Below W1.heap.size W1 wr) (fun i _ => m - (intOf i).toNat)
  case atStart => exact ⟨0, Nat.zero_le _, rfl, fun j _ hj => absurd hj (Nat.not_lt_zero _), Below.refl _ _⟩
  case round =>
    obtain ⟨k, hk, rfl, hA, hB⟩ := hrel
    have hres := (hB.block _ (World.block_lt_some HR1.out)).trans HR1.out
    have hlt0 := World.block_lt_some hres
    have HA := Lib.hid hA.out; have HB := Lib.hid (HB1.out.thn hB); have HBr := Lib.hid hB
    clear hA hB
    by_cases hlt : k < m
    · have hi1 : (0 : Int) ≤ (k : Int) := by omega
      have hi2 : (k : Int) < (m : Int) := by omega
      obtain ⟨x, hx⟩ : ∃ x, l[k]? = some x := ⟨_, List.getElem?_eq_getElem (by rw [HN.out]; exact hlt)⟩
      obtain ⟨bb, off, cx, rfl, hbb, -, -, hvx, hcx⟩ := (HV.out.below HB.out).elem hx
      have HNm := Lib.hid (nameOf_any _ x cx (wr.alloc (.cells cx.toArray 59)) (tblRd.frame hvx (.of_below (bal1 _ _))))
      have HVX := Lib.hid hvx
      obtain ⟨cp9, cc9, kp9, kc9, rp9, rc9, k9, s19, n9, s29, p19, n19, c19, p29, n29, c29, p39, n39, c39, a9, z9, hcs, _⟩ := tbl_cells hvx
      simp only [tcs] at hcs
      subst hcs
      have y0 := hcx 0 _ rfl; have y1 := hcx 1 _ rfl; have y2 := hcx 2 _ rfl; have y3 := hcx 3 _ rfl; have y4 := hcx 4 _ rfl; have y5 := hcx 5 _ rfl; have y6 := hcx 6 _ rfl; have y7 := hcx 7 _ rfl; have y8 := hcx 8 _ rfl; have y9 := hcx 9 _ rfl; have y10 := hcx 10 _ rfl; have y11 := hcx 11 _ rfl; have y12 := hcx 12 _ rfl
      simp only [show tblRd.k = 13 from rfl, Nat.add_zero] at y0 y1 y2 y3 y4 y5 y6 y7 y8 y9 y10 y11 y12
      have HX := Lib.hid hx; have HRes := Lib.hid hres
      clear hx hvx hcx hres
      unfold sv at HNm
      by_cases he : x.name = x0
      · have hq : (x.name == x0) = true := by rw [he]; simp
        have hr1 : r = some x := by
          rw [← HR.out]
          unfold tblNamed
          obtain ⟨hk', hxe⟩ := List.getElem?_eq_some_iff.1 HX.out
          rw [List.find?_eq_some_iff_getElem]
          refine ⟨by simp [he], k, hk', hxe, fun j hj => ?_⟩
          have := HA.out j _ hj (List.getElem?_eq_getElem (by omega))
          simpa using this
        have HR2 := Lib.hid hr1
        clear hr1 he
        go_wp2_with fail
        refine HNm.out.mono ?_
        rintro e w5 ⟨rfl, hw⟩
        have hX5 := (hw.block wr.heap.size (by simp)).trans (heap_alloc_new wr _)
        have hR5 := (hw.block w.heap.size (by simp; omega)).trans ((Below.heap_alloc wr _ _ hlt0).trans HRes.out)
        have x0' := cell_of_row _ _ 0 _ _ _ hX5; have x1' := cell_of_row _ _ 1 _ _ _ hX5; have x2' := cell_of_row _ _ 2 _ _ _ hX5; have x3' := cell_of_row _ _ 3 _ _ _ hX5; have x4' := cell_of_row _ _ 4 _ _ _ hX5; have x5' := cell_of_row _ _ 5 _ _ _ hX5; have x6' := cell_of_row _ _ 6 _ _ _ hX5; have x7' := cell_of_row _ _ 7 _ _ _ hX5; have x8' := cell_of_row _ _ 8 _ _ _ hX5; have x9' := cell_of_row _ _ 9 _ _ _ hX5; have x10' := cell_of_row _ _ 10 _ _ _ hX5; have x11' := cell_of_row _ _ 11 _ _ _ hX5; have x12' := cell_of_row _ _ 12 _ _ _ hX5
        have fz := fun j => frozen_of_row _ _ j _ _ hR5
        have rr := fun j => cell_of_row _ _ j _ _ _ hR5
        have f0 := fz 0; have f1 := fz 1; have f2 := fz 2; have f3 := fz 3; have f4 := fz 4; have f5 := fz 5; have f6 := fz 6; have f7 := fz 7; have f8 := fz 8; have f9 := fz 9; have f10 := fz 10; have f11 := fz 11; have f12 := fz 12
        have r0 := rr 0; have r1 := rr 1; have r2 := rr 2; have r3 := rr 3; have r4 := rr 4; have r5 := rr 5; have r6 := rr 6; have r7 := rr 7; have r8 := rr 8; have r9 := rr 9; have r10 := rr 10; have r11 := rr 11; have r12 := rr 12
        simp only [List.getElem?_toArray, List.getElem?_cons_zero, List.getElem?_cons_succ] at x0' x1' x2' x3' x4' x5' x6' x7' x8' x9' x10' x11' x12' r0 r1 r2 r3 r4 r5 r6 r7 r8 r9 r10 r11 r12
        have HB5 := Lib.hid (HB.out.thn ((bal1 wr _).thn hw)); have HR5 := Lib.hid hR5
        have HBr5 := Lib.hid ((bal1 wr _).thn hw)
        clear fz rr hX5 hR5 hw y0 y1 y2 y3 y4 y5 y6 y7 y8 y9 y10 y11 y12
        go_wp2_with fail
        obtain ⟨W, hW⟩ : ∃ W, put13 w5 w.heap.size (.string ⟨x.name.toArray⟩) (.slice cp9 x.columns.length cc9) (.slice kp9 x.key.length kc9) (.slice rp9 x.refs.length rc9) (.int .i64 k9) (.string s19) (.int .i64 n9) (.string s29) (.slice p19 n19 c19) (.slice p29 n29 c29) (.slice p39 n39 c39) (.int .i64 a9) (.int .i64 z9) = W := ⟨_, rfl⟩
        have q : ∀ j, W.cell? ⟨w.heap.size, j, none⟩ = #[.string ⟨x.name.toArray⟩, .slice cp9 x.columns.length cc9, .slice kp9 x.key.length kc9, .slice rp9 x.refs.length rc9, .int .i64 k9, .string s19, .int .i64 n9, .string s29, .slice p19 n19 c19, .slice p29 n29 c29, .slice p39 n39 c39, .int .i64 a9, .int .i64 z9][j]? := fun j => by rw [← hW]; exact put13_cell HR5.out j
        have hoth : ∀ b, b < w.heap.size → W.heap[b]? = w5.heap[b]? := fun b hb => by rw [← hW]; exact put13_other (by omega)
        have hbel : Below w.heap.size w W := by rw [← hW]; exact put13_below HB5.out (Nat.le_refl _)
        show bodyPost _ _ _ _ _ (put13 w5 w.heap.size (.string ⟨x.name.toArray⟩) (.slice cp9 x.columns.length cc9) (.slice kp9 x.key.length kc9) (.slice rp9 x.refs.length rc9) (.int .i64 k9) (.string s19) (.int .i64 n9) (.string s29) (.slice p19 n19 c19) (.slice p29 n29 c29) (.slice p39 n39 c39) (.int .i64 a9) (.int .i64 z9))
        rw [hW]
        have HOth := Lib.hid hoth; have HBel := Lib.hid hbel
        have q0 := q 0; have q1 := q 1; have q2 := q 2; have q3 := q 3; have q4 := q 4; have q5 := q 5; have q6 := q 6; have q7 := q 7; have q8 := q 8; have q9 := q 9; have q10 := q 10; have q11 := q 11; have q12 := q 12
        simp only [List.getElem?_toArray, List.getElem?_cons_zero, List.getElem?_cons_succ] at q0 q1 q2 q3 q4 q5 q6 q7 q8 q9 q10 q11 q12
        clear hW hoth hbel q r0 r1 r2 r3 r4 r5 r6 r7 r8 r9 r10 r11 r12 f0 f1 f2 f3 f4 f5 f6 f7 f8 f9 f10 f11 f12 x0' x1' x2' x3' x4' x5' x6' x7' x8' x9' x10' x11' x12'
        refine bodyPost_ret (v := .tuple #[.agg #[.string ⟨x.name.toArray⟩, .slice cp9 x.columns.length cc9, .slice kp9 x.key.length kc9, .slice rp9 x.refs.length rc9, .int .i64 k9, .string s19, .int .i64 n9, .string s29, .slice p19 n19 c19, .slice p29 n29 c29, .slice p39 n39 c39, .int .i64 a9, .int .i64 z9], .bool true]) (by simp [results, Tryz.results118, go_sem, q0, q1, q2, q3, q4, q5, q6, q7, q8, q9, q10, q11, q12]) rfl ⟨[.string ⟨x.name.toArray⟩, .slice cp9 x.columns.length cc9, .slice kp9 x.key.length kc9, .slice rp9 x.refs.length rc9, .int .i64 k9, .string s19, .int .i64 n9, .string s29, .slice p19 n19 c19, .slice p29 n29 c29, .slice p39 n39 c39, .int .i64 a9, .int .i64 z9], by rw [HR2.out]; rfl, ?_, HBel.out⟩
        rw [HR2.out]
        exact tblRd.frame HVX.out (fun b hb hlt => (HOth.out b hb.2).trans (HBr5.out.block b hlt))
      · have hq : (x.name == x0) = false := by rw [← Bool.not_eq_true, beq_iff_eq]; exact he
        have HE := Lib.hid he
        clear he
        go_wp2_with (go_at_call 119; refine HNm.out.mono ?_; rintro e w5 ⟨rfl, hw⟩; have HW5 := Lib.hid ((bal1 wr _).thn hw); clear hw)
        go_roundw
        case measure => simp [intOf]; omega
        case rel =>
          refine ⟨k + 1, by omega, by go_num, (show Aside _ from fun j y hj hy => ?_), ?_⟩
          · by_cases e : j = k
            · subst e
              have := HX.out
              rw [this] at hy
              cases hy
              simpa using HE.out
            · exact HA.out j y (by omega) hy
          · exact (HBr.out.thn HW5.out)
    · have hkm : k = m := by omega
      subst hkm
      have hr1 : r = none := by
        rw [← HR.out]
        unfold tblNamed
        rw [List.find?_eq_none]
        intro y hy
        obtain ⟨j, hj⟩ := List.getElem?_of_mem hy
        have := HA.out j y (by have := (List.getElem?_eq_some_iff.1 hj).1; have := HN.out; omega) hj
        simpa using this
      have HR2 := Lib.hid hr1
      have fz := fun j => frozen_of_row _ _ j _ _ hres
      have rr := fun j => cell_of_row _ _ j _ _ _ hres
      have f0 := fz 0; have f1 := fz 1; have f2 := fz 2; have f3 := fz 3; have f4 := fz 4; have f5 := fz 5; have f6 := fz 6; have f7 := fz 7; have f8 := fz 8; have f9 := fz 9; have f10 := fz 10; have f11 := fz 11; have f12 := fz 12
      have r0 := rr 0; have r1 := rr 1; have r2 := rr 2; have r3 := rr 3; have r4 := rr 4; have r5 := rr 5; have r6 := rr 6; have r7 := rr 7; have r8 := rr 8; have r9 := rr 9; have r10 := rr 10; have r11 := rr 11; have r12 := rr 12
      simp only [List.getElem?_toArray, List.getElem?_cons_zero, List.getElem?_cons_succ] at r0 r1 r2 r3 r4 r5 r6 r7 r8 r9 r10 r11 r12
      have HRes := Lib.hid hres
      clear fz rr hres hr1 f0 f1 f2 f3 f4 f5 f6 f7 f8 f9 f10 f11 f12 r0 r1 r2 r3 r4 r5 r6 r7 r8 r9 r10 r11 r12
      go_upto_region 8 with fail
      generalize hW5 : wr.alloc (.cells #[.string ⟨#[]⟩, .slice none 0 0, .slice none 0 0, .slice none 0 0, .int .i64 0, .string ⟨#[]⟩, .int .i64 0, .string ⟨#[]⟩, .slice none 0 0, .slice none 0 0, .slice none 0 0, .int .i64 0, .int .i64 0] 59) = w5
      have hb5 : Below wr.heap.size wr w5 := by rw [← hW5]; exact bal1 _ _
      have hX5 : w5.heap[wr.heap.size]? = some (.cells #[.string ⟨#[]⟩, .slice none 0 0, .slice none 0 0, .slice none 0 0, .int .i64 0, .string ⟨#[]⟩, .int .i64 0, .string ⟨#[]⟩, .slice none 0 0, .slice none 0 0, .slice none 0 0, .int .i64 0, .int .i64 0] 59 (0, 0)) := by rw [← hW5]; exact heap_alloc_new _ _
      have hR5 := (hb5.block w.heap.size hlt0).trans HRes.out
      have x0' := cell_of_row _ _ 0 _ _ _ hX5; have x1' := cell_of_row _ _ 1 _ _ _ hX5; have x2' := cell_of_row _ _ 2 _ _ _ hX5; have x3' := cell_of_row _ _ 3 _ _ _ hX5; have x4' := cell_of_row _ _ 4 _ _ _ hX5; have x5' := cell_of_row _ _ 5 _ _ _ hX5; have x6' := cell_of_row _ _ 6 _ _ _ hX5; have x7' := cell_of_row _ _ 7 _ _ _ hX5; have x8' := cell_of_row _ _ 8 _ _ _ hX5; have x9' := cell_of_row _ _ 9 _ _ _ hX5; have x10' := cell_of_row _ _ 10 _ _ _ hX5; have x11' := cell_of_row _ _ 11 _ _ _ hX5; have x12' := cell_of_row _ _ 12 _ _ _ hX5
      have fz := fun j => frozen_of_row _ _ j _ _ hR5
      have rr := fun j => cell_of_row _ _ j _ _ _ hR5
      have f0 := fz 0; have f1 := fz 1; have f2 := fz 2; have f3 := fz 3; have f4 := fz 4; have f5 := fz 5; have f6 := fz 6; have f7 := fz 7; have f8 := fz 8; have f9 := fz 9; have f10 := fz 10; have f11 := fz 11; have f12 := fz 12
      have r0 := rr 0; have r1 := rr 1; have r2 := rr 2; have r3 := rr 3; have r4 := rr 4; have r5 := rr 5; have r6 := rr 6; have r7 := rr 7; have r8 := rr 8; have r9 := rr 9; have r10 := rr 10; have r11 := rr 11; have r12 := rr 12
      simp only [List.getElem?_toArray, List.getElem?_cons_zero, List.getElem?_cons_succ] at x0' x1' x2' x3' x4' x5' x6' x7' x8' x9' x10' x11' x12' r0 r1 r2 r3 r4 r5 r6 r7 r8 r9 r10 r11 r12
      have HB5 := Lib.hid (HB.out.thn hb5); have HR5 := Lib.hid hR5
      clear fz rr hX5 hR5 hb5 hW5
      go_wp2_with fail
      obtain ⟨W, hW⟩ : ∃ W, put13 w5 w.heap.size (.string ⟨#[]⟩) (.slice none 0 0) (.slice none 0 0) (.slice none 0 0) (.int .i64 0) (.string ⟨#[]⟩) (.int .i64 0) (.string ⟨#[]⟩) (.slice none 0 0) (.slice none 0 0) (.slice none 0 0) (.int .i64 0) (.int .i64 0) = W := ⟨_, rfl⟩
      have q : ∀ j, W.cell? ⟨w.heap.size, j, none⟩ = #[.string ⟨#[]⟩, .slice none 0 0, .slice none 0 0, .slice none 0 0, .int .i64 0, .string ⟨#[]⟩, .int .i64 0, .string ⟨#[]⟩, .slice none 0 0, .slice none 0 0, .slice none 0 0, .int .i64 0, .int .i64 0][j]? := fun j => by rw [← hW]; exact put13_cell HR5.out j
      have hbel : Below w.heap.size w W := by rw [← hW]; exact put13_below HB5.out (Nat.le_refl _)
      show bodyPost _ _ _ _ _ (put13 w5 w.heap.size (.string ⟨#[]⟩) (.slice none 0 0) (.slice none 0 0) (.slice none 0 0) (.int .i64 0) (.string ⟨#[]⟩) (.int .i64 0) (.string ⟨#[]⟩) (.slice none 0 0) (.slice none 0 0) (.slice none 0 0) (.int .i64 0) (.int .i64 0))
      rw [hW]
      have HBel := Lib.hid hbel
      have q0 := q 0; have q1 := q 1; have q2 := q 2; have q3 := q 3; have q4 := q 4; have q5 := q 5; have q6 := q 6; have q7 := q 7; have q8 := q 8; have q9 := q 9; have q10 := q 10; have q11 := q 11; have q12 := q 12
      simp only [List.getElem?_toArray, List.getElem?_cons_zero, List.getElem?_cons_succ] at q0 q1 q2 q3 q4 q5 q6 q7 q8 q9 q10 q11 q12
      clear hW hbel q r0 r1 r2 r3 r4 r5 r6 r7 r8 r9 r10 r11 r12 f0 f1 f2 f3 f4 f5 f6 f7 f8 f9 f10 f11 f12 x0' x1' x2' x3' x4' x5' x6' x7' x8' x9' x10' x11' x12'
      refine bodyPost_ret (v := .tuple #[.agg #[.string ⟨#[]⟩, .slice none 0 0, .slice none 0 0, .slice none 0 0, .int .i64 0, .string ⟨#[]⟩, .int .i64 0, .string ⟨#[]⟩, .slice none 0 0, .slice none 0 0, .slice none 0 0, .int .i64 0, .int .i64 0], .bool false]) (by simp [results, Tryz.results118, go_sem, q0, q1, q2, q3, q4, q5, q6, q7, q8, q9, q10, q11, q12]) rfl ⟨[.string ⟨#[]⟩, .slice none 0 0, .slice none 0 0, .slice none 0 0, .int .i64 0, .string ⟨#[]⟩, .int .i64 0, .string ⟨#[]⟩, .slice none 0 0, .slice none 0 0, .slice none 0 0, .int .i64 0, .int .i64 0], by rw [HR2.out]; rfl, ?_, HBel.out⟩
      rw [HR2.out]
      exact isTbl_zero _ _
end Go.Proofs.YthkkmklnapkgaaaGreatDoor

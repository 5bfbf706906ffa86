import Derived.Test.YthkkmklnapkgaaaGreatDoorQ23
import Derived.Test.YthkkmklnapkgaaaGreatDoorQ28
/- The constraints of rows.Check. -/
namespace Go.Proofs.YthkkmklnapkgaaaGreatDoor
open Go.RowKit Go.Shelf Go.Lib

/-- The fault of too many rows. -/
def con1 (rows : List Val) : Ft := if 256 < rows.length then ⟨4, [], Val.zero, Val.zero⟩ else Ft.zero

set_option maxRecDepth 100000 in
set_option maxHeartbeats 2000000 in
theorem con1_any (S0 S1 S : Nat → Prop) (t : Tbl) (ct : List Value) (rv : Value) (rows : List Val) (w : World) (ht : tblRd.R S0 w ct t) (hr : Sl valRd S1 w rv rows) :
    Calls Tryz.prog 17 #[.agg ct.toArray, rv] w (FtAt S w (con1 rows)) := by
  obtain ⟨cp9, cc9, kp9, kc9, rp9, rc9, k9, s19, n9, s29, p19, n19, c19, p29, n29, c29, p39, n39, c39, a9, z9, hcs, _⟩ := tbl_cells ht
  simp only [tcs] at hcs
  subst hcs
  obtain ⟨rp, rc, rfl, hl⟩ := hr.len
  unfold con1
  clear ht hr
  by_cases h : 256 < rows.length
  · rw [if_pos h]
    have hi : (256 : Int) < (rows.length : Int) := by omega
    clear h
    go_enter Tryz.func17, Tryz.ntmps17
    go_wp2_with fail
    generalize hW : (w.alloc _).alloc _ = W
    have hb : Below w.heap.size w W := by rw [← hW]; exact bal2 _ _ _
    have hR : W.heap[w.heap.size + 1]? = some (.cells #[.int .i64 4, .string ⟨#[]⟩, .int .i64 0, .int .i64 0, .string ⟨#[]⟩, .slice none 0 0, .slice none 0 0, .int .i64 0, .int .i64 0, .string ⟨#[]⟩, .slice none 0 0, .slice none 0 0] 40 (0, 0)) := by rw [← hW]; exact heap_alloc2_new _ _ _
    refine bodyPost_ret (v := .agg #[.int .i64 4, .string ⟨#[]⟩, .int .i64 0, .int .i64 0, .string ⟨#[]⟩, .slice none 0 0, .slice none 0 0, .int .i64 0, .int .i64 0, .string ⟨#[]⟩, .slice none 0 0, .slice none 0 0]) (by simp [results, Tryz.results17, go_sem, cell_of_row _ _ _ _ _ _ hR]) rfl ⟨[.int .i64 4, .string ⟨#[]⟩, .int .i64 0, .int .i64 0, .string ⟨#[]⟩, .slice none 0 0, .slice none 0 0, .int .i64 0, .int .i64 0, .string ⟨#[]⟩, .slice none 0 0, .slice none 0 0], rfl, ?_, hb⟩
    exact ⟨_, _, rfl, by simp, isVal_zero _ _, isVal_zero _ _⟩
  · rw [if_neg h]
    have hi : ¬ (256 : Int) < (rows.length : Int) := by omega
    have hi2 : decide ((256 : Int) < (rows.length : Int)) = false := decide_eq_false hi
    clear h
    go_enter Tryz.func17, Tryz.ntmps17
    go_wp2_with fail
    generalize hW : (w.alloc _).alloc _ = W
    have hb : Below w.heap.size w W := by rw [← hW]; exact bal2 _ _ _
    have hR : W.heap[w.heap.size + 1]? = some (.cells #[.int .i64 0, .string ⟨#[]⟩, .int .i64 0, .int .i64 0, .string ⟨#[]⟩, .slice none 0 0, .slice none 0 0, .int .i64 0, .int .i64 0, .string ⟨#[]⟩, .slice none 0 0, .slice none 0 0] 40 (0, 0)) := by rw [← hW]; exact heap_alloc2_new _ _ _
    refine bodyPost_ret (v := .agg #[.int .i64 0, .string ⟨#[]⟩, .int .i64 0, .int .i64 0, .string ⟨#[]⟩, .slice none 0 0, .slice none 0 0, .int .i64 0, .int .i64 0, .string ⟨#[]⟩, .slice none 0 0, .slice none 0 0]) (by simp [results, Tryz.results17, go_sem, cell_of_row _ _ _ _ _ _ hR]) rfl ⟨[.int .i64 0, .string ⟨#[]⟩, .int .i64 0, .int .i64 0, .string ⟨#[]⟩, .slice none 0 0, .slice none 0 0, .int .i64 0, .int .i64 0, .string ⟨#[]⟩, .slice none 0 0, .slice none 0 0], rfl, ?_, hb⟩
    exact isFt_zero _ _

set_option maxRecDepth 100000 in
set_option maxHeartbeats 2000000 in
theorem con3_any (S0 S1 : Nat → Prop) (t : Tbl) (ct : List Value) (rv : Value) (rows : List Val) (K : Val → List Int) (w : World) (ht : tblRd.R S0 w ct t) (hr : Sl valRd S1 w rv rows) (hK : IntKeys t rows K) (hl : rows.length ≤ 100000) (hkl : t.key.length ≤ 1000) :
    Calls Tryz.prog 23 #[.agg ct.toArray, rv] w (FtAt S1 w (uniqF rows (ust rows.length (rows.map fun r => kb (K r)) rows.length))) := by
  have HU := Lib.hid (fun W (hb : Below w.heap.size w W) => unique_any S0 (fun b => S1 b ∧ b < w.heap.size) t rows K ct rv W (tblRd.frame ht (.of_below hb)) ((hr.mono (fun b hb h => ⟨h, hb⟩)).below hb) hK hl hkl)
  obtain ⟨cp9, cc9, kp9, kc9, rp9, rc9, k9, s19, n9, s29, p19, n19, c19, p29, n29, c29, p39, n39, c39, a9, z9, hcs, _⟩ := tbl_cells ht
  simp only [tcs] at hcs
  subst hcs
  obtain ⟨rp, rc, rfl, _⟩ := hr.len
  obtain ⟨f, hf⟩ : ∃ f, uniqF rows (ust rows.length (rows.map fun r => kb (K r)) rows.length) = f := ⟨_, rfl⟩
  rw [hf] at HU ⊢
  clear ht hr hK hf
  go_enter Tryz.func23, Tryz.ntmps23
  go_wp2_with fail
  refine (HU.out _ (bal2 _ _ _)).mono ?_
  rintro e w5 ⟨cs', rfl, hf5, hb5⟩
  obtain ⟨p3, k3, p4, k4, q3, l3, q4, l4, hcs, hfl, hfr, hfo⟩ := ft_cells hf5
  simp only [fcs] at hcs
  subst hcs
  have HR5 := Lib.hid ((hb5.block (w.heap.size + 1) (by simp)).trans (heap_alloc2_new w _ _))
  have HB5 := Lib.hid ((bal2 w _ _).thn hb5)
  have HFR := Lib.hid hfr; have HFO := Lib.hid hfo; have HFL := Lib.hid hfl
  have fz := fun j => frozen_of_row _ _ j _ _ HR5.out
  have rr := fun j => cell_of_row _ _ j _ _ _ HR5.out
  have f0 := fz 0; have f1 := fz 1; have f2 := fz 2; have f3 := fz 3; have f4 := fz 4; have f5 := fz 5; have f6 := fz 6; have f7 := fz 7; have f8 := fz 8; have f9 := fz 9; have f10 := fz 10; have f11 := fz 11
  have r0 := rr 0; have r1 := rr 1; have r2 := rr 2; have r3 := rr 3; have r4 := rr 4; have r5 := rr 5; have r6 := rr 6; have r7 := rr 7; have r8 := rr 8; have r9 := rr 9; have r10 := rr 10; have r11 := rr 11
  simp only [List.getElem?_toArray, List.getElem?_cons_zero, List.getElem?_cons_succ] at r0 r1 r2 r3 r4 r5 r6 r7 r8 r9 r10 r11
  clear fz rr hf5 hb5 hfr hfo hfl
  go_wp2_with fail
  obtain ⟨W, hW⟩ : ∃ W, put12 w5 (w.heap.size + 1) (.int .i64 f.code) (.string ⟨f.table.toArray⟩) (.int .i64 f.row.kind) (.int .i64 f.row.n) (.string ⟨f.row.s.toArray⟩) (.slice p3 f.row.names.length k3) (.slice p4 f.row.kids.length k4) (.int .i64 f.other.kind) (.int .i64 f.other.n) (.string ⟨f.other.s.toArray⟩) (.slice q3 f.other.names.length l3) (.slice q4 f.other.kids.length l4) = W := ⟨_, rfl⟩
  have q : ∀ j, W.cell? ⟨w.heap.size + 1, j, none⟩ = #[.int .i64 f.code, .string ⟨f.table.toArray⟩, .int .i64 f.row.kind, .int .i64 f.row.n, .string ⟨f.row.s.toArray⟩, .slice p3 f.row.names.length k3, .slice p4 f.row.kids.length k4, .int .i64 f.other.kind, .int .i64 f.other.n, .string ⟨f.other.s.toArray⟩, .slice q3 f.other.names.length l3, .slice q4 f.other.kids.length l4][j]? := fun j => by rw [← hW]; exact put12_cell HR5.out j
  have hoth : ∀ b, b ≠ w.heap.size + 1 → W.heap[b]? = w5.heap[b]? := fun b hb => by rw [← hW]; exact put12_other hb
  have hbel : Below w.heap.size w W := by rw [← hW]; exact put12_below HB5.out (by omega)
  show bodyPost _ _ _ _ _ (put12 w5 (w.heap.size + 1) (.int .i64 f.code) (.string ⟨f.table.toArray⟩) (.int .i64 f.row.kind) (.int .i64 f.row.n) (.string ⟨f.row.s.toArray⟩) (.slice p3 f.row.names.length k3) (.slice p4 f.row.kids.length k4) (.int .i64 f.other.kind) (.int .i64 f.other.n) (.string ⟨f.other.s.toArray⟩) (.slice q3 f.other.names.length l3) (.slice q4 f.other.kids.length l4))
  rw [hW]
  have HBel := Lib.hid hbel; have HOth := Lib.hid hoth
  have q0 := q 0; have q1 := q 1; have q2 := q 2; have q3' := q 3; have q4' := q 4; have q5 := q 5; have q6 := q 6; have q7 := q 7; have q8 := q 8; have q9 := q 9; have q10 := q 10; have q11 := q 11
  simp only [List.getElem?_toArray, List.getElem?_cons_zero, List.getElem?_cons_succ] at q0 q1 q2 q3' q4' q5 q6 q7 q8 q9 q10 q11
  clear hW hbel q hoth
  refine bodyPost_ret (v := .agg #[.int .i64 f.code, .string ⟨f.table.toArray⟩, .int .i64 f.row.kind, .int .i64 f.row.n, .string ⟨f.row.s.toArray⟩, .slice p3 f.row.names.length k3, .slice p4 f.row.kids.length k4, .int .i64 f.other.kind, .int .i64 f.other.n, .string ⟨f.other.s.toArray⟩, .slice q3 f.other.names.length l3, .slice q4 f.other.kids.length l4]) (by simp [results, Tryz.results23, go_sem, q0, q1, q2, q3', q4', q5, q6, q7, q8, q9, q10, q11]) rfl ⟨[.int .i64 f.code, .string ⟨f.table.toArray⟩, .int .i64 f.row.kind, .int .i64 f.row.n, .string ⟨f.row.s.toArray⟩, .slice p3 f.row.names.length k3, .slice p4 f.row.kids.length k4, .int .i64 f.other.kind, .int .i64 f.other.n, .string ⟨f.other.s.toArray⟩, .slice q3 f.other.names.length l3, .slice q4 f.other.kids.length l4], rfl, ?_, HBel.out⟩
  exact ⟨_, _, rfl, HFL.out, IsVal.move HFR.out (fun b hb _ => HOth.out b (by have : b < w.heap.size := hb.2; omega)) (fun _ _ h => h.1), IsVal.move HFO.out (fun b hb _ => HOth.out b (by have : b < w.heap.size := hb.2; omega)) (fun _ _ h => h.1)⟩
end Go.Proofs.YthkkmklnapkgaaaGreatDoor

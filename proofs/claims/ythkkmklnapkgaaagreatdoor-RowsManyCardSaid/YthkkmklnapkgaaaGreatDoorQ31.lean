import Derived.Test.YthkkmklnapkgaaaGreatDoorQ30
/- The constraints of rows.Check: the rows' type. -/
namespace Go.Proofs.YthkkmklnapkgaaaGreatDoor
open Go.RowKit Go.Shelf Go.Lib

set_option maxRecDepth 100000 in
set_option maxHeartbeats 2000000 in
theorem con2in_any (B Y : Nat) (S : Nat → Prop) (ps : Option Addr) (ns nc : Nat) (T : Ty) (cty : List Value) (rows : List Val) (p : Val → Bool) (w : World) (hB0 : w.cell? ⟨B, 0, none⟩ = some (.slice ps ns nc)) (hct : ∀ j u, cty[j]? = some u → w.cell? ⟨Y, j, none⟩ = some u) (hYl : Y < w.heap.size)
    (hty : IsTy S w cty T) (hp : ∀ x ∈ rows, GoodV x ∧ HasAt x T (p x)) (hK : KwTab w) : PredRd Tryz.prog 21 #[.pointer (some ⟨B, 0, none⟩), .pointer (some ⟨Y, 0, none⟩)] valRd S rows p w := by
  intro W x cs hb hx hr
  have hxt := hty.move (.of_below hb) (fun _ _ h => h)
  have HC := Lib.hid (fun W' (h' : Below W.heap.size W W') => hasGood x T (p x) (hp x hx).1 (hp x hx).2 S S cs cty ps ns nc W' (IsVal.move (show IsVal S W cs x from hr) (.of_below h') (fun _ _ h => h)) (hxt.move (.of_below h') (fun _ _ h => h)) ((hK.below hb).below h'))
  obtain ⟨k, s, n, names, kids⟩ := T
  obtain ⟨y3, m3, y4, m4, rfl, _⟩ := hxt.cells'
  obtain ⟨p3, k3, p4, k4, hcs, _⟩ := IsVal.cells (show IsVal S W cs x from hr)
  simp only [vcs] at hcs
  subst hcs
  have b0 := (hb.cell (p := ⟨B, 0, none⟩) (World.block_lt_of_cell? _ _ hB0)).trans hB0
  have d := fun j u hj => (hb.cell (p := ⟨Y, j, none⟩) hYl).trans (hct j u hj)
  have d0 := d 0 _ rfl
  have d1 := d 1 _ rfl
  have d2 := d 2 _ rfl
  have d3 := d 3 _ rfl
  have d4 := d 4 _ rfl
  have hYW : Y < W.heap.size := World.block_lt_of_cell? W _ d0
  have hBW : B < W.heap.size := World.block_lt_of_cell? W _ b0
  show Calls Tryz.prog 21 #[.agg #[.int .i64 x.kind, .int .i64 x.n, .string ⟨x.s.toArray⟩, .slice p3 x.names.length k3, .slice p4 x.kids.length k4], .pointer (some ⟨B, 0, none⟩), .pointer (some ⟨Y, 0, none⟩)] W (fun e w' => e = .returned (.bool (p x)) ∧ Below W.heap.size W w')
  generalize p x = b at HC ⊢
  clear d hct hty hb hx hr hxt hp hB0 hK
  go_enter Tryz.func21, Tryz.ntmps21
  go_wp2_with (go_at_call 22; refine (HC.out _ (bal1 _ _)).mono ?_; rintro e w' ⟨rfl, hw⟩)
  go_ret
  exact ⟨rfl, (bal1 _ _).thn hw⟩

set_option maxRecDepth 100000 in
set_option maxHeartbeats 2000000 in
theorem con2_any (B : Nat) (S0 S3 : Nat → Prop) (ps : Option Addr) (ns nc : Nat) (t : Tbl) (ct : List Value) (rv : Value) (rows : List Val) (p : Val → Bool) (w : World) (hB0 : w.cell? ⟨B, 0, none⟩ = some (.slice ps ns nc)) (ht : tblRd.R S0 w ct t) (hr : Sl valRd S3 w rv rows)
    (ho : Srt cmpCol t.columns) (hl : t.columns.length ≤ 19) (hne : t.columns ≠ []) (hp : ∀ x ∈ rows, GoodV x ∧ HasAt x (rowTy t) (p x)) (hK : KwTab w) :
    Calls Tryz.prog 18 #[.agg ct.toArray, rv, .pointer (some ⟨B, 0, none⟩)] w (FtAt S3 w (badF 9 p rows)) := by
  have HRow := Lib.hid (fun W (hb : Below w.heap.size w W) => row_any S0 t ct W (tblRd.frame ht (.of_below hb)) ho hl hne)
  have hBl := World.block_lt_of_cell? _ _ hB0
  have HU := Lib.hid (fun W Y cty (hb : Below w.heap.size w W) (hct : ∀ j u, cty[j]? = some u → W.cell? ⟨Y, j, none⟩ = some u) (hY : Y < W.heap.size) (hty : IsTy (fun _ => True) W cty (rowTy t)) => bad_any 9 21 #[.pointer (some ⟨B, 0, none⟩), .pointer (some ⟨Y, 0, none⟩)] (enters_of Tryz.func21 (by kernel_rfl) rfl) (fun b => S3 b ∧ b < w.heap.size) rv rows p W ((hr.mono (fun b hb h => ⟨h, hb⟩)).below hb)
    (fun W' x cs h1 h2 h3 => con2in_any B Y (fun _ => True) ps ns nc (rowTy t) cty rows p W ((hb.cell (p := ⟨B, 0, none⟩) hBl).trans hB0) hct hY hty hp (hK.below hb) W' x cs h1 h2 (IsVal.move h3 (.refl _ _) (fun _ _ _ => trivial))))
  obtain ⟨cp9, cc9, kp9, kc9, rp9, rc9, k9, s19, n9, s29, p19, n19, c19, p29, n29, c29, p39, n39, c39, a9, z9, hcs, _⟩ := tbl_cells ht
  simp only [tcs] at hcs
  subst hcs
  obtain ⟨rp, rc, rfl, _⟩ := hr.len
  obtain ⟨f, hf⟩ : ∃ f, badF 9 p rows = f := ⟨_, rfl⟩
  rw [hf] at HU ⊢
  clear ht hr hf hp hK ho hl hne hB0
  go_enter Tryz.func18, Tryz.ntmps18
  go_wp2_with fail
  refine (HRow.out _ (bal2 _ _ _)).mono ?_
  rintro e w1 ⟨cty, rfl, hty, hb1⟩
  have hty' := hty
  generalize hT : rowTy t = T at hty hty' HU
  obtain ⟨tk, ts, tn, tnames, tkids⟩ := T
  obtain ⟨y3, m3, y4, m4, hcy, _⟩ := hty'.cells'
  subst hcy
  have HTy := Lib.hid hty; have HB1 := Lib.hid ((bal2 w _ _).thn hb1)
  have HR1 := Lib.hid ((hb1.block (w.heap.size + 1) (by simp)).trans (heap_alloc2_new w _ _))
  have HZ1 := Lib.hid (show w.heap.size + 2 ≤ w1.heap.size by have := hb1.size; simp at this; omega)
  clear hty hty' hb1 hT
  go_upto_region 2 with fail
  obtain ⟨W2, hW2⟩ : ∃ W2, w1.alloc (.cells #[.int .i64 tk, .string ⟨ts.toArray⟩, .int .i64 tn, .slice y3 tnames.length m3, .slice y4 tkids.length m4] 46) = W2 := ⟨_, rfl⟩
  rw [hW2]
  have hb2 : Below w1.heap.size w1 W2 := by rw [← hW2]; exact bal1 _ _
  have hy2 : W2.heap[w1.heap.size]? = some (.cells #[.int .i64 tk, .string ⟨ts.toArray⟩, .int .i64 tn, .slice y3 tnames.length m3, .slice y4 tkids.length m4] 46 (0, 0)) := by rw [← hW2]; exact heap_alloc_new _ _
  have HB2 := Lib.hid (HB1.out.thn hb2)
  have HR2 := Lib.hid ((hb2.block (w.heap.size + 1) (by have := HZ1.out; omega)).trans HR1.out)
  have HU2 := Lib.hid (HU.out W2 w1.heap.size [.int .i64 tk, .string ⟨ts.toArray⟩, .int .i64 tn, .slice y3 tnames.length m3, .slice y4 tkids.length m4] HB2.out (fun j u hj => by rw [cell_of_row _ _ j _ _ _ hy2]; simpa using hj) (World.block_lt_some hy2) (HTy.out.move (.of_below hb2) (fun _ _ _ => trivial)))
  clear hW2 hb2 hy2 HU
  go_wp2_with fail
  refine HU2.out.mono ?_
  rintro e w5 ⟨cs', rfl, hf5, hb5⟩
  obtain ⟨p3, k3, p4, k4, q3, l3, q4, l4, hcs, hfl, hfr, hfo⟩ := ft_cells hf5
  simp only [fcs] at hcs
  subst hcs
  have HR5 := Lib.hid ((hb5.block (w.heap.size + 1) (World.block_lt_some HR2.out)).trans HR2.out)
  have HB5 := Lib.hid (HB2.out.thn hb5)
  have HFR := Lib.hid hfr; have HFO := Lib.hid hfo; have HFL := Lib.hid hfl
  have fz := fun j => frozen_of_row _ _ j _ _ HR5.out
  have rr := fun j => cell_of_row _ _ j _ _ _ HR5.out
  have f0 := fz 0; have f1 := fz 1; have f2 := fz 2; have f3 := fz 3; have f4 := fz 4; have f5 := fz 5; have f6 := fz 6; have f7 := fz 7; have f8 := fz 8; have f9 := fz 9; have f10 := fz 10; have f11 := fz 11
  have r0 := rr 0; have r1 := rr 1; have r2 := rr 2; have r3 := rr 3; have r4 := rr 4; have r5 := rr 5; have r6 := rr 6; have r7 := rr 7; have r8 := rr 8; have r9 := rr 9; have r10 := rr 10; have r11 := rr 11
  simp only [List.getElem?_toArray, List.getElem?_cons_zero, List.getElem?_cons_succ] at r0 r1 r2 r3 r4 r5 r6 r7 r8 r9 r10 r11
  clear fz rr hf5 hb5 hfr hfo hfl
  go_wp2_with fail
  obtain ⟨W, hW⟩ : ∃ W, put12 w5 (w.heap.size + 1) (.int .i64 f.code) (.string ⟨f.table.toArray⟩) (.int .i64 f.row.kind) (.int .i64 f.row.n) (.string ⟨f.row.s.toArray⟩) (.slice p3 f.row.names.length k3) (.slice p4 f.row.kids.length k4) (.int .i64 f.other.kind) (.int .i64 f.other.n) (.string ⟨f.other.s.toArray⟩) (.slice q3 f.other.names.length l3) (.slice q4 f.other.kids.length l4) = W := ⟨_, rfl⟩
  have q : ∀ j, W.cell? ⟨w.heap.size + 1, j, none⟩ = #[.int .i64 f.code, .string ⟨f.table.toArray⟩, .int .i64 f.row.kind, .int .i64 f.row.n, .string ⟨f.row.s.toArray⟩, .slice p3 f.row.names.length k3, .slice p4 f.row.kids.length k4, .int .i64 f.other.kind, .int .i64 f.other.n, .string ⟨f.other.s.toArray⟩, .slice q3 f.other.names.length l3, .slice q4 f.other.kids.length l4][j]? := fun j => by rw [← hW]; exact put12_cell HR5.out j
  have hoth : ∀ b, b ≠ w.heap.size + 1 → W.heap[b]? = w5.heap[b]? := fun b hb => by rw [← hW]; exact put12_other hb
  have hbel : Below w.heap.size w W := by rw [← hW]; exact put12_below HB5.out (by omega)
  show bodyPost _ _ _ _ _ (put12 w5 (w.heap.size + 1) (.int .i64 f.code) (.string ⟨f.table.toArray⟩) (.int .i64 f.row.kind) (.int .i64 f.row.n) (.string ⟨f.row.s.toArray⟩) (.slice p3 f.row.names.length k3) (.slice p4 f.row.kids.length k4) (.int .i64 f.other.kind) (.int .i64 f.other.n) (.string ⟨f.other.s.toArray⟩) (.slice q3 f.other.names.length l3) (.slice q4 f.other.kids.length l4))
  rw [hW]
  have HBel := Lib.hid hbel; have HOth := Lib.hid hoth
  have q0 := q 0; have q1 := q 1; have q2 := q 2; have q3' := q 3; have q4' := q 4; have q5 := q 5; have q6 := q 6; have q7 := q 7; have q8 := q 8; have q9 := q 9; have q10 := q 10; have q11 := q 11
  simp only [List.getElem?_toArray, List.getElem?_cons_zero, List.getElem?_cons_succ] at q0 q1 q2 q3' q4' q5 q6 q7 q8 q9 q10 q11
  clear hW hbel q hoth
  refine bodyPost_ret (v := .agg #[.int .i64 f.code, .string ⟨f.table.toArray⟩, .int .i64 f.row.kind, .int .i64 f.row.n, .string ⟨f.row.s.toArray⟩, .slice p3 f.row.names.length k3, .slice p4 f.row.kids.length k4, .int .i64 f.other.kind, .int .i64 f.other.n, .string ⟨f.other.s.toArray⟩, .slice q3 f.other.names.length l3, .slice q4 f.other.kids.length l4]) (by simp [results, Tryz.results18, go_sem, q0, q1, q2, q3', q4', q5, q6, q7, q8, q9, q10, q11]) rfl ⟨[.int .i64 f.code, .string ⟨f.table.toArray⟩, .int .i64 f.row.kind, .int .i64 f.row.n, .string ⟨f.row.s.toArray⟩, .slice p3 f.row.names.length k3, .slice p4 f.row.kids.length k4, .int .i64 f.other.kind, .int .i64 f.other.n, .string ⟨f.other.s.toArray⟩, .slice q3 f.other.names.length l3, .slice q4 f.other.kids.length l4], rfl, ?_, HBel.out⟩
  exact ⟨_, _, rfl, HFL.out, IsVal.move HFR.out (fun b hb _ => HOth.out b (by have : b < w.heap.size := hb.2; omega)) (fun _ _ h => h.1), IsVal.move HFO.out (fun b hb _ => HOth.out b (by have : b < w.heap.size := hb.2; omega)) (fun _ _ h => h.1)⟩
end Go.Proofs.YthkkmklnapkgaaaGreatDoor

import Derived.Test.YthkkmklnapkgaaaGreatDoorQ29
/- The constraints of rows.Check: references, checks. -/
namespace Go.Proofs.YthkkmklnapkgaaaGreatDoor
open Go.RowKit Go.Shelf Go.Lib

set_option maxRecDepth 100000 in
set_option maxHeartbeats 2000000 in
theorem con4_any (B C : Nat) (S0 S1 S2 S3 : Nat → Prop) (s : Sc) (uv tv' lv : Value) (l : List Rel) (t : Tbl) (ct : List Value) (rv : Value) (rows : List Val) (w : World) (hB0 : w.cell? ⟨B, 0, none⟩ = some uv) (hB1 : w.cell? ⟨B, 1, none⟩ = some tv') (hC : w.cell? ⟨C, 0, none⟩ = some lv)
    (hs : IsSc S0 w [uv, tv'] s) (hl : Sl relRd S1 w lv l) (ht : tblRd.R S2 w ct t) (hr : Sl valRd S3 w rv rows) (hkl : ∀ t ∈ s.tables, t.key.length ≤ 1000) :
    Calls Tryz.prog 25 #[.agg ct.toArray, rv, .pointer (some ⟨B, 0, none⟩), .pointer (some ⟨C, 0, none⟩)] w (FtAt S3 w (refersF s l rows t.refs)) := by
  have HU := Lib.hid (fun W (hb : Below w.heap.size w W) => refers_any S0 S1 S2 (fun b => S3 b ∧ b < w.heap.size) s _ lv l t ct rv rows W (hs.below hb) (hl.below hb) (tblRd.frame ht (.of_below hb)) ((hr.mono (fun b hb h => ⟨h, hb⟩)).below hb) hkl)
  obtain ⟨uv', tv2, huv, hu, hts⟩ := hs
  cases huv
  obtain ⟨up, uc, rfl, _⟩ := hu.len
  obtain ⟨tp, tc, rfl, _⟩ := hts.len
  obtain ⟨lp, lc, rfl, _⟩ := hl.len
  obtain ⟨cp9, cc9, kp9, kc9, rp9, rc9, k9, s19, n9, s29, p19, n19, c19, p29, n29, c29, p39, n39, c39, a9, z9, hcs, _⟩ := tbl_cells ht
  simp only [tcs] at hcs
  subst hcs
  obtain ⟨rp, rc, rfl, _⟩ := hr.len
  obtain ⟨f, hf⟩ : ∃ f, refersF s l rows t.refs = f := ⟨_, rfl⟩
  rw [hf] at HU ⊢
  have hBl := World.block_lt_of_cell? _ _ hB0
  have hCl := World.block_lt_of_cell? _ _ hC
  have hBl : B < w.heap.size := hBl
  have hCl : C < w.heap.size := hCl
  clear ht hr hf hl hu hts
  go_enter Tryz.func25, Tryz.ntmps25
  go_wp2_with fail
  refine (HU.out _ (bal2 _ _ _)).mono ?_
  rintro e w5 ⟨cs', rfl, hf5, hb5⟩
  obtain ⟨p3, k3, p4, k4, q3, l3, q4, l4, hcs, hfl, hfr, hfo⟩ := ft_cells hf5
  simp only [fcs] at hcs
  subst hcs
  have HR5 := Lib.hid ((hb5.block (w.heap.size + 1) (by simp)).trans (heap_alloc2_new w _ _))
  have HB5 := Lib.hid ((bal2 w _ _).thn hb5)
  have HFR := Lib.hid hfr; have HFO := Lib.hid hfo; have HFL := Lib.hid hfl
  have fz := fun j => frozen_of_row _ _ j _ _ HR5.out
  have rr := fun j => cell_of_row _ _ j _ _ _ HR5.out
  have f0 := fz 0; have f1 := fz 1; have f2 := fz 2; have f3 := fz 3; have f4 := fz 4; have f5 := fz 5; have f6 := fz 6; have f7 := fz 7; have f8 := fz 8; have f9 := fz 9; have f10 := fz 10; have f11 := fz 11
  have r0 := rr 0; have r1 := rr 1; have r2 := rr 2; have r3 := rr 3; have r4 := rr 4; have r5 := rr 5; have r6 := rr 6; have r7 := rr 7; have r8 := rr 8; have r9 := rr 9; have r10 := rr 10; have r11 := rr 11
  simp only [List.getElem?_toArray, List.getElem?_cons_zero, List.getElem?_cons_succ] at r0 r1 r2 r3 r4 r5 r6 r7 r8 r9 r10 r11
  clear fz rr hf5 hb5 hfr hfo hfl
  go_wp2_with fail
  obtain ⟨W, hW⟩ : ∃ W, put12 w5 (w.heap.size + 1) (.int .i64 f.code) (.string ⟨f.table.toArray⟩) (.int .i64 f.row.kind) (.int .i64 f.row.n) (.string ⟨f.row.s.toArray⟩) (.slice p3 f.row.names.length k3) (.slice p4 f.row.kids.length k4) (.int .i64 f.other.kind) (.int .i64 f.other.n) (.string ⟨f.other.s.toArray⟩) (.slice q3 f.other.names.length l3) (.slice q4 f.other.kids.length l4) = W := ⟨_, rfl⟩
  have q : ∀ j, W.cell? ⟨w.heap.size + 1, j, none⟩ = #[.int .i64 f.code, .string ⟨f.table.toArray⟩, .int .i64 f.row.kind, .int .i64 f.row.n, .string ⟨f.row.s.toArray⟩, .slice p3 f.row.names.length k3, .slice p4 f.row.kids.length k4, .int .i64 f.other.kind, .int .i64 f.other.n, .string ⟨f.other.s.toArray⟩, .slice q3 f.other.names.length l3, .slice q4 f.other.kids.length l4][j]? := fun j => by rw [← hW]; exact put12_cell HR5.out j
  have hoth : ∀ b, b ≠ w.heap.size + 1 → W.heap[b]? = w5.heap[b]? := fun b hb => by rw [← hW]; exact put12_other hb
  have hbel : Below w.heap.size w W := by rw [← hW]; exact put12_below HB5.out (by omega)
  show bodyPost _ _ _ _ _ (put12 w5 (w.heap.size + 1) (.int .i64 f.code) (.string ⟨f.table.toArray⟩) (.int .i64 f.row.kind) (.int .i64 f.row.n) (.string ⟨f.row.s.toArray⟩) (.slice p3 f.row.names.length k3) (.slice p4 f.row.kids.length k4) (.int .i64 f.other.kind) (.int .i64 f.other.n) (.string ⟨f.other.s.toArray⟩) (.slice q3 f.other.names.length l3) (.slice q4 f.other.kids.length l4))
  rw [hW]
  have HBel := Lib.hid hbel; have HOth := Lib.hid hoth
  have q0 := q 0; have q1 := q 1; have q2 := q 2; have q3' := q 3; have q4' := q 4; have q5 := q 5; have q6 := q 6; have q7 := q 7; have q8 := q 8; have q9 := q 9; have q10 := q 10; have q11 := q 11
  simp only [List.getElem?_toArray, List.getElem?_cons_zero, List.getElem?_cons_succ] at q0 q1 q2 q3' q4' q5 q6 q7 q8 q9 q10 q11
  clear hW hbel q hoth
  refine bodyPost_ret (v := .agg #[.int .i64 f.code, .string ⟨f.table.toArray⟩, .int .i64 f.row.kind, .int .i64 f.row.n, .string ⟨f.row.s.toArray⟩, .slice p3 f.row.names.length k3, .slice p4 f.row.kids.length k4, .int .i64 f.other.kind, .int .i64 f.other.n, .string ⟨f.other.s.toArray⟩, .slice q3 f.other.names.length l3, .slice q4 f.other.kids.length l4]) (by simp [results, Tryz.results25, go_sem, q0, q1, q2, q3', q4', q5, q6, q7, q8, q9, q10, q11]) rfl ⟨[.int .i64 f.code, .string ⟨f.table.toArray⟩, .int .i64 f.row.kind, .int .i64 f.row.n, .string ⟨f.row.s.toArray⟩, .slice p3 f.row.names.length k3, .slice p4 f.row.kids.length k4, .int .i64 f.other.kind, .int .i64 f.other.n, .string ⟨f.other.s.toArray⟩, .slice q3 f.other.names.length l3, .slice q4 f.other.kids.length l4], rfl, ?_, HBel.out⟩
  exact ⟨_, _, rfl, HFL.out, IsVal.move HFR.out (fun b hb _ => HOth.out b (by have : b < w.heap.size := hb.2; omega)) (fun _ _ h => h.1), IsVal.move HFO.out (fun b hb _ => HOth.out b (by have : b < w.heap.size := hb.2; omega)) (fun _ _ h => h.1)⟩

set_option maxRecDepth 100000 in
set_option maxHeartbeats 2000000 in
theorem sat2_any (X : Nat) (S : Nat → Prop) (t : Tbl) (ct : List Value) (rows : List Val) (p : Val → Bool) (w : World) (hct : ∀ j u, ct[j]? = some u → w.cell? ⟨X, j, none⟩ = some u) (hXl : X < w.heap.size) (ht : tblRd.R S w ct t) (hsi : simpF t.check = true)
    (hev : ∀ x ∈ rows, EvV t.check (envOf x) (truV (p x)) ∧ x.names.length ≤ x.kids.length) : PredRd Tryz.prog 28 #[.pointer (some ⟨X, 0, none⟩)] valRd S rows p w := by
  intro W x cs hb hx hr
  have hxr := tblRd.frame ht (.of_below hb)
  have HC := Lib.hid (fun W' (h' : Below W.heap.size W W') => sat_ok S S t x ct cs (p x) W' (tblRd.frame hxr (.of_below h')) (IsVal.move (show IsVal S W cs x from hr) (.of_below h') (fun _ _ h => h)) hsi (hev x hx).1 (hev x hx).2)
  obtain ⟨cp9, cc9, kp9, kc9, rp9, rc9, k9, s19, n9, s29, p19, n19, c19, p29, n29, c29, p39, n39, c39, a9, z9, hcs, _⟩ := tbl_cells hxr
  simp only [tcs] at hcs
  subst hcs
  obtain ⟨p3, k3, p4, k4, hcs, _⟩ := IsVal.cells (show IsVal S W cs x from hr)
  simp only [vcs] at hcs
  subst hcs
  have d := fun j u hj => (hb.cell (p := ⟨X, j, none⟩) hXl).trans (hct j u hj)
  have d0 := d 0 _ rfl
  have d1 := d 1 _ rfl
  have d2 := d 2 _ rfl
  have d3 := d 3 _ rfl
  have d4 := d 4 _ rfl
  have d5 := d 5 _ rfl
  have d6 := d 6 _ rfl
  have d7 := d 7 _ rfl
  have d8 := d 8 _ rfl
  have d9 := d 9 _ rfl
  have d10 := d 10 _ rfl
  have d11 := d 11 _ rfl
  have d12 := d 12 _ rfl
  have hXW : X < W.heap.size := World.block_lt_of_cell? W _ d0
  show Calls Tryz.prog 28 #[.agg #[.int .i64 x.kind, .int .i64 x.n, .string ⟨x.s.toArray⟩, .slice p3 x.names.length k3, .slice p4 x.kids.length k4], .pointer (some ⟨X, 0, none⟩)] W (fun e w' => e = .returned (.bool (p x)) ∧ Below W.heap.size W w')
  generalize p x = b at HC ⊢
  clear d hct ht hb hx hr hxr hev hsi
  go_enter Tryz.func28, Tryz.ntmps28
  go_wp2_with (go_at_call 29; refine (HC.out _ (bal1 _ _)).mono ?_; rintro e w' ⟨rfl, hw⟩)
  go_ret
  exact ⟨rfl, (bal1 _ _).thn hw⟩

set_option maxRecDepth 100000 in
set_option maxHeartbeats 2000000 in
theorem con5_any (S0 S3 : Nat → Prop) (t : Tbl) (ct : List Value) (rv : Value) (rows : List Val) (p : Val → Bool) (w : World) (ht : tblRd.R S0 w ct t) (hr : Sl valRd S3 w rv rows) (hsi : simpF t.check = true)
    (hev : ∀ x ∈ rows, EvV t.check (envOf x) (truV (p x)) ∧ x.names.length ≤ x.kids.length) :
    Calls Tryz.prog 27 #[.agg ct.toArray, rv] w (FtAt S3 w (badF 13 p rows)) := by
  have HU := Lib.hid (fun W (hb : Below w.heap.size w W) (hct : ∀ j u, ct[j]? = some u → W.cell? ⟨w.heap.size, j, none⟩ = some u) (hl : w.heap.size < W.heap.size) => bad_any 13 28 #[.pointer (some ⟨w.heap.size, 0, none⟩)] (enters_of Tryz.func28 (by kernel_rfl) rfl) (fun b => S3 b ∧ b < w.heap.size) rv rows p W ((hr.mono (fun b hb h => ⟨h, hb⟩)).below hb)
    (fun W' x cs h1 h2 h3 => sat2_any w.heap.size (fun _ => True) t ct rows p W hct hl (tblRd.mono (tblRd.frame ht (.of_below hb)) (fun _ _ _ => trivial)) hsi hev W' x cs h1 h2 (IsVal.move h3 (.refl _ _) (fun _ _ _ => trivial))))
  obtain ⟨cp9, cc9, kp9, kc9, rp9, rc9, k9, s19, n9, s29, p19, n19, c19, p29, n29, c29, p39, n39, c39, a9, z9, hcs, _⟩ := tbl_cells ht
  simp only [tcs] at hcs
  subst hcs
  obtain ⟨rp, rc, rfl, _⟩ := hr.len
  obtain ⟨f, hf⟩ : ∃ f, badF 13 p rows = f := ⟨_, rfl⟩
  rw [hf] at HU ⊢
  clear ht hr hf hev hsi
  go_enter Tryz.func27, Tryz.ntmps27
  go_wp2_with fail
  refine (HU.out _ (bal2 _ _ _) (fun j u hj => by rw [cell_of_row _ _ j _ _ _ (heap_alloc2_old w _ _)]; simpa using hj) (by simp; omega)).mono ?_
  rintro e w5 ⟨cs', rfl, hf5, hb5⟩
  obtain ⟨p3, k3, p4, k4, q3, l3, q4, l4, hcs, hfl, hfr, hfo⟩ := ft_cells hf5
  simp only [fcs] at hcs
  subst hcs
  have HR5 := Lib.hid ((hb5.block (w.heap.size + 1) (by simp)).trans (heap_alloc2_new w _ _))
  have HB5 := Lib.hid ((bal2 w _ _).thn hb5)
  have HFR := Lib.hid hfr; have HFO := Lib.hid hfo; have HFL := Lib.hid hfl
  have fz := fun j => frozen_of_row _ _ j _ _ HR5.out
  have rr := fun j => cell_of_row _ _ j _ _ _ HR5.out
  have f0 := fz 0; have f1 := fz 1; have f2 := fz 2; have f3 := fz 3; have f4 := fz 4; have f5 := fz 5; have f6 := fz 6; have f7 := fz 7; have f8 := fz 8; have f9 := fz 9; have f10 := fz 10; have f11 := fz 11
  have r0 := rr 0; have r1 := rr 1; have r2 := rr 2; have r3 := rr 3; have r4 := rr 4; have r5 := rr 5; have r6 := rr 6; have r7 := rr 7; have r8 := rr 8; have r9 := rr 9; have r10 := rr 10; have r11 := rr 11
  simp only [List.getElem?_toArray, List.getElem?_cons_zero, List.getElem?_cons_succ] at r0 r1 r2 r3 r4 r5 r6 r7 r8 r9 r10 r11
  clear fz rr hf5 hb5 hfr hfo hfl
  go_wp2_with fail
  obtain ⟨W, hW⟩ : ∃ W, put12 w5 (w.heap.size + 1) (.int .i64 f.code) (.string ⟨f.table.toArray⟩) (.int .i64 f.row.kind) (.int .i64 f.row.n) (.string ⟨f.row.s.toArray⟩) (.slice p3 f.row.names.length k3) (.slice p4 f.row.kids.length k4) (.int .i64 f.other.kind) (.int .i64 f.other.n) (.string ⟨f.other.s.toArray⟩) (.slice q3 f.other.names.length l3) (.slice q4 f.other.kids.length l4) = W := ⟨_, rfl⟩
  have q : ∀ j, W.cell? ⟨w.heap.size + 1, j, none⟩ = #[.int .i64 f.code, .string ⟨f.table.toArray⟩, .int .i64 f.row.kind, .int .i64 f.row.n, .string ⟨f.row.s.toArray⟩, .slice p3 f.row.names.length k3, .slice p4 f.row.kids.length k4, .int .i64 f.other.kind, .int .i64 f.other.n, .string ⟨f.other.s.toArray⟩, .slice q3 f.other.names.length l3, .slice q4 f.other.kids.length l4][j]? := fun j => by rw [← hW]; exact put12_cell HR5.out j
  have hoth : ∀ b, b ≠ w.heap.size + 1 → W.heap[b]? = w5.heap[b]? := fun b hb => by rw [← hW]; exact put12_other hb
  have hbel : Below w.heap.size w W := by rw [← hW]; exact put12_below HB5.out (by omega)
  show bodyPost _ _ _ _ _ (put12 w5 (w.heap.size + 1) (.int .i64 f.code) (.string ⟨f.table.toArray⟩) (.int .i64 f.row.kind) (.int .i64 f.row.n) (.string ⟨f.row.s.toArray⟩) (.slice p3 f.row.names.length k3) (.slice p4 f.row.kids.length k4) (.int .i64 f.other.kind) (.int .i64 f.other.n) (.string ⟨f.other.s.toArray⟩) (.slice q3 f.other.names.length l3) (.slice q4 f.other.kids.length l4))
  rw [hW]
  have HBel := Lib.hid hbel; have HOth := Lib.hid hoth
  have q0 := q 0; have q1 := q 1; have q2 := q 2; have q3' := q 3; have q4' := q 4; have q5 := q 5; have q6 := q 6; have q7 := q 7; have q8 := q 8; have q9 := q 9; have q10 := q 10; have q11 := q 11
  simp only [List.getElem?_toArray, List.getElem?_cons_zero, List.getElem?_cons_succ] at q0 q1 q2 q3' q4' q5 q6 q7 q8 q9 q10 q11
  clear hW hbel q hoth
  refine bodyPost_ret (v := .agg #[.int .i64 f.code, .string ⟨f.table.toArray⟩, .int .i64 f.row.kind, .int .i64 f.row.n, .string ⟨f.row.s.toArray⟩, .slice p3 f.row.names.length k3, .slice p4 f.row.kids.length k4, .int .i64 f.other.kind, .int .i64 f.other.n, .string ⟨f.other.s.toArray⟩, .slice q3 f.other.names.length l3, .slice q4 f.other.kids.length l4]) (by simp [results, Tryz.results27, go_sem, q0, q1, q2, q3', q4', q5, q6, q7, q8, q9, q10, q11]) rfl ⟨[.int .i64 f.code, .string ⟨f.table.toArray⟩, .int .i64 f.row.kind, .int .i64 f.row.n, .string ⟨f.row.s.toArray⟩, .slice p3 f.row.names.length k3, .slice p4 f.row.kids.length k4, .int .i64 f.other.kind, .int .i64 f.other.n, .string ⟨f.other.s.toArray⟩, .slice q3 f.other.names.length l3, .slice q4 f.other.kids.length l4], rfl, ?_, HBel.out⟩
  exact ⟨_, _, rfl, HFL.out, IsVal.move HFR.out (fun b hb _ => HOth.out b (by have : b < w.heap.size := hb.2; omega)) (fun _ _ h => h.1), IsVal.move HFO.out (fun b hb _ => HOth.out b (by have : b < w.heap.size := hb.2; omega)) (fun _ _ h => h.1)⟩
end Go.Proofs.YthkkmklnapkgaaaGreatDoor

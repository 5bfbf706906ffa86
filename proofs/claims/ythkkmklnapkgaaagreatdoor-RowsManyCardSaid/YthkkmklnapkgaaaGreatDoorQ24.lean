import Derived.Test.YthkkmklnapkgaaaGreatDoorQ19
/- rows.bad: the fault of the first row for which a condition does not hold. -/
namespace Go.Proofs.YthkkmklnapkgaaaGreatDoor
open Go.RowKit Go.Shelf Go.Lib

/-- The fault of the first row for which p does not hold. -/
def badF (code : Int) (p : Val → Bool) (rows : List Val) : Ft := match rows.findIdx? (fun r => !p r) with
  | none => Ft.zero
  | some i => ⟨code, [], rows.getD i Val.zero, Val.zero⟩

theorem bad1_any (h : Nat) (lbh : Array Value) (eh : ∀ args w, (callFunc h args).run Tryz.prog w = .ok (.enter h args) w) (G : Nat) (S : Nat → Prop) (rows : List Val) (p : Val → Bool) (w : World) (hp : PredRd Tryz.prog h lbh valRd S rows p w) (hc : w.cell? ⟨G, 0, none⟩ = some (.func (.func h) #[] lbh)) :
    PredRd Tryz.prog 48 #[.pointer (some ⟨G, 0, none⟩)] valRd S rows (fun r => !p r) w := by
  intro W x cs hb hx hr
  have hc' : W.cell? ⟨G, 0, none⟩ = some (.func (.func h) #[] lbh) := (hb.cell (p := ⟨G, 0, none⟩) (World.block_lt_of_cell? w _ hc)).trans hc
  have hlt := World.block_lt_of_cell? W _ hc'
  have hG : G < W.heap.size := hlt
  have HP := Lib.hid (fun W' (h' : Below W.heap.size W W') => hp W' x cs (hb.thn h') hx (valRd.frame hr (.of_below h')))
  obtain ⟨p3, k3, p4, k4, hcs, _⟩ := IsVal.cells (show IsVal S W cs x from hr)
  simp only [vcs] at hcs
  subst hcs
  show Calls Tryz.prog 48 #[.agg #[.int .i64 x.kind, .int .i64 x.n, .string ⟨x.s.toArray⟩, .slice p3 x.names.length k3, .slice p4 x.kids.length k4], .pointer (some ⟨G, 0, none⟩)] W (fun e w' => e = .returned (.bool (!p x)) ∧ Below W.heap.size W w')
  generalize p x = b at HP ⊢
  clear hp hc hb hx hr hlt
  go_enter Tryz.func48, Tryz.ntmps48
  go_wp2_with (go_at_fn h; refine (HP.out _ (bal1 _ _)).mono ?_; rintro e w' ⟨rfl, hw⟩)
  go_ret
  exact ⟨rfl, (bal1 _ _).thn hw⟩

set_option maxRecDepth 100000 in
set_option maxHeartbeats 1000000 in
theorem bad_any (code : Int) (h : Nat) (lbh : Array Value) (eh : ∀ args w, (callFunc h args).run Tryz.prog w = .ok (.enter h args) w) (S0 : Nat → Prop) (v : Value) (rows : List Val) (p : Val → Bool) (w : World) (hv0 : Sl valRd S0 w v rows) (hp : PredRd Tryz.prog h lbh valRd (fun b => S0 b ∧ b < w.heap.size) rows p w) :
    Calls Tryz.prog 20 #[.int .i64 code, v, .func (.func h) #[] lbh] w (FtAt S0 w (badF code p rows)) := by
  have hv : Sl valRd (fun b => S0 b ∧ b < w.heap.size) w v rows := hv0.mono (fun b hb h => ⟨h, hb⟩)
  obtain ⟨vp, vcap, rfl, hl⟩ := hv.len
  have HI := Lib.hid (fun W (hb : Below w.heap.size w W) (hc : W.cell? ⟨w.heap.size, 0, none⟩ = some (.func (.func h) #[] lbh)) => idxFn Tryz.ixVal valRd Tryz.isAgg34 Tryz.sizeOf34 48 #[.pointer (some ⟨w.heap.size, 0, none⟩)] (enters_of Tryz.func48 (by kernel_rfl) rfl) _ _ rows W _ (hv.below hb)
    (bad1_any h lbh eh w.heap.size _ rows p W (fun W' x cs h1 h2 h3 => hp W' x cs (hb.thn h1) h2 h3) hc))
  have HV := Lib.hid hv
  clear hv hv0 hp
  have hB : ∃ r, badF code p rows = r := ⟨_, rfl⟩
  obtain ⟨r, hr⟩ := hB
  rw [hr]
  have hidx : idxP (fun r => !p r) rows = (match rows.findIdx? (fun r => !p r) with | some i => (i : Int) | none => -1) := by unfold idxP; cases rows.findIdx? (fun r => !p r) <;> rfl
  cases hf : rows.findIdx? (fun r => !p r) with
  | none =>
    have hr0 : r = Ft.zero := by rw [← hr]; unfold badF; rw [hf]
    rw [hf] at hidx
    simp only at hidx
    rw [hidx] at HI
    have HR := Lib.hid hr0
    clear hr0 hr hidx hf
    go_enter Tryz.func20, Tryz.ntmps20
    go_wp2_with fail
    refine (HI.out _ (bal2 _ _ _) (by simp)).mono ?_
    rintro e w5 ⟨rfl, hw⟩
    have hR5 := (hw.block (w.heap.size + 1) (by simp)).trans (heap_alloc2_new w _ _)
    have fz := fun j => frozen_of_row _ _ j _ _ hR5
    have rr := fun j => cell_of_row _ _ j _ _ _ hR5
    have f0 := fz 0; have f1 := fz 1; have f2 := fz 2; have f3 := fz 3; have f4 := fz 4; have f5 := fz 5; have f6 := fz 6; have f7 := fz 7; have f8 := fz 8; have f9 := fz 9; have f10 := fz 10; have f11 := fz 11
    have r0 := rr 0; have r1 := rr 1; have r2 := rr 2; have r3 := rr 3; have r4 := rr 4; have r5 := rr 5; have r6 := rr 6; have r7 := rr 7; have r8 := rr 8; have r9 := rr 9; have r10 := rr 10; have r11 := rr 11
    simp only [List.getElem?_toArray, List.getElem?_cons_zero, List.getElem?_cons_succ] at r0 r1 r2 r3 r4 r5 r6 r7 r8 r9 r10 r11
    have HB5 := Lib.hid ((bal2 w _ _).thn hw); have HR5 := Lib.hid hR5
    clear fz rr hR5 hw
    go_wp2_with fail
    obtain ⟨W, hW⟩ : ∃ W, put12 w5 (w.heap.size + 1) (.int .i64 0) (.string ⟨#[]⟩) (.int .i64 0) (.int .i64 0) (.string ⟨#[]⟩) (.slice none 0 0) (.slice none 0 0) (.int .i64 0) (.int .i64 0) (.string ⟨#[]⟩) (.slice none 0 0) (.slice none 0 0) = W := ⟨_, rfl⟩
    have q : ∀ j, W.cell? ⟨w.heap.size + 1, j, none⟩ = #[.int .i64 0, .string ⟨#[]⟩, .int .i64 0, .int .i64 0, .string ⟨#[]⟩, .slice none 0 0, .slice none 0 0, .int .i64 0, .int .i64 0, .string ⟨#[]⟩, .slice none 0 0, .slice none 0 0][j]? := fun j => by rw [← hW]; exact put12_cell HR5.out j
    have hbel : Below w.heap.size w W := by rw [← hW]; exact put12_below HB5.out (by omega)
    show bodyPost _ _ _ _ _ (put12 w5 (w.heap.size + 1) (.int .i64 0) (.string ⟨#[]⟩) (.int .i64 0) (.int .i64 0) (.string ⟨#[]⟩) (.slice none 0 0) (.slice none 0 0) (.int .i64 0) (.int .i64 0) (.string ⟨#[]⟩) (.slice none 0 0) (.slice none 0 0))
    rw [hW]
    have HBel := Lib.hid hbel
    have q0 := q 0; have q1 := q 1; have q2 := q 2; have q3 := q 3; have q4 := q 4; have q5 := q 5; have q6 := q 6; have q7 := q 7; have q8 := q 8; have q9 := q 9; have q10 := q 10; have q11 := q 11
    simp only [List.getElem?_toArray, List.getElem?_cons_zero, List.getElem?_cons_succ] at q0 q1 q2 q3 q4 q5 q6 q7 q8 q9 q10 q11
    clear hW hbel q r0 r1 r2 r3 r4 r5 r6 r7 r8 r9 r10 r11 f0 f1 f2 f3 f4 f5 f6 f7 f8 f9 f10 f11
    refine bodyPost_ret (v := .agg #[.int .i64 0, .string ⟨#[]⟩, .int .i64 0, .int .i64 0, .string ⟨#[]⟩, .slice none 0 0, .slice none 0 0, .int .i64 0, .int .i64 0, .string ⟨#[]⟩, .slice none 0 0, .slice none 0 0]) (by simp [results, Tryz.results20, go_sem, q0, q1, q2, q3, q4, q5, q6, q7, q8, q9, q10, q11]) rfl ⟨[.int .i64 0, .string ⟨#[]⟩, .int .i64 0, .int .i64 0, .string ⟨#[]⟩, .slice none 0 0, .slice none 0 0, .int .i64 0, .int .i64 0, .string ⟨#[]⟩, .slice none 0 0, .slice none 0 0], rfl, by rw [HR.out]; exact isFt_zero _ _, HBel.out⟩
  | some i =>
    obtain ⟨hil, _, _⟩ := List.findIdx?_eq_some_iff_getElem.1 hf
    obtain ⟨x, hx⟩ : ∃ x, rows[i]? = some x := ⟨_, List.getElem?_eq_getElem hil⟩
    have hr0 : r = ⟨code, [], x, Val.zero⟩ := by rw [← hr]; unfold badF; rw [hf]; simp only; rw [List.getD_eq_getElem?_getD, hx]; rfl
    rw [hf] at hidx
    simp only at hidx
    rw [hidx] at HI
    obtain ⟨xb, xoff, p3, k3, p4, k4, rfl, hxb, hvx, d0, d1, d2, d3, d4⟩ := HV.out.val hx
    have hi1 : (0 : Int) ≤ (i : Int) := by omega
    have hi2 : (i : Int) < (rows.length : Int) := by omega
    have HR := Lib.hid hr0; have HVX := Lib.hid hvx
    clear hr0 hr hidx hf hx hvx
    go_enter Tryz.func20, Tryz.ntmps20
    go_wp2_with fail
    refine (HI.out _ (bal2 _ _ _) (by simp)).mono ?_
    rintro e w5 ⟨rfl, hw⟩
    have hR5 := (hw.block (w.heap.size + 1) (by simp)).trans (heap_alloc2_new w _ _)
    have hbw := (bal2 w _ _).thn hw
    have e0 := (hbw.cell (p := ⟨xb, xoff + i * 5, none⟩) hxb).trans d0; have e1 := (hbw.cell (p := ⟨xb, xoff + i * 5 + 1, none⟩) hxb).trans d1; have e2 := (hbw.cell (p := ⟨xb, xoff + i * 5 + 2, none⟩) hxb).trans d2; have e3 := (hbw.cell (p := ⟨xb, xoff + i * 5 + 3, none⟩) hxb).trans d3; have e4 := (hbw.cell (p := ⟨xb, xoff + i * 5 + 4, none⟩) hxb).trans d4
    have fz := fun j => frozen_of_row _ _ j _ _ hR5
    have rr := fun j => cell_of_row _ _ j _ _ _ hR5
    have f0 := fz 0; have f1 := fz 1; have f2 := fz 2; have f3 := fz 3; have f4 := fz 4; have f5 := fz 5; have f6 := fz 6; have f7 := fz 7; have f8 := fz 8; have f9 := fz 9; have f10 := fz 10; have f11 := fz 11
    have r0 := rr 0; have r1 := rr 1; have r2 := rr 2; have r3 := rr 3; have r4 := rr 4; have r5 := rr 5; have r6 := rr 6; have r7 := rr 7; have r8 := rr 8; have r9 := rr 9; have r10 := rr 10; have r11 := rr 11
    simp only [List.getElem?_toArray, List.getElem?_cons_zero, List.getElem?_cons_succ] at r0 r1 r2 r3 r4 r5 r6 r7 r8 r9 r10 r11
    have HB5 := Lib.hid hbw; have HR5 := Lib.hid hR5
    clear fz rr hR5 hw hbw d0 d1 d2 d3 d4
    go_wp2_with fail
    obtain ⟨W, hW⟩ : ∃ W, put12 w5 (w.heap.size + 1) (.int .i64 code) (.string ⟨#[]⟩) (.int .i64 x.kind) (.int .i64 x.n) (.string ⟨x.s.toArray⟩) (.slice p3 x.names.length k3) (.slice p4 x.kids.length k4) (.int .i64 0) (.int .i64 0) (.string ⟨#[]⟩) (.slice none 0 0) (.slice none 0 0) = W := ⟨_, rfl⟩
    have q : ∀ j, W.cell? ⟨w.heap.size + 1, j, none⟩ = #[.int .i64 code, .string ⟨#[]⟩, .int .i64 x.kind, .int .i64 x.n, .string ⟨x.s.toArray⟩, .slice p3 x.names.length k3, .slice p4 x.kids.length k4, .int .i64 0, .int .i64 0, .string ⟨#[]⟩, .slice none 0 0, .slice none 0 0][j]? := fun j => by rw [← hW]; exact put12_cell HR5.out j
    have hoth : ∀ b, b < w.heap.size → W.heap[b]? = w5.heap[b]? := fun b hb => by rw [← hW]; exact put12_other (by omega)
    have hbel : Below w.heap.size w W := by rw [← hW]; exact put12_below HB5.out (by omega)
    show bodyPost _ _ _ _ _ (put12 w5 (w.heap.size + 1) (.int .i64 code) (.string ⟨#[]⟩) (.int .i64 x.kind) (.int .i64 x.n) (.string ⟨x.s.toArray⟩) (.slice p3 x.names.length k3) (.slice p4 x.kids.length k4) (.int .i64 0) (.int .i64 0) (.string ⟨#[]⟩) (.slice none 0 0) (.slice none 0 0))
    rw [hW]
    have HBel := Lib.hid hbel; have HOth := Lib.hid hoth
    have q0 := q 0; have q1 := q 1; have q2 := q 2; have q3 := q 3; have q4 := q 4; have q5 := q 5; have q6 := q 6; have q7 := q 7; have q8 := q 8; have q9 := q 9; have q10 := q 10; have q11 := q 11
    simp only [List.getElem?_toArray, List.getElem?_cons_zero, List.getElem?_cons_succ] at q0 q1 q2 q3 q4 q5 q6 q7 q8 q9 q10 q11
    clear hW hbel hoth q r0 r1 r2 r3 r4 r5 r6 r7 r8 r9 r10 r11 f0 f1 f2 f3 f4 f5 f6 f7 f8 f9 f10 f11 e0 e1 e2 e3 e4
    refine bodyPost_ret (v := .agg #[.int .i64 code, .string ⟨#[]⟩, .int .i64 x.kind, .int .i64 x.n, .string ⟨x.s.toArray⟩, .slice p3 x.names.length k3, .slice p4 x.kids.length k4, .int .i64 0, .int .i64 0, .string ⟨#[]⟩, .slice none 0 0, .slice none 0 0]) (by simp [results, Tryz.results20, go_sem, q0, q1, q2, q3, q4, q5, q6, q7, q8, q9, q10, q11]) rfl ⟨[.int .i64 code, .string ⟨#[]⟩, .int .i64 x.kind, .int .i64 x.n, .string ⟨x.s.toArray⟩, .slice p3 x.names.length k3, .slice p4 x.kids.length k4, .int .i64 0, .int .i64 0, .string ⟨#[]⟩, .slice none 0 0, .slice none 0 0], rfl, ?_, HBel.out⟩
    rw [HR.out]
    refine ⟨vcs x p3 k3 p4 k4, _, rfl, by simp, ?_, isVal_zero _ _⟩
    exact IsVal.move (S' := S0) HVX.out (fun b hb hlt => (HOth.out b hb.2).trans (HB5.out.block b hlt)) (fun _ _ h => h.1)
end Go.Proofs.YthkkmklnapkgaaaGreatDoor

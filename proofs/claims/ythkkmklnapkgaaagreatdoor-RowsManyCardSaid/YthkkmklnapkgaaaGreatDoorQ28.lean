import Derived.Test.YthkkmklnapkgaaaGreatDoorQ27
/- rows.refers: the fault of the first row that refers to no row. -/
namespace Go.Proofs.YthkkmklnapkgaaaGreatDoor
open Go.RowKit Go.Shelf Go.Lib

/-- The fault of the first row that refers to no row. -/
def refersF (s : Sc) (l : List Rel) (rows : List Val) : List Rf → Ft
  | [] => Ft.zero
  | r :: rs => if (badF 12 (refP s l r) rows).code = 0 then refersF s l rows rs else badF 12 (refP s l r) rows

theorem heap4 (w : World) (A B C D : Obj) : ((((w.alloc A).alloc B).alloc C).alloc D).heap[w.heap.size]? = some A ∧ ((((w.alloc A).alloc B).alloc C).alloc D).heap[w.heap.size + 1]? = some B ∧
    ((((w.alloc A).alloc B).alloc C).alloc D).heap[w.heap.size + 1 + 1]? = some C ∧ ((((w.alloc A).alloc B).alloc C).alloc D).heap[w.heap.size + 1 + 1 + 1]? = some D := by
  have e3 : (((w.alloc A).alloc B).alloc C).heap.size = w.heap.size + 1 + 1 + 1 := by simp
  have b4 := bal1 (((w.alloc A).alloc B).alloc C) D
  refine ⟨(b4.block _ (by simp; omega)).trans ?_, (b4.block _ (by simp)).trans (heap_alloc3_mid _ _ _ _), (b4.block _ (by simp)).trans (heap_alloc3_new _ _ _ _), by rw [← e3]; exact heap_alloc_new _ _⟩
  exact ((bal1 ((w.alloc A).alloc B) C).block _ (by simp; omega)).trans (heap_alloc2_old _ _ _)
theorem bal4 (w : World) (A B C D : Obj) : Below w.heap.size w ((((w.alloc A).alloc B).alloc C).alloc D) := (bal3 w A B C).alloc (bal3 w A B C).size _

set_option maxRecDepth 100000 in
set_option maxHeartbeats 4000000 in
theorem refers_any (S0 S1 S2 S3 : Nat → Prop) (s : Sc) (cs : List Value) (lv : Value) (l : List Rel) (t : Tbl) (ct : List Value) (rv : Value) (rows : List Val) (w : World) (hs0 : IsSc S0 w cs s) (hl0 : Sl relRd S1 w lv l) (ht0 : tblRd.R S2 w ct t) (hr0 : Sl valRd S3 w rv rows) (hkl : ∀ t ∈ s.tables, t.key.length ≤ 1000) :
    Calls Tryz.prog 26 #[.agg cs.toArray, lv, .agg ct.toArray, rv] w (FtAt S3 w (refersF s l rows t.refs)) := by
  have ht : tblRd.R (fun b => b < w.heap.size) w ct t := tblRd.mono ht0 (fun b hb _ => hb)
  have hr : Sl valRd (fun b => S3 b ∧ b < w.heap.size) w rv rows := hr0.mono (fun b hb h => ⟨h, hb⟩)
  have HS := Lib.hid hs0; have HL := Lib.hid hl0; have HRW := Lib.hid hr; have HKL := Lib.hid hkl
  obtain ⟨uv, tv, rfl, hu, hts⟩ := hs0
  obtain ⟨up, uc, rfl, _⟩ := hu.len
  obtain ⟨tp, tc, rfl, _⟩ := hts.len
  obtain ⟨lp, lc, rfl, hll⟩ := hl0.len
  obtain ⟨rp, rc, rfl, _⟩ := hr.len
  obtain ⟨cp9, cc9, kp9, kc9, rp9, rc9, k9, s19, n9, s29, p19, n19, c19, p29, n29, c29, p39, n39, c39, a9, z9, hcs, _, _, _, hrf, _⟩ := tbl_cells ht
  simp only [tcs] at hcs
  subst hcs
  have hn : t.refs.length ≤ 1000000 := by obtain ⟨_, _, _, h⟩ := hrf.len; exact h
  obtain ⟨n, hnn⟩ : ∃ n, t.refs.length = n := ⟨_, rfl⟩
  obtain ⟨res, hres⟩ : ∃ f, refersF s l rows t.refs = f := ⟨_, rfl⟩
  have HRes := Lib.hid hres; have HN := Lib.hid hnn
  rw [hres, hnn]
  rw [hnn] at hn hrf
  have HRF := Lib.hid hrf
  clear hl0 ht ht0 hr hr0 hu hts hrf hres hkl hnn
  go_enter Tryz.func26, Tryz.ntmps26
  go_upto_region 1 with fail
  generalize hW4 : (((w.alloc _).alloc _).alloc _).alloc _ = w4
  have hb4 : Below w.heap.size w w4 := by rw [← hW4]; exact bal4 _ _ _ _ _
  obtain ⟨h0, h1, h2, h3⟩ : w4.heap[w.heap.size]? = some (.cells #[.slice up s.sums.length uc, .slice tp s.tables.length tc] 26 (0, 0)) ∧ w4.heap[w.heap.size + 1]? = some (.cells #[.slice lp l.length lc] 35 (0, 0)) ∧ w4.heap[w.heap.size + 1 + 1]? = some (.cells #[.string ⟨t.name.toArray⟩, .slice cp9 t.columns.length cc9, .slice kp9 t.key.length kc9, .slice rp9 n rc9, .int .i64 k9, .string s19, .int .i64 n9, .string s29, .slice p19 n19 c19, .slice p29 n29 c29, .slice p39 n39 c39, .int .i64 a9, .int .i64 z9] 59 (0, 0)) ∧
      w4.heap[w.heap.size + 1 + 1 + 1]? = some (.cells #[.int .i64 0, .string ⟨#[]⟩, .int .i64 0, .int .i64 0, .string ⟨#[]⟩, .slice none 0 0, .slice none 0 0, .int .i64 0, .int .i64 0, .string ⟨#[]⟩, .slice none 0 0, .slice none 0 0] 40 (0, 0)) := by rw [← hW4]; exact heap4 _ _ _ _ _
  have c3 := cell_of_row _ _ 3 _ _ _ h2
  simp only [List.getElem?_toArray, List.getElem?_cons_zero, List.getElem?_cons_succ] at c3
  have H0 := Lib.hid h0; have H1 := Lib.hid h1; have H3 := Lib.hid h3; have HB4 := Lib.hid hb4
  clear h0 h1 h2 h3 hW4 hb4
  go_wp2_with fail
  go_loopw [15] (fun i wr => ∃ k : Nat, k ≤ n ∧ i = .int .i64 k ∧ Aside (refersF s l rows (t.refs.drop k) = res) ∧ Below w4.heap.size w4 wr) (fun i _ => n - (intOf i).toNat)
  case atStart => exact ⟨0, Nat.zero_le _, rfl, HRes.out, Below.refl _ _⟩
  case round =>
    obtain ⟨k, hkn, rfl, hE, hBr⟩ := hrel
    have HBr := Lib.hid hBr
    have hA0 := (hBr.block _ (World.block_lt_some H0.out)).trans H0.out
    have hA1 := (hBr.block _ (World.block_lt_some H1.out)).trans H1.out
    have hA3 := (hBr.block _ (World.block_lt_some H3.out)).trans H3.out
    have HA0 := Lib.hid hA0; have HA1 := Lib.hid hA1; have HA3 := Lib.hid hA3
    have HBw := Lib.hid (HB4.out.thn hBr)
    clear hBr hA0 hA1 hA3
    by_cases hlt : k < n
    · have hi1 : (0 : Int) ≤ (k : Int) := by omega
      have hi2 : (k : Int) < (n : Int) := by omega
      have hka : k < t.refs.length := by rw [HN.out]; exact hlt
      obtain ⟨r, hx⟩ : ∃ r, t.refs[k]? = some r := ⟨_, List.getElem?_eq_getElem hka⟩
      have hda : t.refs.drop k = r :: t.refs.drop (k + 1) := by rw [List.drop_eq_getElem_cons hka]; rw [List.getElem?_eq_getElem hka] at hx; cases hx; rfl
      have hE2 : (if (badF 12 (refP s l r) rows).code = 0 then refersF s l rows (t.refs.drop (k + 1)) else badF 12 (refP s l r) rows) = res := by have := hE.out; rw [hda] at this; exact this
      obtain ⟨ba, oa, cx, hrp, hba, -, -, hrx, hcx⟩ := (HRF.out.below HBw.out).elem hx
      obtain ⟨hcx2, hcl, htl⟩ := hrx
      subst hcx2
      have d0 := hcx 0 _ rfl; have d1 := hcx 1 _ rfl
      simp only [show rfRd.k = 2 from rfl, Nat.add_zero] at d0 d1
      unfold sv at d0 d1
      have HE2 := Lib.hid hE2
      subst hrp
      clear hE hE2 hda hka hx hcx hcl htl
      go_upto_region 4 with fail
      generalize hW5 : wr.alloc _ = w5
      have hb5 : Below wr.heap.size wr w5 := by rw [← hW5]; exact bal1 _ _
      have h5 : w5.heap[wr.heap.size]? = some (.cells #[.string ⟨r.column.toArray⟩, .string ⟨r.table.toArray⟩] 64 (0, 0)) := by rw [← hW5]; exact heap_alloc_new _ _
      have g0 := (hb5.block _ (World.block_lt_some HA0.out)).trans HA0.out
      have g1 := (hb5.block _ (World.block_lt_some HA1.out)).trans HA1.out
      have g3 := (hb5.block _ (World.block_lt_some HA3.out)).trans HA3.out
      have hbw5 := HBw.out.thn hb5
      have HCall := Lib.hid (bad_any 12 53 #[.pointer (some ⟨wr.heap.size, 0, none⟩), .pointer (some ⟨w.heap.size, 0, none⟩), .pointer (some ⟨w.heap.size + 1, 0, none⟩)] (enters_of Tryz.func53 (by kernel_rfl) rfl) (fun b => S3 b ∧ b < w.heap.size) (.slice rp rows.length rc) rows (refP s l r) w5 (HRW.out.below hbw5)
        (refs1_any wr.heap.size w.heap.size (w.heap.size + 1) _ S0 S1 s _ _ _ l r rows w5 (cell_of_row _ _ 0 _ _ _ h5) (cell_of_row _ _ 1 _ _ _ h5) (cell_of_row _ _ 0 _ _ _ g0) (cell_of_row _ _ 1 _ _ _ g0) (cell_of_row _ _ 0 _ _ _ g1) (HS.out.below hbw5) (HL.out.below hbw5) HKL.out))
      obtain ⟨f, hf⟩ : ∃ f, badF 12 (refP s l r) rows = f := ⟨_, rfl⟩
      rw [hf] at HCall HE2
      have G3 := Lib.hid g3; have HB5 := Lib.hid hbw5; have HB45 := Lib.hid (HBr.out.thn hb5)
      clear hf hW5 hb5 h5 g0 g1 g3 hbw5 d0 d1
      go_wp2_with fail
      refine HCall.out.mono ?_
      rintro e w6 ⟨cs', rfl, hf6, hb6⟩
      obtain ⟨p3, k3, p4, k4, q3, l3, q4, l4, hcs, hfl, hfr, hfo⟩ := ft_cells hf6
      simp only [fcs] at hcs
      subst hcs
      have HR6 := Lib.hid ((hb6.block _ (World.block_lt_some G3.out)).trans G3.out)
      have HB6 := Lib.hid (HB5.out.thn hb6); have HB46 := Lib.hid (HB45.out.thn hb6)
      have HFR := Lib.hid hfr; have HFO := Lib.hid hfo
      clear hf6 hb6 hfr hfo
      go_upto_region 5 with fail
      generalize hW7 : w6.alloc _ = w7
      have hb7 : Below w6.heap.size w6 w7 := by rw [← hW7]; exact bal1 _ _
      have h7 : w7.heap[w6.heap.size]? = some (.cells #[.int .i64 f.code, .string ⟨f.table.toArray⟩, .int .i64 f.row.kind, .int .i64 f.row.n, .string ⟨f.row.s.toArray⟩, .slice p3 f.row.names.length k3, .slice p4 f.row.kids.length k4, .int .i64 f.other.kind, .int .i64 f.other.n, .string ⟨f.other.s.toArray⟩, .slice q3 f.other.names.length l3, .slice q4 f.other.kids.length l4] 40 (0, 0)) := by rw [← hW7]; exact heap_alloc_new _ _
      have HR7 := Lib.hid ((hb7.block _ (World.block_lt_some HR6.out)).trans HR6.out)
      have HB7 := Lib.hid (HB6.out.thn hb7); have HB47 := Lib.hid (HB46.out.thn hb7)
      have HFR7 := Lib.hid (IsVal.move HFR.out (.of_below hb7) (fun _ _ h => h)); have HFO7 := Lib.hid (IsVal.move HFO.out (.of_below hb7) (fun _ _ h => h))
      have xx := fun j => cell_of_row _ _ j _ _ _ h7
      have x0' := xx 0; have x1 := xx 1; have x2 := xx 2; have x3 := xx 3; have x4 := xx 4; have x5 := xx 5; have x6 := xx 6; have x7 := xx 7; have x8 := xx 8; have x9 := xx 9; have x10 := xx 10; have x11 := xx 11
      simp only [List.getElem?_toArray, List.getElem?_cons_zero, List.getElem?_cons_succ] at x0' x1 x2 x3 x4 x5 x6 x7 x8 x9 x10 x11
      clear hW7 hb7 h7 xx HR6 HB6 HB46 HFR HFO HCall G3 HB5 HB45 HA0 HA1 HA3
      by_cases hc : f.code = 0
      · have HE3 := Lib.hid (show refersF s l rows (t.refs.drop (k + 1)) = res by have := HE2.out; rw [if_pos hc] at this; exact this)
        rw [hc] at x0'
        clear HE2
        go_wp2_with fail
        go_roundw
        case measure => simp [intOf]; omega
        case rel => exact ⟨k + 1, by omega, by go_num, HE3.out, HB47.out⟩
      · have HE3 := Lib.hid (show f = res by have := HE2.out; rw [if_neg hc] at this; exact this)
        have hc1 : (f.code != 0) = true := by simpa using hc
        have hc2 : decide (f.code = 0) = false := by simpa using hc
        have hc3 : (f.code == 0) = false := by simpa using hc
        clear HE2
        have fz := fun j => frozen_of_row _ _ j _ _ HR7.out
        have rr := fun j => cell_of_row _ _ j _ _ _ HR7.out
        have f0 := fz 0; have f1 := fz 1; have f2 := fz 2; have f3 := fz 3; have f4 := fz 4; have f5 := fz 5; have f6 := fz 6; have f7 := fz 7; have f8 := fz 8; have f9 := fz 9; have f10 := fz 10; have f11 := fz 11
        have r0 := rr 0; have r1 := rr 1; have r2 := rr 2; have r3 := rr 3; have r4 := rr 4; have r5 := rr 5; have r6 := rr 6; have r7 := rr 7; have r8 := rr 8; have r9 := rr 9; have r10 := rr 10; have r11 := rr 11
        simp only [List.getElem?_toArray, List.getElem?_cons_zero, List.getElem?_cons_succ] at r0 r1 r2 r3 r4 r5 r6 r7 r8 r9 r10 r11
        clear fz rr
        go_wp2_with fail
        obtain ⟨W, hW⟩ : ∃ W, put12 w7 (w.heap.size + 1 + 1 + 1) (.int .i64 f.code) (.string ⟨f.table.toArray⟩) (.int .i64 f.row.kind) (.int .i64 f.row.n) (.string ⟨f.row.s.toArray⟩) (.slice p3 f.row.names.length k3) (.slice p4 f.row.kids.length k4) (.int .i64 f.other.kind) (.int .i64 f.other.n) (.string ⟨f.other.s.toArray⟩) (.slice q3 f.other.names.length l3) (.slice q4 f.other.kids.length l4) = W := ⟨_, rfl⟩
        have q : ∀ j, W.cell? ⟨w.heap.size + 1 + 1 + 1, j, none⟩ = #[.int .i64 f.code, .string ⟨f.table.toArray⟩, .int .i64 f.row.kind, .int .i64 f.row.n, .string ⟨f.row.s.toArray⟩, .slice p3 f.row.names.length k3, .slice p4 f.row.kids.length k4, .int .i64 f.other.kind, .int .i64 f.other.n, .string ⟨f.other.s.toArray⟩, .slice q3 f.other.names.length l3, .slice q4 f.other.kids.length l4][j]? := fun j => by rw [← hW]; exact put12_cell HR7.out j
        have hoth : ∀ b, b ≠ w.heap.size + 1 + 1 + 1 → W.heap[b]? = w7.heap[b]? := fun b hb => by rw [← hW]; exact put12_other hb
        have hbel : Below w.heap.size w W := by rw [← hW]; exact put12_below HB7.out (by omega)
        show bodyPost _ _ _ _ _ (put12 w7 (w.heap.size + 1 + 1 + 1) (.int .i64 f.code) (.string ⟨f.table.toArray⟩) (.int .i64 f.row.kind) (.int .i64 f.row.n) (.string ⟨f.row.s.toArray⟩) (.slice p3 f.row.names.length k3) (.slice p4 f.row.kids.length k4) (.int .i64 f.other.kind) (.int .i64 f.other.n) (.string ⟨f.other.s.toArray⟩) (.slice q3 f.other.names.length l3) (.slice q4 f.other.kids.length l4))
        rw [hW]
        have HBel := Lib.hid hbel; have HOth := Lib.hid hoth
        have q0 := q 0; have q1 := q 1; have q2 := q 2; have q3' := q 3; have q4' := q 4; have q5 := q 5; have q6 := q 6; have q7 := q 7; have q8 := q 8; have q9 := q 9; have q10 := q 10; have q11 := q 11
        simp only [List.getElem?_toArray, List.getElem?_cons_zero, List.getElem?_cons_succ] at q0 q1 q2 q3' q4' q5 q6 q7 q8 q9 q10 q11
        clear hW hbel q hoth
        refine bodyPost_ret (v := .agg #[.int .i64 f.code, .string ⟨f.table.toArray⟩, .int .i64 f.row.kind, .int .i64 f.row.n, .string ⟨f.row.s.toArray⟩, .slice p3 f.row.names.length k3, .slice p4 f.row.kids.length k4, .int .i64 f.other.kind, .int .i64 f.other.n, .string ⟨f.other.s.toArray⟩, .slice q3 f.other.names.length l3, .slice q4 f.other.kids.length l4]) (by simp [results, Tryz.results26, go_sem, q0, q1, q2, q3', q4', q5, q6, q7, q8, q9, q10, q11]) rfl ⟨[.int .i64 f.code, .string ⟨f.table.toArray⟩, .int .i64 f.row.kind, .int .i64 f.row.n, .string ⟨f.row.s.toArray⟩, .slice p3 f.row.names.length k3, .slice p4 f.row.kids.length k4, .int .i64 f.other.kind, .int .i64 f.other.n, .string ⟨f.other.s.toArray⟩, .slice q3 f.other.names.length l3, .slice q4 f.other.kids.length l4], rfl, ?_, HBel.out⟩
        rw [← HE3.out]
        exact ⟨_, _, rfl, hfl, IsVal.move HFR7.out (fun b hb _ => HOth.out b (by have : b < w.heap.size := hb.2; omega)) (fun _ _ h => h.1), IsVal.move HFO7.out (fun b hb _ => HOth.out b (by have : b < w.heap.size := hb.2; omega)) (fun _ _ h => h.1)⟩
    · have hr0 : res = Ft.zero := by
        have := hE.out
        rw [List.drop_eq_nil_of_le (by rw [HN.out]; omega)] at this
        exact this.symm
      have hd : decide ((k : Int) < (n : Int)) = false := by simpa using hlt
      have HR0 := Lib.hid hr0
      have fz := fun j => frozen_of_row _ _ j _ _ HA3.out
      have rr := fun j => cell_of_row _ _ j _ _ _ HA3.out
      have f0 := fz 0; have f1 := fz 1; have f2 := fz 2; have f3 := fz 3; have f4 := fz 4; have f5 := fz 5; have f6 := fz 6; have f7 := fz 7; have f8 := fz 8; have f9 := fz 9; have f10 := fz 10; have f11 := fz 11
      have r0 := rr 0; have r1 := rr 1; have r2 := rr 2; have r3 := rr 3; have r4 := rr 4; have r5 := rr 5; have r6 := rr 6; have r7 := rr 7; have r8 := rr 8; have r9 := rr 9; have r10 := rr 10; have r11 := rr 11
      simp only [List.getElem?_toArray, List.getElem?_cons_zero, List.getElem?_cons_succ] at r0 r1 r2 r3 r4 r5 r6 r7 r8 r9 r10 r11
      clear fz rr hE hr0
      go_wp2_with fail
      obtain ⟨W, hW⟩ : ∃ W, put12 wr (w.heap.size + 1 + 1 + 1) (.int .i64 0) (.string ⟨#[]⟩) (.int .i64 0) (.int .i64 0) (.string ⟨#[]⟩) (.slice none 0 0) (.slice none 0 0) (.int .i64 0) (.int .i64 0) (.string ⟨#[]⟩) (.slice none 0 0) (.slice none 0 0) = W := ⟨_, rfl⟩
      have q : ∀ j, W.cell? ⟨w.heap.size + 1 + 1 + 1, j, none⟩ = #[.int .i64 0, .string ⟨#[]⟩, .int .i64 0, .int .i64 0, .string ⟨#[]⟩, .slice none 0 0, .slice none 0 0, .int .i64 0, .int .i64 0, .string ⟨#[]⟩, .slice none 0 0, .slice none 0 0][j]? := fun j => by rw [← hW]; exact put12_cell HA3.out j
      have hoth : ∀ b, b ≠ w.heap.size + 1 + 1 + 1 → W.heap[b]? = wr.heap[b]? := fun b hb => by rw [← hW]; exact put12_other hb
      have hbel : Below w.heap.size w W := by rw [← hW]; exact put12_below HBw.out (by omega)
      show bodyPost _ _ _ _ _ (put12 wr (w.heap.size + 1 + 1 + 1) (.int .i64 0) (.string ⟨#[]⟩) (.int .i64 0) (.int .i64 0) (.string ⟨#[]⟩) (.slice none 0 0) (.slice none 0 0) (.int .i64 0) (.int .i64 0) (.string ⟨#[]⟩) (.slice none 0 0) (.slice none 0 0))
      rw [hW]
      have HBel := Lib.hid hbel; have HOth := Lib.hid hoth
      have q0 := q 0; have q1 := q 1; have q2 := q 2; have q3' := q 3; have q4' := q 4; have q5 := q 5; have q6 := q 6; have q7 := q 7; have q8 := q 8; have q9 := q 9; have q10 := q 10; have q11 := q 11
      simp only [List.getElem?_toArray, List.getElem?_cons_zero, List.getElem?_cons_succ] at q0 q1 q2 q3' q4' q5 q6 q7 q8 q9 q10 q11
      clear hW hbel q hoth
      refine bodyPost_ret (v := .agg #[.int .i64 0, .string ⟨#[]⟩, .int .i64 0, .int .i64 0, .string ⟨#[]⟩, .slice none 0 0, .slice none 0 0, .int .i64 0, .int .i64 0, .string ⟨#[]⟩, .slice none 0 0, .slice none 0 0]) (by simp [results, Tryz.results26, go_sem, q0, q1, q2, q3', q4', q5, q6, q7, q8, q9, q10, q11]) rfl ⟨[.int .i64 0, .string ⟨#[]⟩, .int .i64 0, .int .i64 0, .string ⟨#[]⟩, .slice none 0 0, .slice none 0 0, .int .i64 0, .int .i64 0, .string ⟨#[]⟩, .slice none 0 0, .slice none 0 0], rfl, ?_, HBel.out⟩
      rw [HR0.out]
      exact isFt_zero _ _

end Go.Proofs.YthkkmklnapkgaaaGreatDoor

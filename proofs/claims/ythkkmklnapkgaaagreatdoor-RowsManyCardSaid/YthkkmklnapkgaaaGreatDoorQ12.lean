import Derived.Test.YthkkmklnapkgaaaGreatDoorQ11
/- schema.Row: the type of the rows of a table. -/
namespace Go.Proofs.YthkkmklnapkgaaaGreatDoor
open Go.RowKit Go.Shelf Go.Lib

theorem IsEx.cells {S : Nat → Prop} {w : World} {cs : List Value} {x : Ex} (h : IsEx S w cs x) : ∃ k s1 n s2 p1 n1 c1 p2 n2 c2 p3 n3 c3 a z, cs = [.int .i64 k, .string s1, .int .i64 n, .string s2, .slice p1 n1 c1, .slice p2 n2 c2, .slice p3 n3 c3, .int .i64 a, .int .i64 z] := by
  cases h with
  | mk k nm n s names binds kids a z nv bv p cap b off cs hm hs hn hb =>
    obtain ⟨p1, c1, rfl, _⟩ := hn.len
    obtain ⟨p2, c2, rfl, _⟩ := hb.len
    exact ⟨_, _, _, _, _, _, _, _, _, _, _, _, _, _, _, rfl⟩
/-- The thirteen cells of a table. -/
def tcs (t : Tbl) (cp : Option Addr) (cc : Nat) (kp : Option Addr) (kc : Nat) (rp : Option Addr) (rc : Nat) (k : Int) (s1 : ByteArray) (n : Int) (s2 : ByteArray) (p1 : Option Addr) (n1 c1 : Nat) (p2 : Option Addr) (n2 c2 : Nat) (p3 : Option Addr) (n3 c3 : Nat) (a z : Int) : List Value :=
  [.string ⟨t.name.toArray⟩, .slice cp t.columns.length cc, .slice kp t.key.length kc, .slice rp t.refs.length rc, .int .i64 k, .string s1, .int .i64 n, .string s2, .slice p1 n1 c1, .slice p2 n2 c2, .slice p3 n3 c3, .int .i64 a, .int .i64 z]
theorem tbl_cells {S : Nat → Prop} {w : World} {cs : List Value} {t : Tbl} (h : tblRd.R S w cs t) : ∃ cp cc kp kc rp rc k s1 n s2 p1 n1 c1 p2 n2 c2 p3 n3 c3 a z, cs = tcs t cp cc kp kc rp rc k s1 n s2 p1 n1 c1 p2 n2 c2 p3 n3 c3 a z ∧ t.name.length ≤ 1000000 ∧
    Sl colRd S w (.slice cp t.columns.length cc) t.columns ∧ Sl strRd S w (.slice kp t.key.length kc) t.key ∧ Sl rfRd S w (.slice rp t.refs.length rc) t.refs ∧ IsEx S w [.int .i64 k, .string s1, .int .i64 n, .string s2, .slice p1 n1 c1, .slice p2 n2 c2, .slice p3 n3 c3, .int .i64 a, .int .i64 z] t.check := by
  obtain ⟨cv, kv, rv, ec, rfl, h1, h2, h3, h4, h5⟩ := h
  obtain ⟨cp, cc, rfl, _⟩ := h2.len
  obtain ⟨kp, kc, rfl, _⟩ := h3.len
  obtain ⟨rp, rc, rfl, _⟩ := h4.len
  obtain ⟨k, s1, n, s2, p1, n1, c1, p2, n2, c2, p3, n3, c3, a, z, rfl⟩ := h5.cells
  exact ⟨cp, cc, kp, kc, rp, rc, k, s1, n, s2, p1, n1, c1, p2, n2, c2, p3, n3, c3, a, z, rfl, h1, h2, h3, h4, h5⟩

/-- The type of the rows of a table. -/
def rowTy (t : Tbl) : Ty := .mk 5 [] 0 (t.columns.map Col.name) (t.columns.map Col.type)
def RowIs (w : World) (t : Tbl) (e : Ending) (w' : World) : Prop := ∃ cs', e = .returned (.agg cs'.toArray) ∧ IsTy (fun _ => True) w' cs' (rowTy t) ∧ Below w.heap.size w w'

structure RowMid (w : World) (G : Nat) (cp : Option Addr) (ccap : Nat) (xs : List Col) (k : Nat) (np : Option Addr) (ncap : Nat) (kp : Option Addr) (kcap : Nat) (wr : World) : Prop where
  below : Below w.heap.size w wr
  hG : w.heap.size + 2 ≤ G
  box : wr.heap[G]? = some (.cells #[.int .i64 5, .string ⟨#[]⟩, .int .i64 0, .slice np k ncap, .slice kp k kcap] 46 (0, 0))
  res : wr.heap[w.heap.size + 1]? = some (.cells #[.int .i64 0, .string ⟨#[]⟩, .int .i64 0, .slice none 0 0, .slice none 0 0] 46 (0, 0))
  names : ∃ ncs, Own strRd 9 (fun b => b < G ∧ b ≠ w.heap.size + 1) (G + 1) wr (.slice np k ncap) ((xs.take k).map Col.name) ncs
  kids : ∃ kcs, Own tyRd 46 (fun b => b < G ∧ b ≠ w.heap.size + 1) (G + 1) wr (.slice kp k kcap) ((xs.take k).map Col.type) kcs
  cols : Sl colRd (fun b => b < G ∧ b ≠ w.heap.size + 1) wr (.slice cp xs.length ccap) xs

set_option maxRecDepth 100000 in
set_option maxHeartbeats 1000000 in
theorem row_any (S0 : Nat → Prop) (t : Tbl) (cs : List Value) (w : World) (h0 : tblRd.R S0 w cs t) (ho : Srt cmpCol t.columns) (hl : t.columns.length ≤ 19) (hne : t.columns ≠ []) :
    Calls Tryz.prog 19 #[.agg cs.toArray] w (RowIs w t) := by
  have h : tblRd.R (fun b => b < w.heap.size) w cs t := tblRd.mono h0 (fun b hb _ => hb)
  obtain ⟨cp0, cc0, kp0, kc0, rp0, rc0, k0, s1, n0, s2, p1, n1, c1, p2, n2, c2, p3, n3, c3, a0, z0, rfl, hnl, hcols, _, _, _⟩ := tbl_cells h
  unfold tcs
  have HC := Lib.hid hcols; have HO := Lib.hid ho; have HNe := Lib.hid hne
  obtain ⟨i9, j1, j2, j3, j4⟩ := info_of (P := Tryz.prog) (t := 9) (z := .string ⟨#[]⟩) (n := 1) (b := 16) (by kernel_rfl)
  obtain ⟨i46, l1, l2, l3, l4⟩ := info_of (P := Tryz.prog) (t := 46) (z := .agg #[.int .i64 0, .string ⟨#[]⟩, .int .i64 0, .slice none 0 0, .slice none 0 0]) (n := 5) (b := 80) (by kernel_rfl)
  have HJ := Lib.hid j1; have HJ2 := Lib.hid j2; have HJ3 := Lib.hid j3; have HJ4 := Lib.hid j4; have HL := Lib.hid l1; have HL2 := Lib.hid l2; have HL3 := Lib.hid l3; have HL4 := Lib.hid l4
  clear h h0 hcols ho hne j1 j2 j3 j4 l1 l2 l3 l4
  go_enter Tryz.func19, Tryz.ntmps19
  go_wp2_with fail
  refine (cloneCol _ _ t.columns _ (HC.out.below (bal2 _ _ _))).mono ?_
  rintro e w1 ⟨cp, ccap, ccs, rfl, ho1, hb1⟩
  have hres1 := (hb1.block (w.heap.size + 1) (by simp)).trans (heap_alloc2_new _ _ _)
  have HR1 := Lib.hid hres1; have HB1 := Lib.hid ((bal2 w _ _).thn hb1); have HO1 := Lib.hid ho1
  have hsz1 : w.heap.size + 2 ≤ w1.heap.size := by have := hb1.size; simpa using this
  clear hres1 hb1 ho1
  go_wp2_with fail
  refine (sortCol _ _ _ cp ccap t.columns ccs HO1.out HO.out hl HNe.out).mono ?_
  rintro e w2 ⟨rfl, hg2⟩
  have HG2 := Lib.hid hg2.bl
  have hsz2 : w.heap.size + 2 ≤ w2.heap.size := by have := hg2.bl.size; omega
  clear hg2
  go_wp2_with fail
  obtain ⟨W3, hW3⟩ : ∃ W3, w2.alloc (.cells #[.int .i64 5, .string ⟨#[]⟩, .int .i64 0, .slice none 0 0, .slice none 0 0] 46) = W3 := ⟨_, rfl⟩
  rw [hW3]
  have hM0 : RowMid w w2.heap.size cp ccap t.columns 0 none 0 none 0 W3 := by
    have hb3 : Below w2.heap.size w2 W3 := by rw [← hW3]; exact bal1 _ _
    refine ⟨HB1.out.thn (HG2.out.thn hb3), hsz2, by rw [← hW3]; exact heap_alloc_new _ _, ?_, ⟨[], Own.nil _ _ _ _ _⟩, ⟨[], Own.nil _ _ _ _ _⟩, ?_⟩
    · rw [hb3.block _ (by omega), HG2.out.block _ (by omega)]; exact HR1.out
    · refine (((HO1.out.sl (by omega) (S' := fun b => b ≠ w.heap.size + 1) (fun b hb => ?_) (fun b _ hb => ?_)).below HG2.out).mono (S' := fun b => b < w2.heap.size ∧ b ≠ w.heap.size + 1) (fun b hb h => ⟨hb, h⟩)).below hb3
      · have h2 : w.heap.size + 2 ≤ b := by simpa using hb
        omega
      · have h2 : b < w.heap.size := hb
        omega
  have HM0 := Lib.hid hM0
  clear hM0 hW3
  obtain ⟨n, hn⟩ : ∃ n, t.columns.length = n := ⟨_, rfl⟩
  rw [hn] at hl ⊢
  have HN := Lib.hid hn
  clear hn
  generalize hG : w2.heap.size = G at HM0 hsz2 ⊢
  clear hG
  go_loopw [15] (fun i wr => ∃ (k : Nat) (np : Option Addr) (ncap : Nat) (kp : Option Addr) (kcap : Nat), k ≤ n ∧ i = .int .i64 k ∧ RowMid w G cp ccap t.columns k np ncap kp kcap wr) (fun i _ => n - (intOf i).toNat)
  case atStart => exact ⟨0, none, 0, none, 0, Nat.zero_le _, rfl, HM0.out⟩
  case round =>
    obtain ⟨k, np, ncap, kp, kcap, hkn, rfl, hM⟩ := hrel
    have HM := Lib.hid hM
    have fr := fun j => frozen_of_row _ _ j _ _ hM.box
    have c0 := cell_of_row _ _ 0 _ _ _ hM.box; have c1' := cell_of_row _ _ 1 _ _ _ hM.box; have c2' := cell_of_row _ _ 2 _ _ _ hM.box; have c3' := cell_of_row _ _ 3 _ _ _ hM.box; have c4 := cell_of_row _ _ 4 _ _ _ hM.box
    simp only [List.getElem?_toArray, List.getElem?_cons_zero, List.getElem?_cons_succ] at c0 c1' c2' c3' c4
    have hGlt := World.block_lt_some hM.box
    by_cases hlt : k < n
    · have hi1 : (0 : Int) ≤ (k : Int) := by omega
      have hi2 : (k : Int) < (n : Int) := by omega
      obtain ⟨x, hx⟩ : ∃ x, t.columns[k]? = some x := ⟨_, List.getElem?_eq_getElem (by rw [HN.out]; exact hlt)⟩
      obtain ⟨cb, coff, cc, rfl, hcb, hcbS, -, hvx, hcx⟩ := hM.cols.elem hx
      obtain ⟨tc, hcc, hxl, hty⟩ := hvx
      obtain ⟨m1, m2, m3, m4, m5, m6, m7, m8, m9, rfl⟩ := hty.cells
      subst hcc
      have d0 := hcx 0 _ rfl; have d1 := hcx 1 _ rfl; have d2 := hcx 2 _ rfl; have d3 := hcx 3 _ rfl; have d4 := hcx 4 _ rfl; have d5 := hcx 5 _ rfl
      simp only [show colRd.k = 6 from rfl, Nat.add_zero] at d0 d1 d2 d3 d4 d5
      unfold sv at d0
      have HX := Lib.hid hx; have HTy := Lib.hid hty
      clear hx hcx hty c0 c1' c2' c3' c4 fr hM
      go_upto_region 7 with fail
      obtain ⟨W4, hW4⟩ : ∃ W4, wr.alloc (.cells #[.string ⟨x.name.toArray⟩, .int .i64 m1, .string m2, .int .i64 m3, .slice m4 m5 m6, .slice m7 m8 m9] 61) = W4 := ⟨_, rfl⟩
      rw [hW4]
      have hb4 : Below wr.heap.size wr W4 := by rw [← hW4]; exact bal1 _ _
      have hsz4 : W4.heap.size = wr.heap.size + 1 := by rw [← hW4]; simp
      have hX4 : W4.heap[wr.heap.size]? = some (.cells #[.string ⟨x.name.toArray⟩, .int .i64 m1, .string m2, .int .i64 m3, .slice m4 m5 m6, .slice m7 m8 m9] 61 (0, 0)) := by rw [← hW4]; exact heap_alloc_new _ _
      obtain ⟨ncs, hON⟩ := HM.out.names
      obtain ⟨kcs, hOK⟩ := HM.out.kids
      have hnl : ((t.columns.take k).map Col.name).length = k := by rw [List.length_map, List.length_take, HN.out]; omega
      have hkl : ((t.columns.take k).map Col.type).length = k := by rw [List.length_map, List.length_take, HN.out]; omega
      have hB4 := (hb4.block G hGlt).trans HM.out.box
      have c3 := cell_of_row _ _ 3 _ _ _ hB4; have c4 := cell_of_row _ _ 4 _ _ _ hB4; have f3 := frozen_of_row _ _ 3 _ _ hB4
      have q0 := cell_of_row _ _ 0 _ _ _ hX4
      simp only [List.getElem?_toArray, List.getElem?_cons_zero, List.getElem?_cons_succ] at c3 c4 q0
      have hON4 := hON.below hb4
      have hOK4 := hOK.below hb4
      have HW4 := Lib.hid hb4; have HX4 := Lib.hid hX4; have HB4 := Lib.hid hB4; have HS4 := Lib.hid hsz4; have HON := Lib.hid hON4; have HOK := Lib.hid hOK4; have HNL := Lib.hid hnl; have HKL := Lib.hid hkl
      clear hW4 hb4 hX4 hB4 hON hOK hON4 hOK4 hnl hkl d0 d1 d2 d3 d4 d5 hsz4
      go_upto_region 8 with (at_builtin; refine wpList_app (r := strRd) (by decide) rfl (.tmp 20) (.tmp 23) _ rfl 9 i9 (.string ⟨#[]⟩) 16 Tryz.underlying32 HJ.out HJ2.out HJ3.out HJ4.out rfl (by omega) (fun b => b < G ∧ b ≠ w.heap.size + 1) (G + 1) W4 (.slice np k ncap) ((t.columns.take k).map Col.name) ncs [.string ⟨x.name.toArray⟩] x.name rfl HON.out rfl ⟨rfl, hxl⟩ (by simp [Value.oneCell']) k HNL.out (by omega) (by have := HS4.out; omega) ?_; intro p5 cap5 css5 w5 hO5 hL5; have HO5 := Lib.hid hO5; have HL5 := Lib.hid hL5; have hB5 := (hL5.other G (by have := HS4.out; omega) (fun e => by have := (HON.out.row.lt G e.symm).1; omega)).trans HB4.out; have f35 := frozen_of_row _ _ 3 _ _ hB5; have c35 := cell_of_row _ _ 3 _ _ _ hB5; simp only [List.getElem?_toArray, List.getElem?_cons_zero, List.getElem?_cons_succ] at c35; have HB5 := Lib.hid hB5; clear hO5 hL5 hB5)
      obtain ⟨W6, hW6⟩ : ∃ W6, w5.setCell ⟨G, 3, none⟩ (.slice p5 (k + 1) cap5) = W6 := ⟨_, rfl⟩
      rw [hW6]
      have hne6 : ∀ b, b ≠ G → W6.heap[b]? = w5.heap[b]? := by intro b hb; rw [← hW6]; exact heap_setCell_ne hb
      have hsz6 : W6.heap.size = w5.heap.size := by rw [← hW6]; simp [World.setCell]
      have hB6 : W6.heap[G]? = some (.cells #[.int .i64 5, .string ⟨#[]⟩, .int .i64 0, .slice p5 (k + 1) cap5, .slice kp k kcap] 46 (0, 0)) := by rw [← hW6, heap_setCell_same _ _ _ _ _ _ HB5.out]; rfl
      have hXne : ∀ g, (Value.slice np k ncap).ownBlock = some g → wr.heap.size ≠ g := fun g hg e => by
        obtain ⟨_, h⟩ := HM.out.names
        have := (h.row.lt g hg).2
        omega
      have hX6 : W6.heap[wr.heap.size]? = some (.cells #[.string ⟨x.name.toArray⟩, .int .i64 m1, .string m2, .int .i64 m3, .slice m4 m5 m6, .slice m7 m8 m9] 61 (0, 0)) := by
        rw [hne6 _ (by omega), HL5.out.other _ (by have := HS4.out; omega) (fun e => hXne _ e.symm rfl)]; exact HX4.out
      have keep : ∀ b, b < wr.heap.size → some b ≠ (Value.slice np k ncap).ownBlock → b ≠ G → W6.heap[b]? = wr.heap[b]? := fun b hb hne hbG => by
        rw [hne6 b hbG, HL5.out.other b (by have := HS4.out; omega) hne]; exact HW4.out.block b hb
      obtain ⟨_, hONr⟩ := HM.out.names
      obtain ⟨kcs', hOKr⟩ := HM.out.kids
      have hOK6 : Own tyRd 46 (fun b => b < G ∧ b ≠ w.heap.size + 1) (G + 1) W6 (.slice kp k kcap) ((t.columns.take k).map Col.type) kcs' := hOKr.move (Nat.le_refl _) (fun b hb h => by
        rcases h with h | h
        · exact keep b hb (fun e => by have := (hONr.row.lt b e.symm).1; omega) (by omega)
        · exact keep b hb (fun e => rows_apart hOKr.row hONr.row (by decide) h e.symm) (by have := (hOKr.row.lt b h).1; omega))
      have hON6 : Own strRd 9 (fun b => b < G ∧ b ≠ w.heap.size + 1) (G + 1) W6 (.slice p5 (k + 1) cap5) ((t.columns.take k).map Col.name ++ [x.name]) css5 := HO5.out.move (Nat.le_refl _) (fun b _ h => hne6 b (by
        rcases h with h | h
        · omega
        · have := (HO5.out.row.lt b h).1; omega))
      have hTy6 : tyRd.R (But (fun b => b < G ∧ b ≠ w.heap.size + 1) (.slice kp k kcap)) W6 [.int .i64 m1, .string m2, .int .i64 m3, .slice m4 m5 m6, .slice m7 m8 m9] x.type := by
        refine IsTy.move HTy.out (fun b hb hlt => keep b hlt (fun e => by have := (hONr.row.lt b e.symm).1; omega) (by omega)) (fun b _ hb => ⟨hb, fun e => ?_⟩)
        have := (hOKr.row.lt b e.symm).1
        omega
      have hsz5 := HL5.out.size
      have g4 := cell_of_row _ _ 4 _ _ _ hB6; have fz4 := frozen_of_row _ _ 4 _ _ hB6
      have y1 := cell_of_row _ _ 1 _ _ _ hX6; have y2 := cell_of_row _ _ 2 _ _ _ hX6; have y3 := cell_of_row _ _ 3 _ _ _ hX6; have y4 := cell_of_row _ _ 4 _ _ _ hX6; have y5 := cell_of_row _ _ 5 _ _ _ hX6
      simp only [List.getElem?_toArray, List.getElem?_cons_zero, List.getElem?_cons_succ] at g4 y1 y2 y3 y4 y5
      have HK6 := Lib.hid keep; have HOK6 := Lib.hid hOK6; have HON6 := Lib.hid hON6; have HTy6 := Lib.hid hTy6; have HB6 := Lib.hid hB6; have HS6 := Lib.hid hsz6; have HS5 := Lib.hid hsz5
      have hbel6 : Below w.heap.size w W6 := HM.out.below.trans (by
        have h1 := HW4.out.mono HM.out.below.size
        have h2 := (HL5.out.below.mono (show w.heap.size ≤ G + 1 by omega))
        have h3 := (h1.trans h2).setCell (p := ⟨G, 3, none⟩) (show w.heap.size ≤ G by omega) (.slice p5 (k + 1) cap5)
        rwa [hW6] at h3)
      have HBel6 := Lib.hid hbel6
      clear hW6 hne6 hsz6 hB6 hXne hX6 keep hONr hOKr hOK6 hON6 hTy6 hsz5 c3 c4 f3 q0 f35 c35 hbel6
      go_wp2_with (at_builtin; refine wpList_app (r := tyRd) (by decide) rfl (.tmp 27) (.tmp 30) _ rfl 46 i46 (.agg #[.int .i64 0, .string ⟨#[]⟩, .int .i64 0, .slice none 0 0, .slice none 0 0]) 80 Tryz.underlying44 HL.out HL2.out HL3.out HL4.out rfl (by omega) (fun b => b < G ∧ b ≠ w.heap.size + 1) (G + 1) W6 (.slice kp k kcap) ((t.columns.take k).map Col.type) kcs' [.int .i64 m1, .string m2, .int .i64 m3, .slice m4 m5 m6, .slice m7 m8 m9] x.type rfl HOK6.out rfl HTy6.out (by simp [Value.oneCell']) k HKL.out (by omega) (by have := HS6.out; have := HS5.out; have := HS4.out; omega) ?_; intro p7 cap7 css7 w7 hO7 hL7; have HO7 := Lib.hid hO7; have HL7 := Lib.hid hL7; have hB7 := (hL7.other G (by have := HS6.out; have := HS5.out; have := HS4.out; omega) (fun e => by have := (HOK6.out.row.lt G e.symm).1; omega)).trans HB6.out; have f47 := frozen_of_row _ _ 4 _ _ hB7; have c47 := cell_of_row _ _ 4 _ _ _ hB7; simp only [List.getElem?_toArray, List.getElem?_cons_zero, List.getElem?_cons_succ] at c47; have HB7 := Lib.hid hB7; clear hO7 hL7 hB7)
      go_roundw
      case measure => simp [intOf]; omega
      case rel =>
        have htn : (t.columns.take (k + 1)).map Col.name = (t.columns.take k).map Col.name ++ [x.name] := by
          obtain ⟨hk', rfl⟩ := List.getElem?_eq_some_iff.1 HX.out
          rw [List.take_succ_eq_append_getElem hk', List.map_append]; rfl
        have htk : (t.columns.take (k + 1)).map Col.type = (t.columns.take k).map Col.type ++ [x.type] := by
          obtain ⟨hk', rfl⟩ := List.getElem?_eq_some_iff.1 HX.out
          rw [List.take_succ_eq_append_getElem hk', List.map_append]; rfl
        have hG2 := HM.out.hG
        obtain ⟨_, hONr⟩ := HM.out.names
        have e6 := HS6.out
        have e5 := HS5.out
        have e4 := HS4.out
        have k7 : ∀ b, b < W6.heap.size → some b ≠ (Value.slice kp k kcap).ownBlock → b ≠ G → (w7.setCell ⟨G, 4, none⟩ (.slice p7 (k + 1) cap7)).heap[b]? = W6.heap[b]? := fun b hb hne hbG => by
          rw [heap_setCell_ne hbG, HL7.out.other b hb hne]
        have kall : ∀ b, b < G → (w7.setCell ⟨G, 4, none⟩ (.slice p7 (k + 1) cap7)).heap[b]? = wr.heap[b]? := fun b hb => by
          rw [k7 b (by omega) (fun e => by have := (HOK6.out.row.lt b e.symm).1; omega) (by omega), HK6.out b (by omega) (fun e => by have := (hONr.row.lt b e.symm).1; omega) (by omega)]
        refine ⟨k + 1, p5, cap5, p7, cap7, by omega, by go_num, ⟨(HBel6.out.trans (HL7.out.below.mono (by omega))).setCell (p := ⟨G, 4, none⟩) (show w.heap.size ≤ G by omega) _, hG2, ?_, ?_, ⟨css5, ?_⟩, ⟨css7, ?_⟩, ?_⟩⟩
        · rw [heap_setCell_same _ _ _ _ _ _ HB7.out]; rfl
        · rw [kall _ (by omega)]; exact HM.out.res
        · rw [htn]
          refine HON6.out.move (Nat.le_refl _) (fun b hb h => ?_)
          rcases h with h | h
          · have h' : b < G := h.1
            exact k7 b hb (fun e => by have := (HOK6.out.row.lt b e.symm).1; omega) (by omega)
          · have h' := (HON6.out.row.lt b h).1
            exact k7 b hb (fun e => rows_apart HON6.out.row HOK6.out.row (by decide) h e.symm) (by omega)
        · rw [htk]
          refine HO7.out.move (Nat.le_refl _) (fun b _ h => heap_setCell_ne ?_)
          rcases h with h | h
          · have h' : b < G := h.1
            show b ≠ G
            omega
          · have h' := (HO7.out.row.lt b h).1
            show b ≠ G
            omega
        · exact HM.out.cols.frame (fun b hb _ => kall b hb.1)
    · have hkn' : k = n := by omega
      subst hkn'
      have r0 := cell_of_row _ _ 0 _ _ _ hM.res
      have fz := fun j => frozen_of_row _ _ j _ _ hM.res
      have rr := fun j => cell_of_row _ _ j _ _ _ hM.res
      have fz0 := fz 0; have fz1 := fz 1; have fz2 := fz 2; have fz3 := fz 3; have fz4 := fz 4
      have rr0 := rr 0; have rr1 := rr 1; have rr2 := rr 2; have rr3 := rr 3; have rr4 := rr 4
      simp only [List.getElem?_toArray, List.getElem?_cons_zero, List.getElem?_cons_succ] at rr0 rr1 rr2 rr3 rr4
      have hG2 := hM.hG
      clear fr fz rr hM r0
      go_wp2_with fail
      show bodyPost _ _ _ _ _ (put5 wr _ _ _ _ _ _)
      refine bodyPost_ret (v := .agg #[.int .i64 5, .string ⟨#[]⟩, .int .i64 0, .slice np k ncap, .slice kp k kcap]) (by simp [results, Tryz.results19, go_sem, put5_cell HM.out.res]) rfl ⟨_, rfl, ?_, put5_below HM.out.below (by omega)⟩
      obtain ⟨ncs, hON⟩ := HM.out.names
      obtain ⟨kcs, hOK⟩ := HM.out.kids
      rw [List.take_of_length_le (by have := HN.out; omega)] at hON hOK
      refine isTy_mk (s := []) (by simp) ?_ ?_
      · refine ((hON.sl (by rw [List.length_map]; have := HN.out; omega) (S' := fun b => b ≠ w.heap.size + 1) (fun b hb => ?_) (fun b _ hb => hb.2)).frame (fun b hb _ => put5_other hb)).mono (fun _ _ _ => trivial)
        omega
      · refine ((hOK.sl (by rw [List.length_map]; have := HN.out; omega) (S' := fun b => b ≠ w.heap.size + 1) (fun b hb => ?_) (fun b _ hb => hb.2)).frame (fun b hb _ => put5_other hb)).mono (fun _ _ _ => trivial)
        omega
end Go.Proofs.YthkkmklnapkgaaaGreatDoor

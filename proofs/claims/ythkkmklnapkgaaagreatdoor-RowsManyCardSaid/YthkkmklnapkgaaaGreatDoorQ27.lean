import Derived.Test.YthkkmklnapkgaaaGreatDoorQ25
import Derived.Test.YthkkmklnapkgaaaGreatDoorQ26
/- rows.Lookup: the row of a table with a key. -/
namespace Go.Proofs.YthkkmklnapkgaaaGreatDoor
open Go.RowKit Go.Shelf Go.Lib

/-- The first element of which p holds. -/
def atP {T : Type} (p : T → Bool) (xs : List T) : Option T := match xs.findIdx? p with
  | none => none
  | some i => xs[i]?
theorem idxP_cases {T : Type} (p : T → Bool) (xs : List T) : (idxP p xs = -1 ∧ atP p xs = none) ∨ ∃ (i : Nat) (x : T), idxP p xs = i ∧ xs[i]? = some x ∧ atP p xs = some x := by
  unfold idxP atP
  cases h : xs.findIdx? p with
  | none => exact .inl ⟨rfl, rfl⟩
  | some i =>
    obtain ⟨hi, _, _⟩ := List.findIdx?_eq_some_iff_getElem.1 h
    exact .inr ⟨i, xs[i], rfl, List.getElem?_eq_getElem hi, List.getElem?_eq_getElem hi⟩

/-- The row of a table with a key. -/
def lookF (s : Sc) (l : List Rel) (tn : Bs) (key : List Val) : Option Val := match tblNamed s.tables tn, atP (fun r => decide (r.table = tn)) l with
  | some t, some r => if key.length = 0 then none else atP (lkP t.key key) r.rows
  | _, _ => none

def LookIs (w : World) (o : Option Val) (e : Ending) (w' : World) : Prop :=
  ∃ cs', e = .returned (.tuple #[.agg cs'.toArray, .bool o.isSome]) ∧ IsVal (fun _ => True) w' cs' (o.getD Val.zero) ∧ Below w.heap.size w w'

theorem heap_alloc3_mid (w : World) (A B C : Obj) : (((w.alloc A).alloc B).alloc C).heap[w.heap.size + 1]? = some B :=
  ((bal1 ((w.alloc A).alloc B) C).block (w.heap.size + 1) (by simp)).trans (heap_alloc2_new w A B)

set_option maxRecDepth 100000 in
set_option maxHeartbeats 4000000 in
theorem lookup_any (S0 S1 S2 : Nat → Prop) (s : Sc) (cs : List Value) (lv : Value) (l : List Rel) (tn : Bs) (kv : Value) (key : List Val) (w : World) (hs : IsSc S0 w cs s) (hl0 : Sl relRd S1 w lv l) (hkv0 : Sl valRd S2 w kv key) (hkl : ∀ t ∈ s.tables, t.key.length ≤ 1000) :
    Calls Tryz.prog 55 #[.agg cs.toArray, lv, sv tn, kv] w (LookIs w (lookF s l tn key)) := by
  have hl : Sl relRd (fun b => b < w.heap.size) w lv l := hl0.mono (fun b hb _ => hb)
  have hkv : Sl valRd (fun b => b < w.heap.size) w kv key := hkv0.mono (fun b hb _ => hb)
  have HT := Lib.hid (fun W (hb : Below w.heap.size w W) => table_any S0 s cs tn W (hs.below hb))
  have HX := Lib.hid (fun W (hb : Below w.heap.size w W) => index_any _ lv l tn W (hl.below hb))
  obtain ⟨uv, tv, rfl, hu, ht⟩ := hs
  obtain ⟨up, uc, rfl, _⟩ := hu.len
  obtain ⟨tp, tc, rfl, _⟩ := ht.len
  obtain ⟨lp, lc, rfl, hll⟩ := hl.len
  obtain ⟨kp, kc, rfl, hkl2⟩ := hkv.len
  have HL := Lib.hid hl; have HKV := Lib.hid hkv
  have hkT : ((tblNamed s.tables tn).getD Tbl.zero).key.length ≤ 1000 := by
    cases h : tblNamed s.tables tn with
    | none => simp [Tbl.zero]
    | some t => exact hkl t (List.mem_of_find?_eq_some h)
  have hlk : lookF s l tn key = (match tblNamed s.tables tn, atP (fun r => decide (r.table = tn)) l with
    | some t, some r => if key.length = 0 then none else atP (lkP t.key key) r.rows
    | _, _ => none) := rfl
  obtain ⟨o, ho⟩ : ∃ o, lookF s l tn key = o := ⟨_, rfl⟩
  rw [ho] at hlk ⊢
  have HLK := Lib.hid hlk; have HKT := Lib.hid hkT
  clear hlk hkT ho hl hl0 hkv hkv0 hu ht hkl
  unfold sv at HT HX ⊢
  go_enter Tryz.func55, Tryz.ntmps55
  go_wp2_with fail
  refine (HT.out _ (bal3 _ _ _ _)).mono ?_
  rintro e w1 ⟨ct, rfl, hT, hb1⟩
  obtain ⟨T, hTe⟩ : ∃ T, (tblNamed s.tables tn).getD Tbl.zero = T := ⟨_, rfl⟩
  rw [hTe] at hT HKT
  obtain ⟨cp9, cc9, kp9, kc9, rp9, rc9, k9, s19, n9, s29, p19, n19, c19, p29, n29, c29, p39, n39, c39, a9, z9, hcs, _⟩ := tbl_cells hT
  simp only [tcs] at hcs
  subst hcs
  have HTE := Lib.hid hTe; have HTR := Lib.hid hT; have HB1 := Lib.hid ((bal3 _ _ _ _).thn hb1)
  have hK1 := (hb1.block (w.heap.size + 1) (by simp)).trans (heap_alloc3_mid w _ _ _)
  have hR1 := (hb1.block (w.heap.size + 1 + 1) (by simp)).trans (heap_alloc3_new w _ _ _)
  have HK1 := Lib.hid hK1; have HR1 := Lib.hid hR1
  clear hTe hT hb1 hK1 hR1
  obtain ⟨ok, hok⟩ : ∃ ok, (tblNamed s.tables tn).isSome = ok := ⟨_, rfl⟩
  rw [hok]
  have HOK := Lib.hid hok
  clear hok
  go_upto_region 2 with fail
  generalize hW5 : w1.alloc _ = w5
  have hb5 : Below w1.heap.size w1 w5 := by rw [← hW5]; exact bal1 _ _
  have hX5 : w5.heap[w1.heap.size]? = some (.cells #[.string ⟨T.name.toArray⟩, .slice cp9 T.columns.length cc9, .slice kp9 T.key.length kc9, .slice rp9 T.refs.length rc9, .int .i64 k9, .string s19, .int .i64 n9, .string s29, .slice p19 n19 c19, .slice p29 n29 c29, .slice p39 n39 c39, .int .i64 a9, .int .i64 z9] 59 (0, 0)) := by rw [← hW5]; exact heap_alloc_new _ _
  obtain ⟨X, hX⟩ : ∃ X, w1.heap.size = X := ⟨_, rfl⟩
  have hK5 := (hb5.block _ (World.block_lt_some HK1.out)).trans HK1.out
  have hR5 := (hb5.block _ (World.block_lt_some HR1.out)).trans HR1.out
  have hT5 := tblRd.frame HTR.out (.of_below hb5)
  have hbw5 := HB1.out.thn hb5
  have hs1 := HB1.out.size
  rw [hX] at hX5 hs1 ⊢
  have HX5 := Lib.hid hX5; have HK5 := Lib.hid hK5; have HR5 := Lib.hid hR5; have HT5 := Lib.hid hT5; have HB5 := Lib.hid hbw5
  clear hb5 hX5 hW5 hX hK5 hR5 hT5 hbw5 HK1 HR1 HTR HB1 HT
  go_wp2_with fail
  refine (HX.out _ HB5.out).mono ?_
  rintro e w3 ⟨rfl, hb3⟩
  have hX3 := (hb3.block _ (World.block_lt_some HX5.out)).trans HX5.out
  have hK3 := (hb3.block _ (World.block_lt_some HK5.out)).trans HK5.out
  have hR3 := (hb3.block _ (World.block_lt_some HR5.out)).trans HR5.out
  have hT3 := tblRd.frame HT5.out (.of_below hb3)
  have hbw3 := HB5.out.thn hb3
  have k0 := cell_of_row _ _ 0 _ _ _ hK3
  have r0 := frozen_of_row _ _ 0 _ _ hR3; have r1 := frozen_of_row _ _ 1 _ _ hR3; have r2 := frozen_of_row _ _ 2 _ _ hR3; have r3 := frozen_of_row _ _ 3 _ _ hR3; have r4 := frozen_of_row _ _ 4 _ _ hR3
  have y0 := cell_of_row _ _ 0 _ _ _ hR3; have y1 := cell_of_row _ _ 1 _ _ _ hR3; have y2 := cell_of_row _ _ 2 _ _ _ hR3; have y3 := cell_of_row _ _ 3 _ _ _ hR3; have y4 := cell_of_row _ _ 4 _ _ _ hR3
  simp only [List.getElem?_toArray, List.getElem?_cons_zero, List.getElem?_cons_succ] at k0 y0 y1 y2 y3 y4
  have HX3 := Lib.hid hX3; have HK3 := Lib.hid hK3; have HR3 := Lib.hid hR3; have HT3 := Lib.hid hT3; have HB3 := Lib.hid hbw3
  clear hb3 hX3 hK3 hR3 hT3 hbw3 HX5 HK5 HR5 HT5 HB5 HX
  rcases idxP_cases (fun r : Rel => decide (r.table = tn)) l with ⟨hi, ha⟩ | ⟨i, rl, hi, hrl, ha⟩
  · -- no such relation
    have hO : o = none := by rw [HLK.out, ha]; cases tblNamed s.tables tn <;> rfl
    have HO := Lib.hid hO
    rw [hi]
    clear hO hi ha
    cases ok
    · go_wp2_with fail
      show bodyPost _ _ _ _ _ (put5 w3 (w.heap.size + 1 + 1) (.int .i64 0) (.int .i64 0) (.string ⟨#[]⟩) (.slice none 0 0) (.slice none 0 0))
      refine bodyPost_ret (v := .tuple #[.agg #[.int .i64 0, .int .i64 0, .string ⟨#[]⟩, .slice none 0 0, .slice none 0 0], .bool false]) (by simp [results, Tryz.results55, go_sem, put5_cell HR3.out]) rfl ?_
      rw [HO.out]
      exact ⟨_, rfl, isVal_zero _ _, put5_below HB3.out (by omega)⟩
    · go_wp2_with fail
      show bodyPost _ _ _ _ _ (put5 w3 (w.heap.size + 1 + 1) (.int .i64 0) (.int .i64 0) (.string ⟨#[]⟩) (.slice none 0 0) (.slice none 0 0))
      refine bodyPost_ret (v := .tuple #[.agg #[.int .i64 0, .int .i64 0, .string ⟨#[]⟩, .slice none 0 0, .slice none 0 0], .bool false]) (by simp [results, Tryz.results55, go_sem, put5_cell HR3.out]) rfl ?_
      rw [HO.out]
      exact ⟨_, rfl, isVal_zero _ _, put5_below HB3.out (by omega)⟩
  · obtain ⟨lb, loff, lcs, hle, hlb, _, _, ⟨rv, hlcs, _, hrv⟩, hlc⟩ := HL.out.elem hrl
    subst hlcs
    have hil : i < l.length := (List.getElem?_eq_some_iff.1 hrl).1
    have d1 := hlc 1 rv rfl
    subst hle
    rw [hi]
    have hi1 : (0 : Int) ≤ (i : Int) := by omega
    have hi2 : (i : Int) < (l.length : Int) := by omega
    have hi3 : decide ((i : Int) < 0) = false := by simp
    obtain ⟨rp, rc, rfl, hrl2⟩ := hrv.len
    have HLO := Lib.hid HLK.out
    rw [ha] at HLO
    clear HLK hi ha hrl hlc
    cases ok with
    | false =>
      have hO : o = none := by
        have h := HLO.out
        have h2 := HOK.out
        cases hn : tblNamed s.tables tn with
        | none => rw [hn] at h; exact h
        | some t => rw [hn] at h2; cases h2
      have HO := Lib.hid hO
      clear hO d1
      go_wp2_with fail
      show bodyPost _ _ _ _ _ (put5 w3 (w.heap.size + 1 + 1) (.int .i64 0) (.int .i64 0) (.string ⟨#[]⟩) (.slice none 0 0) (.slice none 0 0))
      refine bodyPost_ret (v := .tuple #[.agg #[.int .i64 0, .int .i64 0, .string ⟨#[]⟩, .slice none 0 0, .slice none 0 0], .bool false]) (by simp [results, Tryz.results55, go_sem, put5_cell HR3.out]) rfl ?_
      rw [HO.out]
      exact ⟨_, rfl, isVal_zero _ _, put5_below HB3.out (by omega)⟩
    | true =>
      have hO : o = if key.length = 0 then none else atP (lkP T.key key) rl.rows := by
        have h := HLO.out
        have h2 := HOK.out
        have h3 := HTE.out
        cases hn : tblNamed s.tables tn with
        | none => rw [hn] at h2; cases h2
        | some t => rw [hn] at h h3; rw [show T = t from h3.symm]; exact h
      clear HLO HOK HTE
      by_cases hk0 : key.length = 0
      · rw [if_pos hk0] at hO
        have HO := Lib.hid hO
        clear hO d1
        rw [hk0] at k0
        go_wp2_with fail
        show bodyPost _ _ _ _ _ (put5 w3 (w.heap.size + 1 + 1) (.int .i64 0) (.int .i64 0) (.string ⟨#[]⟩) (.slice none 0 0) (.slice none 0 0))
        refine bodyPost_ret (v := .tuple #[.agg #[.int .i64 0, .int .i64 0, .string ⟨#[]⟩, .slice none 0 0, .slice none 0 0], .bool false]) (by simp [results, Tryz.results55, go_sem, put5_cell HR3.out]) rfl ?_
        rw [HO.out]
        exact ⟨_, rfl, isVal_zero _ _, put5_below HB3.out (by omega)⟩
      · rw [if_neg hk0] at hO
        have hk2 : ((key.length : Int) == 0) = false := by simpa using hk0
        have hk3 : decide ((key.length : Int) = 0) = false := by simpa using hk0
        have HO9 := Lib.hid hO
        have HRV := Lib.hid (hrv.mono (S' := fun _ => True) (fun _ _ _ => trivial))
        have HRV0 := Lib.hid hrv
        have e1 := (HB3.out.cell (p := ⟨lb, loff + i * relRd.k + 1, none⟩) hlb).trans d1
        rw [show relRd.k = 2 from rfl] at e1
        have HI := Lib.hid (idxFn Tryz.ixVal valRd Tryz.isAgg34 Tryz.sizeOf34 89 #[.pointer (some ⟨X, 0, none⟩), .pointer (some ⟨w.heap.size + 1, 0, none⟩)] (enters_of Tryz.func89 (by kernel_rfl) rfl) (fun _ => True) (.slice rp rl.rows.length rc) rl.rows w3 _ (HRV.out.below HB3.out)
          (look1_any X (w.heap.size + 1) (fun _ => True) T _ (.slice kp key.length kc) key rl.rows w3 (fun j u h => by rw [cell_of_row _ _ j _ _ _ HX3.out]; simpa using h) (World.block_lt_some HX3.out) HT3.out HKT.out k0 ((HKV.out.below HB3.out).mono (fun _ _ _ => trivial))))
        clear hO hrv d1
        go_wp2_with fail
        refine HI.out.mono ?_
        rintro e w6 ⟨rfl, hb6⟩
        have hR6 := (hb6.block _ (World.block_lt_some HR3.out)).trans HR3.out
        have hbw6 := HB3.out.thn hb6
        clear r0 r1 r2 r3 r4 y0 y1 y2 y3 y4
        have r0 := frozen_of_row _ _ 0 _ _ hR6; have r1 := frozen_of_row _ _ 1 _ _ hR6; have r2 := frozen_of_row _ _ 2 _ _ hR6; have r3 := frozen_of_row _ _ 3 _ _ hR6; have r4 := frozen_of_row _ _ 4 _ _ hR6
        have y0 := cell_of_row _ _ 0 _ _ _ hR6; have y1 := cell_of_row _ _ 1 _ _ _ hR6; have y2 := cell_of_row _ _ 2 _ _ _ hR6; have y3 := cell_of_row _ _ 3 _ _ _ hR6; have y4 := cell_of_row _ _ 4 _ _ _ hR6
        simp only [List.getElem?_toArray, List.getElem?_cons_zero, List.getElem?_cons_succ] at y0 y1 y2 y3 y4
        have e2 := (hb6.cell (p := ⟨lb, loff + i * 2 + 1, none⟩) (World.block_lt_of_cell? _ _ e1)).trans e1
        have HR6 := Lib.hid hR6; have HB6 := Lib.hid hbw6
        clear hR6 hbw6 hb6 e1 HI
        rcases idxP_cases (lkP T.key key) rl.rows with ⟨hj, ha2⟩ | ⟨j, u, hj, hu, ha2⟩
        · rw [ha2] at HO9
          rw [hj]
          have HO := HO9
          clear hj ha2
          go_wp2_with fail
          show bodyPost _ _ _ _ _ (put5 w6 (w.heap.size + 1 + 1) (.int .i64 0) (.int .i64 0) (.string ⟨#[]⟩) (.slice none 0 0) (.slice none 0 0))
          refine bodyPost_ret (v := .tuple #[.agg #[.int .i64 0, .int .i64 0, .string ⟨#[]⟩, .slice none 0 0, .slice none 0 0], .bool false]) (by simp [results, Tryz.results55, go_sem, put5_cell HR6.out]) rfl ?_
          rw [HO.out]
          exact ⟨_, rfl, isVal_zero _ _, put5_below HB6.out (by omega)⟩
        · rw [ha2] at HO9
          obtain ⟨xb, xoff, p3, k3, p4, k4, hrp, hxb, hvu, g0, g1, g2, g3, g4⟩ := HRV0.out.val hu
          subst hrp
          have hjl : j < rl.rows.length := (List.getElem?_eq_some_iff.1 hu).1
          have hj1 : (0 : Int) ≤ (j : Int) := by omega
          have hj2 : (j : Int) < (rl.rows.length : Int) := by omega
          have hj3 : decide ((j : Int) < 0) = false := by simp
          rw [hj]
          have t0 := (HB6.out.cell (p := ⟨xb, xoff + j * 5, none⟩) hxb).trans g0; have t1 := (HB6.out.cell (p := ⟨xb, xoff + j * 5 + 1, none⟩) hxb).trans g1; have t2 := (HB6.out.cell (p := ⟨xb, xoff + j * 5 + 2, none⟩) hxb).trans g2; have t3 := (HB6.out.cell (p := ⟨xb, xoff + j * 5 + 3, none⟩) hxb).trans g3; have t4 := (HB6.out.cell (p := ⟨xb, xoff + j * 5 + 4, none⟩) hxb).trans g4
          have HVU := Lib.hid hvu
          clear g0 g1 g2 g3 g4 hvu hj ha2 hu
          go_wp2_with fail
          show bodyPost _ _ _ _ _ (put5 w6 (w.heap.size + 1 + 1) (.int .i64 u.kind) (.int .i64 u.n) (.string ⟨u.s.toArray⟩) (.slice p3 u.names.length k3) (.slice p4 u.kids.length k4))
          refine bodyPost_ret (v := .tuple #[.agg #[.int .i64 u.kind, .int .i64 u.n, .string ⟨u.s.toArray⟩, .slice p3 u.names.length k3, .slice p4 u.kids.length k4], .bool true]) (by simp [results, Tryz.results55, go_sem, put5_cell HR6.out]) rfl ?_
          rw [HO9.out]
          refine ⟨_, rfl, ?_, put5_below HB6.out (by omega)⟩
          exact IsVal.move HVU.out (fun b hb _ => (put5_other (by have : b < w.heap.size := hb; omega)).trans (HB6.out.block b hb)) (fun _ _ _ => trivial)
end Go.Proofs.YthkkmklnapkgaaaGreatDoor

/- rows.refers$1: whether a row refers to a row. -/
namespace Go.Proofs.YthkkmklnapkgaaaGreatDoor
open Go.RowKit Go.Shelf Go.Lib

/-- Whether the row refers to a row. -/
def refP (s : Sc) (l : List Rel) (r : Rf) (v : Val) : Bool := match getF v r.column with
  | some u => (lookF s l r.table [u]).isSome
  | none => false

theorem sl_single {S : Nat → Prop} {w w6 : World} {cs : List Value} {u : Val} {b : Nat} {E : TypeId} (hv : IsVal S w cs u) (hb : Below w.heap.size w w6) (hc : w6.heap[b]? = some (.cells cs.toArray E (0, 0))) : Sl valRd (fun _ => True) w6 (.slice (some ⟨b, 0, none⟩) 1 1) [u] :=
  Sl.of_css (css := [cs]) (by simp) (Cs.one (IsVal.move hv (.of_below hb) (fun _ _ _ => trivial))) trivial (World.block_lt_some hc) (fun j x hx => by
    rw [Nat.zero_add, cell_of_row _ _ _ _ _ _ hc]
    simpa using hx)

set_option maxRecDepth 100000 in
set_option maxHeartbeats 4000000 in
theorem refs1_any (A B C : Nat) (S S1 S2 : Nat → Prop) (s : Sc) (uv tv lv : Value) (l : List Rel) (r : Rf) (rows : List Val) (w : World) (hA0 : w.cell? ⟨A, 0, none⟩ = some (sv r.column)) (hA1 : w.cell? ⟨A, 1, none⟩ = some (sv r.table))
    (hB0 : w.cell? ⟨B, 0, none⟩ = some uv) (hB1 : w.cell? ⟨B, 1, none⟩ = some tv) (hC : w.cell? ⟨C, 0, none⟩ = some lv) (hs : IsSc S1 w [uv, tv] s) (hl : Sl relRd S2 w lv l) (hkl : ∀ t ∈ s.tables, t.key.length ≤ 1000) :
    PredRd Tryz.prog 53 #[.pointer (some ⟨A, 0, none⟩), .pointer (some ⟨B, 0, none⟩), .pointer (some ⟨C, 0, none⟩)] valRd S rows (refP s l r) w := by
  intro W v cs hb _ hr
  have hs' := hs
  obtain ⟨uv', tv', huv, hu, ht⟩ := hs'
  cases huv
  obtain ⟨up, uc, rfl, _⟩ := hu.len
  obtain ⟨tp, tc, rfl, _⟩ := ht.len
  obtain ⟨lp, lc, rfl, hll⟩ := hl.len
  have a0 := (hb.cell (p := ⟨A, 0, none⟩) (World.block_lt_of_cell? w _ hA0)).trans hA0
  have a1 := (hb.cell (p := ⟨A, 1, none⟩) (World.block_lt_of_cell? w _ hA1)).trans hA1
  have b0 := (hb.cell (p := ⟨B, 0, none⟩) (World.block_lt_of_cell? w _ hB0)).trans hB0
  have b1 := (hb.cell (p := ⟨B, 1, none⟩) (World.block_lt_of_cell? w _ hB1)).trans hB1
  have c0 := (hb.cell (p := ⟨C, 0, none⟩) (World.block_lt_of_cell? w _ hC)).trans hC
  have hAl : A < W.heap.size := World.block_lt_of_cell? _ _ a0
  have hBl : B < W.heap.size := World.block_lt_of_cell? _ _ b0
  have hCl : C < W.heap.size := World.block_lt_of_cell? _ _ c0
  have hs2 := hs.below hb
  have hl2 := hl.below hb
  have HG := Lib.hid (fun W' (h' : Below W.heap.size W W') => get_any S v cs r.column W' (IsVal.move (show IsVal S W cs v from hr) (.of_below h') (fun _ _ h => h)))
  have HLk := Lib.hid (fun W' (h' : Below W.heap.size W W') (kv : Value) (u : Val) (hk : Sl valRd (fun _ => True) W' kv [u]) => lookup_any S1 S2 (fun _ => True) s _ _ l r.table kv [u] W' (hs2.below h') (hl2.below h') hk hkl)
  obtain ⟨p3, k3, p4, k4, hcs, _⟩ := IsVal.cells (show IsVal S W cs v from hr)
  simp only [vcs] at hcs
  subst hcs
  obtain ⟨res, hres⟩ : ∃ b, refP s l r v = b := ⟨_, rfl⟩
  rw [hres]
  have hR : res = (match getF v r.column with | some u => (lookF s l r.table [u]).isSome | none => false) := hres.symm
  show Calls Tryz.prog 53 #[.agg #[.int .i64 v.kind, .int .i64 v.n, .string ⟨v.s.toArray⟩, .slice p3 v.names.length k3, .slice p4 v.kids.length k4], .pointer (some ⟨A, 0, none⟩), .pointer (some ⟨B, 0, none⟩), .pointer (some ⟨C, 0, none⟩)] W (fun e w' => e = .returned (.bool res) ∧ Below W.heap.size W w')
  clear hres hs hl hs2 hl2 hb hr hA0 hA1 hB0 hB1 hC hu ht hkl
  unfold sv at *
  cases hg : getF v r.column with
  | none =>
    rw [hg] at HG hR
    have HR := Lib.hid (show res = false from hR)
    clear hR hg
    go_enter Tryz.func53, Tryz.ntmps53
    go_wp2_with fail
    refine (HG.out _ (bal1 _ _)).mono ?_
    rintro e w1 ⟨cs', rfl, hv1, hb1⟩
    have HB1 := Lib.hid ((bal1 W _).thn hb1)
    obtain ⟨q3, l3, q4, l4, hcs, _⟩ := IsVal.cells hv1
    simp only [vcs, Option.getD_none] at hcs
    subst hcs
    clear hv1 hb1
    go_wp2_with fail
    go_ret
    rw [HR.out]
    exact ⟨rfl, HB1.out.alloc (by have := HB1.out.size; omega) _⟩
  | some u =>
    rw [hg] at HG hR
    have HR := Lib.hid (show res = (lookF s l r.table [u]).isSome from hR)
    clear hR hg
    go_enter Tryz.func53, Tryz.ntmps53
    go_wp2_with fail
    refine (HG.out _ (bal1 _ _)).mono ?_
    rintro e w1 ⟨cs', rfl, hv1, hb1⟩
    have hb1' := (bal1 W _).thn hb1
    obtain ⟨q3, l3, q4, l4, hcs, _⟩ := IsVal.cells hv1
    simp only [vcs, Option.getD_some] at hcs
    subst hcs
    have a1' := (hb1'.cell (p := ⟨A, 1, none⟩) (World.block_lt_of_cell? _ _ a1)).trans a1
    have b0' := (hb1'.cell (p := ⟨B, 0, none⟩) (World.block_lt_of_cell? _ _ b0)).trans b0
    have b1' := (hb1'.cell (p := ⟨B, 1, none⟩) (World.block_lt_of_cell? _ _ b1)).trans b1
    have c0' := (hb1'.cell (p := ⟨C, 0, none⟩) (World.block_lt_of_cell? _ _ c0)).trans c0
    have HV1 := Lib.hid hv1; have HB1 := Lib.hid hb1'
    have hAl1 : A < w1.heap.size := World.block_lt_of_cell? _ _ a1'
    have hBl1 : B < w1.heap.size := World.block_lt_of_cell? _ _ b0'
    have hCl1 : C < w1.heap.size := World.block_lt_of_cell? _ _ c0'
    clear a0 a1 b0 b1 c0 hb1 hb1' hv1 hAl hBl hCl
    go_wp2_with fail
    refine (HLk.out _ (HB1.out.thn (bal2 _ _ _)) _ u (sl_single HV1.out (bal2 _ _ _) (heap_alloc2_new _ _ _))).mono ?_
    rintro e w4 ⟨cs', rfl, hv4, hb4⟩
    obtain ⟨q3, l3, q4, l4, hcs, _⟩ := IsVal.cells hv4
    simp only [vcs] at hcs
    subst hcs
    have HB4 := Lib.hid (HB1.out.thn ((bal2 w1 _ _).thn hb4))
    clear hv4 hb4
    go_wp2_with fail
    go_ret
    rw [HR.out]
    exact ⟨rfl, HB4.out⟩
end Go.Proofs.YthkkmklnapkgaaaGreatDoor

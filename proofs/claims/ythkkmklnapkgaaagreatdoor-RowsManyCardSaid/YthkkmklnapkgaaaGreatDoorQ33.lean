import Derived.Test.YthkkmklnapkgaaaGreatDoorQ31
import Derived.Test.YthkkmklnapkgaaaGreatDoorQ32
import Derived.Deep.QuietTactic
import Derived.BigQuiet
/- rows.normal: a state has the tables of the schema, and their rows in increasing order. -/
namespace Go.Proofs.YthkkmklnapkgaaaGreatDoor
open Go.RowKit Go.Shelf Go.Lib

/-- The rows come in increasing order. -/
def incV : List Val → Bool
  | a :: b :: l => decide (cmpV a b < 0) && incV (b :: l)
  | _ => true
theorem incV_iff : ∀ (l : List Val), incV l = true ↔ ∀ (j : Nat) (x y : Val), l[j]? = some x → l[j + 1]? = some y → cmpV x y < 0
  | [] => by simp [incV]
  | [a] => by simp [incV]
  | a :: b :: l => by
    rw [incV, Bool.and_eq_true, decide_eq_true_eq, incV_iff (b :: l)]
    constructor
    · rintro ⟨h1, h2⟩ j x y hx hy
      cases j with
      | zero => simp at hx hy; subst hx; subst hy; exact h1
      | succ j => exact h2 j x y (by simpa using hx) (by simpa using hy)
    · intro h
      exact ⟨h 0 a b rfl rfl, fun j x y hx hy => h (j + 1) x y (by simpa using hx) (by simpa using hy)⟩
theorem incV_not {l : List Val} {j : Nat} {x y : Val} (hx : l[j]? = some x) (hy : l[j + 1]? = some y) (h : ¬ cmpV x y < 0) : incV l = false := by
  rw [← Bool.not_eq_true, incV_iff]
  exact fun g => h (g j x y hx hy)

set_option maxRecDepth 100000 in
set_option maxHeartbeats 1000000 in
theorem norm1_any (S0 S1 : Nat → Prop) (t : Tbl) (ct : List Value) (r : Rel) (cr : List Value) (w : World) (ht : tblRd.R S0 w ct t) (hr : relRd.R S1 w cr r) :
    Calls Tryz.prog 42 #[.agg ct.toArray, .agg cr.toArray] w fun e w' => e = .returned (.bool (incV r.rows && decide (t.name = r.table))) ∧ Below w.heap.size w w' := by
  obtain ⟨cp9, cc9, kp9, kc9, rp9, rc9, k9, s19, n9, s29, p19, n19, c19, p29, n29, c29, p39, n39, c39, a9, z9, hcs, _⟩ := tbl_cells ht
  simp only [tcs] at hcs
  subst hcs
  obtain ⟨rv, rfl, _, hrv0⟩ := hr
  have hrv : Sl valRd (fun b => b < w.heap.size) w rv r.rows := hrv0.mono (fun b hb _ => hb)
  obtain ⟨rp, rc, rfl, hl⟩ := hrv.len
  have hC : ∀ (W : World) (x y : Val) (cx cy : List Value), Below w.heap.size w W → IsVal (fun b => b < w.heap.size) W cx x → IsVal (fun b => b < w.heap.size) W cy y → ∀ n os, Calls Tryz.prog 37 #[.agg cx.toArray, .agg cy.toArray] (Sort.grow (W.drewN n) os) fun e w' => e = .returned (.int .i64 (cmpV x y)) ∧ ∃ q os', w' = Sort.grow ((Sort.grow (W.drewN n) os).drewN q) os' :=
    fun W x y cx cy _ hx hy n os => cmp_any _ x y cx cy _ (hx.move (.of_below (gr_grow W n os).bl) (fun _ _ h => h)) (hy.move (.of_below (gr_grow W n os).bl) (fun _ _ h => h))
  have HC := Lib.hid hC; have HV := Lib.hid hrv
  clear ht hrv0 hC hrv
  obtain ⟨n, hn⟩ : ∃ n, r.rows.length = n := ⟨_, rfl⟩
  rw [hn] at HV hl ⊢
  have HN := Lib.hid hn
  clear hn
  obtain ⟨tb, htb⟩ : ∃ b, decide (t.name = r.table) = b := ⟨_, rfl⟩
  rw [htb]
  have htb' : (t.name == r.table) = tb := by rw [← htb]; by_cases h : t.name = r.table <;> simp [h]
  have HTB := Lib.hid htb'
  clear htb htb'
  obtain ⟨res, hres⟩ : ∃ b, incV r.rows = b := ⟨_, rfl⟩
  rw [hres]
  have HR := Lib.hid hres
  clear hres
  unfold sv
  have mixed : (Tryz.prog).follows .mixedOrders = true := by kernel_rfl
  go_enter Tryz.func42, Tryz.ntmps42
  go_wp2_with fail
  generalize hW1 : (w.alloc _).alloc _ = W1
  have hb1 : Below w.heap.size w W1 := by rw [← hW1]; exact bal2 _ _ _
  have hT1 : W1.heap[w.heap.size]? = some (.cells #[.string ⟨t.name.toArray⟩, .slice cp9 t.columns.length cc9, .slice kp9 t.key.length kc9, .slice rp9 t.refs.length rc9, .int .i64 k9, .string s19, .int .i64 n9, .string s29, .slice p19 n19 c19, .slice p29 n29 c29, .slice p39 n39 c39, .int .i64 a9, .int .i64 z9] 59 (0, 0)) := by rw [← hW1]; exact heap_alloc2_old _ _ _
  have hX1 : W1.heap[w.heap.size + 1]? = some (.cells #[.string ⟨r.table.toArray⟩, .slice rp n rc] 31 (0, 0)) := by rw [← hW1]; exact heap_alloc2_new _ _ _
  have HB1 := Lib.hid hb1; have HT1 := Lib.hid hT1; have HX1 := Lib.hid hX1
  clear hW1 hb1 hT1 hX1
  go_loopw [5, 9] (fun _ i wr => ∃ k : Nat, k ≤ n ∧ i = .int .i64 k ∧ Gr W1 wr ∧ Aside (∀ (j : Nat) (x y : Val), j + 1 < k → r.rows[j]? = some x → r.rows[j + 1]? = some y → cmpV x y < 0)) (fun _ i _ => n - (intOf i).toNat)
  case atStart => exact ⟨0, Nat.zero_le _, rfl, Gr.refl _, fun j x y hj => absurd hj (Nat.not_lt_zero _)⟩
  case round =>
    obtain ⟨k, hkn, rfl, hG, hI⟩ := hrel
    have hsz := World.block_lt_some HX1.out
    have hXr := (hG.bl.block _ hsz).trans HX1.out
    have hXb := World.block_lt_some hXr
    have hTr := (hG.bl.block _ (World.block_lt_some HT1.out)).trans HT1.out
    have x0 := cell_of_row _ _ 0 _ _ _ hXr; have x1 := cell_of_row _ _ 1 _ _ _ hXr; have t0 := cell_of_row _ _ 0 _ _ _ hTr
    simp only [List.getElem?_toArray, List.getElem?_cons_zero, List.getElem?_cons_succ] at x0 x1 t0
    have HG := Lib.hid hG; have HI := Lib.hid hI.out
    have HBw := Lib.hid (HB1.out.trans (hG.bl.mono HB1.out.size))
    clear hG hI hXr hTr
    by_cases hlt : k < n
    · have hi1 : (0 : Int) ≤ (k : Int) := by omega
      have hi2 : (k : Int) < (n : Int) := by omega
      by_cases hk0 : k = 0
      · have hd : decide ((k : Int) > 0) = false := by simp; omega
        have hd1 : decide ((0 : Int) < (k : Int)) = false := by simp; omega
        have hd2 : decide (0 < k) = false := by simp; omega
        have HK0 := Lib.hid hk0
        clear hk0
        go_wp2_with fail
        go_quiet (fail)
        go_wp2_with fail
        go_roundw
        case measure => simp [intOf]; omega
        case rel => exact ⟨k + 1, by omega, by go_num, HG.out.thn ⟨_, #[], by rw [Sort.grow_empty]⟩, (show Aside _ from fun j x y hj => absurd hj (by have := HK0.out; omega))⟩
      · obtain ⟨j, rfl⟩ : ∃ j, k = j + 1 := ⟨k - 1, by omega⟩
        clear hk0
        obtain ⟨x, hx⟩ : ∃ x, r.rows[j]? = some x := ⟨_, List.getElem?_eq_getElem (by rw [HN.out]; omega)⟩
        obtain ⟨y, hy⟩ : ∃ y, r.rows[j + 1]? = some y := ⟨_, List.getElem?_eq_getElem (by rw [HN.out]; omega)⟩
        obtain ⟨xb, xoff, p3, k3, p4, k4, rfl, hxb, hvx, d0, d1, d2, d3, d4⟩ := (HV.out.below HBw.out).val hx
        obtain ⟨yb, yoff, q3, l3, q4, l4, he, hyb, hvy, e0, e1, e2, e3, e4⟩ := (HV.out.below HBw.out).val hy
        obtain ⟨rfl, rfl, -⟩ : xb = yb ∧ xoff = yoff ∧ True := by simpa using he
        have hcg := HC.out wr x y _ _ HBw.out hvx hvy
        have D0 := cellG hxb d0; have D1 := cellG hxb d1; have D2 := cellG hxb d2; have D3 := cellG hxb d3; have D4 := cellG hxb d4
        have E0 := cellG hxb e0; have E1 := cellG hxb e1; have E2 := cellG hxb e2; have E3 := cellG hxb e3; have E4 := cellG hxb e4
        have X1 := cellG hXb x1
        have hj1 : IntKind.i64.wrap (j : Int) = (j : Int) := by rw [IntKind.wrap_i64]; omega
        have hj2 : (j : Int) < (n : Int) := by omega
        have hj3 : (0 : Int) < (j : Int) + 1 := by omega
        have hj4 : (0 : Int) ≤ (j : Int) + 1 := by omega
        have hj5 : (j : Int) + 1 < (n : Int) := by omega
        have hj6 : (0 : Int) ≤ (j : Int) := by omega
        have hj7 : ((j : Int) + 1).toNat = j + 1 := by omega
        have HX := Lib.hid hx; have HY := Lib.hid hy
        unfold vcs at hcg
        generalize hcc : cmpV x y = c at hcg
        have HCC := Lib.hid hcc
        clear hx hy he hvx hvy hyb d0 d1 d2 d3 d4 e0 e1 e2 e3 e4 hcc hi1 hi2
        by_cases hneg : c < 0
        · have hq : decide (0 ≤ c) = false := by simpa using hneg
          go_wp2_with fail
          go_quiet_grown (first | (go_at_call 37; refine Calls.grown_of (hcg _ _)))
          go_wp2_with fail
          go_roundw
          case measure => simp [intOf]; omega
          case rel =>
            refine ⟨j + 1 + 1, by omega, by go_num, HG.out.thn (gr_grow _ _ _), (show Aside _ from fun i u v hi hu hv => ?_)⟩
            by_cases e : i = j
            · subst e
              have h1 := HX.out; have h2 := HY.out
              rw [hu] at h1; rw [hv] at h2
              cases h1; cases h2
              rw [HCC.out]; exact hneg
            · exact HI.out i u v (by omega) hu hv
        · have hq : decide (0 ≤ c) = true := by simp; omega
          have hres : res = false := by rw [← HR.out]; exact incV_not HX.out HY.out (by rw [HCC.out]; exact hneg)
          subst hres
          go_wp2_with fail
          go_quiet_grown (first | (go_at_call 37; refine Calls.grown_of (hcg _ _)))
          go_wp2_with fail
          go_ret
          exact ⟨by simp, HBw.out.thn (gr_grow _ _ _).bl⟩
    · have hkn' : k = n := by omega
      subst hkn'
      have hres : res = true := by
        rw [← HR.out, incV_iff]
        exact fun j x y hx hy => HI.out j x y (by have := (List.getElem?_eq_some_iff.1 hy).1; have := HN.out; omega) hx hy
      subst hres
      go_wp2_with fail
      go_ret
      refine ⟨?_, HBw.out⟩
      rw [Bool.true_and, ← HTB.out]
      rfl

/-- A state is normal. -/
def normF (s : Sc) (l : List Rel) : Bool := eqL (fun (t : Tbl) (r : Rel) => incV r.rows && decide (t.name = r.table)) s.tables l

theorem normal_any (S0 S1 : Nat → Prop) (s : Sc) (cs : List Value) (lv : Value) (l : List Rel) (w : World) (hs : IsSc S0 w cs s) (hl : Sl relRd S1 w lv l) :
    Calls Tryz.prog 16 #[.agg cs.toArray, lv] w fun e w' => e = .returned (.bool (normF s l)) ∧ Below w.heap.size w w' := by
  obtain ⟨uv, tv, rfl, hu, ht⟩ := hs
  have HE := Lib.hid (fun W (hb : Below w.heap.size w W) => eqFTblRel 42 #[] (enters_of Tryz.func42 (by kernel_rfl) rfl) (fun _ => True) tv lv s.tables l W ((ht.mono (fun _ _ _ => trivial)).below hb) ((hl.mono (fun _ _ _ => trivial)).below hb) (fun t r => incV r.rows && decide (t.name = r.table))
    (fun W' x y cx cy _ _ _ hx hy => norm1_any _ _ x cx y cy W' hx hy))
  obtain ⟨up, uc, rfl, _⟩ := hu.len
  obtain ⟨tp, tc, rfl, _⟩ := ht.len
  obtain ⟨lp, lc, rfl, _⟩ := hl.len
  unfold normF
  generalize eqL _ s.tables l = r at HE ⊢
  clear hu ht hl
  go_enter Tryz.func16, Tryz.ntmps16
  go_wp2_with (go_at_call 41; refine (HE.out _ (bal1 _ _)).mono ?_; rintro e w' ⟨rfl, hw⟩)
  go_ret
  exact ⟨rfl, (bal1 _ _).thn hw⟩
end Go.Proofs.YthkkmklnapkgaaaGreatDoor

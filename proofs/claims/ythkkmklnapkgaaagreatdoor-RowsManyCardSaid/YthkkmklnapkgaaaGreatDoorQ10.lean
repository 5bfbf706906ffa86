import Derived.Test.YthkkmklnapkgaaaGreatDoorQ09
import Derived.IntWalk
import Derived.Deep.QuietTactic
import Derived.BigQuiet
/- Small functions of rows, values, schema, ref01. -/
namespace Go.Proofs.YthkkmklnapkgaaaGreatDoor
open Go.RowKit Go.Shelf Go.Lib

theorem eqv_beq (a b : Val) : (cmpV a b == 0) = eqv a b := by rw [← eqv_cmp]; rfl
/-- The contract of values.Compare at two aggregates. -/
theorem cmp_any (S : Nat → Prop) (a b : Val) (ca cb : List Value) (w : World) (ha : IsVal S w ca a) (hb : IsVal S w cb b) :
    Calls Tryz.prog 37 #[.agg ca.toArray, .agg cb.toArray] w fun e w' => e = .returned (.int .i64 (cmpV a b)) ∧ Gr w w' := cmpAt a b S ca cb w ha hb

theorem same_any (S : Nat → Prop) (a b : Val) (ca cb : List Value) (w : World) (ha : IsVal S w ca a) (hb : IsVal S w cb b) :
    Calls Tryz.prog 63 #[.agg ca.toArray, .agg cb.toArray] w fun e w' => e = .returned (.bool (eqv a b)) ∧ Below w.heap.size w w' := by
  rw [← eqv_beq]
  have HC := Lib.hid (fun W (h : Below w.heap.size w W) => cmp_any S a b ca cb W (ha.move (.of_below h) (fun _ _ h => h)) (hb.move (.of_below h) (fun _ _ h => h)))
  obtain ⟨p3, k3, p4, k4, hca, _⟩ := IsVal.cells ha
  obtain ⟨q3, l3, q4, l4, hcb, _⟩ := IsVal.cells hb
  simp only [vcs] at hca hcb
  subst hca; subst hcb
  clear ha hb
  generalize cmpV a b = c at HC ⊢
  go_enter Tryz.func63, Tryz.ntmps63
  go_wp2_with (go_at_call 37; refine (HC.out _ (bal2 _ _ _)).mono ?_; rintro e w' ⟨rfl, hw⟩; have HW := Lib.hid ((gal2 w _ _).thn hw); clear hw)
  go_ret
  exact ⟨rfl, HW.out.bl⟩
theorem distinct1_any (S : Nat → Prop) (a b : Val) (ca cb : List Value) (w : World) (ha : IsVal S w ca a) (hb : IsVal S w cb b) :
    Calls Tryz.prog 36 #[.agg ca.toArray, .agg cb.toArray] w fun e w' => e = .returned (.bool (eqv a b)) ∧ Below w.heap.size w w' := by
  rw [← eqv_beq]
  have HC := Lib.hid (fun W (h : Below w.heap.size w W) => cmp_any S a b ca cb W (ha.move (.of_below h) (fun _ _ h => h)) (hb.move (.of_below h) (fun _ _ h => h)))
  obtain ⟨p3, k3, p4, k4, hca, _⟩ := IsVal.cells ha
  obtain ⟨q3, l3, q4, l4, hcb, _⟩ := IsVal.cells hb
  simp only [vcs] at hca hcb
  subst hca; subst hcb
  clear ha hb
  generalize cmpV a b = c at HC ⊢
  go_enter Tryz.func36, Tryz.ntmps36
  go_wp2_with (go_at_call 37; refine (HC.out _ (bal2 _ _ _)).mono ?_; rintro e w' ⟨rfl, hw⟩; have HW := Lib.hid ((gal2 w _ _).thn hw); clear hw)
  go_ret
  exact ⟨rfl, HW.out.bl⟩
theorem sort1_any (S : Nat → Prop) (a b : Val) (ca cb : List Value) (w : World) (ha : IsVal S w ca a) (hb : IsVal S w cb b) :
    Calls Tryz.prog 40 #[.agg ca.toArray, .agg cb.toArray] w fun e w' => e = .returned (.int .i64 (cmpV a b)) ∧ Gr w w' := by
  have HC := Lib.hid (fun W (h : Below w.heap.size w W) => cmp_any S a b ca cb W (ha.move (.of_below h) (fun _ _ h => h)) (hb.move (.of_below h) (fun _ _ h => h)))
  obtain ⟨p3, k3, p4, k4, hca, _⟩ := IsVal.cells ha
  obtain ⟨q3, l3, q4, l4, hcb, _⟩ := IsVal.cells hb
  simp only [vcs] at hca hcb
  subst hca; subst hcb
  clear ha hb
  generalize cmpV a b = c at HC ⊢
  go_enter Tryz.func40, Tryz.ntmps40
  go_wp2_with (go_at_call 37; refine (HC.out _ (bal2 _ _ _)).mono ?_; rintro e w' ⟨rfl, hw⟩; have HW := Lib.hid ((gal2 w _ _).thn hw); clear hw)
  go_ret
  exact ⟨rfl, HW.out⟩

theorem IsTy.cells {S : Nat → Prop} {w : World} {cs : List Value} {x : Ty} (h : IsTy S w cs x) : ∃ k s n p3 n3 k3 p4 n4 k4, cs = [.int .i64 k, .string s, .int .i64 n, .slice p3 n3 k3, .slice p4 n4 k4] := by
  cases h with
  | mk k n s names kids nv p cap b off cs hs hn =>
    obtain ⟨p3, k3, rfl, _⟩ := hn.len
    exact ⟨_, _, _, _, _, _, _, _, _, rfl⟩
/-- schema.Row's closure: the order of names. -/
theorem row1_any (S : Nat → Prop) (a b : Col) (ca cb : List Value) (w : World) (ha : colRd.R S w ca a) (hb : colRd.R S w cb b) :
    Calls Tryz.prog 45 #[.agg ca.toArray, .agg cb.toArray] w fun e w' => e = .returned (.int .i64 (cmpB a.name b.name)) ∧ Gr w w' := by
  obtain ⟨ta, rfl, _, h1⟩ := ha
  obtain ⟨tb, rfl, _, h2⟩ := hb
  obtain ⟨_, _, _, _, _, _, _, _, _, rfl⟩ := h1.cells
  obtain ⟨_, _, _, _, _, _, _, _, _, rfl⟩ := h2.cells
  have HS := Lib.hid (fun W => cmpS_any ⟨a.name.toArray⟩ ⟨b.name.toArray⟩ W)
  rw [show cmpB (bl ⟨a.name.toArray⟩) (bl ⟨b.name.toArray⟩) = cmpB a.name b.name from rfl] at HS
  generalize cmpB a.name b.name = c at HS ⊢
  clear h1 h2
  unfold sv
  go_enter Tryz.func45, Tryz.ntmps45
  go_wp2_with (go_at_call 46; refine (HS.out _).mono ?_; rintro e w' ⟨rfl, rfl⟩)
  go_ret
  exact ⟨rfl, gal2 _ _ _⟩

/-- slices.Index at []string. -/
theorem strIdx_any (S : Nat → Prop) (v : Value) (l : List Bs) (x : Bs) (w : World) (hs : Sl strRd S w v l) :
    Calls Tryz.prog 102 #[v, sv x] w fun e w' => e = .returned (.int .i64 (idxP (fun y => decide (y = x)) l)) ∧ w = w' := by
  obtain ⟨p, cap, rfl, hl⟩ := hs.len
  have HS := Lib.hid hs
  clear hs
  obtain ⟨n, hn⟩ : ∃ n, l.length = n := ⟨_, rfl⟩
  rw [hn] at HS hl; rw [hn]
  have HN := Lib.hid hn
  clear hn
  unfold sv
  go_enter Tryz.func102, Tryz.ntmps102
  go_wp2_with fail
  go_loop [8] (fun i => ∃ k : Nat, k ≤ n ∧ i = .int .i64 k ∧ Aside (∀ (j : Nat) (y : Bs), j < k → l[j]? = some y → decide (y = x) = false)) (fun i => n - (intOf i).toNat)
  case atStart => exact ⟨0, Nat.zero_le _, rfl, fun j _ hj => absurd hj (Nat.not_lt_zero _)⟩
  case round =>
    obtain ⟨k, hk, rfl, A⟩ := hrel
    by_cases hlt : k < n
    · have hi1 : (0 : Int) ≤ (k : Int) := by omega
      have hi2 : (k : Int) < (n : Int) := by omega
      obtain ⟨y, hy⟩ : ∃ y, l[k]? = some y := ⟨_, List.getElem?_eq_getElem (by rw [HN.out]; exact hlt)⟩
      obtain ⟨b, off, rfl, hc, -⟩ := HS.out.str hy
      have HY := Lib.hid hy
      clear hy
      by_cases he : y = x
      · have hq : (x == y) = true := by rw [he]; simp
        have HE := Lib.hid he
        clear he
        go_wp2_with fail
        go_ret
        refine ⟨?_, rfl⟩
        rw [idxP_hit HY.out (by rw [HE.out]; simp) A.out]
        rfl
      · have hq : (x == y) = false := by rw [← Bool.not_eq_true, beq_iff_eq]; exact fun e => he e.symm
        have HE := Lib.hid he
        clear he
        go_wp2_with fail
        go_round
        case measure => simp [intOf]; omega
        case rel =>
          refine ⟨k + 1, by omega, by go_num, (show Aside _ from fun j z hj hz => ?_)⟩
          by_cases e : j = k
          · subst e
            have := HY.out
            rw [this] at hz
            cases hz
            simpa using HE.out
          · exact A.out j z (by omega) hz
    · have hltz : ¬ (k : Int) < (n : Int) := by omega
      have : k = n := by omega
      subst this
      go_wp2_with fail
      go_ret
      refine ⟨?_, rfl⟩
      rw [idxP_miss (fun j y hy => A.out j y (by have := (List.getElem?_eq_some_iff.1 hy).1; have := HN.out; omega) hy)]
      rfl
theorem strHas_any (S : Nat → Prop) (v : Value) (l : List Bs) (x : Bs) (w : World) (hs : Sl strRd S w v l) :
    Calls Tryz.prog 101 #[v, sv x] w fun e w' => e = .returned (.bool (l.any fun y => decide (y = x))) ∧ w = w' := by
  rw [← idxP_nonneg]
  have HI := Lib.hid (fun W => strIdx_any S v l x W)
  have HS := Lib.hid hs
  clear hs
  generalize idxP _ l = i at HI ⊢
  unfold sv at HI ⊢
  go_enter Tryz.func101, Tryz.ntmps101
  go_wp2_with (go_at_call 102; refine (HI.out _ HS.out).mono ?_; rintro e w' ⟨rfl, rfl⟩)
  go_ret
  exact ⟨rfl, rfl⟩
end Go.Proofs.YthkkmklnapkgaaaGreatDoor

/- values.field, values.Get. -/
namespace Go.Proofs.YthkkmklnapkgaaaGreatDoor
open Go.RowKit Go.Shelf Go.Lib

/-- Whether a record has the field at a place. -/
def fieldB (v : Val) (i : Int) : Bool := decide (v.kind = 4) && decide (0 ≤ i) && decide (i < v.kids.length)
/-- The place of a field. -/
def fieldI (v : Val) (x : Bs) : Int := idxP (fun y => decide (y = x)) v.names

theorem ret_ib {k : IntKind} {a b : Int} {c d : Bool} (h : a = b) (h' : c = d) : Ending.returned (.tuple #[.int k a, .bool c]) = .returned (.tuple #[.int k b, .bool d]) := by rw [h, h']
theorem below_drewN (w : World) (q : Nat) : Below w.heap.size w (w.drewN q) := ⟨rfl, rfl, rfl, Nat.le_refl _, fun _ _ => rfl⟩

set_option maxHeartbeats 1000000 in
theorem field_any (S : Nat → Prop) (v : Val) (cs : List Value) (x : Bs) (w : World) (h : IsVal S w cs v) :
    Calls Tryz.prog 87 #[.agg cs.toArray, sv x] w fun e w' => e = .returned (.tuple #[.int .i64 (fieldI v x), .bool (fieldB v (fieldI v x))]) ∧ Below w.heap.size w w' := by
  obtain ⟨p3, k3, p4, k4, hcs, hn, hk, _⟩ := IsVal.cells h
  simp only [vcs] at hcs
  subst hcs
  have HI := Lib.hid (fun W (hb : Below w.heap.size w W) => strIdx_any S _ v.names x W (hn.below hb))
  rw [show idxP (fun y => decide (y = x)) v.names = fieldI v x from rfl] at HI
  have hl : v.kids.length ≤ 1000000 := by obtain ⟨_, _, _, h⟩ := hk.len; exact h
  generalize fieldI v x = i at HI ⊢
  clear h hn hk
  unfold sv at HI ⊢
  by_cases h4 : v.kind = 4
  · have hq : (v.kind == 4) = true := by rw [h4]; rfl
    by_cases h0 : 0 ≤ i
    · by_cases hlt : i < v.kids.length
      · have hF : fieldB v i = true := by unfold fieldB; simp [h4, h0, hlt]
        have HF := Lib.hid hF
        rw [h4] at *
        clear hF hq h4
        go_enter Tryz.func87, Tryz.ntmps87
        go_wp2_with (go_at_call 102; refine (HI.out _ (bal1 _ _)).mono ?_; rintro e w' ⟨rfl, rfl⟩)
        go_quiet (fail)
        go_wp2
        go_ret2
        exact ⟨ret_ib rfl HF.out.symm, (bal1 _ _).thn (below_drewN _ _)⟩
      · have hF : fieldB v i = false := by unfold fieldB; simp [hlt]
        have HF := Lib.hid hF
        have hd : decide (i < v.kids.length) = false := by simpa using hlt
        rw [h4] at *
        clear hF hq h4 hlt
        go_enter Tryz.func87, Tryz.ntmps87
        go_wp2_with (go_at_call 102; refine (HI.out _ (bal1 _ _)).mono ?_; rintro e w' ⟨rfl, rfl⟩)
        go_quiet (fail)
        go_wp2
        go_ret2
        exact ⟨ret_ib rfl HF.out.symm, (bal1 _ _).thn (below_drewN _ _)⟩
    · have hF : fieldB v i = false := by unfold fieldB; simp [h0]
      have HF := Lib.hid hF
      have hd : decide (0 ≤ i) = false := by simpa using h0
      rw [h4] at *
      clear hF hq h4 h0
      go_enter Tryz.func87, Tryz.ntmps87
      go_wp2_with (go_at_call 102; refine (HI.out _ (bal1 _ _)).mono ?_; rintro e w' ⟨rfl, rfl⟩)
      go_quiet (fail)
      go_wp2
      go_ret2
      exact ⟨ret_ib rfl HF.out.symm, (bal1 _ _).thn (below_drewN _ _)⟩
  · have hF : fieldB v i = false := by unfold fieldB; simp [h4]
    have HF := Lib.hid hF
    have hq : (v.kind == 4) = false := by simpa using h4
    clear hF h4
    go_enter Tryz.func87, Tryz.ntmps87
    go_wp2_with (go_at_call 102; refine (HI.out _ (bal1 _ _)).mono ?_; rintro e w' ⟨rfl, rfl⟩)
    go_quiet (fail)
    go_wp2
    go_ret2
    exact ⟨ret_ib rfl HF.out.symm, (bal1 _ _).thn (below_drewN _ _)⟩

theorem getF_some {v u : Val} {x : Bs} (h : getF v x = some u) : ∃ i : Nat, fieldI v x = i ∧ v.kids[i]? = some u ∧ fieldB v (fieldI v x) = true := by
  unfold getF at h
  split at h
  · rename_i h4
    cases hn : nameAt v.names x with
    | none => rw [hn] at h; cases h
    | some i =>
      rw [hn] at h
      have hi : fieldI v x = i := by
        unfold nameAt at hn
        unfold fieldI idxP
        rw [hn]
      have hlt := (List.getElem?_eq_some_iff.1 h).1
      refine ⟨i, hi, h, ?_⟩
      rw [hi]; unfold fieldB
      simp [h4, hlt]
  · cases h
theorem getF_none {v : Val} {x : Bs} (h : getF v x = none) : fieldB v (fieldI v x) = false := by
  unfold getF at h
  unfold fieldB
  split at h
  · cases hn : nameAt v.names x with
    | none =>
      have hi : fieldI v x = -1 := by
        unfold nameAt at hn
        unfold fieldI idxP
        rw [hn]
      rw [hi]; simp
    | some i =>
      rw [hn] at h
      have hi : fieldI v x = i := by
        unfold nameAt at hn
        unfold fieldI idxP
        rw [hn]
      rw [List.getElem?_eq_none_iff] at h
      rw [hi]; simp; intro _; omega
  · rename_i h4
    simp [h4]

/-- Five cells stored into a block of five. -/
def put5 (W : World) (R : Nat) (a b c d e : Value) : World := ((((W.setCell ⟨R, 0, none⟩ a).setCell ⟨R, 1, none⟩ b).setCell ⟨R, 2, none⟩ c).setCell ⟨R, 3, none⟩ d).setCell ⟨R, 4, none⟩ e
theorem put5_heap {W : World} {R : Nat} {a b c d e x0 x1 x2 x3 x4 : Value} {t : TypeId} (h : W.heap[R]? = some (.cells #[x0, x1, x2, x3, x4] t (0, 0))) : (put5 W R a b c d e).heap[R]? = some (.cells #[a, b, c, d, e] t (0, 0)) := by
  have h0 : (W.setCell ⟨R, 0, none⟩ a).heap[R]? = some (.cells #[a, x1, x2, x3, x4] t (0, 0)) := by rw [heap_setCell_same _ _ _ _ _ _ h]; rfl
  have h1 : ((W.setCell ⟨R, 0, none⟩ a).setCell ⟨R, 1, none⟩ b).heap[R]? = some (.cells #[a, b, x2, x3, x4] t (0, 0)) := by rw [heap_setCell_same _ _ _ _ _ _ h0]; rfl
  have h2 : (((W.setCell ⟨R, 0, none⟩ a).setCell ⟨R, 1, none⟩ b).setCell ⟨R, 2, none⟩ c).heap[R]? = some (.cells #[a, b, c, x3, x4] t (0, 0)) := by rw [heap_setCell_same _ _ _ _ _ _ h1]; rfl
  have h3 : ((((W.setCell ⟨R, 0, none⟩ a).setCell ⟨R, 1, none⟩ b).setCell ⟨R, 2, none⟩ c).setCell ⟨R, 3, none⟩ d).heap[R]? = some (.cells #[a, b, c, d, x4] t (0, 0)) := by rw [heap_setCell_same _ _ _ _ _ _ h2]; rfl
  unfold put5
  rw [heap_setCell_same _ _ _ _ _ _ h3]; rfl
theorem put5_cell {W : World} {R : Nat} {a b c d e x0 x1 x2 x3 x4 : Value} {t : TypeId} (h : W.heap[R]? = some (.cells #[x0, x1, x2, x3, x4] t (0, 0))) (j : Nat) : (put5 W R a b c d e).cell? ⟨R, j, none⟩ = #[a, b, c, d, e][j]? :=
  cell_of_row _ _ _ _ _ _ (put5_heap h)
theorem put5_other {W : World} {R k : Nat} {a b c d e : Value} (h : k ≠ R) : (put5 W R a b c d e).heap[k]? = W.heap[k]? := heap_set5 h
theorem put5_below {B R : Nat} {w W : World} {a b c d e : Value} (h : Below B w W) (hR : B ≤ R) : Below B w (put5 W R a b c d e) :=
  ((((h.setCell (p := ⟨R, 0, none⟩) hR _).setCell (p := ⟨R, 1, none⟩) hR _).setCell (p := ⟨R, 2, none⟩) hR _).setCell (p := ⟨R, 3, none⟩) hR _).setCell (p := ⟨R, 4, none⟩) hR _

def GetIs (w : World) (o : Option Val) (e : Ending) (w' : World) : Prop :=
  ∃ cs', e = .returned (.tuple #[.agg cs'.toArray, .bool o.isSome]) ∧ IsVal (fun b => w.heap.size ≤ b) w' cs' (o.getD Val.zero) ∧ Below w.heap.size w w'
theorem isVal_zero (S : Nat → Prop) (w : World) : IsVal S w [.int .i64 0, .int .i64 0, .string ⟨#[]⟩, .slice none 0 0, .slice none 0 0] Val.zero :=
  isVal_mk (s := []) (by simp) (Sl.nil _ _ _) (Sl.nil _ _ _)

set_option maxHeartbeats 2000000 in
theorem get_any (S : Nat → Prop) (v : Val) (cs : List Value) (x : Bs) (w : World) (h : IsVal S w cs v) :
    Calls Tryz.prog 54 #[.agg cs.toArray, sv x] w (GetIs w (getF v x)) := by
  have HF := Lib.hid (fun W (hb : Below w.heap.size w W) => field_any S v cs x W (h.move (.of_below hb) (fun _ _ h => h)))
  obtain ⟨p3, k3, p4, k4, hcs, hn, hk, _⟩ := IsVal.cells h
  simp only [vcs] at hcs
  subst hcs
  have HK := Lib.hid hk
  clear h hn hk
  unfold sv at HF ⊢
  cases hg : getF v x with
  | none =>
    rw [getF_none hg] at HF
    clear hg
    generalize fieldI v x = i at HF
    go_enter Tryz.func54, Tryz.ntmps54
    go_wp2_with (go_at_call 87; refine (HF.out _ (bal2 _ _ _)).mono ?_; rintro e w' ⟨rfl, hw⟩; have HW := Lib.hid hw; have hz := hw.size; obtain ⟨hc, hf⟩ := bcell hw; have r0 := fun o => (hf (w.heap.size + 1) o (by simp)); clear hw)
    have hR := (HW.out.block (w.heap.size + 1) (by simp)).trans (heap_alloc2_new _ _ _)
    show bodyPost _ _ _ _ _ (put5 w' _ _ _ _ _ _)
    refine bodyPost_ret (v := .tuple #[.agg #[.int .i64 0, .int .i64 0, .string ⟨#[]⟩, .slice none 0 0, .slice none 0 0], .bool false]) (by simp [results, Tryz.results54, go_sem, put5_cell hR]) rfl ⟨_, rfl, isVal_zero _ _, ?_⟩
    exact put5_below ((bal2 w _ _).thn HW.out) (by omega)
  | some u =>
    obtain ⟨i, hi, hku, hb⟩ := getF_some hg
    rw [hb, hi] at HF
    obtain ⟨b, off, q3, l3, q4, l4, rfl, hbl, hvu, d0, d1, d2, d3, d4⟩ := HK.out.val hku
    have hlt : i < v.kids.length := (List.getElem?_eq_some_iff.1 hku).1
    have hi1 : (0 : Int) ≤ (i : Int) := by omega
    have hi2 : (i : Int) < (v.kids.length : Int) := by omega
    have hlt1 : b < w.heap.size + 1 := by omega
    have HV := Lib.hid hvu
    clear hg hi hku hb hvu
    go_enter Tryz.func54, Tryz.ntmps54
    go_wp2_with fail
    refine (HF.out _ (bal2 _ _ _)).mono ?_
    rintro e w1 ⟨rfl, hw⟩
    have HW := Lib.hid hw
    have hb1 := (bal2 w _ _).thn hw
    have hR := (hw.block (w.heap.size + 1) (by simp)).trans (heap_alloc2_new _ _ _)
    have hX := (hw.block w.heap.size (by simp; omega)).trans (heap_alloc2_old _ _ _)
    have e0 := (hb1.cell (p := ⟨b, off + i * 5, none⟩) hbl).trans d0; have e1 := (hb1.cell (p := ⟨b, off + i * 5 + 1, none⟩) hbl).trans d1; have e2 := (hb1.cell (p := ⟨b, off + i * 5 + 2, none⟩) hbl).trans d2; have e3 := (hb1.cell (p := ⟨b, off + i * 5 + 3, none⟩) hbl).trans d3; have e4 := (hb1.cell (p := ⟨b, off + i * 5 + 4, none⟩) hbl).trans d4
    have x4 := cell_of_row _ _ 4 _ _ _ hX
    simp only [List.getElem?_toArray, List.getElem?_cons_zero, List.getElem?_cons_succ] at x4
    have HB1 := Lib.hid hb1; have HR := Lib.hid hR
    clear hw hb1 hX hR d0 d1 d2 d3 d4
    go_wp2_with fail
    refine (cloneAt u _ (vcs u q3 l3 q4 l4) _ (IsVal.move HV.out (.of_below HB1.out) (fun _ _ h => h))).mono ?_
    rintro e w2 ⟨cs', rfl, hv2, hb2⟩
    obtain ⟨r3, m3, r4, m4, hcs, _⟩ := IsVal.cells hv2
    simp only [vcs] at hcs
    subst hcs
    have hR2 := (hb2.block _ (World.block_lt_some HR.out)).trans HR.out
    have f := fun j => frozen_of_row _ _ j _ _ hR2
    have y := fun j => cell_of_row _ _ j _ _ _ hR2
    have y0 := y 0; have y1 := y 1; have y2 := y 2; have y3 := y 3; have y4 := y 4
    have f0 := f 0; have f1 := f 1; have f2 := f 2; have f3 := f 3; have f4 := f 4
    simp only [List.getElem?_toArray, List.getElem?_cons_zero, List.getElem?_cons_succ] at y0 y1 y2 y3 y4
    have HB2 := Lib.hid hb2; have HV2 := Lib.hid hv2; have HR2 := Lib.hid hR2
    clear hb2 hv2 hR2 f y
    go_wp2_with fail
    show bodyPost _ _ _ _ _ (put5 w2 _ _ _ _ _ _)
    refine bodyPost_ret (v := .tuple #[.agg #[.int .i64 u.kind, .int .i64 u.n, .string ⟨u.s.toArray⟩, .slice r3 u.names.length m3, .slice r4 u.kids.length m4], .bool true]) (by simp [results, Tryz.results54, go_sem, put5_cell HR2.out]) rfl ⟨_, rfl, ?_, put5_below (HB1.out.thn HB2.out) (by omega)⟩
    have hsz := HB1.out.size
    have hlt2 := World.block_lt_some HR.out
    refine IsVal.move HV2.out (fun b hb _ => put5_other ?_) (fun b _ hb => ?_)
    · have : w1.heap.size ≤ b := hb
      omega
    · have : w1.heap.size ≤ b := hb
      show w.heap.size ≤ b
      omega
end Go.Proofs.YthkkmklnapkgaaaGreatDoor

import Derived.Test.YthkkmklnapkgaaaGreatDoorQ08
import Derived.Deep.RegionWith
import Derived.Deep.RegionHeld3
import Derived.Deep.AppendLies
import Derived.Deep.DeepCutAuto
/- values.clone copies a value into new memory. -/
namespace Go.Proofs.YthkkmklnapkgaaaGreatDoor
open Go.RowKit Go.Shelf Go.Lib

theorem bcell {W W1 : World} (hb : Below W.heap.size W W1) : (∀ b o, b < W.heap.size → W1.cell? ⟨b, o, none⟩ = W.cell? ⟨b, o, none⟩) ∧ (∀ b o, b < W.heap.size → W1.frozen? ⟨b, o, none⟩ = W.frozen? ⟨b, o, none⟩) :=
  ⟨fun b o h => hb.cell (p := ⟨b, o, none⟩) h, fun b o h => hb.frozen (p := ⟨b, o, none⟩) h⟩

/-- What values.clone leaves: the value, in new memory. -/
def CloneIs (w : World) (x : Val) (e : Ending) (w' : World) : Prop := ∃ cs', e = .returned (.agg cs'.toArray) ∧ IsVal (fun b => w.heap.size ≤ b) w' cs' x ∧ Below w.heap.size w w'
def CloneAt (x : Val) : Prop := ∀ (S : Nat → Prop) (cs : List Value) (w : World), IsVal S w cs x → Calls Tryz.prog 38 #[.agg cs.toArray] w (CloneIs w x)

theorem set_flat {n : Nat} : ∀ (css : List (List Value)) (i : Nat) (a b c d e : Value), (∀ x ∈ css, x.length = 5) → css.length = n → i < n →
    (((((css.flatten.set (i * 5) a).set (i * 5 + 1) b).set (i * 5 + 2) c).set (i * 5 + 3) d).set (i * 5 + 4) e) = (css.set i [a, b, c, d, e]).flatten := by
  intro css
  induction css generalizing n with
  | nil => intro i a b c d e _ hn hi; simp at hn; omega
  | cons x css ih =>
    intro i a b c d e hx hn hi
    have h5 := hx x (by simp)
    cases i with
    | zero =>
      match x, h5 with
      | [x0, x1, x2, x3, x4], _ => simp
    | succ i =>
      have := ih (n := css.length) i a b c d e (fun y hy => hx y (by simp [hy])) rfl (by simp at hn; omega)
      simp only [List.flatten_cons, List.set_cons_succ]
      rw [← this]
      have e1 : (i + 1) * 5 = x.length + i * 5 := by rw [h5]; omega
      simp only [e1, Nat.add_assoc]
      simp only [List.set_append_right _ _ (Nat.le_add_right _ _), Nat.add_sub_cancel_left]
theorem store5 {w : World} {B g n cap : Nat} {E : TypeId} {css : List (List Value)} (h : w.ownsRow B E 5 (.slice (some ⟨g, 0, none⟩) n cap) n css.flatten) (hl : css.length = n) (h5 : ∀ x ∈ css, x.length = 5) (i : Nat) (hi : i < n) (a b c d e : Value) :
    (((((w.setCell ⟨g, i * 5, none⟩ a).setCell ⟨g, i * 5 + 1, none⟩ b).setCell ⟨g, i * 5 + 2, none⟩ c).setCell ⟨g, i * 5 + 3, none⟩ d).setCell ⟨g, i * 5 + 4, none⟩ e).ownsRow B E 5 (.slice (some ⟨g, 0, none⟩) n cap) n (css.set i [a, b, c, d, e]).flatten := by
  rw [← set_flat css i a b c d e h5 hl hi]
  obtain ⟨h1, _⟩ := h.stored (i * 5) a
  obtain ⟨h2, _⟩ := h1.stored (i * 5 + 1) b
  obtain ⟨h3, _⟩ := h2.stored (i * 5 + 2) c
  obtain ⟨h4, _⟩ := h3.stored (i * 5 + 3) d
  exact (h4.stored (i * 5 + 4) e).1

structure CloneMid (w : World) (k n : Int) (s : Bs) (ns : List Bs) (ks : List Val) (np : Option Addr) (ncap : Nat) (kp : Option Addr) (kcap : Nat) (kcs : List (List Value)) (kk : Nat) (wx : World) : Prop where
  below : Below w.heap.size w wx
  box : wx.heap[w.heap.size]? = some (.cells #[.int .i64 k, .int .i64 n, .string ⟨s.toArray⟩, .slice np ns.length ncap, .slice kp ks.length kcap] 34 (0, 0))
  res : wx.heap[w.heap.size + 1]? = some (.cells #[.int .i64 0, .int .i64 0, .string ⟨#[]⟩, .slice none 0 0, .slice none 0 0] 34 (0, 0))
  names : Sl strRd (fun b => w.heap.size + 2 ≤ b ∧ some b ≠ (Value.slice kp ks.length kcap).ownBlock) wx (.slice np ns.length ncap) ns
  kids : ∃ news : List (List Value), news.length = kk ∧ wx.ownsRow (w.heap.size + 2) 34 5 (.slice kp ks.length kcap) ks.length (news ++ kcs.drop kk).flatten ∧
    Cs valRd (fun b => w.heap.size + 2 ≤ b ∧ some b ≠ (Value.slice kp ks.length kcap).ownBlock) wx news (ks.take kk)

theorem ownsRow_move {w w' : World} {B B' : Nat} {e : TypeId} {sz n : Nat} {v : Value} {xs : List Value} (h : w.ownsRow B e sz v n xs) (hB : B' ≤ B) (hA : ∀ b, B ≤ b → b < w.heap.size → w'.heap[b]? = w.heap[b]?) : w'.ownsRow B' e sz v n xs := by
  refine ⟨h.1, ?_⟩
  rcases h.2 with hn | ⟨g, cap, cur, rfl, hg, hh, rest⟩
  · exact .inl hn
  · exact .inr ⟨g, cap, cur, rfl, by omega, (hA g hg (Array.getElem?_eq_some_iff.1 hh).1).trans hh, rest⟩
theorem World.block_lt_some {w : World} {b : Nat} {o : Obj} (h : w.heap[b]? = some o) : b < w.heap.size := (Array.getElem?_eq_some_iff.1 h).1
theorem heap_setCell_ne {w : World} {a : Addr} {u : Value} {b : Nat} (h : b ≠ a.block) : (w.setCell a u).heap[b]? = w.heap[b]? := Below.heap_setCell _ _ _ _ h
theorem sl_str {w : World} {v : Value} {xs : List Bs} {css : List (List Value)} {E : TypeId} {S : Nat → Prop} {B B' : Nat} (h : Own strRd E S B w v xs css) (hl : xs.length ≤ 1000000) (hB : B' ≤ B) : Sl strRd (fun b => B' ≤ b) w v xs := by
  have : Own strRd E (fun _ => False) B w v xs css := ⟨h.row, ⟨h.cs.len, fun i c x hc hx => h.cs.R i c x hc hx⟩⟩
  exact this.sl hl (fun b hb => by omega) (fun b _ h => h.elim)

theorem heap_set5 {w : World} {g i0 i1 i2 i3 i4 : Nat} {a b c d e : Value} {k : Nat} (h : k ≠ g) :
    (((((w.setCell ⟨g, i0, none⟩ a).setCell ⟨g, i1, none⟩ b).setCell ⟨g, i2, none⟩ c).setCell ⟨g, i3, none⟩ d).setCell ⟨g, i4, none⟩ e).heap[k]? = w.heap[k]? := by
  rw [heap_setCell_ne h, heap_setCell_ne h, heap_setCell_ne h, heap_setCell_ne h, heap_setCell_ne h]
theorem CloneMid.next {w wr w4 : World} {k n : Int} {s : Bs} {ns : List Bs} {ks : List Val} {np : Option Addr} {ncap g kcap kk B : Nat} {kcs : List (List Value)} {x : Val} {a b c d e : Value}
    (hM : CloneMid w k n s ns ks np ncap (some ⟨g, 0, none⟩) kcap kcs kk wr) (hx : ks[kk]? = some x) (hCs : Cs valRd (fun b => b < w.heap.size) w kcs ks) (hb : Below wr.heap.size wr w4) (hB : wr.heap.size ≤ B)
    (hv : IsVal (fun b => B ≤ b) w4 [a, b, c, d, e] x) :
    CloneMid w k n s ns ks np ncap (some ⟨g, 0, none⟩) kcap kcs (kk + 1) (((((w4.setCell ⟨g, kk * 5, none⟩ a).setCell ⟨g, kk * 5 + 1, none⟩ b).setCell ⟨g, kk * 5 + 2, none⟩ c).setCell ⟨g, kk * 5 + 3, none⟩ d).setCell ⟨g, kk * 5 + 4, none⟩ e) := by
  have hkk : kk < ks.length := (List.getElem?_eq_some_iff.1 hx).1
  obtain ⟨news, hnl, hrow, hnews⟩ := hM.kids
  have hg := hrow.lt g rfl
  have hG : w.heap.size ≤ g := by omega
  have hown : (Value.slice (some ⟨g, 0, none⟩) ks.length kcap).ownBlock = some g := rfl
  have hall : ∀ y ∈ news ++ kcs.drop kk, y.length = 5 := by
    intro y hy
    rcases List.mem_append.1 hy with h | h
    · exact hnews.all y h
    · exact hCs.all y (List.mem_of_mem_drop h)
  have hlen : (news ++ kcs.drop kk).length = ks.length := by rw [List.length_append, List.length_drop, hCs.len]; omega
  have hset : (news ++ kcs.drop kk).set kk [a, b, c, d, e] = (news ++ [[a, b, c, d, e]]) ++ kcs.drop (kk + 1) := by
    have hd : kcs.drop kk = (kcs[kk]'(by rw [hCs.len]; exact hkk)) :: kcs.drop (kk + 1) := List.drop_eq_getElem_cons (by rw [hCs.len]; exact hkk)
    rw [hd, List.set_append_right _ _ (by omega), hnl, Nat.sub_self, List.set_cons_zero, List.append_assoc]; rfl
  refine ⟨?_, ?_, ?_, ?_, ⟨news ++ [[a, b, c, d, e]], by simp [hnl], ?_, ?_⟩⟩
  · exact (((((hM.below.thn hb).setCell (p := ⟨g, _, none⟩) hG _).setCell (p := ⟨g, _, none⟩) hG _).setCell (p := ⟨g, _, none⟩) hG _).setCell (p := ⟨g, _, none⟩) hG _).setCell (p := ⟨g, _, none⟩) hG _
  · rw [heap_set5 (by omega), hb.block _ (World.block_lt_some hM.box)]; exact hM.box
  · rw [heap_set5 (by omega), hb.block _ (World.block_lt_some hM.res)]; exact hM.res
  · refine hM.names.frame (fun b hS hlt => ?_)
    rw [heap_set5 (fun e => hS.2 (by rw [e]; rfl)), hb.block _ hlt]
  · rw [← hset]
    exact store5 (ownsRow_move hrow (Nat.le_refl _) (fun b _ hlt => hb.block b hlt)) hlen hall kk hkk a b c d e
  · rw [List.take_succ_eq_append_getElem hkk]
    rw [List.getElem?_eq_getElem hkk] at hx
    obtain rfl := Option.some.inj hx
    refine (hnews.move (fun b hS hlt => ?_) (fun _ _ h => h)).app (Cs.one ?_)
    · rw [heap_set5 (fun e => hS.2 (by rw [e]; rfl)), hb.block _ hlt]
    · obtain ⟨hg1, hg2⟩ := hg
      refine IsVal.move hv (fun b hS hlt => ?_) (fun b hlt hS => ?_)
      · have hS' : B ≤ b := hS
        exact heap_set5 (by omega)
      · have hS' : B ≤ b := hS
        refine ⟨by omega, fun e => ?_⟩
        have : b = g := Option.some.inj e
        omega

set_option maxRecDepth 100000 in
set_option maxHeartbeats 4000000 in
theorem cloneAt_of (k n : Int) (s : Bs) (ns : List Bs) (ks : List Val) (ih : ∀ x ∈ ks, CloneAt x) : CloneAt (.mk k n s ns ks) := by
  intro S0 cs w hx0
  have hx : IsVal (fun b => b < w.heap.size) w cs (.mk k n s ns ks) := hx0.move (.refl _ _) (fun b hb _ => hb)
  clear hx0
  obtain ⟨nv, kv, rfl, hs, hn, hk⟩ := isVal_iff.1 hx
  have hln : ns.length ≤ 1000000 := by obtain ⟨_, _, _, h⟩ := hn.len; exact h
  have hlk : ks.length ≤ 1000000 := by obtain ⟨_, _, _, h⟩ := hk.len; exact h
  have HN := Lib.hid hn; have HK := Lib.hid hk; have HI := Lib.hid ih
  clear hx hn hk ih
  unfold sv
  go_enter Tryz.func38, Tryz.ntmps38
  go_upto_region 1 with fail
  go_cut [12] (fun _ wx => ∃ np ncap kp kcap kcs, CloneMid w k n s ns ks np ncap kp kcap kcs 0 wx ∧ Cs valRd (fun b => b < w.heap.size) w kcs ks)
  case first =>
    go_region_with (first | (go_at_call 69; refine (cloneStr _ nv ns _ (HN.out.below (by first | exact (bal2 _ _ _).drew | exact (bal2 _ _ _).drew.thn HB1.out | exact (bal2 _ _ _).drew.thn HB2.out))).mono ?_; rintro e w1 ⟨np, ncap, ncs, rfl, ho1, hb1⟩; obtain ⟨hc1, hf1⟩ := bcell hb1; have hz1 := hb1.size; have HB1 := Lib.hid hb1; have HO1 := Lib.hid ho1; clear hb1 ho1; (try simp at hz1); have hg1 : w.heap.size < w1.heap.size := (by omega); have hk1 : w.heap.size + 1 < w1.heap.size := (by omega); have c13 : w1.cell? ⟨w.heap.size, 3, none⟩ = some nv := (by first | (rw [hc1 _ _ (by simp; omega)]; simp) | (rw [hc1 _ _ (by assumption)]; assumption)); have f13 : w1.frozen? ⟨w.heap.size, 3, none⟩ = false := (by first | (rw [hf1 _ _ (by simp; omega)]; simp) | (rw [hf1 _ _ (by assumption)]; assumption)); have c14 : w1.cell? ⟨w.heap.size, 4, none⟩ = some kv := (by first | (rw [hc1 _ _ (by simp; omega)]; simp) | (rw [hc1 _ _ (by assumption)]; assumption)); have f14 : w1.frozen? ⟨w.heap.size, 4, none⟩ = false := (by first | (rw [hf1 _ _ (by simp; omega)]; simp) | (rw [hf1 _ _ (by assumption)]; assumption)); clear hc1 hf1) | (go_at_call 70; refine (cloneVal _ kv ks _ (HK.out.below (by first | exact (bal2 _ _ _).drew | exact (bal2 _ _ _).drew.thn HB1.out | exact (bal2 _ _ _).drew.thn HB2.out))).mono ?_; rintro e w2 ⟨kp, kcap, kcs, rfl, ho2, hb2⟩; obtain ⟨hc2, hf2⟩ := bcell hb2; have hz2 := hb2.size; have HB2 := Lib.hid hb2; have HO2 := Lib.hid ho2; clear hb2 ho2; (try simp only [World.size_drew, World.size_alloc] at hz2); have hg2 : w.heap.size < w2.heap.size := (by omega); have hk2 : w.heap.size + 1 < w2.heap.size := (by omega); have c23 : w2.cell? ⟨w.heap.size, 3, none⟩ = some nv := (by first | (rw [hc2 _ _ (by simp; omega)]; simp) | (rw [hc2 _ _ (by assumption)]; assumption)); have f23 : w2.frozen? ⟨w.heap.size, 3, none⟩ = false := (by first | (rw [hf2 _ _ (by simp; omega)]; simp) | (rw [hf2 _ _ (by assumption)]; assumption)); have c24 : w2.cell? ⟨w.heap.size, 4, none⟩ = some kv := (by first | (rw [hc2 _ _ (by simp; omega)]; simp) | (rw [hc2 _ _ (by assumption)]; assumption)); have f24 : w2.frozen? ⟨w.heap.size, 4, none⟩ = false := (by first | (rw [hf2 _ _ (by simp; omega)]; simp) | (rw [hf2 _ _ (by assumption)]; assumption)); clear hc2 hf2))
    all_goals
      go_wp2_with fail
      go_meet
      have b1 := HB1.out
      have b2 := HB2.out
      have hG1 := b1.block w.heap.size (by simp; omega)
      have hG1' := b1.block (w.heap.size + 1) (by simp)
      rw [heap_drew, heap_alloc2_old] at hG1
      rw [heap_drew, heap_alloc2_new] at hG1'
      have hG2 := (b2.block _ hg1).trans hG1
      have hG2' := (b2.block _ hk1).trans hG1'
      have hbw : Below w.heap.size w w2 := (bal2 _ _ _).drew.thn (b1.thn b2)
      refine ⟨np, ncap, kp, kcap, kcs, ⟨(hbw.setCell (p := ⟨w.heap.size, 3, none⟩) (Nat.le_refl _) _).setCell (p := ⟨w.heap.size, 4, none⟩) (Nat.le_refl _) _, ?_, ?_, ?_, ⟨[], rfl, ?_, ⟨rfl, fun i c x hc => by simp at hc⟩⟩⟩, ?_⟩
      · exact heap_setCell_same _ _ _ _ _ _ (heap_setCell_same _ _ _ _ _ _ hG2)
      · rw [heap_setCell_ne (by simp), heap_setCell_ne (by simp)]; exact hG2'
      · refine ((sl_str HO1.out hln (by simp)).mono (S' := fun b => w.heap.size + 2 ≤ b ∧ some b ≠ (Value.slice kp ks.length kcap).ownBlock) (fun b hb h => ⟨h, fun e => ?_⟩)).frame (fun b hb hlt => ?_)
        · have := (HO2.out.row.lt b e.symm).1
          omega
        · rw [heap_setCell_ne (by show b ≠ w.heap.size; omega), heap_setCell_ne (by show b ≠ w.heap.size; omega)]
          exact b2.block b hlt
      · refine ownsRow_move HO2.out.row (by omega) (fun b hb hlt => ?_)
        rw [heap_setCell_ne (by show b ≠ w.heap.size; omega), heap_setCell_ne (by show b ≠ w.heap.size; omega)]
      · exact (HO2.out.cs.move (S' := fun b => b < w.heap.size) (.refl _ _) (fun b _ h => h.1)).move (fun b hb _ => (hbw.block b hb).symm) (fun b _ h => h)
  case rest =>
    obtain ⟨np, ncap, kp, kcap, kcs, hM, hCs⟩ := hcut
    have HC := Lib.hid hCs; have HM := Lib.hid hM
    have c0 := cell_of_row _ _ 0 _ _ _ hM.box; have c1 := cell_of_row _ _ 1 _ _ _ hM.box; have c2 := cell_of_row _ _ 2 _ _ _ hM.box; have c3 := cell_of_row _ _ 3 _ _ _ hM.box; have c4 := cell_of_row _ _ 4 _ _ _ hM.box
    simp only [List.getElem?_toArray, List.getElem?_cons_zero, List.getElem?_cons_succ] at c0 c1 c2 c3 c4
    clear hCs hM
    go_wp2_with fail
    go_loopw [16] (fun i wr => ∃ kk : Nat, kk ≤ ks.length ∧ i = .int .i64 kk ∧ CloneMid w k n s ns ks np ncap kp kcap kcs kk wr) (fun i _ => ks.length - (intOf i).toNat)
    case atStart => exact ⟨0, Nat.zero_le _, rfl, HM.out⟩
    case round =>
      obtain ⟨kk, hkk, rfl, hM⟩ := hrel
      have c0 := cell_of_row _ _ 0 _ _ _ hM.box; have c1 := cell_of_row _ _ 1 _ _ _ hM.box; have c2 := cell_of_row _ _ 2 _ _ _ hM.box; have c3 := cell_of_row _ _ 3 _ _ _ hM.box; have c4 := cell_of_row _ _ 4 _ _ _ hM.box
      have r0 := cell_of_row _ _ 0 _ _ _ hM.res; have r1 := cell_of_row _ _ 1 _ _ _ hM.res; have r2 := cell_of_row _ _ 2 _ _ _ hM.res; have r3 := cell_of_row _ _ 3 _ _ _ hM.res; have r4 := cell_of_row _ _ 4 _ _ _ hM.res
      have fr := fun j => frozen_of_row _ _ j _ _ hM.res
      have hlt1 := (Array.getElem?_eq_some_iff.1 hM.res).1
      simp only [List.getElem?_toArray, List.getElem?_cons_zero, List.getElem?_cons_succ] at c0 c1 c2 c3 c4 r0 r1 r2 r3 r4
      have HM1 := Lib.hid hM
      by_cases hlt : kk < ks.length
      · obtain ⟨x, hx⟩ : ∃ x, ks[kk]? = some x := ⟨_, List.getElem?_eq_getElem hlt⟩
        obtain ⟨news, hnl, hrow, hnews⟩ := hM.kids
        obtain ⟨g, cap, hkp, hgB, hgs⟩ := hrow.form (by omega)
        simp only [Value.slice.injEq] at hkp
        obtain ⟨rfl, -, rfl⟩ := hkp
        obtain ⟨oc, hoc⟩ : ∃ oc, kcs[kk]? = some oc := ⟨_, List.getElem?_eq_getElem (by rw [HC.out.len]; exact hlt)⟩
        have hvx := HC.out.R kk oc x hoc hx
        obtain ⟨p3, k3, p4, k4, rfl, _⟩ := IsVal.cells (show IsVal _ w oc x from hvx)
        have hall : ∀ y ∈ news ++ kcs.drop kk, y.length = 5 := by
          intro y hy
          rcases List.mem_append.1 hy with h | h
          · exact hnews.all y h
          · exact HC.out.all y (List.mem_of_mem_drop h)
        have hat : (news ++ kcs.drop kk)[kk]? = some (vcs x p3 k3 p4 k4) := by
          rw [List.getElem?_append_right (by omega), List.getElem?_drop, hnl, Nat.sub_self, Nat.add_zero]; exact hoc
        have hcell : ∀ (j : Nat) u, (vcs x p3 k3 p4 k4)[j]? = some u → wr.cell? ⟨g, kk * 5 + j, none⟩ = some u := by
          intro j u hu
          have h5 : j < 5 := (List.getElem?_eq_some_iff.1 hu).1
          rw [hrow.cellAt _ (by omega)]
          exact flat_get hall hat hu
        have d0 := hcell 0 _ rfl; have d1 := hcell 1 _ rfl; have d2 := hcell 2 _ rfl; have d3 := hcell 3 _ rfl; have d4 := hcell 4 _ rfl
        rw [Nat.add_zero] at d0
        have fz := fun j => hrow.frozenAt j
        have hi1 : (0 : Int) ≤ (kk : Int) := by omega
        have hi2 : (kk : Int) < (ks.length : Int) := by omega
        have hne1 : w.heap.size ≠ wr.heap.size := by omega
        have hne2 : w.heap.size + 1 ≠ wr.heap.size := by omega
        have hne3 : g ≠ wr.heap.size := by omega
        have HX := Lib.hid hx; have HV := Lib.hid hvx; have HA := Lib.hid hall; have HAt := Lib.hid hat; have HR := Lib.hid hrow; have HN2 := Lib.hid hnews; have HL := Lib.hid hnl; have HFz := Lib.hid fz; have HFr := Lib.hid fr
        clear hx hvx hall hat hrow hnews hnl hcell hoc hM fz fr r0 r1 r2 r3 r4 c0 c1 c2 c3
        go_upto_region 5 with fail
        obtain ⟨W5, hW5⟩ : ∃ W5, wr.alloc (.cells #[.int .i64 x.kind, .int .i64 x.n, .string ⟨x.s.toArray⟩, .slice p3 x.names.length k3, .slice p4 x.kids.length k4] 34) = W5 := ⟨_, rfl⟩
        have hb5 : Below wr.heap.size wr W5 := by rw [← hW5]; exact bal1 _ _
        have hx5 : W5.heap[wr.heap.size]? = some (.cells #[.int .i64 x.kind, .int .i64 x.n, .string ⟨x.s.toArray⟩, .slice p3 x.names.length k3, .slice p4 x.kids.length k4] 34 (0, 0)) := by rw [← hW5]; exact heap_alloc_new _ _
        rw [hW5]
        have x0 := cell_of_row _ _ 0 _ _ _ hx5; have x1 := cell_of_row _ _ 1 _ _ _ hx5; have x2 := cell_of_row _ _ 2 _ _ _ hx5; have x3 := cell_of_row _ _ 3 _ _ _ hx5; have x4 := cell_of_row _ _ 4 _ _ _ hx5
        simp only [List.getElem?_toArray, List.getElem?_cons_zero, List.getElem?_cons_succ] at x0 x1 x2 x3 x4
        have c5 := (hb5.cell (p := ⟨w.heap.size, 4, none⟩) (show w.heap.size < wr.heap.size by omega)).trans c4
        have HB5 := Lib.hid hb5
        have c4' := c4
        clear hW5 hb5 hx5 c4
        go_region_with (first | (go_at_call 38; refine (HI.out x (List.mem_of_getElem? HX.out) _ (vcs x p3 k3 p4 k4) _ (IsVal.move HV.out (.of_below (HM1.out.below.thn HB5.out.drew)) (fun _ _ h => h))).mono ?_; rintro e w4 ⟨cs', rfl, hv4, hb4⟩; obtain ⟨q3, l3, q4, l4, hcs, _⟩ := IsVal.cells hv4; simp only [vcs] at hcs; subst hcs; have HB4 := Lib.hid (HB5.out.drew.thn hb4); have HV4 := Lib.hid hv4; clear hv4 hb4; have e4 := (HB4.out.cell (p := ⟨w.heap.size, 4, none⟩) (show w.heap.size < wr.heap.size by omega)).trans c4'; have g0 := (HB4.out.cell (p := ⟨g, kk * 5, none⟩) hgs).trans d0; have g1 := (HB4.out.cell (p := ⟨g, kk * 5 + 1, none⟩) hgs).trans d1; have g2 := (HB4.out.cell (p := ⟨g, kk * 5 + 2, none⟩) hgs).trans d2; have g3 := (HB4.out.cell (p := ⟨g, kk * 5 + 3, none⟩) hgs).trans d3; have g4 := (HB4.out.cell (p := ⟨g, kk * 5 + 4, none⟩) hgs).trans d4; have f0 := (HB4.out.frozen (p := ⟨g, kk * 5, none⟩) hgs).trans (HFz.out (kk * 5)); have f1 := (HB4.out.frozen (p := ⟨g, kk * 5 + 1, none⟩) hgs).trans (HFz.out (kk * 5 + 1)); have f2 := (HB4.out.frozen (p := ⟨g, kk * 5 + 2, none⟩) hgs).trans (HFz.out (kk * 5 + 2)); have f3 := (HB4.out.frozen (p := ⟨g, kk * 5 + 3, none⟩) hgs).trans (HFz.out (kk * 5 + 3)); have f4 := (HB4.out.frozen (p := ⟨g, kk * 5 + 4, none⟩) hgs).trans (HFz.out (kk * 5 + 4))))
        all_goals
          go_wp2_with fail
          go_roundw
          case measure => simp [intOf]; omega
          case rel => exact ⟨kk + 1, by omega, by go_num, HM1.out.next HX.out HC.out HB4.out (HB5.out.size) HV4.out⟩
      · obtain rfl : kk = ks.length := by omega
        have fz0 := fr 0; have fz1 := fr 1; have fz2 := fr 2; have fz3 := fr 3; have fz4 := fr 4
        clear fr
        go_wp2_with fail
        have hWF := heap_setCell_same _ _ 4 _ _ (.slice kp ks.length kcap) (heap_setCell_same _ _ 3 _ _ (.slice np ns.length ncap) (heap_setCell_same _ _ 2 _ _ (.string ⟨s.toArray⟩) (heap_setCell_same _ _ 1 _ _ (.int .i64 n) (heap_setCell_same _ _ 0 _ _ (.int .i64 k) HM1.out.res))))
        have q0 := cell_of_row _ _ 0 _ _ _ hWF; have q1 := cell_of_row _ _ 1 _ _ _ hWF; have q2 := cell_of_row _ _ 2 _ _ _ hWF; have q3 := cell_of_row _ _ 3 _ _ _ hWF; have q4 := cell_of_row _ _ 4 _ _ _ hWF
        simp only [List.setIfInBounds_toArray, List.set_cons_zero, List.set_cons_succ, List.getElem?_toArray, List.getElem?_cons_zero, List.getElem?_cons_succ] at q0 q1 q2 q3 q4
        obtain ⟨WF, hWF'⟩ : ∃ WF, (((((wr.setCell ⟨w.heap.size + 1, 0, none⟩ (.int .i64 k)).setCell ⟨w.heap.size + 1, 1, none⟩ (.int .i64 n)).setCell ⟨w.heap.size + 1, 2, none⟩ (.string ⟨s.toArray⟩)).setCell ⟨w.heap.size + 1, 3, none⟩ (.slice np ns.length ncap)).setCell ⟨w.heap.size + 1, 4, none⟩ (.slice kp ks.length kcap)) = WF := ⟨_, rfl⟩
        rw [hWF'] at q0 q1 q2 q3 q4 ⊢
        have HWF := Lib.hid hWF'
        clear hWF hWF' c0 c1 c2 c3 c4 r0 r1 r2 r3 r4 fz0 fz1 fz2 fz3 fz4
        refine bodyPost_ret (v := .agg #[.int .i64 k, .int .i64 n, .string ⟨s.toArray⟩, .slice np ns.length ncap, .slice kp ks.length kcap]) (by simp [results, Tryz.results38, go_sem, q0, q1, q2, q3, q4]) rfl ⟨[.int .i64 k, .int .i64 n, .string ⟨s.toArray⟩, .slice np ns.length ncap, .slice kp ks.length kcap], rfl, ?_, ?_⟩
        all_goals rw [← HWF.out]
        · obtain ⟨news, hnl, hrow, hnews⟩ := HM1.out.kids
          rw [List.drop_eq_nil_of_le (by rw [HC.out.len]; exact Nat.le_refl _), List.append_nil] at hrow
          rw [List.take_of_length_le (Nat.le_refl _)] at hnews
          have hO : Own valRd 34 (fun b => w.heap.size + 2 ≤ b) (w.heap.size + 2) wr (.slice kp ks.length kcap) ks news := ⟨hrow, hnews⟩
          refine isVal_mk hs ?_ ?_
          · refine (HM1.out.names.frame (fun b hS hlt => ?_)).mono (fun b _ hS => ?_)
            · exact heap_set5 (by have : w.heap.size + 2 ≤ b := hS.1; omega)
            · have : w.heap.size + 2 ≤ b := hS.1
              show w.heap.size ≤ b
              omega
          · refine ((hO.sl hlk (S' := fun b => w.heap.size + 2 ≤ b) (fun b h => h) (fun b _ h => h)).frame (fun b hS hlt => ?_)).mono (fun b _ hS => ?_)
            · exact heap_set5 (by have : w.heap.size + 2 ≤ b := hS; omega)
            · have : w.heap.size + 2 ≤ b := hS
              show w.heap.size ≤ b
              omega
        · exact ((((HM1.out.below.setCell (p := ⟨w.heap.size + 1, 0, none⟩) (Nat.le_succ _) _).setCell (p := ⟨w.heap.size + 1, 1, none⟩) (Nat.le_succ _) _).setCell (p := ⟨w.heap.size + 1, 2, none⟩) (Nat.le_succ _) _).setCell (p := ⟨w.heap.size + 1, 3, none⟩) (Nat.le_succ _) _).setCell (p := ⟨w.heap.size + 1, 4, none⟩) (Nat.le_succ _) _

theorem cloneAt : ∀ x : Val, CloneAt x
  | .mk k n s ns ks => cloneAt_of k n s ns ks fun x _ => cloneAt x
termination_by x => SizeOf.sizeOf x
decreasing_by
  have := List.sizeOf_lt_of_mem ‹_ ∈ ks›
  simp only [Val.mk.sizeOf_spec]
  omega
end Go.Proofs.YthkkmklnapkgaaaGreatDoor

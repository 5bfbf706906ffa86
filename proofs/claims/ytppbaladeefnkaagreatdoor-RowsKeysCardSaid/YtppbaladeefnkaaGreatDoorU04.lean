import Derived.Test.YtppbaladeefnkaaGreatDoorU03
set_option maxRecDepth 100000
set_option maxHeartbeats 400000000
namespace Go.Proofs.YtppbaladeefnkaaGreatDoor
open Go.RowKit Go.Shelf Go.Lib Tryz
theorem Hn {W W1 : World} (hb : Below W.heap.size W W1) : (∀ b o, b < W.heap.size → W1.cell? ⟨b, o, none⟩ = W.cell? ⟨b, o, none⟩) ∧ (∀ b o, b < W.heap.size → W1.frozen? ⟨b, o, none⟩ = W.frozen? ⟨b, o, none⟩) :=
 ⟨fun b o h => hb.cell (p := ⟨b, o, none⟩) h, fun b o h => hb.frozen (p := ⟨b, o, none⟩) h⟩
def CloneIs (w : World) (x : Val) (e : Ending) (w' : World) : Prop := ∃ cs', e = .returned (.agg cs'.toArray) ∧ Qh (fun b => w.heap.size ≤ b) w' cs' x ∧ Below w.heap.size w w'
def Hk (x : Val) : Prop := ∀ (S : Nat → Prop) (cs : List Value) (w : World), Qh S w cs x → Calls prog 75 #[.agg cs.toArray] w (CloneIs w x)
theorem set_flat {n : Nat} : ∀ (css : List (List Value)) (i : Nat) (a b c d e : Value), (∀ x ∈ css, x.length = 5) → css.length = n → i < n →
  (((((css.flatten.set (i * 5) a).set (i * 5 + 1) b).set (i * 5 + 2) c).set (i * 5 + 3) d).set (i * 5 + 4) e) = (css.set i [a, b, c, d, e]).flatten := by
 intro css
 induction css generalizing n with
 | nil => intro i a b c d e _ hn hi; simp at hn; omega
 | cons x css ih =>
  intro i a b c d e hx hn hi
  have h5 := hx x (by simp)
  cases i with
  | zero =>
   match x, h5 with
   | [x0, x1, x2, x3, x4], _ => simp
  | succ i =>
   have := ih (n := css.length) i a b c d e (fun y hy => hx y (by simp [hy])) rfl (by simp at hn; omega)
   simp only [List.flatten_cons, List.set_cons_succ]
   rw [← this]
   have e1 : (i + 1) * 5 = x.length + i * 5 := by rw [h5]; omega
   simp only [e1, Nat.add_assoc]
   simp only [List.set_append_right _ _ (Nat.le_add_right _ _), Nat.add_sub_cancel_left]
theorem store5 {w : World} {B g n cap : Nat} {E : TypeId} {css : List (List Value)} (h : w.ownsRow B E 5 (.slice (some ⟨g, 0, none⟩) n cap) n css.flatten) (hl : css.length = n) (h5 : ∀ x ∈ css, x.length = 5) (i : Nat) (hi : i < n) (a b c d e : Value) :
  (((((w.setCell ⟨g, i * 5, none⟩ a).setCell ⟨g, i * 5 + 1, none⟩ b).setCell ⟨g, i * 5 + 2, none⟩ c).setCell ⟨g, i * 5 + 3, none⟩ d).setCell ⟨g, i * 5 + 4, none⟩ e).ownsRow B E 5 (.slice (some ⟨g, 0, none⟩) n cap) n (css.set i [a, b, c, d, e]).flatten := by
 rw [← set_flat css i a b c d e h5 hl hi]
 obtain ⟨h1, _⟩ := h.stored (i * 5) a
 obtain ⟨h2, _⟩ := h1.stored (i * 5 + 1) b
 obtain ⟨h3, _⟩ := h2.stored (i * 5 + 2) c
 obtain ⟨h4, _⟩ := h3.stored (i * 5 + 3) d
 exact (h4.stored (i * 5 + 4) e).1
structure Jw (w : World) (k n : Int) (s : Bs) (ns : List Bs) (ks : List Val) (np : Option Addr) (ncap : Nat) (kp : Option Addr) (kcap : Nat) (kcs : List (List Value)) (kk : Nat) (wx : World) : Prop where
 below : Below w.heap.size w wx
 box : wx.heap[w.heap.size]? = some (.cells #[.int .i64 k, .int .i64 n, .string ⟨s.toArray⟩, .slice np ns.length ncap, .slice kp ks.length kcap] 44 (0, 0))
 res : wx.heap[w.heap.size + 1]? = some (.cells zV 44 (0, 0))
 names : Sl Qp (fun b => w.heap.size + 2 ≤ b ∧ some b ≠ (Value.slice kp ks.length kcap).ownBlock) wx (.slice np ns.length ncap) ns
 kids : ∃ news : List (List Value), news.length = kk ∧ wx.ownsRow (w.heap.size + 2) 44 5 (.slice kp ks.length kcap) ks.length (news ++ kcs.drop kk).flatten ∧
  Cs Ql (fun b => w.heap.size + 2 ≤ b ∧ some b ≠ (Value.slice kp ks.length kcap).ownBlock) wx news (ks.take kk)
theorem Xw {w w' : World} {B B' : Nat} {e : TypeId} {sz n : Nat} {v : Value} {xs : List Value} (h : w.ownsRow B e sz v n xs) (hB : B' ≤ B) (hA : ∀ b, B ≤ b → b < w.heap.size → w'.heap[b]? = w.heap[b]?) : w'.ownsRow B' e sz v n xs := by
 refine ⟨h.1, ?_⟩
 rcases h.2 with hn | ⟨g, cap, cur, rfl, hg, hh, rest⟩
 ·exact .inl hn
 exact .inr ⟨g, cap, cur, rfl, by omega, (hA g hg (Array.getElem?_eq_some_iff.1 hh).1).trans hh, rest⟩
theorem Qf {w : World} {b : Nat} {o : Obj} (h : w.heap[b]? = some o) : b < w.heap.size := (Array.getElem?_eq_some_iff.1 h).1
theorem Qg {w : World} {a : Addr} {u : Value} {b : Nat} (h : b ≠ a.block) : (w.setCell a u).heap[b]? = w.heap[b]? := Below.heap_setCell _ _ _ _ h
theorem sl_str {w : World} {v : Value} {xs : List Bs} {css : List (List Value)} {E : TypeId} {S : Nat → Prop} {B B' : Nat} (h : Own Qp E S B w v xs css) (hl : xs.length ≤ 1000000) (hB : B' ≤ B) : Sl Qp (fun b => B' ≤ b) w v xs := by
 have : Own Qp E (fun _ => False) B w v xs css := ⟨h.row, ⟨h.cs.len, fun i c x hc hx => h.cs.R i c x hc hx⟩⟩
 exact this.sl hl (fun b hb => by omega) (fun b _ h => h.elim)
theorem Ym {w : World} {g i0 i1 i2 i3 i4 : Nat} {a b c d e : Value} {k : Nat} (h : k ≠ g) :
  (((((w.setCell ⟨g, i0, none⟩ a).setCell ⟨g, i1, none⟩ b).setCell ⟨g, i2, none⟩ c).setCell ⟨g, i3, none⟩ d).setCell ⟨g, i4, none⟩ e).heap[k]? = w.heap[k]? := by
 rw [Qg h, Qg h, Qg h, Qg h, Qg h]
theorem Jw.next {w wr w4 : World} {k n : Int} {s : Bs} {ns : List Bs} {ks : List Val} {np : Option Addr} {ncap g kcap kk B : Nat} {kcs : List (List Value)} {x : Val} {a b c d e : Value}
  (hM : Jw w k n s ns ks np ncap (some ⟨g, 0, none⟩) kcap kcs kk wr) (hx : ks[kk]? = some x) (hCs : Cs Ql (fun b => b < w.heap.size) w kcs ks) (hb : Below wr.heap.size wr w4) (hB : wr.heap.size ≤ B)
  (hv : Qh (fun b => B ≤ b) w4 [a, b, c, d, e] x) :
  Jw w k n s ns ks np ncap (some ⟨g, 0, none⟩) kcap kcs (kk + 1) (((((w4.setCell ⟨g, kk * 5, none⟩ a).setCell ⟨g, kk * 5 + 1, none⟩ b).setCell ⟨g, kk * 5 + 2, none⟩ c).setCell ⟨g, kk * 5 + 3, none⟩ d).setCell ⟨g, kk * 5 + 4, none⟩ e) := by
 have hkk : kk < ks.length := (Qj hx).1
 obtain ⟨news, hnl, hrow, hnews⟩ := hM.kids
 have hg := hrow.lt g rfl
 have hG : w.heap.size ≤ g := by omega
 have hown : (Value.slice (some ⟨g, 0, none⟩) ks.length kcap).ownBlock = some g := rfl
 have hall : ∀ y ∈ news ++ kcs.drop kk, y.length = 5 := by
  intro y hy
  rcases List.mem_append.1 hy with h | h
  ·exact hnews.all y h
  exact hCs.all y (List.mem_of_mem_drop h)
 have hlen : (news ++ kcs.drop kk).length = ks.length := by rw [List.length_append, List.length_drop, hCs.len]; omega
 have hset : (news ++ kcs.drop kk).set kk [a, b, c, d, e] = (news ++ [[a, b, c, d, e]]) ++ kcs.drop (kk + 1) := by
  have hd : kcs.drop kk = (kcs[kk]'(by rw [hCs.len]; exact hkk)) :: kcs.drop (kk + 1) := List.drop_eq_getElem_cons (by rw [hCs.len]; exact hkk)
  rw [hd, List.set_append_right _ _ (by omega), hnl, Nat.sub_self, List.set_cons_zero, List.append_assoc]; rfl
 refine ⟨?_, ?_, ?_, ?_, ⟨news ++ [[a, b, c, d, e]], by simp [hnl], ?_, ?_⟩⟩
 ·exact (((((hM.below.thn hb).setCell (p := ⟨g, _, none⟩) hG _).setCell (p := ⟨g, _, none⟩) hG _).setCell (p := ⟨g, _, none⟩) hG _).setCell (p := ⟨g, _, none⟩) hG _).setCell (p := ⟨g, _, none⟩) hG _
 ·rw [Ym (by omega), hb.block _ (Qf hM.box)]; exact hM.box
 ·rw [Ym (by omega), hb.block _ (Qf hM.res)]; exact hM.res
 ·refine hM.names.frame (fun b hS hlt => ?_)
  rw [Ym (fun e => hS.2 (by rw [e]; rfl)), hb.block _ hlt]
 ·rw [← hset]
  exact store5 (Xw hrow (Q9 _) (fun b _ hlt => hb.block b hlt)) hlen hall kk hkk a b c d e
 rw [List.take_succ_eq_append_getElem hkk]
 rw [Qx hkk] at hx
 obtain rfl := Qb hx
 refine (hnews.move (fun b hS hlt => ?_) (fun _ _ h => h)).app (Cs.one ?_)
 ·rw [Ym (fun e => hS.2 (by rw [e]; rfl)), hb.block _ hlt]
 obtain ⟨hg1, hg2⟩ := hg
 refine Qh.move hv (fun b hS hlt => ?_) (fun b hlt hS => ?_)
 ·have hS' : B ≤ b := hS
  exact Ym (by omega)
 have hS' : B ≤ b := hS
 refine ⟨by omega, fun e => ?_⟩
 have : b = g := Qb e
 omega
theorem Ms (k n : Int) (s : Bs) (ns : List Bs) (ks : List Val) (ih : ∀ x ∈ ks, Hk x) : Hk (.mk k n s ns ks) := by
 intro S0 cs w hx0
 have hx : Qh (fun b => b < w.heap.size) w cs (.mk k n s ns ks) := hx0.move (.refl _ _) (fun b hb _ => hb)
 clear hx0
 obtain ⟨nv, kv, rfl, hs, hn, hk⟩ := Ve.1 hx
 have hln : ns.length ≤ 1000000 := by obtain ⟨_, _, _, h⟩ := hn.len; exact h
 have hlk : ks.length ≤ 1000000 := by obtain ⟨_, _, _, h⟩ := hk.len; exact h
 have HN := Qq hn; have HK := Qq hk; have HI := Qq ih
 clear hx hn hk ih
 unfold sv
 go_enter func75, ntmps75
 go_upto_region 1 with fail
 go_cut [12] (fun _ wx => ∃ np ncap kp kcap kcs, Jw w k n s ns ks np ncap kp kcap kcs 0 wx ∧ Cs Ql (fun b => b < w.heap.size) w kcs ks)
 case first =>
  go_region_with (first | (go_at_call 79; refine (L7 _ nv ns _ (HN.out.below (by first | exact (Zv _ _ _).drew | exact (Zv _ _ _).drew.thn HB1.out | exact (Zv _ _ _).drew.thn HB2.out))).mono ?_; rintro e w1 ⟨np, ncap, ncs, rfl, ho1, hb1⟩; obtain ⟨hc1, hf1⟩ := Hn hb1; have hz1 := hb1.size; have HB1 := Qq hb1; have HO1 := Qq ho1; clear hb1 ho1; (try simp at hz1); have hg1 : w.heap.size < w1.heap.size := (by omega); have hk1 : w.heap.size + 1 < w1.heap.size := (by omega); have c13 : w1.cell? ⟨w.heap.size, 3, none⟩ = some nv := (by first | (rw [hc1 _ _ (by simp; omega)]; simp) | (rw [hc1 _ _ (by assumption)]; assumption)); have f13 : w1.frozen? ⟨w.heap.size, 3, none⟩ = false := (by first | (rw [hf1 _ _ (by simp; omega)]; simp) | (rw [hf1 _ _ (by assumption)]; assumption)); have c14 : w1.cell? ⟨w.heap.size, 4, none⟩ = some kv := (by first | (rw [hc1 _ _ (by simp; omega)]; simp) | (rw [hc1 _ _ (by assumption)]; assumption)); have f14 : w1.frozen? ⟨w.heap.size, 4, none⟩ = false := (by first | (rw [hf1 _ _ (by simp; omega)]; simp) | (rw [hf1 _ _ (by assumption)]; assumption)); clear hc1 hf1) | (go_at_call 52; refine (Hf _ kv ks _ (HK.out.below (by first | exact (Zv _ _ _).drew | exact (Zv _ _ _).drew.thn HB1.out | exact (Zv _ _ _).drew.thn HB2.out))).mono ?_; rintro e w2 ⟨kp, kcap, kcs, rfl, ho2, hb2⟩; obtain ⟨hc2, hf2⟩ := Hn hb2; have hz2 := hb2.size; have HB2 := Qq hb2; have HO2 := Qq ho2; clear hb2 ho2; (try simp only [World.size_drew, World.size_alloc] at hz2); have hg2 : w.heap.size < w2.heap.size := (by omega); have hk2 : w.heap.size + 1 < w2.heap.size := (by omega); have c23 : w2.cell? ⟨w.heap.size, 3, none⟩ = some nv := (by first | (rw [hc2 _ _ (by simp; omega)]; simp) | (rw [hc2 _ _ (by assumption)]; assumption)); have f23 : w2.frozen? ⟨w.heap.size, 3, none⟩ = false := (by first | (rw [hf2 _ _ (by simp; omega)]; simp) | (rw [hf2 _ _ (by assumption)]; assumption)); have c24 : w2.cell? ⟨w.heap.size, 4, none⟩ = some kv := (by first | (rw [hc2 _ _ (by simp; omega)]; simp) | (rw [hc2 _ _ (by assumption)]; assumption)); have f24 : w2.frozen? ⟨w.heap.size, 4, none⟩ = false := (by first | (rw [hf2 _ _ (by simp; omega)]; simp) | (rw [hf2 _ _ (by assumption)]; assumption)); clear hc2 hf2))
  all_goals
   go_wp2_with fail
   go_meet
   have b1 := HB1.out
   have b2 := HB2.out
   have hG1 := b1.block w.heap.size (by simp; omega)
   have hG1' := b1.block (w.heap.size + 1) (by simp)
   rw [heap_drew, Q5] at hG1
   rw [heap_drew, Q6] at hG1'
   have hG2 := kE b2 hg1 hG1
   have hG2' := kE b2 hk1 hG1'
   have hbw : Below w.heap.size w w2 := (Zv _ _ _).drew.thn (b1.thn b2)
   refine ⟨np, ncap, kp, kcap, kcs, ⟨(hbw.setCell (p := ⟨w.heap.size, 3, none⟩) (Q9 _) _).setCell (p := ⟨w.heap.size, 4, none⟩) (Q9 _) _, ?_, ?_, ?_, ⟨[], rfl, ?_, ⟨rfl, fun i c x hc => by simp at hc⟩⟩⟩, ?_⟩
   ·exact heap_setCell_same _ _ _ _ _ _ (heap_setCell_same _ _ _ _ _ _ hG2)
   ·rw [Qg (by simp), Qg (by simp)]; exact hG2'
   ·refine ((sl_str HO1.out hln (by simp)).mono (S' := fun b => w.heap.size + 2 ≤ b ∧ some b ≠ (Value.slice kp ks.length kcap).ownBlock) (fun b hb h => ⟨h, fun e => ?_⟩)).frame (fun b hb hlt => ?_)
    ·have := (HO2.out.row.lt b e.symm).1
     omega
    rw [Qg (by show b ≠ w.heap.size; omega), Qg (by show b ≠ w.heap.size; omega)]
    exact b2.block b hlt
   ·refine Xw HO2.out.row (by omega) (fun b hb hlt => ?_)
    rw [Qg (by show b ≠ w.heap.size; omega), Qg (by show b ≠ w.heap.size; omega)]
   exact (HO2.out.cs.move (S' := fun b => b < w.heap.size) (.refl _ _) (fun b _ h => h.1)).move (fun b hb _ => (hbw.block b hb).symm) (fun b _ h => h)
 obtain ⟨np, ncap, kp, kcap, kcs, hM, hCs⟩ := hcut
 have HC := Qq hCs; have HM := Qq hM
 obtain ⟨c0, c1, c2, c3, c4⟩ := row5 hM.box
 clear hCs hM
 go_wp2_with fail
 go_loopw [16] (fun i wr => ∃ kk : Nat, kk ≤ ks.length ∧ i = .int .i64 kk ∧ Jw w k n s ns ks np ncap kp kcap kcs kk wr) (fun i _ => ks.length - (intOf i).toNat)
 case atStart => exact ⟨0, Q8 _, rfl, HM.out⟩
 obtain ⟨kk, hkk, rfl, hM⟩ := hrel
 have c0 := Qk _ _ 0 _ _ _ hM.box; have c1 := Qk _ _ 1 _ _ _ hM.box; have c2 := Qk _ _ 2 _ _ _ hM.box; have c3 := Qk _ _ 3 _ _ _ hM.box; have c4 := Qk _ _ 4 _ _ _ hM.box
 have r0 := Qk _ _ 0 _ _ _ hM.res; have r1 := Qk _ _ 1 _ _ _ hM.res; have r2 := Qk _ _ 2 _ _ _ hM.res; have r3 := Qk _ _ 3 _ _ _ hM.res; have r4 := Qk _ _ 4 _ _ _ hM.res
 have fr := fun j => frozen_of_row _ _ j _ _ hM.res
 have hlt1 := (Array.getElem?_eq_some_iff.1 hM.res).1
 simp only [List.getElem?_toArray, List.getElem?_cons_zero, List.getElem?_cons_succ] at c0 c1 c2 c3 c4 r0 r1 r2 r3 r4
 have HM1 := Qq hM
 by_cases hlt : kk < ks.length
 ·obtain ⟨x, hx⟩ : ∃ x, ks[kk]? = some x := ⟨_, Qx hlt⟩
  obtain ⟨news, hnl, hrow, hnews⟩ := hM.kids
  obtain ⟨g, cap, hkp, hgB, hgs⟩ := hrow.form (by omega)
  simp only [Value.slice.injEq] at hkp
  obtain ⟨rfl, -, rfl⟩ := hkp
  obtain ⟨oc, hoc⟩ : ∃ oc, kcs[kk]? = some oc := ⟨_, Qx (by rw [HC.out.len]; exact hlt)⟩
  have hvx := HC.out.R kk oc x hoc hx
  obtain ⟨p3, k3, p4, k4, rfl, _⟩ := Qh.cells (show Qh _ w oc x from hvx)
  have hall : ∀ y ∈ news ++ kcs.drop kk, y.length = 5 := by
   intro y hy
   rcases List.mem_append.1 hy with h | h
   ·exact hnews.all y h
   exact HC.out.all y (List.mem_of_mem_drop h)
  have hat : (news ++ kcs.drop kk)[kk]? = some (vcs x p3 k3 p4 k4) := by
   rw [List.getElem?_append_right (by omega), List.getElem?_drop, hnl, Nat.sub_self, Nat.add_zero]; exact hoc
  have hcell : ∀ (j : Nat) u, (vcs x p3 k3 p4 k4)[j]? = some u → wr.cell? ⟨g, kk * 5 + j, none⟩ = some u := by
   intro j u hu
   have h5 : j < 5 := (Qj hu).1
   rw [hrow.cellAt _ (by omega)]
   exact Xv hall hat hu
  have d0 := hcell 0 _ rfl; have d1 := hcell 1 _ rfl; have d2 := hcell 2 _ rfl; have d3 := hcell 3 _ rfl; have d4 := hcell 4 _ rfl
  rw [Nat.add_zero] at d0
  have fz := fun j => hrow.frozenAt j
  have hi1 : (0 : Int) ≤ (kk : Int) := by omega
  have hi2 : (kk : Int) < (ks.length : Int) := by omega
  have hne1 : w.heap.size ≠ wr.heap.size := by omega
  have hne2 : w.heap.size + 1 ≠ wr.heap.size := by omega
  have hne3 : g ≠ wr.heap.size := by omega
  have HX := Qq hx; have HV := Qq hvx; have HA := Qq hall; have HAt := Qq hat; have HR := Qq hrow; have HN2 := Qq hnews; have HL := Qq hnl; have HFz := Qq fz; have HFr := Qq fr
  clear hx hvx hall hat hrow hnews hnl hcell hoc hM fz fr r0 r1 r2 r3 r4 c0 c1 c2 c3
  go_upto_region 5 with fail
  obtain ⟨W5, hW5⟩ := eX (wr.alloc (.cells #[.int .i64 x.kind, .int .i64 x.n, .string ⟨x.s.toArray⟩, .slice p3 x.names.length k3, .slice p4 x.kids.length k4] 44))
  have hb5 := eqB hW5 (Qo _ _)
  have hx5 := eqH (b := wr.heap.size) hW5 (Qw _ _)
  rw [hW5]
  obtain ⟨x0, x1, x2, x3, x4⟩ := row5 hx5
  have c5 := (hb5.cell (p := ⟨w.heap.size, 4, none⟩) (show w.heap.size < wr.heap.size by omega)).trans c4
  have HB5 := Qq hb5
  have c4' := c4
  clear hW5 hb5 hx5 c4
  go_region_with (first | (go_at_call 75; refine (HI.out x (Qy HX.out) _ (vcs x p3 k3 p4 k4) _ (Qh.move HV.out (.of_below (HM1.out.below.thn HB5.out.drew)) (fun _ _ h => h))).mono ?_; rintro e w4 ⟨cs', rfl, hv4, hb4⟩; obtain ⟨q3, l3, q4, l4, hcs, _⟩ := Qh.cells hv4; simp only [vcs] at hcs; subst hcs; have HB4 := Qq (HB5.out.drew.thn hb4); have HV4 := Qq hv4; clear hv4 hb4; have e4 := (HB4.out.cell (p := ⟨w.heap.size, 4, none⟩) (show w.heap.size < wr.heap.size by omega)).trans c4'; have g0 := (HB4.out.cell (p := ⟨g, kk * 5, none⟩) hgs).trans d0; have g1 := (HB4.out.cell (p := ⟨g, kk * 5 + 1, none⟩) hgs).trans d1; have g2 := (HB4.out.cell (p := ⟨g, kk * 5 + 2, none⟩) hgs).trans d2; have g3 := (HB4.out.cell (p := ⟨g, kk * 5 + 3, none⟩) hgs).trans d3; have g4 := (HB4.out.cell (p := ⟨g, kk * 5 + 4, none⟩) hgs).trans d4; have f0 := (HB4.out.frozen (p := ⟨g, kk * 5, none⟩) hgs).trans (HFz.out (kk * 5)); have f1 := (HB4.out.frozen (p := ⟨g, kk * 5 + 1, none⟩) hgs).trans (HFz.out (kk * 5 + 1)); have f2 := (HB4.out.frozen (p := ⟨g, kk * 5 + 2, none⟩) hgs).trans (HFz.out (kk * 5 + 2)); have f3 := (HB4.out.frozen (p := ⟨g, kk * 5 + 3, none⟩) hgs).trans (HFz.out (kk * 5 + 3)); have f4 := (HB4.out.frozen (p := ⟨g, kk * 5 + 4, none⟩) hgs).trans (HFz.out (kk * 5 + 4))))
  all_goals
   go_wp2_with fail
   go_roundw
   case measure => simp [intOf]; omega
   case rel => exact ⟨kk + 1, by omega, by go_num, HM1.out.next HX.out HC.out HB4.out (HB5.out.size) HV4.out⟩
 obtain rfl : kk = ks.length := by omega
 have fz0 := fr 0; have fz1 := fr 1; have fz2 := fr 2; have fz3 := fr 3; have fz4 := fr 4
 clear fr
 go_wp2_with fail
 have hWF := heap_setCell_same _ _ 4 _ _ (.slice kp ks.length kcap) (heap_setCell_same _ _ 3 _ _ (.slice np ns.length ncap) (heap_setCell_same _ _ 2 _ _ (.string ⟨s.toArray⟩) (heap_setCell_same _ _ 1 _ _ (.int .i64 n) (heap_setCell_same _ _ 0 _ _ (.int .i64 k) HM1.out.res))))
 have q0 := Qk _ _ 0 _ _ _ hWF; have q1 := Qk _ _ 1 _ _ _ hWF; have q2 := Qk _ _ 2 _ _ _ hWF; have q3 := Qk _ _ 3 _ _ _ hWF; have q4 := Qk _ _ 4 _ _ _ hWF
 simp only [List.setIfInBounds_toArray, List.set_cons_zero, List.set_cons_succ, List.getElem?_toArray, List.getElem?_cons_zero, List.getElem?_cons_succ] at q0 q1 q2 q3 q4
 obtain ⟨WF, hWF'⟩ := eX ((((((wr.setCell ⟨w.heap.size + 1, 0, none⟩ (.int .i64 k)).setCell ⟨w.heap.size + 1, 1, none⟩ (.int .i64 n)).setCell ⟨w.heap.size + 1, 2, none⟩ (.string ⟨s.toArray⟩)).setCell ⟨w.heap.size + 1, 3, none⟩ (.slice np ns.length ncap)).setCell ⟨w.heap.size + 1, 4, none⟩ (.slice kp ks.length kcap)))
 rw [hWF'] at q0 q1 q2 q3 q4 ⊢
 have HWF := Qq hWF'
 clear hWF hWF' c0 c1 c2 c3 c4 r0 r1 r2 r3 r4 fz0 fz1 fz2 fz3 fz4
 refine Q7 (v := .agg #[.int .i64 k, .int .i64 n, .string ⟨s.toArray⟩, .slice np ns.length ncap, .slice kp ks.length kcap]) (by simp [results, results75, go_sem, q0, q1, q2, q3, q4]) rfl ⟨[.int .i64 k, .int .i64 n, .string ⟨s.toArray⟩, .slice np ns.length ncap, .slice kp ks.length kcap], rfl, ?_, ?_⟩
 all_goals rw [← HWF.out]
 ·obtain ⟨news, hnl, hrow, hnews⟩ := HM1.out.kids
  rw [List.drop_eq_nil_of_le (by rw [HC.out.len]; exact Q9 _), List.append_nil] at hrow
  rw [List.take_of_length_le (Q9 _)] at hnews
  have hO : Own Ql 44 (fun b => w.heap.size + 2 ≤ b) (w.heap.size + 2) wr (.slice kp ks.length kcap) ks news := ⟨hrow, hnews⟩
  refine Zn hs ?_ ?_
  ·refine (HM1.out.names.frame (fun b hS hlt => ?_)).mono (fun b _ hS => ?_)
   ·exact Ym (by have : w.heap.size + 2 ≤ b := hS.1; omega)
   have : w.heap.size + 2 ≤ b := hS.1
   show w.heap.size ≤ b
   omega
  refine ((hO.sl hlk (S' := fun b => w.heap.size + 2 ≤ b) (fun b h => h) (fun b _ h => h)).frame (fun b hS hlt => ?_)).mono (fun b _ hS => ?_)
  ·exact Ym (by have : w.heap.size + 2 ≤ b := hS; omega)
  have : w.heap.size + 2 ≤ b := hS
  show w.heap.size ≤ b
  omega
 exact ((((HM1.out.below.setCell (p := ⟨w.heap.size + 1, 0, none⟩) (Nat.le_succ _) _).setCell (p := ⟨w.heap.size + 1, 1, none⟩) (Nat.le_succ _) _).setCell (p := ⟨w.heap.size + 1, 2, none⟩) (Nat.le_succ _) _).setCell (p := ⟨w.heap.size + 1, 3, none⟩) (Nat.le_succ _) _).setCell (p := ⟨w.heap.size + 1, 4, none⟩) (Nat.le_succ _) _
theorem O6 : ∀ x : Val, Hk x
 | .mk k n s ns ks => Ms k n s ns ks fun x _ => O6 x
termination_by x => SizeOf.sizeOf x
decreasing_by
 have := List.sizeOf_lt_of_mem ‹_ ∈ ks›
 simp only [Val.mk.sizeOf_spec]
 omega
theorem Eh (a b : Val) : (Z1 a b == 0) = eqv a b := by rw [← eqv_cmp]; rfl
theorem Fq (S : Nat → Prop) (a b : Val) (ca cb : List Value) (w : World) (ha : Qh S w ca a) (hb : Qh S w cb b) :
  Calls prog 57 #[.agg ca.toArray, .agg cb.toArray] w fun e w' => e = .returned (.int .i64 (Z1 a b)) ∧ Gr w w' := cmpAt a b S ca cb w ha hb
theorem Hb (S : Nat → Prop) (a b : Val) (ca cb : List Value) (w : World) (ha : Qh S w ca a) (hb : Qh S w cb b) :
  Calls prog 45 #[.agg ca.toArray, .agg cb.toArray] w fun e w' => e = .returned (.bool (eqv a b)) ∧ Below w.heap.size w w' := by
 rw [← Eh]
 have HC := Qq (fun W (h : Below w.heap.size w W) => Fq S a b ca cb W (ha.move (.of_below h) (fun _ _ h => h)) (hb.move (.of_below h) (fun _ _ h => h)))
 obtain ⟨p3, k3, p4, k4, hca, _⟩ := Qh.cells ha
 obtain ⟨q3, l3, q4, l4, hcb, _⟩ := Qh.cells hb
 simp only [vcs] at hca hcb
 subst hca; subst hcb
 clear ha hb
 generalize Z1 a b = c at HC ⊢
 go_enter func45, ntmps45
 go_wp2_with (go_at_call 57; refine (HC.out _ (Zv _ _ _)).mono ?_; rintro e w' ⟨rfl, hw⟩; have HW := Qq ((X7 w _ _).thn hw); clear hw)
 go_ret
 exact ⟨rfl, HW.out.bl⟩
theorem Y5.cells {S : Nat → Prop} {w : World} {cs : List Value} {x : Ty} (h : Y5 S w cs x) : ∃ k s n p3 n3 k3 p4 n4 k4, cs = [.int .i64 k, .string s, .int .i64 n, .slice p3 n3 k3, .slice p4 n4 k4] := by
 cases h with
 | mk k n s names kids nv p cap b off cs hs hn =>
  obtain ⟨p3, k3, rfl, _⟩ := hn.len
  exact ⟨_, _, _, _, _, _, _, _, _, rfl⟩
theorem row1_any (S : Nat → Prop) (a b : Col) (ca cb : List Value) (w : World) (ha : Yy.R S w ca a) (hb : Yy.R S w cb b) :
  Calls prog 121 #[.agg ca.toArray, .agg cb.toArray] w fun e w' => e = .returned (.int .i64 (Zg a.name b.name)) ∧ Gr w w' := by
 obtain ⟨ta, rfl, _, h1⟩ := ha
 obtain ⟨tb, rfl, _, h2⟩ := hb
 obtain ⟨_, _, _, _, _, _, _, _, _, rfl⟩ := h1.cells
 obtain ⟨_, _, _, _, _, _, _, _, _, rfl⟩ := h2.cells
 have HS := Qq (fun W => H9 ⟨a.name.toArray⟩ ⟨b.name.toArray⟩ W)
 rw [show Zg (bl ⟨a.name.toArray⟩) (bl ⟨b.name.toArray⟩) = Zg a.name b.name from rfl] at HS
 generalize Zg a.name b.name = c at HS ⊢
 clear h1 h2
 unfold sv
 go_enter func121, ntmps121
 go_wp2_with (go_at_call 99; refine (HS.out _).mono ?_; rintro e w' ⟨rfl, rfl⟩)
 go_ret
 exact ⟨rfl, X7 _ _ _⟩
theorem Mu (S : Nat → Prop) (v : Value) (l : List Bs) (x : Bs) (w : World) (hs : Sl Qp S w v l) :
  Calls prog 117 #[v, sv x] w fun e w' => e = .returned (.int .i64 (X6 (fun y => decide (y = x)) l)) ∧ w = w' := by
 obtain ⟨p, cap, rfl, hl⟩ := hs.len
 have HS := Qq hs
 clear hs
 obtain ⟨n, hn⟩ := eX (l.length)
 rw [hn] at HS hl; rw [hn]
 have HN := Qq hn
 clear hn
 unfold sv
 go_enter func117, ntmps117
 go_wp2_with fail
 go_loop [8] (fun i => ∃ k : Nat, k ≤ n ∧ i = .int .i64 k ∧ Aside (∀ (j : Nat) (y : Bs), j < k → l[j]? = some y → decide (y = x) = false)) (fun i => n - (intOf i).toNat)
 case atStart => exact ⟨0, Q8 _, rfl, fun j _ hj => absurd hj (Nat.not_lt_zero _)⟩
 obtain ⟨k, hk, rfl, A⟩ := hrel
 by_cases hlt : k < n
 ·have hi1 : (0 : Int) ≤ (k : Int) := by omega
  have hi2 : (k : Int) < (n : Int) := by omega
  obtain ⟨y, hy⟩ : ∃ y, l[k]? = some y := ⟨_, Qx (by rw [HN.out]; exact hlt)⟩
  obtain ⟨b, off, rfl, hc, -⟩ := HS.out.str hy
  have HY := Qq hy
  clear hy
  by_cases he : y = x
  ·have hq : (x == y) = true := by rw [he]; simp
   have HE := Qq he
   clear he
   go_wp2_with fail
   go_ret
   refine ⟨?_, rfl⟩
   rw [U9 HY.out (by rw [HE.out]; simp) A.out]
   rfl
  have hq : (x == y) = false := by rw [← Bool.not_eq_true, beq_iff_eq]; exact fun e => he e.symm
  have HE := Qq he
  clear he
  go_wp2_with fail
  go_round
  case measure => simp [intOf]; omega
  case rel =>
   refine ⟨k + 1, by omega, by go_num, (show Aside _ from fun j z hj hz => ?_)⟩
   by_cases e : j = k
   ·subst e
    have := HY.out
    rw [this] at hz
    cases hz
    simpa using HE.out
   exact A.out j z (by omega) hz
 have hltz : ¬ (k : Int) < (n : Int) := by omega
 have : k = n := by omega
 subst this
 go_wp2_with fail
 go_ret
 refine ⟨?_, rfl⟩
 rw [Xu (fun j y hy => A.out j y (by have := (Qj hy).1; have := HN.out; omega) hy)]
 rfl
def Y8 (v : Val) (i : Int) : Bool := decide (v.kind = 4) && decide (0 ≤ i) && decide (i < v.kids.length)
def Ya (v : Val) (x : Bs) : Int := X6 (fun y => decide (y = x)) v.names
theorem E5 {k : IntKind} {a b : Int} {c d : Bool} (h : a = b) (h' : c = d) : Ending.returned (.tuple #[.int k a, .bool c]) = .returned (.tuple #[.int k b, .bool d]) := by rw [h, h']
theorem Zy (w : World) (q : Nat) : Below w.heap.size w (w.drewN q) := ⟨rfl, rfl, rfl, Q9 _, fun _ _ => rfl⟩
theorem R5 (S : Nat → Prop) (v : Val) (cs : List Value) (x : Bs) (w : World) (h : Qh S w cs v) :
  Calls prog 74 #[.agg cs.toArray, sv x] w fun e w' => e = .returned (.tuple #[.int .i64 (Ya v x), .bool (Y8 v (Ya v x))]) ∧ Below w.heap.size w w' := by
 obtain ⟨p3, k3, p4, k4, hcs, hn, hk, _⟩ := Qh.cells h
 simp only [vcs] at hcs
 subst hcs
 have HI := Qq (fun W (hb : Below w.heap.size w W) => Mu S _ v.names x W (hn.below hb))
 rw [show X6 (fun y => decide (y = x)) v.names = Ya v x from rfl] at HI
 have hl : v.kids.length ≤ 1000000 := by obtain ⟨_, _, _, h⟩ := hk.len; exact h
 generalize Ya v x = i at HI ⊢
 clear h hn hk
 unfold sv at HI ⊢
 by_cases h4 : v.kind = 4
 ·have hq : (v.kind == 4) = true := by rw [h4]; rfl
  by_cases h0 : 0 ≤ i
  ·by_cases hlt : i < v.kids.length
   ·have hF : Y8 v i = true := by unfold Y8; simp [h4, h0, hlt]
    have HF := Qq hF
    rw [h4] at *
    clear hF hq h4
    go_enter func74, ntmps74
    go_wp2_with (go_at_call 117; refine (HI.out _ (Qo _ _)).mono ?_; rintro e w' ⟨rfl, rfl⟩)
    go_quiet (fail)
    go_wp2
    go_ret2
    exact ⟨E5 rfl HF.out.symm, (Qo _ _).thn (Zy _ _)⟩
   have hF : Y8 v i = false := by unfold Y8; simp [hlt]
   have HF := Qq hF
   have hd : decide (i < v.kids.length) = false := by simpa using hlt
   rw [h4] at *
   clear hF hq h4 hlt
   go_enter func74, ntmps74
   go_wp2_with (go_at_call 117; refine (HI.out _ (Qo _ _)).mono ?_; rintro e w' ⟨rfl, rfl⟩)
   go_quiet (fail)
   go_wp2
   go_ret2
   exact ⟨E5 rfl HF.out.symm, (Qo _ _).thn (Zy _ _)⟩
  have hF : Y8 v i = false := by unfold Y8; simp [h0]
  have HF := Qq hF
  have hd : decide (0 ≤ i) = false := by simpa using h0
  rw [h4] at *
  clear hF hq h4 h0
  go_enter func74, ntmps74
  go_wp2_with (go_at_call 117; refine (HI.out _ (Qo _ _)).mono ?_; rintro e w' ⟨rfl, rfl⟩)
  go_quiet (fail)
  go_wp2
  go_ret2
  exact ⟨E5 rfl HF.out.symm, (Qo _ _).thn (Zy _ _)⟩
 have hF : Y8 v i = false := by unfold Y8; simp [h4]
 have HF := Qq hF
 have hq : (v.kind == 4) = false := by simpa using h4
 clear hF h4
 go_enter func74, ntmps74
 go_wp2_with (go_at_call 117; refine (HI.out _ (Qo _ _)).mono ?_; rintro e w' ⟨rfl, rfl⟩)
 go_quiet (fail)
 go_wp2
 go_ret2
 exact ⟨E5 rfl HF.out.symm, (Qo _ _).thn (Zy _ _)⟩
theorem Dy {v u : Val} {x : Bs} (h : Yw v x = some u) : ∃ i : Nat, Ya v x = i ∧ v.kids[i]? = some u ∧ Y8 v (Ya v x) = true := by
 unfold Yw at h
 split at h
 ·rename_i h4
  cases hn : Dv v.names x with
  | none => rw [hn] at h; cases h
  | some i =>
   rw [hn] at h
   have hi : Ya v x = i := by
    unfold Dv at hn
    unfold Ya X6
    rw [hn]
   have hlt := (Qj h).1
   refine ⟨i, hi, h, ?_⟩
   rw [hi]; unfold Y8
   simp [h4, hlt]
 cases h
theorem Bf {v : Val} {x : Bs} (h : Yw v x = none) : Y8 v (Ya v x) = false := by
 unfold Yw at h
 unfold Y8
 split at h
 ·cases hn : Dv v.names x with
  | none =>
   have hi : Ya v x = -1 := by
    unfold Dv at hn
    unfold Ya X6
    rw [hn]
   rw [hi]; simp
  | some i =>
   rw [hn] at h
   have hi : Ya v x = i := by
    unfold Dv at hn
    unfold Ya X6
    rw [hn]
   rw [List.getElem?_eq_none_iff] at h
   rw [hi]; simp; intro _; omega
 rename_i h4
 simp [h4]
def Zz (W : World) (R : Nat) (a b c d e : Value) : World := ((((W.setCell ⟨R, 0, none⟩ a).setCell ⟨R, 1, none⟩ b).setCell ⟨R, 2, none⟩ c).setCell ⟨R, 3, none⟩ d).setCell ⟨R, 4, none⟩ e
theorem Y9 {W : World} {R : Nat} {a b c d e x0 x1 x2 x3 x4 : Value} {t : TypeId} (h : W.heap[R]? = some (.cells #[x0, x1, x2, x3, x4] t (0, 0))) : (Zz W R a b c d e).heap[R]? = some (.cells #[a, b, c, d, e] t (0, 0)) := by
 have hq9 := heap_setCell_same _ _ 0 _ _ a h; have hq9 := heap_setCell_same _ _ 1 _ _ b hq9; have hq9 := heap_setCell_same _ _ 2 _ _ c hq9; have hq9 := heap_setCell_same _ _ 3 _ _ d hq9; have hq9 := heap_setCell_same _ _ 4 _ _ e hq9
 simpa [Zz] using hq9
theorem Qm {W : World} {R : Nat} {a b c d e x0 x1 x2 x3 x4 : Value} {t : TypeId} (h : W.heap[R]? = some (.cells #[x0, x1, x2, x3, x4] t (0, 0))) (j : Nat) : (Zz W R a b c d e).cell? ⟨R, j, none⟩ = #[a, b, c, d, e][j]? :=
 Qk _ _ _ _ _ _ (Y9 h)
theorem Qt {W : World} {R k : Nat} {a b c d e : Value} (h : k ≠ R) : (Zz W R a b c d e).heap[k]? = W.heap[k]? := Ym h
theorem Qn {B R : Nat} {w W : World} {a b c d e : Value} (h : Below B w W) (hR : B ≤ R) : Below B w (Zz W R a b c d e) :=
 ((((h.setCell (p := ⟨R, 0, none⟩) hR _).setCell (p := ⟨R, 1, none⟩) hR _).setCell (p := ⟨R, 2, none⟩) hR _).setCell (p := ⟨R, 3, none⟩) hR _).setCell (p := ⟨R, 4, none⟩) hR _
def GetIs (w : World) (o : Option Val) (e : Ending) (w' : World) : Prop :=
 ∃ cs', e = .returned (.tuple #[.agg cs'.toArray, .bool o.isSome]) ∧ Qh (fun b => w.heap.size ≤ b) w' cs' (o.getD Val.zero) ∧ Below w.heap.size w w'
theorem Zl (S : Nat → Prop) (w : World) : Qh S w [.int .i64 0, .int .i64 0, .string ⟨#[]⟩, .slice none 0 0, .slice none 0 0] Val.zero :=
 Zn (s := []) (by simp) (Sl.nil _ _ _) (Sl.nil _ _ _)
theorem Oq (S : Nat → Prop) (v : Val) (cs : List Value) (x : Bs) (w : World) (h : Qh S w cs v) :
  Calls prog 39 #[.agg cs.toArray, sv x] w (GetIs w (Yw v x)) := by
 have HF := Qq (fun W (hb : Below w.heap.size w W) => R5 S v cs x W (h.move (.of_below hb) (fun _ _ h => h)))
 obtain ⟨p3, k3, p4, k4, hcs, hn, hk, _⟩ := Qh.cells h
 simp only [vcs] at hcs
 subst hcs
 have HK := Qq hk
 clear h hn hk
 unfold sv at HF ⊢
 cases hg : Yw v x with
 | none =>
  rw [Bf hg] at HF
  clear hg
  generalize Ya v x = i at HF
  go_enter func39, ntmps39
  go_wp2_with (go_at_call 74; refine (HF.out _ (Zv _ _ _)).mono ?_; rintro e w' ⟨rfl, hw⟩; have HW := Qq hw; have hz := hw.size; obtain ⟨hc, hf⟩ := Hn hw; have r0 := fun o => (hf (w.heap.size + 1) o (by simp)); clear hw)
  have hR := (HW.out.block (w.heap.size + 1) (by simp)).trans (Q6 _ _ _)
  show bodyPost _ _ _ _ _ (Zz w' _ _ _ _ _ _)
  refine Q7 (v := .tuple #[.agg zV, .bool false]) (by simp [results, results39, go_sem, Qm hR]) rfl ⟨_, rfl, Zl _ _, ?_⟩
  exact Qn ((Zv w _ _).thn HW.out) (by omega)
 | some u =>
  obtain ⟨i, hi, hku, hb⟩ := Dy hg
  rw [hb, hi] at HF
  obtain ⟨b, off, q3, l3, q4, l4, rfl, hbl, hvu, d0, d1, d2, d3, d4⟩ := HK.out.val hku
  have hlt : i < v.kids.length := (Qj hku).1
  have hi1 : (0 : Int) ≤ (i : Int) := by omega
  have hi2 : (i : Int) < (v.kids.length : Int) := by omega
  have hlt1 : b < w.heap.size + 1 := by omega
  have HV := Qq hvu
  clear hg hi hku hb hvu
  go_enter func39, ntmps39
  go_wp2_with fail
  refine (HF.out _ (Zv _ _ _)).mono ?_
  rintro e w1 ⟨rfl, hw⟩
  have HW := Qq hw
  have hb1 := (Zv w _ _).thn hw
  have hR := (hw.block (w.heap.size + 1) (by simp)).trans (Q6 _ _ _)
  have hX := (hw.block w.heap.size (by simp; omega)).trans (Q5 _ _ _)
  have e0 := (hb1.cell (p := ⟨b, off + i * 5, none⟩) hbl).trans d0; have e1 := (hb1.cell (p := ⟨b, off + i * 5 + 1, none⟩) hbl).trans d1; have e2 := (hb1.cell (p := ⟨b, off + i * 5 + 2, none⟩) hbl).trans d2; have e3 := (hb1.cell (p := ⟨b, off + i * 5 + 3, none⟩) hbl).trans d3; have e4 := (hb1.cell (p := ⟨b, off + i * 5 + 4, none⟩) hbl).trans d4
  have x4 := rA4 hX
  have HB1 := Qq hb1; have HR := Qq hR
  clear hw hb1 hX hR d0 d1 d2 d3 d4
  go_wp2_with fail
  refine (O6 u _ (vcs u q3 l3 q4 l4) _ (Qh.move HV.out (.of_below HB1.out) (fun _ _ h => h))).mono ?_
  rintro e w2 ⟨cs', rfl, hv2, hb2⟩
  obtain ⟨r3, m3, r4, m4, hcs, _⟩ := Qh.cells hv2
  simp only [vcs] at hcs
  subst hcs
  have hR2 := kB hb2 HR.out
  have f := fun j => frozen_of_row _ _ j _ _ hR2
  have y := fun j => Qk _ _ j _ _ _ hR2
  have y0 := y 0; have y1 := y 1; have y2 := y 2; have y3 := y 3; have y4 := y 4
  have f0 := f 0; have f1 := f 1; have f2 := f 2; have f3 := f 3; have f4 := f 4
  simp only [List.getElem?_toArray, List.getElem?_cons_zero, List.getElem?_cons_succ] at y0 y1 y2 y3 y4
  have HB2 := Qq hb2; have HV2 := Qq hv2; have HR2 := Qq hR2
  clear hb2 hv2 hR2 f y
  go_wp2_with fail
  show bodyPost _ _ _ _ _ (Zz w2 _ _ _ _ _ _)
  refine Q7 (v := .tuple #[.agg #[.int .i64 u.kind, .int .i64 u.n, .string ⟨u.s.toArray⟩, .slice r3 u.names.length m3, .slice r4 u.kids.length m4], .bool true]) (by simp [results, results39, go_sem, Qm HR2.out]) rfl ⟨_, rfl, ?_, Qn (HB1.out.thn HB2.out) (by omega)⟩
  have hsz := HB1.out.size
  have hlt2 := Qf HR.out
  refine Qh.move HV2.out (fun b hb _ => Qt ?_) (fun b _ hb => ?_)
  ·have : w1.heap.size ≤ b := hb
   omega
  have : w1.heap.size ≤ b := hb
  show w.heap.size ≤ b
  omega
end Go.Proofs.YtppbaladeefnkaaGreatDoor
namespace Go.Proofs
open Go.Shelf
def Tryz.insCol_ren : Go.Shelf.Ren := ⟨fun | 20 => 185 | n => n, fun | 24 => 78 | 22 => 31 | 3 => 3 | 25 => 141 | 4 => 4 | 0 => 0 | n => n, fun | n => n⟩
theorem Tryz.insCol : Go.Proofs.SlLaysF0.n20 Tryz.prog Tryz.insCol_ren := {
 mixed := by kernel_rfl
 f20 := ⟨Tryz.f185.name, by decide, Tryz.func185.trans (congrArg some (by kernel_rfl))⟩
 t0 := Tryz.underlying0
 a0 := Tryz.isAgg0
 z0 := Tryz.sizeOf0
 v0 := Tryz.zeroValue0
 t3 := Tryz.underlying3
 a3 := Tryz.isAgg3
 z3 := Tryz.sizeOf3
 v3 := Tryz.zeroValue3
 t4 := Tryz.underlying4
 a4 := Tryz.isAgg4
 z4 := Tryz.sizeOf4
 v4 := Tryz.zeroValue4
 t22 := Tryz.underlying31
 a22 := Tryz.isAgg31
 z22 := Tryz.sizeOf31
 v22 := Tryz.zeroValue31
 t25 := Tryz.underlying141
 a25 := Tryz.isAgg141
 z25 := Tryz.sizeOf141
 v25 := Tryz.zeroValue141 }
def Tryz.laysBS_ren : Go.Shelf.Ren := ⟨fun | 26 => 193 | 33 => 207 | 34 => 208 | 38 => 171 | n => n, fun | 24 => 30 | 9 => 9 | 3 => 3 | 4 => 4 | 40 => 202 | 0 => 0 | n => n, fun | n => n⟩
theorem Tryz.laysBS : Go.Proofs.Lays2.n26 Tryz.prog Tryz.laysBS_ren := {
 mixed := by kernel_rfl
 f26 := Tryz.func193.trans (congrArg some (by kernel_rfl))
 f33 := Tryz.func207.trans (congrArg some (by kernel_rfl))
 f34 := Tryz.func208.trans (congrArg some (by kernel_rfl))
 f38 := Tryz.func171.trans (congrArg some (by kernel_rfl))
 t0 := Tryz.underlying0
 a0 := Tryz.isAgg0
 z0 := Tryz.sizeOf0
 v0 := Tryz.zeroValue0
 t3 := Tryz.underlying3
 a3 := Tryz.isAgg3
 z3 := Tryz.sizeOf3
 v3 := Tryz.zeroValue3
 t4 := Tryz.underlying4
 a4 := Tryz.isAgg4
 z4 := Tryz.sizeOf4
 v4 := Tryz.zeroValue4
 t9 := Tryz.underlying9
 a9 := Tryz.isAgg9
 z9 := Tryz.sizeOf9
 v9 := Tryz.zeroValue9
 t24 := Tryz.underlying30
 a24 := Tryz.isAgg30
 z24 := Tryz.sizeOf30
 v24 := Tryz.zeroValue30
 t40 := Tryz.underlying202
 a40 := Tryz.isAgg202
 z40 := Tryz.sizeOf202
 v40 := Tryz.zeroValue202 }
end Go.Proofs


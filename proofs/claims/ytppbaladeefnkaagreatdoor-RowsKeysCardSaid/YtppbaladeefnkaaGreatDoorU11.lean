import Derived.Test.YtppbaladeefnkaaGreatDoorU10
set_option maxRecDepth 100000
set_option maxHeartbeats 400000000
namespace Go.Proofs.YtppbaladeefnkaaGreatDoor
open Go.RowKit Go.Shelf Go.Lib Tryz
def Yr (W : World) (R : Nat) (a0 a1 a2 a3 a4 a5 a6 a7 a8 a9 a10 a11 a12 : Value) : World := (((((((((((((W.setCell ⟨R, 0, none⟩ a0).setCell ⟨R, 1, none⟩ a1).setCell ⟨R, 2, none⟩ a2).setCell ⟨R, 3, none⟩ a3).setCell ⟨R, 4, none⟩ a4).setCell ⟨R, 5, none⟩ a5).setCell ⟨R, 6, none⟩ a6).setCell ⟨R, 7, none⟩ a7).setCell ⟨R, 8, none⟩ a8).setCell ⟨R, 9, none⟩ a9).setCell ⟨R, 10, none⟩ a10).setCell ⟨R, 11, none⟩ a11).setCell ⟨R, 12, none⟩ a12)
theorem Jl {W : World} {R : Nat} {a0 a1 a2 a3 a4 a5 a6 a7 a8 a9 a10 a11 a12 x0 x1 x2 x3 x4 x5 x6 x7 x8 x9 x10 x11 x12 : Value} {t : TypeId} (h : W.heap[R]? = some (.cells #[x0, x1, x2, x3, x4, x5, x6, x7, x8, x9, x10, x11, x12] t (0, 0))) : (Yr W R a0 a1 a2 a3 a4 a5 a6 a7 a8 a9 a10 a11 a12).heap[R]? = some (.cells #[a0, a1, a2, a3, a4, a5, a6, a7, a8, a9, a10, a11, a12] t (0, 0)) := by
 have hq9 := heap_setCell_same _ _ 0 _ _ a0 h; have hq9 := heap_setCell_same _ _ 1 _ _ a1 hq9; have hq9 := heap_setCell_same _ _ 2 _ _ a2 hq9; have hq9 := heap_setCell_same _ _ 3 _ _ a3 hq9; have hq9 := heap_setCell_same _ _ 4 _ _ a4 hq9; have hq9 := heap_setCell_same _ _ 5 _ _ a5 hq9; have hq9 := heap_setCell_same _ _ 6 _ _ a6 hq9; have hq9 := heap_setCell_same _ _ 7 _ _ a7 hq9; have hq9 := heap_setCell_same _ _ 8 _ _ a8 hq9; have hq9 := heap_setCell_same _ _ 9 _ _ a9 hq9; have hq9 := heap_setCell_same _ _ 10 _ _ a10 hq9; have hq9 := heap_setCell_same _ _ 11 _ _ a11 hq9; have hq9 := heap_setCell_same _ _ 12 _ _ a12 hq9
 simpa [Yr] using hq9
theorem Xr {W : World} {R : Nat} {a0 a1 a2 a3 a4 a5 a6 a7 a8 a9 a10 a11 a12 x0 x1 x2 x3 x4 x5 x6 x7 x8 x9 x10 x11 x12 : Value} {t : TypeId} (h : W.heap[R]? = some (.cells #[x0, x1, x2, x3, x4, x5, x6, x7, x8, x9, x10, x11, x12] t (0, 0))) (j : Nat) : (Yr W R a0 a1 a2 a3 a4 a5 a6 a7 a8 a9 a10 a11 a12).cell? ⟨R, j, none⟩ = #[a0, a1, a2, a3, a4, a5, a6, a7, a8, a9, a10, a11, a12][j]? :=
 Qk _ _ _ _ _ _ (Jl h)
theorem Xc {W : World} {R k : Nat} {a0 a1 a2 a3 a4 a5 a6 a7 a8 a9 a10 a11 a12 : Value} (h : k ≠ R) : (Yr W R a0 a1 a2 a3 a4 a5 a6 a7 a8 a9 a10 a11 a12).heap[k]? = W.heap[k]? := by
 unfold Yr
 repeat rw [Qg h]
theorem Yv {B R : Nat} {w W : World} {a0 a1 a2 a3 a4 a5 a6 a7 a8 a9 a10 a11 a12 : Value} (h : Below B w W) (hR : B ≤ R) : Below B w (Yr W R a0 a1 a2 a3 a4 a5 a6 a7 a8 a9 a10 a11 a12) :=
 ((((((((((((h.setCell (p := ⟨R, 0, none⟩) hR _).setCell (p := ⟨R, 1, none⟩) hR _).setCell (p := ⟨R, 2, none⟩) hR _).setCell (p := ⟨R, 3, none⟩) hR _).setCell (p := ⟨R, 4, none⟩) hR _).setCell (p := ⟨R, 5, none⟩) hR _).setCell (p := ⟨R, 6, none⟩) hR _).setCell (p := ⟨R, 7, none⟩) hR _).setCell (p := ⟨R, 8, none⟩) hR _).setCell (p := ⟨R, 9, none⟩) hR _).setCell (p := ⟨R, 10, none⟩) hR _).setCell (p := ⟨R, 11, none⟩) hR _).setCell (p := ⟨R, 12, none⟩) hR _
def Tbl.zero : Tbl := ⟨[], [], [], [], .mk 0 [] 0 [] [] [] [] 0 0⟩
theorem Jo (S : Nat → Prop) (w : World) : Qs.R S w [.string ⟨#[]⟩, .slice none 0 0, .slice none 0 0, .slice none 0 0, .int .i64 0, .string ⟨#[]⟩, .int .i64 0, .string ⟨#[]⟩, .slice none 0 0, .slice none 0 0, .slice none 0 0, .int .i64 0, .int .i64 0] Tbl.zero :=
 ⟨_, _, _, _, rfl, by simp [Tbl.zero], Sl.nil _ _ _, Sl.nil _ _ _, Sl.nil _ _ _, Zt (nm := []) (s := []) (by simp) (by simp) (Sl.nil _ _ _) (Sl.nil _ _ _) (Sl.nil _ _ _)⟩
theorem M7 (S : Nat → Prop) (t : Tbl) (ct : List Value) (w : World) (h : Qs.R S w ct t) :
  Calls prog 77 #[.agg ct.toArray] w fun e w' => e = .returned (sv t.name) ∧ Below w.heap.size w w' := by
 obtain ⟨cp, cc, kp, kc, rp, rc, k, s1, n, s2, p1, n1, c1, p2, n2, c2, p3, n3, c3, a, z, hcs, _⟩ := Zk h
 simp only [tcs] at hcs
 subst hcs
 clear h
 unfold sv
 go_enter func77, ntmps77
 go_wp2_with fail
 go_ret
 exact ⟨rfl, Qo _ _⟩
def Z0 (l : List Tbl) (x : Bs) : Option Tbl := l.find? (fun t => decide (t.name = x))
def NamedIs (S : Nat → Prop) (w : World) (o : Option Tbl) (e : Ending) (w' : World) : Prop := ∃ cs', e = .returned (.tuple #[.agg cs'.toArray, .bool o.isSome]) ∧ Qs.R (fun b => S b ∧ b < w.heap.size) w' cs' (o.getD Tbl.zero) ∧ Below w.heap.size w w'
theorem Sj (S : Nat → Prop) (l : List Tbl) (v : Value) (x0 : Bs) (w : World) (hv0 : Sl Qs S w v l) :
  Calls prog 76 #[v, .func (.func 77) #[] #[], sv x0] w (NamedIs S w (Z0 l x0)) := by
 have hv := hv0.up
 obtain ⟨vp, vcap, rfl, hl⟩ := hv.len
 have HV := Qq hv
 clear hv hv0
 obtain ⟨m, hm⟩ := eX (l.length)
 rw [hm] at HV hl ⊢
 have HN := Qq hm
 clear hm
 obtain ⟨r, hr⟩ := eX (Z0 l x0)
 rw [hr]
 have HR := Qq hr
 clear hr
 unfold sv
 go_enter func76, ntmps76
 go_wp2_with fail
 generalize hW1 : w.alloc (.cells zT 37) = W1
 have hb1 := eqB hW1 (Qo _ _)
 have hR1 := eqH (b := w.heap.size) hW1 (Qw _ _)
 have HB1 := Qq hb1; have HR1 := Qq hR1
 clear hW1 hb1 hR1
 go_loopw [13] (fun i wr => ∃ k : Nat, k ≤ m ∧ i = .int .i64 k ∧ Aside (∀ (j : Nat) (y : Tbl), j < k → l[j]? = some y → decide (y.name = x0) = false) ∧ Below W1.heap.size W1 wr) (fun i _ => m - (intOf i).toNat)
 case atStart => exact ⟨0, Q8 _, rfl, fun j _ hj => absurd hj (Nat.not_lt_zero _), Qz _ _⟩
 obtain ⟨k, hk, rfl, hA, hB⟩ := hrel
 have hres := kB hB HR1.out
 have hlt0 := Qf hres
 have HA := Qq hA.out; have HB := Qq (HB1.out.thn hB); have HBr := Qq hB
 clear hA hB
 by_cases hlt : k < m
 ·have hi1 : (0 : Int) ≤ (k : Int) := by omega
  have hi2 : (k : Int) < (m : Int) := by omega
  obtain ⟨x, hx⟩ : ∃ x, l[k]? = some x := ⟨_, Qx (by rw [HN.out]; exact hlt)⟩
  obtain ⟨bb, off, cx, rfl, hbb, -, -, hvx, hcx⟩ := (HV.out.below HB.out).elem hx
  have HNm := Qq (M7 _ x cx (wr.alloc (.cells cx.toArray 37)) (Qs.frame hvx (.of_below (Qo _ _))))
  have HVX := Qq hvx
  obtain ⟨cp9, cc9, kp9, kc9, rp9, rc9, k9, s19, n9, s29, p19, n19, c19, p29, n29, c29, p39, n39, c39, a9, z9, hcs, _⟩ := Zk hvx
  simp only [tcs] at hcs
  subst hcs
  have y0 := hcx 0 _ rfl; have y1 := hcx 1 _ rfl; have y2 := hcx 2 _ rfl; have y3 := hcx 3 _ rfl; have y4 := hcx 4 _ rfl; have y5 := hcx 5 _ rfl; have y6 := hcx 6 _ rfl; have y7 := hcx 7 _ rfl; have y8 := hcx 8 _ rfl; have y9 := hcx 9 _ rfl; have y10 := hcx 10 _ rfl; have y11 := hcx 11 _ rfl; have y12 := hcx 12 _ rfl
  simp only [show Qs.k = 13 from rfl, Nat.add_zero] at y0 y1 y2 y3 y4 y5 y6 y7 y8 y9 y10 y11 y12
  have HX := Qq hx; have HRes := Qq hres
  clear hx hvx hcx hres
  unfold sv at HNm
  by_cases he : x.name = x0
  ·have hq : (x.name == x0) = true := by rw [he]; simp
   have hr1 : r = some x := by
    rw [← HR.out]
    unfold Z0
    obtain ⟨hk', hxe⟩ := Qj HX.out
    rw [List.find?_eq_some_iff_getElem]
    refine ⟨by simp [he], k, hk', hxe, fun j hj => ?_⟩
    have := HA.out j _ hj (Qx (by omega))
    simpa using this
   have HR2 := Qq hr1
   clear hr1 he
   go_wp2_with fail
   refine HNm.out.mono ?_
   rintro e w5 ⟨rfl, hw⟩
   have hX5 := (hw.block wr.heap.size (by simp)).trans (Qw wr _)
   have hR5 := (hw.block w.heap.size (by simp; omega)).trans ((Below.heap_alloc wr _ _ hlt0).trans HRes.out)
   have x0' := Qk _ _ 0 _ _ _ hX5; have x1' := Qk _ _ 1 _ _ _ hX5; have x2' := Qk _ _ 2 _ _ _ hX5; have x3' := Qk _ _ 3 _ _ _ hX5; have x4' := Qk _ _ 4 _ _ _ hX5; have x5' := Qk _ _ 5 _ _ _ hX5; have x6' := Qk _ _ 6 _ _ _ hX5; have x7' := Qk _ _ 7 _ _ _ hX5; have x8' := Qk _ _ 8 _ _ _ hX5; have x9' := Qk _ _ 9 _ _ _ hX5; have x10' := Qk _ _ 10 _ _ _ hX5; have x11' := Qk _ _ 11 _ _ _ hX5; have x12' := Qk _ _ 12 _ _ _ hX5
   have fz := fun j => frozen_of_row _ _ j _ _ hR5
   have rr := fun j => Qk _ _ j _ _ _ hR5
   have f0 := fz 0; have f1 := fz 1; have f2 := fz 2; have f3 := fz 3; have f4 := fz 4; have f5 := fz 5; have f6 := fz 6; have f7 := fz 7; have f8 := fz 8; have f9 := fz 9; have f10 := fz 10; have f11 := fz 11; have f12 := fz 12
   have r0 := rr 0; have r1 := rr 1; have r2 := rr 2; have r3 := rr 3; have r4 := rr 4; have r5 := rr 5; have r6 := rr 6; have r7 := rr 7; have r8 := rr 8; have r9 := rr 9; have r10 := rr 10; have r11 := rr 11; have r12 := rr 12
   simp only [List.getElem?_toArray, List.getElem?_cons_zero, List.getElem?_cons_succ] at x0' x1' x2' x3' x4' x5' x6' x7' x8' x9' x10' x11' x12' r0 r1 r2 r3 r4 r5 r6 r7 r8 r9 r10 r11 r12
   have HB5 := Qq (HB.out.thn ((Qo wr _).thn hw)); have HR5 := Qq hR5
   have HBr5 := Qq ((Qo wr _).thn hw)
   clear fz rr hX5 hR5 hw y0 y1 y2 y3 y4 y5 y6 y7 y8 y9 y10 y11 y12
   go_wp2_with fail
   obtain ⟨W, hW⟩ := eX (Yr w5 w.heap.size (.string ⟨x.name.toArray⟩) (.slice cp9 x.columns.length cc9) (.slice kp9 x.key.length kc9) (.slice rp9 x.refs.length rc9) (.int .i64 k9) (.string s19) (.int .i64 n9) (.string s29) (.slice p19 n19 c19) (.slice p29 n29 c29) (.slice p39 n39 c39) (.int .i64 a9) (.int .i64 z9))
   have q : ∀ j, W.cell? ⟨w.heap.size, j, none⟩ = #[.string ⟨x.name.toArray⟩, .slice cp9 x.columns.length cc9, .slice kp9 x.key.length kc9, .slice rp9 x.refs.length rc9, .int .i64 k9, .string s19, .int .i64 n9, .string s29, .slice p19 n19 c19, .slice p29 n29 c29, .slice p39 n39 c39, .int .i64 a9, .int .i64 z9][j]? := fun j => by rw [← hW]; exact Xr HR5.out j
   have hoth : ∀ b, b < w.heap.size → W.heap[b]? = w5.heap[b]? := fun b hb => by rw [← hW]; exact Xc (by omega)
   have hbel : Below w.heap.size w W := by rw [← hW]; exact Yv HB5.out (Q9 _)
   show bodyPost _ _ _ _ _ (Yr w5 w.heap.size (.string ⟨x.name.toArray⟩) (.slice cp9 x.columns.length cc9) (.slice kp9 x.key.length kc9) (.slice rp9 x.refs.length rc9) (.int .i64 k9) (.string s19) (.int .i64 n9) (.string s29) (.slice p19 n19 c19) (.slice p29 n29 c29) (.slice p39 n39 c39) (.int .i64 a9) (.int .i64 z9))
   rw [hW]
   have HOth := Qq hoth; have HBel := Qq hbel
   have q0 := q 0; have q1 := q 1; have q2 := q 2; have q3 := q 3; have q4 := q 4; have q5 := q 5; have q6 := q 6; have q7 := q 7; have q8 := q 8; have q9 := q 9; have q10 := q 10; have q11 := q 11; have q12 := q 12
   simp only [List.getElem?_toArray, List.getElem?_cons_zero, List.getElem?_cons_succ] at q0 q1 q2 q3 q4 q5 q6 q7 q8 q9 q10 q11 q12
   clear hW hoth hbel q r0 r1 r2 r3 r4 r5 r6 r7 r8 r9 r10 r11 r12 f0 f1 f2 f3 f4 f5 f6 f7 f8 f9 f10 f11 f12 x0' x1' x2' x3' x4' x5' x6' x7' x8' x9' x10' x11' x12'
   refine Q7 (v := .tuple #[.agg #[.string ⟨x.name.toArray⟩, .slice cp9 x.columns.length cc9, .slice kp9 x.key.length kc9, .slice rp9 x.refs.length rc9, .int .i64 k9, .string s19, .int .i64 n9, .string s29, .slice p19 n19 c19, .slice p29 n29 c29, .slice p39 n39 c39, .int .i64 a9, .int .i64 z9], .bool true]) (by simp [results, results76, go_sem, q0, q1, q2, q3, q4, q5, q6, q7, q8, q9, q10, q11, q12]) rfl ⟨[.string ⟨x.name.toArray⟩, .slice cp9 x.columns.length cc9, .slice kp9 x.key.length kc9, .slice rp9 x.refs.length rc9, .int .i64 k9, .string s19, .int .i64 n9, .string s29, .slice p19 n19 c19, .slice p29 n29 c29, .slice p39 n39 c39, .int .i64 a9, .int .i64 z9], by rw [HR2.out]; rfl, ?_, HBel.out⟩
   rw [HR2.out]
   exact Qs.frame HVX.out (fun b hb hlt => (HOth.out b hb.2).trans (HBr5.out.block b hlt))
  have hq : (x.name == x0) = false := by rw [← Bool.not_eq_true, beq_iff_eq]; exact he
  have HE := Qq he
  clear he
  go_wp2_with (go_at_call 77; refine HNm.out.mono ?_; rintro e w5 ⟨rfl, hw⟩; have HW5 := Qq ((Qo wr _).thn hw); clear hw)
  go_roundw
  case measure => simp [intOf]; omega
  case rel =>
   refine ⟨k + 1, by omega, by go_num, (show Aside _ from fun j y hj hy => ?_), ?_⟩
   ·by_cases e : j = k
    ·subst e
     have := HX.out
     rw [this] at hy
     cases hy
     simpa using HE.out
    exact HA.out j y (by omega) hy
   exact (HBr.out.thn HW5.out)
 have hkm : k = m := by omega
 subst hkm
 have hr1 : r = none := by
  rw [← HR.out]
  unfold Z0
  rw [List.find?_eq_none]
  intro y hy
  obtain ⟨j, hj⟩ := List.getElem?_of_mem hy
  have := HA.out j y (by have := (Qj hj).1; have := HN.out; omega) hj
  simpa using this
 have HR2 := Qq hr1
 have fz := fun j => frozen_of_row _ _ j _ _ hres
 have rr := fun j => Qk _ _ j _ _ _ hres
 have f0 := fz 0; have f1 := fz 1; have f2 := fz 2; have f3 := fz 3; have f4 := fz 4; have f5 := fz 5; have f6 := fz 6; have f7 := fz 7; have f8 := fz 8; have f9 := fz 9; have f10 := fz 10; have f11 := fz 11; have f12 := fz 12
 have r0 := rr 0; have r1 := rr 1; have r2 := rr 2; have r3 := rr 3; have r4 := rr 4; have r5 := rr 5; have r6 := rr 6; have r7 := rr 7; have r8 := rr 8; have r9 := rr 9; have r10 := rr 10; have r11 := rr 11; have r12 := rr 12
 simp only [List.getElem?_toArray, List.getElem?_cons_zero, List.getElem?_cons_succ] at r0 r1 r2 r3 r4 r5 r6 r7 r8 r9 r10 r11 r12
 have HRes := Qq hres
 clear fz rr hres hr1 f0 f1 f2 f3 f4 f5 f6 f7 f8 f9 f10 f11 f12 r0 r1 r2 r3 r4 r5 r6 r7 r8 r9 r10 r11 r12
 go_upto_region 8 with fail
 generalize hW5 : wr.alloc (.cells zT 37) = w5
 have hb5 := eqB hW5 (Qo _ _)
 have hX5 := eqH (b := wr.heap.size) hW5 (Qw _ _)
 have hR5 := (hb5.block w.heap.size hlt0).trans HRes.out
 have x0' := Qk _ _ 0 _ _ _ hX5; have x1' := Qk _ _ 1 _ _ _ hX5; have x2' := Qk _ _ 2 _ _ _ hX5; have x3' := Qk _ _ 3 _ _ _ hX5; have x4' := Qk _ _ 4 _ _ _ hX5; have x5' := Qk _ _ 5 _ _ _ hX5; have x6' := Qk _ _ 6 _ _ _ hX5; have x7' := Qk _ _ 7 _ _ _ hX5; have x8' := Qk _ _ 8 _ _ _ hX5; have x9' := Qk _ _ 9 _ _ _ hX5; have x10' := Qk _ _ 10 _ _ _ hX5; have x11' := Qk _ _ 11 _ _ _ hX5; have x12' := Qk _ _ 12 _ _ _ hX5
 have fz := fun j => frozen_of_row _ _ j _ _ hR5
 have rr := fun j => Qk _ _ j _ _ _ hR5
 have f0 := fz 0; have f1 := fz 1; have f2 := fz 2; have f3 := fz 3; have f4 := fz 4; have f5 := fz 5; have f6 := fz 6; have f7 := fz 7; have f8 := fz 8; have f9 := fz 9; have f10 := fz 10; have f11 := fz 11; have f12 := fz 12
 have r0 := rr 0; have r1 := rr 1; have r2 := rr 2; have r3 := rr 3; have r4 := rr 4; have r5 := rr 5; have r6 := rr 6; have r7 := rr 7; have r8 := rr 8; have r9 := rr 9; have r10 := rr 10; have r11 := rr 11; have r12 := rr 12
 simp only [List.getElem?_toArray, List.getElem?_cons_zero, List.getElem?_cons_succ] at x0' x1' x2' x3' x4' x5' x6' x7' x8' x9' x10' x11' x12' r0 r1 r2 r3 r4 r5 r6 r7 r8 r9 r10 r11 r12
 have HB5 := Qq (HB.out.thn hb5); have HR5 := Qq hR5
 clear fz rr hX5 hR5 hb5 hW5
 go_wp2_with fail
 obtain ⟨W, hW⟩ := eX (Yr w5 w.heap.size (.string ⟨#[]⟩) (.slice none 0 0) (.slice none 0 0) (.slice none 0 0) (.int .i64 0) (.string ⟨#[]⟩) (.int .i64 0) (.string ⟨#[]⟩) (.slice none 0 0) (.slice none 0 0) (.slice none 0 0) (.int .i64 0) (.int .i64 0))
 have q : ∀ j, W.cell? ⟨w.heap.size, j, none⟩ = zT[j]? := fun j => by rw [← hW]; exact Xr HR5.out j
 have hbel : Below w.heap.size w W := by rw [← hW]; exact Yv HB5.out (Q9 _)
 show bodyPost _ _ _ _ _ (Yr w5 w.heap.size (.string ⟨#[]⟩) (.slice none 0 0) (.slice none 0 0) (.slice none 0 0) (.int .i64 0) (.string ⟨#[]⟩) (.int .i64 0) (.string ⟨#[]⟩) (.slice none 0 0) (.slice none 0 0) (.slice none 0 0) (.int .i64 0) (.int .i64 0))
 rw [hW]
 have HBel := Qq hbel
 have q0 := q 0; have q1 := q 1; have q2 := q 2; have q3 := q 3; have q4 := q 4; have q5 := q 5; have q6 := q 6; have q7 := q 7; have q8 := q 8; have q9 := q 9; have q10 := q 10; have q11 := q 11; have q12 := q 12
 simp only [List.getElem?_toArray, List.getElem?_cons_zero, List.getElem?_cons_succ] at q0 q1 q2 q3 q4 q5 q6 q7 q8 q9 q10 q11 q12
 clear hW hbel q r0 r1 r2 r3 r4 r5 r6 r7 r8 r9 r10 r11 r12 f0 f1 f2 f3 f4 f5 f6 f7 f8 f9 f10 f11 f12 x0' x1' x2' x3' x4' x5' x6' x7' x8' x9' x10' x11' x12'
 refine Q7 (v := .tuple #[.agg zT, .bool false]) (by simp [results, results76, go_sem, q0, q1, q2, q3, q4, q5, q6, q7, q8, q9, q10, q11, q12]) rfl ⟨[.string ⟨#[]⟩, .slice none 0 0, .slice none 0 0, .slice none 0 0, .int .i64 0, .string ⟨#[]⟩, .int .i64 0, .string ⟨#[]⟩, .slice none 0 0, .slice none 0 0, .slice none 0 0, .int .i64 0, .int .i64 0], by rw [HR2.out]; rfl, ?_, HBel.out⟩
 rw [HR2.out]
 exact Jo _ _
end Go.Proofs.YtppbaladeefnkaaGreatDoor

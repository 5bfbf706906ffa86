import Derived.Test.YtppbaladeefnkaaGreatDoorU23
set_option maxRecDepth 100000
set_option maxHeartbeats 400000000
namespace Go.Proofs.YtppbaladeefnkaaGreatDoor
open Go.RowKit Go.Shelf Go.Lib Tryz
structure Jn (w : World) where
 wd : World
 below : Below w.heap.size w wd
instance {w : World} : Inhabited (Jn w) := ⟨⟨w, Qz _ _⟩⟩
theorem Xn {P : Program} {id : Nat} {Q : Exit → Act → World → Prop} {a : Act} {w : World} {l : List Oper} (hm : P.follows .mixedOrders = true) (hB : Region.lexB .any l.toArray = true)
  (h : wpQuiet P l.toArray (fun w' => ∃ p : Jn w, w' = p.wd) (fun a' => ∀ w', (∃ p : Jn w, w' = p.wd) → Q .normal a' w') l a) : (Code.region id l.toArray true).wp P Q a w :=
 wp_region_quiet (C := fun w' => ∃ p : Jn w, w' = p.wd) hm hB ⟨⟨w.drew, (Qz _ _).drew⟩, rfl⟩ (by simpa using h)
theorem Uh {w : World} {b o : Nat} {v : Value} (hb : b < w.heap.size) (h : w.cell? ⟨b, o, none⟩ = some v) (p : Jn w) : p.wd.cell? ⟨b, o, none⟩ = some v := (p.below.cell (p := ⟨b, o, none⟩) hb).trans h
theorem Calls.later_of {P : Program} {f : FuncId} {args : Array Value} {w : World} {p : Jn w} {v : Value} (h : Calls P f args p.wd fun e w' => e = .returned v ∧ Below p.wd.heap.size p.wd w') : Calls P f args p.wd fun e w'' => e = .returned v ∧ ∃ q : Jn w, w'' = q.wd :=
 h.mono fun _ w' ⟨he, hb⟩ => ⟨he, ⟨w', p.below.thn hb⟩, rfl⟩
theorem B5 (a b : Bs) : Zg a b = - Zg b a := by
 have := X8 a b [] []
 have h := X8 b a [] []
 simp only [List.append_nil, lex, U7] at this h
 rw [← this, ← h]; exact Jv _ _
def Y6 (v : Val) : Prop := ∀ (S : Nat → Prop) (cs : List Value) (w : World), Qh S w cs v → Calls prog 136 #[.agg cs.toArray] w fun e w' => e = .returned (.bool true) ∧ Below w.heap.size w w'
theorem Ml (n : Int) (ks : List Val) (hks : ks = []) (ih : ∀ x ∈ ks, Y6 x) : Y6 (.mk 0 n [] [] ks) := by
 intro S cs w h
 obtain ⟨p3, k3, p4, k4, hcs, hn, hk, _⟩ := Qh.cells h
 simp only [vcs, Val.kind, Val.n, Val.s, Val.names, Val.kids, List.length_nil] at hcs hn hk
 subst hcs
 obtain ⟨_, _, _, hml⟩ := hk.len
 have HI := Qq ih
 obtain ⟨m, hm⟩ := eX (ks.length)
 rw [hm] at hk hml ⊢
 have HKs := Qq hk; have HM := Qq hm
 have mixed : prog.follows .mixedOrders = true := by kernel_rfl
 have hm0 : m = 0 := by rw [← hm, hks]; rfl
 have hm2 : decide (0 < m) = false := by simp; omega
 clear hm hn hks hm0
 clear h hk ih
 go_enter func136, ntmps136
 go_wp2_with fail
 generalize hW0 : w.alloc _ = W0
 have hb0 := eqB hW0 (Qo _ _)
 have hX0 := eqH (b := w.heap.size) hW0 (Qw _ _)
 clear hW0
 have HX0 : Hid (w.heap.size < W0.heap.size ∧ W0.cell? ⟨w.heap.size, 4, none⟩ = some (.slice p4 m k4)) := Qq ⟨Qf hX0, Qk _ _ 4 _ _ _ hX0⟩
 have HX3 : Hid (w.heap.size < W0.heap.size ∧ W0.cell? ⟨w.heap.size, 3, none⟩ = some (.slice p3 0 k3)) := Qq ⟨Qf hX0, Qk _ _ 3 _ _ _ hX0⟩
 have HB0 := Qq hb0
 clear hX0 hb0
 go_loopw [5] (fun i wr => i = .int .i64 0 ∧ W0 = wr) (fun _ _ => 0)
 case atStart => exact ⟨rfl, rfl⟩
 obtain ⟨rfl, rfl⟩ := hrel
 have c4 := HX0.out.2
 have c3 := HX3.out.2
 go_wp2_with fail
 clear c3 c4
 go_loopw [6] (fun i wr => ∃ k : Nat, k ≤ m ∧ i = .int .i64 k ∧ Aside (Below W0.heap.size W0 wr)) (fun i _ => m - (intOf i).toNat)
 case atStart => exact ⟨0, Q8 _, rfl, Qz _ _⟩
 obtain ⟨k, hk, rfl, hBr⟩ := hrel
 have HBr := Qq (show Below W0.heap.size W0 wr from hBr)
 have c4 := (HBr.out.cell (p := ⟨w.heap.size, 4, none⟩) HX0.out.1).trans HX0.out.2
 clear hBr
 by_cases hlt : k < m
 ·have hi1 : (0 : Int) ≤ (k : Int) := by omega
  have hi2 : (k : Int) < (m : Int) := by omega
  obtain ⟨y, hy⟩ : ∃ y, ks[k]? = some y := ⟨_, Qx (by rw [HM.out]; exact hlt)⟩
  obtain ⟨b, off, q3, l3, q4, l4, rfl, hbl, hvy, d0, d1, d2, d3, d4⟩ := (HKs.out.below (HB0.out.thn HBr.out)).val hy
  have HVy := Qq hvy; have HIy := Qq (HI.out y (Qy hy))
  clear hvy hy
  go_wp2_with (go_at_call 136; refine (HIy.out _ _ _ HVy.out).mono ?_; rintro e w5 ⟨rfl, hb5⟩; have HB5 := Qq hb5; clear hb5)
  go_roundw
  case measure => simp [intOf]; omega
  case rel => exact ⟨k + 1, by omega, by go_num, HBr.out.thn HB5.out⟩
 have hkm : k = m := by omega
 subst hkm
 go_wp2_with fail
 go_ret
 exact ⟨rfl, HB0.out.thn HBr.out⟩
theorem Hu (sx : Bs) (ks : List Val) (hks : ks = []) (ih : ∀ x ∈ ks, Y6 x) : Y6 (.mk 1 0 sx [] ks) := by
 intro S cs w h
 obtain ⟨p3, k3, p4, k4, hcs, hn, hk, _⟩ := Qh.cells h
 simp only [vcs, Val.kind, Val.n, Val.s, Val.names, Val.kids, List.length_nil] at hcs hn hk
 subst hcs
 obtain ⟨_, _, _, hml⟩ := hk.len
 have HI := Qq ih
 obtain ⟨m, hm⟩ := eX (ks.length)
 rw [hm] at hk hml ⊢
 have HKs := Qq hk; have HM := Qq hm
 have mixed : prog.follows .mixedOrders = true := by kernel_rfl
 have hm0 : m = 0 := by rw [← hm, hks]; rfl
 have hm2 : decide (0 < m) = false := by simp; omega
 clear hm hn hks hm0
 clear h hk ih
 go_enter func136, ntmps136
 go_wp2_with fail
 generalize hW0 : w.alloc _ = W0
 have hb0 := eqB hW0 (Qo _ _)
 have hX0 := eqH (b := w.heap.size) hW0 (Qw _ _)
 clear hW0
 have HX0 : Hid (w.heap.size < W0.heap.size ∧ W0.cell? ⟨w.heap.size, 4, none⟩ = some (.slice p4 m k4)) := Qq ⟨Qf hX0, Qk _ _ 4 _ _ _ hX0⟩
 have HX3 : Hid (w.heap.size < W0.heap.size ∧ W0.cell? ⟨w.heap.size, 3, none⟩ = some (.slice p3 0 k3)) := Qq ⟨Qf hX0, Qk _ _ 3 _ _ _ hX0⟩
 have HB0 := Qq hb0
 clear hX0 hb0
 go_loopw [5] (fun i wr => i = .int .i64 0 ∧ W0 = wr) (fun _ _ => 0)
 case atStart => exact ⟨rfl, rfl⟩
 obtain ⟨rfl, rfl⟩ := hrel
 have c4 := HX0.out.2
 have c3 := HX3.out.2
 go_wp2_with fail
 clear c3 c4
 go_loopw [6] (fun i wr => ∃ k : Nat, k ≤ m ∧ i = .int .i64 k ∧ Aside (Below W0.heap.size W0 wr)) (fun i _ => m - (intOf i).toNat)
 case atStart => exact ⟨0, Q8 _, rfl, Qz _ _⟩
 obtain ⟨k, hk, rfl, hBr⟩ := hrel
 have HBr := Qq (show Below W0.heap.size W0 wr from hBr)
 have c4 := (HBr.out.cell (p := ⟨w.heap.size, 4, none⟩) HX0.out.1).trans HX0.out.2
 clear hBr
 by_cases hlt : k < m
 ·have hi1 : (0 : Int) ≤ (k : Int) := by omega
  have hi2 : (k : Int) < (m : Int) := by omega
  obtain ⟨y, hy⟩ : ∃ y, ks[k]? = some y := ⟨_, Qx (by rw [HM.out]; exact hlt)⟩
  obtain ⟨b, off, q3, l3, q4, l4, rfl, hbl, hvy, d0, d1, d2, d3, d4⟩ := (HKs.out.below (HB0.out.thn HBr.out)).val hy
  have HVy := Qq hvy; have HIy := Qq (HI.out y (Qy hy))
  clear hvy hy
  go_wp2_with (go_at_call 136; refine (HIy.out _ _ _ HVy.out).mono ?_; rintro e w5 ⟨rfl, hb5⟩; have HB5 := Qq hb5; clear hb5)
  go_roundw
  case measure => simp [intOf]; omega
  case rel => exact ⟨k + 1, by omega, by go_num, HBr.out.thn HB5.out⟩
 have hkm : k = m := by omega
 subst hkm
 go_wp2_with fail
 go_ret
 exact ⟨rfl, HB0.out.thn HBr.out⟩
theorem Eo (ks : List Val) (hks : ks = []) (ih : ∀ x ∈ ks, Y6 x) : Y6 (.mk 2 0 [] [] ks) := by
 intro S cs w h
 obtain ⟨p3, k3, p4, k4, hcs, hn, hk, _⟩ := Qh.cells h
 simp only [vcs, Val.kind, Val.n, Val.s, Val.names, Val.kids, List.length_nil] at hcs hn hk
 subst hcs
 obtain ⟨_, _, _, hml⟩ := hk.len
 have HI := Qq ih
 obtain ⟨m, hm⟩ := eX (ks.length)
 rw [hm] at hk hml ⊢
 have HKs := Qq hk; have HM := Qq hm
 have mixed : prog.follows .mixedOrders = true := by kernel_rfl
 have hm0 : m = 0 := by rw [← hm, hks]; rfl
 have hm2 : decide (0 < m) = false := by simp; omega
 clear hm hn hks hm0
 clear h hk ih
 go_enter func136, ntmps136
 go_wp2_with fail
 generalize hW0 : w.alloc _ = W0
 have hb0 := eqB hW0 (Qo _ _)
 have hX0 := eqH (b := w.heap.size) hW0 (Qw _ _)
 clear hW0
 have HX0 : Hid (w.heap.size < W0.heap.size ∧ W0.cell? ⟨w.heap.size, 4, none⟩ = some (.slice p4 m k4)) := Qq ⟨Qf hX0, Qk _ _ 4 _ _ _ hX0⟩
 have HX3 : Hid (w.heap.size < W0.heap.size ∧ W0.cell? ⟨w.heap.size, 3, none⟩ = some (.slice p3 0 k3)) := Qq ⟨Qf hX0, Qk _ _ 3 _ _ _ hX0⟩
 have HB0 := Qq hb0
 clear hX0 hb0
 go_loopw [5] (fun i wr => i = .int .i64 0 ∧ W0 = wr) (fun _ _ => 0)
 case atStart => exact ⟨rfl, rfl⟩
 obtain ⟨rfl, rfl⟩ := hrel
 have c4 := HX0.out.2
 have c3 := HX3.out.2
 go_wp2_with fail
 clear c3 c4
 go_loopw [6] (fun i wr => ∃ k : Nat, k ≤ m ∧ i = .int .i64 k ∧ Aside (Below W0.heap.size W0 wr)) (fun i _ => m - (intOf i).toNat)
 case atStart => exact ⟨0, Q8 _, rfl, Qz _ _⟩
 obtain ⟨k, hk, rfl, hBr⟩ := hrel
 have HBr := Qq (show Below W0.heap.size W0 wr from hBr)
 have c4 := (HBr.out.cell (p := ⟨w.heap.size, 4, none⟩) HX0.out.1).trans HX0.out.2
 clear hBr
 by_cases hlt : k < m
 ·have hi1 : (0 : Int) ≤ (k : Int) := by omega
  have hi2 : (k : Int) < (m : Int) := by omega
  obtain ⟨y, hy⟩ : ∃ y, ks[k]? = some y := ⟨_, Qx (by rw [HM.out]; exact hlt)⟩
  obtain ⟨b, off, q3, l3, q4, l4, rfl, hbl, hvy, d0, d1, d2, d3, d4⟩ := (HKs.out.below (HB0.out.thn HBr.out)).val hy
  have HVy := Qq hvy; have HIy := Qq (HI.out y (Qy hy))
  clear hvy hy
  go_wp2_with (go_at_call 136; refine (HIy.out _ _ _ HVy.out).mono ?_; rintro e w5 ⟨rfl, hb5⟩; have HB5 := Qq hb5; clear hb5)
  go_roundw
  case measure => simp [intOf]; omega
  case rel => exact ⟨k + 1, by omega, by go_num, HBr.out.thn HB5.out⟩
 have hkm : k = m := by omega
 subst hkm
 go_wp2_with fail
 go_ret
 exact ⟨rfl, HB0.out.thn HBr.out⟩
theorem Ep (ks : List Val) (hks : ks = []) (ih : ∀ x ∈ ks, Y6 x) : Y6 (.mk 2 1 [] [] ks) := by
 intro S cs w h
 obtain ⟨p3, k3, p4, k4, hcs, hn, hk, _⟩ := Qh.cells h
 simp only [vcs, Val.kind, Val.n, Val.s, Val.names, Val.kids, List.length_nil] at hcs hn hk
 subst hcs
 obtain ⟨_, _, _, hml⟩ := hk.len
 have HI := Qq ih
 obtain ⟨m, hm⟩ := eX (ks.length)
 rw [hm] at hk hml ⊢
 have HKs := Qq hk; have HM := Qq hm
 have mixed : prog.follows .mixedOrders = true := by kernel_rfl
 have hm0 : m = 0 := by rw [← hm, hks]; rfl
 have hm2 : decide (0 < m) = false := by simp; omega
 clear hm hn hks hm0
 clear h hk ih
 go_enter func136, ntmps136
 go_wp2_with fail
 generalize hW0 : w.alloc _ = W0
 have hb0 := eqB hW0 (Qo _ _)
 have hX0 := eqH (b := w.heap.size) hW0 (Qw _ _)
 clear hW0
 have HX0 : Hid (w.heap.size < W0.heap.size ∧ W0.cell? ⟨w.heap.size, 4, none⟩ = some (.slice p4 m k4)) := Qq ⟨Qf hX0, Qk _ _ 4 _ _ _ hX0⟩
 have HX3 : Hid (w.heap.size < W0.heap.size ∧ W0.cell? ⟨w.heap.size, 3, none⟩ = some (.slice p3 0 k3)) := Qq ⟨Qf hX0, Qk _ _ 3 _ _ _ hX0⟩
 have HB0 := Qq hb0
 clear hX0 hb0
 go_loopw [5] (fun i wr => i = .int .i64 0 ∧ W0 = wr) (fun _ _ => 0)
 case atStart => exact ⟨rfl, rfl⟩
 obtain ⟨rfl, rfl⟩ := hrel
 have c4 := HX0.out.2
 have c3 := HX3.out.2
 go_wp2_with fail
 clear c3 c4
 go_loopw [6] (fun i wr => ∃ k : Nat, k ≤ m ∧ i = .int .i64 k ∧ Aside (Below W0.heap.size W0 wr)) (fun i _ => m - (intOf i).toNat)
 case atStart => exact ⟨0, Q8 _, rfl, Qz _ _⟩
 obtain ⟨k, hk, rfl, hBr⟩ := hrel
 have HBr := Qq (show Below W0.heap.size W0 wr from hBr)
 have c4 := (HBr.out.cell (p := ⟨w.heap.size, 4, none⟩) HX0.out.1).trans HX0.out.2
 clear hBr
 by_cases hlt : k < m
 ·have hi1 : (0 : Int) ≤ (k : Int) := by omega
  have hi2 : (k : Int) < (m : Int) := by omega
  obtain ⟨y, hy⟩ : ∃ y, ks[k]? = some y := ⟨_, Qx (by rw [HM.out]; exact hlt)⟩
  obtain ⟨b, off, q3, l3, q4, l4, rfl, hbl, hvy, d0, d1, d2, d3, d4⟩ := (HKs.out.below (HB0.out.thn HBr.out)).val hy
  have HVy := Qq hvy; have HIy := Qq (HI.out y (Qy hy))
  clear hvy hy
  go_wp2_with (go_at_call 136; refine (HIy.out _ _ _ HVy.out).mono ?_; rintro e w5 ⟨rfl, hb5⟩; have HB5 := Qq hb5; clear hb5)
  go_roundw
  case measure => simp [intOf]; omega
  case rel => exact ⟨k + 1, by omega, by go_num, HBr.out.thn HB5.out⟩
 have hkm : k = m := by omega
 subst hkm
 go_wp2_with fail
 go_ret
 exact ⟨rfl, HB0.out.thn HBr.out⟩
theorem La (ks : List Val) (ih : ∀ x ∈ ks, Y6 x) : Y6 (.mk 5 0 [] [] ks) := by
 intro S cs w h
 obtain ⟨p3, k3, p4, k4, hcs, hn, hk, _⟩ := Qh.cells h
 simp only [vcs, Val.kind, Val.n, Val.s, Val.names, Val.kids, List.length_nil] at hcs hn hk
 subst hcs
 obtain ⟨_, _, _, hml⟩ := hk.len
 have HI := Qq ih
 obtain ⟨m, hm⟩ := eX (ks.length)
 rw [hm] at hk hml ⊢
 have HKs := Qq hk; have HM := Qq hm
 have mixed : prog.follows .mixedOrders = true := by kernel_rfl
 clear hm hn
 clear h hk ih
 go_enter func136, ntmps136
 go_wp2_with fail
 generalize hW0 : w.alloc _ = W0
 have hb0 := eqB hW0 (Qo _ _)
 have hX0 := eqH (b := w.heap.size) hW0 (Qw _ _)
 clear hW0
 have HX0 : Hid (w.heap.size < W0.heap.size ∧ W0.cell? ⟨w.heap.size, 4, none⟩ = some (.slice p4 m k4)) := Qq ⟨Qf hX0, Qk _ _ 4 _ _ _ hX0⟩
 have HX3 : Hid (w.heap.size < W0.heap.size ∧ W0.cell? ⟨w.heap.size, 3, none⟩ = some (.slice p3 0 k3)) := Qq ⟨Qf hX0, Qk _ _ 3 _ _ _ hX0⟩
 have HB0 := Qq hb0
 clear hX0 hb0
 go_loopw [5] (fun i wr => i = .int .i64 0 ∧ W0 = wr) (fun _ _ => 0)
 case atStart => exact ⟨rfl, rfl⟩
 obtain ⟨rfl, rfl⟩ := hrel
 have c4 := HX0.out.2
 have c3 := HX3.out.2
 go_wp2_with fail
 clear c3 c4
 go_loopw [6] (fun i wr => ∃ k : Nat, k ≤ m ∧ i = .int .i64 k ∧ Aside (Below W0.heap.size W0 wr)) (fun i _ => m - (intOf i).toNat)
 case atStart => exact ⟨0, Q8 _, rfl, Qz _ _⟩
 obtain ⟨k, hk, rfl, hBr⟩ := hrel
 have HBr := Qq (show Below W0.heap.size W0 wr from hBr)
 have c4 := (HBr.out.cell (p := ⟨w.heap.size, 4, none⟩) HX0.out.1).trans HX0.out.2
 clear hBr
 by_cases hlt : k < m
 ·have hi1 : (0 : Int) ≤ (k : Int) := by omega
  have hi2 : (k : Int) < (m : Int) := by omega
  obtain ⟨y, hy⟩ : ∃ y, ks[k]? = some y := ⟨_, Qx (by rw [HM.out]; exact hlt)⟩
  obtain ⟨b, off, q3, l3, q4, l4, rfl, hbl, hvy, d0, d1, d2, d3, d4⟩ := (HKs.out.below (HB0.out.thn HBr.out)).val hy
  have HVy := Qq hvy; have HIy := Qq (HI.out y (Qy hy))
  clear hvy hy
  go_wp2_with (go_at_call 136; refine (HIy.out _ _ _ HVy.out).mono ?_; rintro e w5 ⟨rfl, hb5⟩; have HB5 := Qq hb5; clear hb5)
  go_roundw
  case measure => simp [intOf]; omega
  case rel => exact ⟨k + 1, by omega, by go_num, HBr.out.thn HB5.out⟩
 have hkm : k = m := by omega
 subst hkm
 go_wp2_with fail
 go_ret
 exact ⟨rfl, HB0.out.thn HBr.out⟩
theorem Ht (sx : Bs) (hsx : D9 sx) (ks : List Val) (hl : ks.length ≤ 1) (ih : ∀ x ∈ ks, Y6 x) : Y6 (.mk 3 0 sx [] ks) := by
 intro S cs w h
 obtain ⟨p3, k3, p4, k4, hcs, hn, hk, _⟩ := Qh.cells h
 simp only [vcs, Val.kind, Val.n, Val.s, Val.names, Val.kids, List.length_nil] at hcs hn hk
 subst hcs
 obtain ⟨_, _, _, hml⟩ := hk.len
 have HI := Qq ih
 obtain ⟨m, hm⟩ := eX (ks.length)
 rw [hm] at hk hml ⊢
 have HKs := Qq hk; have HM := Qq hm
 have mixed : prog.follows .mixedOrders = true := by kernel_rfl
 have hm1 : m ≤ 1 := by omega
 have hm2 : decide (1 < m) = false := by simp; omega
 have HF := Qq (fun W => Pq sx hsx W)
 unfold sv at HF
 clear hm hn hsx hl
 clear h hk ih
 go_enter func136, ntmps136
 go_wp2_with fail
 refine (HF.out _).mono ?_
 rintro e W0 ⟨rfl, hb1⟩
 have hX0 : W0.heap[w.heap.size]? = some (.cells #[.int .i64 3, .int .i64 0, .string ⟨sx.toArray⟩, .slice p3 0 k3, .slice p4 m k4] 44 (0, 0)) := kE hb1 (by simp) (Qw _ _)
 have hb0 := (Qo w _).thn hb1
 clear hb1
 obtain ⟨c0, c1, c2, c3, c4⟩ := row5 hX0
 go_wp2_with fail
 clear c0 c1 c2 c3 c4
 have HX0 : Hid (w.heap.size < W0.heap.size ∧ W0.cell? ⟨w.heap.size, 4, none⟩ = some (.slice p4 m k4)) := Qq ⟨Qf hX0, Qk _ _ 4 _ _ _ hX0⟩
 have HX3 : Hid (w.heap.size < W0.heap.size ∧ W0.cell? ⟨w.heap.size, 3, none⟩ = some (.slice p3 0 k3)) := Qq ⟨Qf hX0, Qk _ _ 3 _ _ _ hX0⟩
 have HB0 := Qq hb0
 clear hX0 hb0
 go_loopw [5] (fun i wr => i = .int .i64 0 ∧ W0 = wr) (fun _ _ => 0)
 case atStart => exact ⟨rfl, rfl⟩
 obtain ⟨rfl, rfl⟩ := hrel
 have c4 := HX0.out.2
 have c3 := HX3.out.2
 go_wp2_with fail
 clear c3 c4
 go_loopw [6] (fun i wr => ∃ k : Nat, k ≤ m ∧ i = .int .i64 k ∧ Aside (Below W0.heap.size W0 wr)) (fun i _ => m - (intOf i).toNat)
 case atStart => exact ⟨0, Q8 _, rfl, Qz _ _⟩
 obtain ⟨k, hk, rfl, hBr⟩ := hrel
 have HBr := Qq (show Below W0.heap.size W0 wr from hBr)
 have c4 := (HBr.out.cell (p := ⟨w.heap.size, 4, none⟩) HX0.out.1).trans HX0.out.2
 clear hBr
 by_cases hlt : k < m
 ·have hi1 : (0 : Int) ≤ (k : Int) := by omega
  have hi2 : (k : Int) < (m : Int) := by omega
  obtain ⟨y, hy⟩ : ∃ y, ks[k]? = some y := ⟨_, Qx (by rw [HM.out]; exact hlt)⟩
  obtain ⟨b, off, q3, l3, q4, l4, rfl, hbl, hvy, d0, d1, d2, d3, d4⟩ := (HKs.out.below (HB0.out.thn HBr.out)).val hy
  have HVy := Qq hvy; have HIy := Qq (HI.out y (Qy hy))
  clear hvy hy
  go_wp2_with (go_at_call 136; refine (HIy.out _ _ _ HVy.out).mono ?_; rintro e w5 ⟨rfl, hb5⟩; have HB5 := Qq hb5; clear hb5)
  go_roundw
  case measure => simp [intOf]; omega
  case rel => exact ⟨k + 1, by omega, by go_num, HBr.out.thn HB5.out⟩
 have hkm : k = m := by omega
 subst hkm
 go_wp2_with fail
 go_ret
 exact ⟨rfl, HB0.out.thn HBr.out⟩
theorem Nk (ns : List Bs) (ks : List Val) (hlen : ns.length = ks.length) (hw : ∀ x ∈ ns, Yt x) (hst : ∀ (i : Nat) (x y : Bs), ns[i]? = some x → ns[i + 1]? = some y → Zg x y < 0) (ih : ∀ x ∈ ks, Y6 x) : Y6 (.mk 4 0 [] ns ks) := by
 intro S cs w h
 obtain ⟨p3, k3, p4, k4, hcs, hn, hk, _⟩ := Qh.cells h
 simp only [vcs, Val.kind, Val.n, Val.s, Val.names, Val.kids] at hcs hn hk
 subst hcs
 obtain ⟨_, _, _, hml⟩ := hk.len
 have HI := Qq ih
 obtain ⟨m, hm⟩ := eX (ks.length)
 rw [hm] at hk hml ⊢
 have HKs := Qq hk; have HM := Qq hm
 have mixed : prog.follows .mixedOrders = true := by kernel_rfl
 have hnl : ns.length = m := by omega
 rw [hnl] at hn ⊢
 have HNs := Qq hn; have HNl := Qq hnl; have HW := Qq hw; have HSt := Qq hst
 have hqm : ((m : Int) != (m : Int)) = false := by simp
 clear hm hn hnl hlen hw hst
 clear h hk ih
 go_enter func136, ntmps136
 go_wp2_with fail
 generalize hW0 : w.alloc _ = W0
 have hb0 := eqB hW0 (Qo _ _)
 have hX0 := eqH (b := w.heap.size) hW0 (Qw _ _)
 clear hW0
 clear hqm
 have HX0 : Hid (w.heap.size < W0.heap.size ∧ W0.cell? ⟨w.heap.size, 4, none⟩ = some (.slice p4 m k4)) := Qq ⟨Qf hX0, Qk _ _ 4 _ _ _ hX0⟩
 have HX3 : Hid (w.heap.size < W0.heap.size ∧ W0.cell? ⟨w.heap.size, 3, none⟩ = some (.slice p3 m k3)) := Qq ⟨Qf hX0, Qk _ _ 3 _ _ _ hX0⟩
 have HB0 := Qq hb0
 clear hX0 hb0
 go_loopw [5] (fun i wr => ∃ k : Nat, k ≤ m ∧ i = .int .i64 k ∧ Aside (Below W0.heap.size W0 wr)) (fun i _ => m - (intOf i).toNat)
 case atStart => exact ⟨0, Q8 _, rfl, Qz _ _⟩
 obtain ⟨k, hk, rfl, hBr⟩ := hrel
 have HBr := Qq (show Below W0.heap.size W0 wr from hBr)
 have c3 := (HBr.out.cell (p := ⟨w.heap.size, 3, none⟩) HX3.out.1).trans HX3.out.2
 have c4 := (HBr.out.cell (p := ⟨w.heap.size, 4, none⟩) HX0.out.1).trans HX0.out.2
 have hbl : w.heap.size < wr.heap.size := by have := HX3.out.1; have := HBr.out.size; omega
 clear hBr
 by_cases hlt : k < m
 ·have hi1 : (0 : Int) ≤ (k : Int) := by omega
  have hi2 : (k : Int) < (m : Int) := by omega
  obtain ⟨y, hy⟩ : ∃ y, ns[k]? = some y := ⟨_, Qx (by rw [HNl.out]; exact hlt)⟩
  obtain ⟨nb, noff, rfl, hyc, -⟩ := (HNs.out.below (HB0.out.thn HBr.out)).str hy
  have hnbl := Qv _ _ hyc
  have HF := Qq (fun W => Gw y (HW.out y (Qy hy)) W)
  unfold sv at HF
  have C3 := Uh hbl c3
  by_cases hk0 : k = 0
  ·subst hk0
   rw [Nat.add_zero] at hyc
   have Y := Uh hnbl hyc
   have hm0 : (0 : Int) < (m : Int) := by omega
   have hm3 : 0 < m := hlt
   clear hy hi1 hi2
   rw [show ((0 : Nat) : Int) = (0 : Int) from rfl]
   go_wp2_with fail
   refine Xn (by assumption) (by kernel_rfl) ?_
   repeat (first | go_big_quiet_skip | quiet_step ((go_at_call 115; exact Calls.later_of (HF.out _))))
   refine wpQuiet_nil ?_
   intro _ hw'
   obtain ⟨⟨wq, hbq⟩, hw''⟩ := hw'
   subst hw''
   try dsimp only
   clear C3 Y c4
   go_wp2_with fail
   go_roundw
   case measure => simp [intOf]; omega
   case rel => exact ⟨0 + 1, by omega, by go_num, HBr.out.thn hbq⟩
  obtain ⟨j, rfl⟩ : ∃ j, k = j + 1 := ⟨k - 1, by omega⟩
  obtain ⟨z, hz⟩ : ∃ z, ns[j]? = some z := ⟨_, Qx (by rw [HNl.out]; omega)⟩
  obtain ⟨nb', noff', he, hzc, -⟩ := (HNs.out.below (HB0.out.thn HBr.out)).str hz
  obtain ⟨rfl, rfl, -⟩ : nb = nb' ∧ noff = noff' ∧ True := by simpa using he
  have Y := Uh hnbl hyc
  have Z := Uh hnbl hzc
  have hlt2 := HSt.out j z y hz hy
  have hq1 : Op.bytesLess y z = false := by rw [(Xq y z).1, B5]; simp; omega
  have hq2 : (y == z) = false := by rw [(Xq y z).2.1, B5]; simp; omega
  have hj1 : IntKind.i64.wrap (j : Int) = (j : Int) := by rw [IntKind.wrap_i64]; omega
  have hj2 : (j : Int) < (m : Int) := by omega
  have hj3 : (0 : Int) < (j : Int) + 1 := by omega
  have hj4 : (0 : Int) ≤ (j : Int) + 1 := by omega
  have hj5 : (j : Int) + 1 < (m : Int) := by omega
  have hj6 : (0 : Int) ≤ (j : Int) := by omega
  have hj7 : ((j : Int) + 1).toNat = j + 1 := by omega
  clear hy hyc hz hzc he hk0 hlt2
  go_wp2_with fail
  refine Xn (by assumption) (by kernel_rfl) ?_
  repeat (quiet_step ((go_at_call 115; exact Calls.later_of (HF.out _))))
  refine wpQuiet_nil ?_
  intro _ hw'
  obtain ⟨⟨wq, hbq⟩, hw''⟩ := hw'
  subst hw''
  try dsimp only
  clear C3 Y Z c4 hj1 hj7
  go_wp2_with fail
  go_roundw
  case measure => simp [intOf]; omega
  case rel => exact ⟨j + 1 + 1, by omega, by go_num, HBr.out.thn hbq⟩
 have hkm : k = m := by omega
 subst hkm
 have hW : Hid (Below w.heap.size w wr) := Qq (HB0.out.thn HBr.out)
 have hX0' : Hid (w.heap.size < wr.heap.size ∧ wr.cell? ⟨w.heap.size, 4, none⟩ = some (.slice p4 k k4)) := Qq ⟨hbl, c4⟩
 clear HX0 HX3 HB0 HBr
 obtain ⟨W0, rfl⟩ : ∃ W0 : World, W0 = wr := ⟨_, rfl⟩
 have HX0 := hX0'; have HB0 := hW
 clear hX0' hW
 go_wp2_with fail
 clear c3 c4
 obtain ⟨mm, rfl⟩ : ∃ mm, mm = k := ⟨_, rfl⟩
 go_loopw [6] (fun i wr => ∃ k : Nat, k ≤ mm ∧ i = .int .i64 k ∧ Aside (Below W0.heap.size W0 wr)) (fun i _ => mm - (intOf i).toNat)
 case atStart => exact ⟨0, Q8 _, rfl, Qz _ _⟩
 obtain ⟨k, hk, rfl, hBr⟩ := hrel
 have HBr := Qq (show Below W0.heap.size W0 wr from hBr)
 have c4 := (HBr.out.cell (p := ⟨w.heap.size, 4, none⟩) HX0.out.1).trans HX0.out.2
 clear hBr
 by_cases hlt : k < mm
 ·have hi1 : (0 : Int) ≤ (k : Int) := by omega
  have hi2 : (k : Int) < (mm : Int) := by omega
  obtain ⟨y, hy⟩ : ∃ y, ks[k]? = some y := ⟨_, Qx (by rw [HM.out]; exact hlt)⟩
  obtain ⟨b, off, q3, l3, q4, l4, rfl, hbl, hvy, d0, d1, d2, d3, d4⟩ := (HKs.out.below (HB0.out.thn HBr.out)).val hy
  have HVy := Qq hvy; have HIy := Qq (HI.out y (Qy hy))
  clear hvy hy
  go_wp2_with (go_at_call 136; refine (HIy.out _ _ _ HVy.out).mono ?_; rintro e w5 ⟨rfl, hb5⟩; have HB5 := Qq hb5; clear hb5)
  go_roundw
  case measure => simp [intOf]; omega
  case rel => exact ⟨k + 1, by omega, by go_num, HBr.out.thn HB5.out⟩
 have hkm : k = mm := by omega
 subst hkm
 go_wp2_with fail
 go_ret
 exact ⟨rfl, HB0.out.thn HBr.out⟩
theorem Mi (v : Val) (hv : Zp v) : Y6 v := by
 induction hv with
 | int n => exact Ml n [] rfl (fun x h => by simp at h)
 | text s => exact Hu s [] rfl (fun x h => by simp at h)
 | bool n hn =>
  rcases hn with rfl | rfl
  ·exact Eo [] rfl (fun x h => by simp at h)
  exact Ep [] rfl (fun x h => by simp at h)
 | make s kids hs hl hk ih => exact Ht s hs kids hl ih
 | record names kids hl hn hs hk ih => exact Nk names kids hl hn hs ih
 | list kids hk ih => exact La kids ih
theorem Ks (a b : Bs) : Zg a b = lex (Bq a) (Bq b) := by
 have h := X8 a b [] []
 rw [List.append_nil, List.append_nil, show lex [] [] = 0 from rfl, U7] at h
 exact h.symm
theorem Hl : ∀ {a b : Bs}, Zg a b = 0 → a = b
 | [], [], _ => rfl
 | [], _ :: _, h => by simp [Zg] at h
 | _ :: _, [], h => by simp [Zg] at h
 | a :: s, b :: t, h => by
  unfold Zg thn at h
  split at h
  ·rename_i h0
   have hab : a.toNat = b.toNat := by
    by_cases e : (a.toNat : Int) = (b.toNat : Int)
    ·exact_mod_cast e
    exact absurd h0 (Kr e)
   rw [UInt8.toNat_inj.1 hab, Hl h]
  rename_i h0
  exact absurd h h0
theorem N7 {a b c : Bs} (h1 : Zg a b < 0) (h2 : Zg b c < 0) : Zg a c < 0 := by
 rw [Ks] at *
 exact B1 h1 h2
theorem Pi {a b : Bs} (h : ¬ Zg a b < 0) (hne : a ≠ b) : Zg b a < 0 := by
 have h0 : Zg a b ≠ 0 := fun e => hne (Hl e)
 have h1 : Zg b a = - Zg a b := by rw [Ks, Ks, Jv]
 omega
abbrev UpB (l : List Bs) : Prop := l.Pairwise (fun a b => Zg a b < 0)
theorem twl_take (p : Bs → Bool) (l : List Bs) : l.take (l.takeWhile p).length = l.takeWhile p := by
 induction l with
 | nil => rfl
 | cons a l ih =>
  rw [List.takeWhile_cons]
  cases p a
  ·rfl
  simp only [if_true, List.length_cons, List.take_succ_cons, ih]
theorem twl_drop (p : Bs → Bool) (l : List Bs) : l.drop (l.takeWhile p).length = l.dropWhile p := by
 induction l with
 | nil => rfl
 | cons a l ih =>
  rw [List.takeWhile_cons, List.dropWhile_cons]
  cases p a
  ·rfl
  simp only [if_true, List.length_cons, List.drop_succ_cons, ih]
theorem insAt_up : ∀ {l : List Bs} {x : Bs}, UpB l → x ∉ l → UpB (Y3 l (below l x) x) := by
 intro l x h hx
 unfold Y3 below
 rw [twl_take, twl_drop]
 induction l with
 | nil => simp
 | cons a l ih =>
  obtain ⟨h1, h2⟩ := List.pairwise_cons.1 h
  have hxl : x ∉ l := fun e => hx (List.mem_cons_of_mem _ e)
  rw [List.takeWhile_cons, List.dropWhile_cons]
  by_cases hp : Zg a x < 0
  ·simp only [hp, decide_true, if_true, List.cons_append]
   refine List.pairwise_cons.2 ⟨fun b hb => ?_, ih h2 hxl⟩
   rcases List.mem_append.1 hb with hb | hb
   ·exact h1 b ((List.takeWhile_sublist _).subset hb)
   rcases List.mem_cons.1 hb with rfl | hb
   ·exact hp
   exact h1 b ((List.dropWhile_sublist _).subset hb)
  simp only [hp, decide_false, Bool.false_eq_true, if_false, List.nil_append]
  have hxa : Zg x a < 0 := Pi hp (fun e => hx (by rw [e]; exact List.mem_cons_self))
  refine List.pairwise_cons.2 ⟨fun b hb => ?_, h⟩
  rcases List.mem_cons.1 hb with rfl | hb
  ·exact hxa
  exact N7 hxa (h1 b hb)
theorem Gq {T : Type} {l : List T} {i : Nat} {x y : T} (h : y ∈ Y3 l i x) : y ∈ l ∨ y = x := by
 unfold Y3 at h
 rcases List.mem_append.1 h with h | h
 ·exact .inl (List.mem_of_mem_take h)
 rcases List.mem_cons.1 h with h | h
 ·exact .inr h
 exact .inl (List.mem_of_mem_drop h)
theorem Lm : ∀ (k : Nat) (z : List (Bs × Val)), z.length = k → (z.map Prod.fst).Nodup → UpB (Yk z).1 ∧ (∀ y ∈ (Yk z).1, y ∈ z.map Prod.fst) ∧ ∀ y ∈ (Yk z).2, y ∈ z.map Prod.snd
 | 0, z, h, _ => by rw [List.eq_nil_of_length_eq_zero h]; exact ⟨List.Pairwise.nil, fun y hy => by simp [Yk] at hy, fun y hy => by simp [Yk] at hy⟩
 | k + 1, z, h, hd => by
  obtain ⟨z', p, rfl⟩ : ∃ z' p, z = z' ++ [p] := ⟨z.dropLast, z.getLast (by intro e; subst e; simp at h), (List.dropLast_concat_getLast (by intro e; subst e; simp at h)).symm⟩
  rw [List.map_append, List.nodup_append] at hd
  obtain ⟨h1, h2, h3⟩ := Lm k z' (by simpa using h) hd.1
  rw [B7]
  unfold Vc
  refine ⟨insAt_up h1 (fun e => hd.2.2 _ (h2 _ e) p.1 (by simp) rfl), fun y hy => ?_, fun y hy => ?_⟩
  ·rcases Gq hy with hy | rfl
   ·rw [List.map_append]; exact List.mem_append_left _ (h2 y hy)
   simp
  rcases Gq hy with hy | rfl
  ·rw [List.map_append]; exact List.mem_append_left _ (h3 y hy)
  simp
theorem Re {names : List Bs} {vals : List Val} (hl : names.length = vals.length) (hw : ∀ x ∈ names, Yt x) (hd : names.Nodup) (hv : ∀ v ∈ vals, Zp v) : Zp (Vu (Yk (names.zip vals)).1 (Yk (names.zip vals)).2) ∧ (Yk (names.zip vals)).2.length = names.length := by
 have h1 : (names.zip vals).map Prod.fst = names := List.map_fst_zip (Nat.le_of_eq hl)
 have h2 : (names.zip vals).map Prod.snd = vals := List.map_snd_zip (Nat.le_of_eq hl.symm)
 obtain ⟨a, b, c⟩ := Lm _ (names.zip vals) rfl (by rw [h1]; exact hd)
 obtain ⟨l1, l2⟩ := Xi (names.zip vals)
 rw [h1] at b
 rw [h2] at c
 refine ⟨.record _ _ (by rw [l1, l2]) (fun x hx => hw x (b x hx)) (fun i x y hx hy => ?_) (fun v hv' => hv v (c v hv')), by rw [l2, List.length_zip, ← hl, Nat.min_self]⟩
 obtain ⟨h3, rfl⟩ := Qj hx
 obtain ⟨h4, rfl⟩ := Qj hy
 exact List.pairwise_iff_getElem.1 a i (i + 1) h3 h4 (by omega)
def put9 (W : World) (R : Nat) (a0 a1 a2 a3 a4 a5 a6 a7 a8 : Value) : World := (((((((((W.setCell ⟨R, 0, none⟩ a0).setCell ⟨R, 1, none⟩ a1).setCell ⟨R, 2, none⟩ a2).setCell ⟨R, 3, none⟩ a3).setCell ⟨R, 4, none⟩ a4).setCell ⟨R, 5, none⟩ a5).setCell ⟨R, 6, none⟩ a6).setCell ⟨R, 7, none⟩ a7).setCell ⟨R, 8, none⟩ a8)
theorem Pw {W : World} {R : Nat} {a0 a1 a2 a3 a4 a5 a6 a7 a8 x0 x1 x2 x3 x4 x5 x6 x7 x8 : Value} {t : TypeId} (h : W.heap[R]? = some (.cells #[x0, x1, x2, x3, x4, x5, x6, x7, x8] t (0, 0))) : (put9 W R a0 a1 a2 a3 a4 a5 a6 a7 a8).heap[R]? = some (.cells #[a0, a1, a2, a3, a4, a5, a6, a7, a8] t (0, 0)) := by
 have hq9 := heap_setCell_same _ _ 0 _ _ a0 h; have hq9 := heap_setCell_same _ _ 1 _ _ a1 hq9; have hq9 := heap_setCell_same _ _ 2 _ _ a2 hq9; have hq9 := heap_setCell_same _ _ 3 _ _ a3 hq9; have hq9 := heap_setCell_same _ _ 4 _ _ a4 hq9; have hq9 := heap_setCell_same _ _ 5 _ _ a5 hq9; have hq9 := heap_setCell_same _ _ 6 _ _ a6 hq9; have hq9 := heap_setCell_same _ _ 7 _ _ a7 hq9; have hq9 := heap_setCell_same _ _ 8 _ _ a8 hq9
 simpa [put9] using hq9
theorem Fh {W : World} {R k : Nat} {a0 a1 a2 a3 a4 a5 a6 a7 a8 : Value} (h : k ≠ R) : (put9 W R a0 a1 a2 a3 a4 a5 a6 a7 a8).heap[k]? = W.heap[k]? := by
 unfold put9
 repeat rw [Qg h]
theorem Lr {B R : Nat} {w W : World} {a0 a1 a2 a3 a4 a5 a6 a7 a8 : Value} (h : Below B w W) (hR : B ≤ R) : Below B w (put9 W R a0 a1 a2 a3 a4 a5 a6 a7 a8) :=
 ((((((((h.setCell (p := ⟨R, 0, none⟩) hR _).setCell (p := ⟨R, 1, none⟩) hR _).setCell (p := ⟨R, 2, none⟩) hR _).setCell (p := ⟨R, 3, none⟩) hR _).setCell (p := ⟨R, 4, none⟩) hR _).setCell (p := ⟨R, 5, none⟩) hR _).setCell (p := ⟨R, 6, none⟩) hR _).setCell (p := ⟨R, 7, none⟩) hR _).setCell (p := ⟨R, 8, none⟩) hR _
theorem Y2 {W : World} {R : Nat} {a0 a1 a2 a3 a4 a5 a6 a7 a8 x0 x1 x2 x3 x4 x5 x6 x7 x8 : Value} {t : TypeId} (h : W.heap[R]? = some (.cells #[x0, x1, x2, x3, x4, x5, x6, x7, x8] t (0, 0))) (j : Nat) : (put9 W R a0 a1 a2 a3 a4 a5 a6 a7 a8).cell? ⟨R, j, none⟩ = #[a0, a1, a2, a3, a4, a5, a6, a7, a8][j]? :=
 Qk _ _ _ _ _ _ (Pw h)
def ExIs (S : Nat → Prop) (w : World) (x : Ex) (e : Ending) (w' : World) : Prop := ∃ ek es en et e1 f1 g1 e2 f2 g2 e3 f3 g3 ea ez, e = .returned (.agg #[.int .i64 ek, .string es, .int .i64 en, .string et, .slice e1 f1 g1, .slice e2 f2 g2, .slice e3 f3 g3, .int .i64 ea, .int .i64 ez]) ∧ Z5 (fun b => S b ∨ w.heap.size ≤ b) w' [.int .i64 ek, .string es, .int .i64 en, .string et, .slice e1 f1 g1, .slice e2 f2 g2, .slice e3 f3 g3, .int .i64 ea, .int .i64 ez] x ∧ Below w.heap.size w w'
theorem rop_any (S : Nat → Prop) (o : Bs) (a b : Ex) (ca cb : List Value) (w : World) (ho : o.length ≤ 1000000) (ha0 : Z5 S w ca a) (hb0 : Z5 S w cb b) :
  Calls prog 70 #[sv o, .agg ca.toArray, .agg cb.toArray] w (ExIs S w (Gen.op o [a, b])) := by
 have ha : Z5 (fun c => S c ∧ c < w.heap.size) w ca a := ha0.move (.refl _ _) (fun b hb h => ⟨h, hb⟩)
 have hb : Z5 (fun c => S c ∧ c < w.heap.size) w cb b := hb0.move (.refl _ _) (fun b hb h => ⟨h, hb⟩)
 obtain ⟨ek1, es1, en1, et1, e11, f11, g11, e21, f21, g21, e31, f31, g31, ea1, ez1, hca⟩ := Z5.cells ha
 obtain ⟨ek2, es2, en2, et2, e12, f12, g12, e22, f22, g22, e32, f32, g32, ea2, ez2, hcb⟩ := Z5.cells hb
 subst hca; subst hcb
 have HA := Qq ha; have HB := Qq hb
 clear ha hb ha0 hb0
 unfold sv
 go_enter func70, ntmps70
 go_wp2_with fail
 generalize hW1 : (((w.alloc _).alloc _).alloc _).alloc _ = W1
 have hb1 := eqB hW1 (Zq (Zq (Zq (Qo w _) _) _) _)
 have hZ1 := eqH (b := w.heap.size + 1 + 1) hW1 (Qi (Z6 (by simp) _) _)
 have hK1 := eqH (b := w.heap.size + 1 + 1 + 1) hW1 (Z6 (by simp) _)
 clear hW1
 refine Q7 (v := .agg #[.int .i64 14, .string ⟨o.toArray⟩, .int .i64 0, .string ⟨#[]⟩, .slice none 0 0, .slice none 0 0, .slice (some ⟨w.heap.size + 1 + 1 + 1, 0, none⟩) 2 2, .int .i64 0, .int .i64 0]) (by simp [results, results70, go_sem, Qk _ _ _ _ _ _ hZ1]) rfl ⟨_, _, _, _, _, _, _, _, _, _, _, _, _, _, _, rfl, ?_, hb1⟩
 refine Zt ho (s := []) (by simp) (Sl.nil _ _ _) (Sl.nil _ _ _) ?_
 exact Z4 hK1 (.inr (by omega)) ((Cs.one (r := Yo) ((HA.out.move (.of_below hb1) (fun _ _ h => h)).move (.refl _ _) (fun b _ h => .inl h.1))).app (Cs.one (r := Yo) ((HB.out.move (.of_below hb1) (fun _ _ h => h)).move (.refl _ _) (fun b _ h => .inl h.1)))) rfl rfl (by simp)
end Go.Proofs.YtppbaladeefnkaaGreatDoor

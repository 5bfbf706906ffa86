import Derived.Test.YtppbaladeefnkaaGreatDoorU29
import Derived.Test.YtppbaladeefnkaaGreatDoorU27
import Derived.Test.YtppbaladeefnkaaGreatDoorU24
set_option maxRecDepth 100000
set_option maxHeartbeats 400000000
namespace Go.Proofs.YtppbaladeefnkaaGreatDoor
open Go.RowKit Go.Shelf Go.Lib Tryz
theorem Yf.drew {S : Nat → Prop} {w W : World} {e : Ending} (h : Yf S w e W) : Yf S w e W.drew := by
 obtain ⟨k, n, s, p3, n3, k3, p4, n4, k4, b, he, hv, hb⟩ := h
 refine ⟨k, n, s, p3, n3, k3, p4, n4, k4, b, he, fun ht => ?_, hb.drew⟩
 obtain ⟨v, h1, h2⟩ := hv ht
 exact ⟨v, h1.move (fun _ _ _ => rfl) (fun _ _ h => h), h2⟩
theorem Ki (b : Bool) (w : World) : Calls prog 178 #[.bool b] w fun e w' => ∃ X : Int, (X = 0 ∨ X = 1) ∧ e = .returned (.tuple #[.agg #[.int .i64 2, .int .i64 X, .string ⟨#[]⟩, .slice none 0 0, .slice none 0 0], .bool true]) ∧ Below w.heap.size w w' :=
 (Na b w).mono fun _ _ ⟨h1, h2⟩ => ⟨_, (by cases b <;> simp), h1, h2⟩
theorem Mj (n : Int) (w : World) : Calls prog 177 #[.int .i64 n] w fun e w' => ∃ X : Int, True ∧ e = .returned (.tuple #[.agg #[.int .i64 0, .int .i64 X, .string ⟨#[]⟩, .slice none 0 0, .slice none 0 0], .bool true]) ∧ Below w.heap.size w w' :=
 (Df n w).mono fun _ _ ⟨h1, h2⟩ => ⟨n, trivial, h1, h2⟩
theorem Jf {X : Int} (h : X = 0 ∨ X = 1) : Z2 (.mk 2 X [] [] []) := .mk _ _ _ _ _ (fun _ => h) (fun x h => by simp at h)
theorem Rz (nm : Bs) (n : Int) (s : Bs) (names binds : List Bs) (kids : List Ex) (a z : Int) (d : Nat) (ih : ∀ x ∈ kids, Y7 d x)  : ∀ (S : Nat → Prop) (ce : List Value) (nv vv : Value) (ns : List Bs) (vs : List Val) (w : World), Z5 S w ce (.mk 0 nm n s names binds kids a z) → Sl Qp S w nv ns → Sl Ql S w vv vs → ns.length ≤ vs.length → vs.length + (d + 1) ≤ 1000 → (∀ v ∈ vs, Z2 v) →
  Calls prog 140 #[.agg ce.toArray, nv, vv] w (Yf S w) := by
 intro S ce nv vv ns vs w hx0 hn0 hv0 hlen hd hb
 have hx : Z5 (fun b => S b ∧ b < w.heap.size) w ce (.mk 0 nm n s names binds kids a z) := hx0.move (.refl _ _) (fun b hb h => ⟨h, hb⟩)
 have hn := hn0.up
 have hv := hv0.up
 obtain ⟨np, nc, rfl, _⟩ := hn.len
 obtain ⟨vp, vc, rfl, hvl⟩ := hv.len
 have HXX := Qq hx
 obtain ⟨nv', bv, kv, rfl, hnm, hsx, hns, hbi, hk⟩ := Zd.1 hx
 obtain ⟨p1, c1, rfl, _⟩ := hns.len
 obtain ⟨p2, c2, rfl, _⟩ := hbi.len
 obtain ⟨p3, c3, rfl, hkl⟩ := hk.len
 have HN := Qq hn; have HV := Qq hv; have HBo := Qq hb; have HNs := Qq hns; have HBi := Qq hbi; have HK := Qq hk; have HI := Qq ih; have HLen := Qq hlen
 clear hx0 hn0 hv0 hx hn hv hns hbi hk hb ih hlen
 unfold sv at *
 go_enter func140, ntmps140
 go_upto_region 3 with fail
 generalize hW1 : (w.alloc _).alloc _ = W1
 have hb1 := eqB hW1 (Zv _ _ _)
 have hX1 := eqH (b := w.heap.size) hW1 (Q5 _ _ _)
 have hZ1 := eqH (b := w.heap.size + 1) hW1 (Q6 _ _ _)
 have HB1 := Qq hb1; have HX1 := Qq hX1; have HZ1 := Qq hZ1
 have hlt := Qf hZ1
 obtain ⟨c0, c1, c2, c3, c4, c5, c6, c7, c8⟩ := row9 hX1
 clear hW1 hb1 hX1 hZ1
 go_wp2_with (go_at_call 177; refine (Df _ _).mono ?_; rintro e w5 ⟨rfl, hb5⟩; have hZ5 := kE hb5 hlt HZ1.out; have f0 := fA 0 hZ5; have y0 := Qk _ _ 0 _ _ _ hZ5; have f1 := fA 1 hZ5; have y1 := Qk _ _ 1 _ _ _ hZ5; have f2 := fA 2 hZ5; have y2 := Qk _ _ 2 _ _ _ hZ5; have f3 := fA 3 hZ5; have y3 := Qk _ _ 3 _ _ _ hZ5; have f4 := fA 4 hZ5; have y4 := Qk _ _ 4 _ _ _ hZ5; simp only [List.getElem?_toArray, List.getElem?_cons_zero, List.getElem?_cons_succ] at y0 y1 y2 y3 y4; have HZ5 := Qq hZ5; have HB5 := Qq hb5; clear hZ5 hb5)
 show bodyPost _ _ _ _ _ (Zz w5 (w.heap.size + 1) (.int .i64 0) (.int .i64 n) (.string ⟨#[]⟩) (.slice none 0 0) (.slice none 0 0))
 refine Q7 (v := .tuple #[.agg #[.int .i64 0, .int .i64 n, .string ⟨#[]⟩, .slice none 0 0, .slice none 0 0], .bool true]) (by simp [results, results140, go_sem, Qm HZ5.out]) rfl (V5 HB1.out (by omega) hlt (fun _ => ⟨_, Zn (s := []) (by simp) (Sl.nil _ _ _) (Sl.nil _ _ _), Fg n⟩) HB5.out)
theorem Hv (nm : Bs) (n : Int) (s : Bs) (names binds : List Bs) (kids : List Ex) (a z : Int) (d : Nat) (ih : ∀ x ∈ kids, Y7 d x) (hq : (s.length : Int) ≤ 4096) : ∀ (S : Nat → Prop) (ce : List Value) (nv vv : Value) (ns : List Bs) (vs : List Val) (w : World), Z5 S w ce (.mk 1 nm n s names binds kids a z) → Sl Qp S w nv ns → Sl Ql S w vv vs → ns.length ≤ vs.length → vs.length + (d + 1) ≤ 1000 → (∀ v ∈ vs, Z2 v) →
  Calls prog 140 #[.agg ce.toArray, nv, vv] w (Yf S w) := by
 intro S ce nv vv ns vs w hx0 hn0 hv0 hlen hd hb
 have hx : Z5 (fun b => S b ∧ b < w.heap.size) w ce (.mk 1 nm n s names binds kids a z) := hx0.move (.refl _ _) (fun b hb h => ⟨h, hb⟩)
 have hn := hn0.up
 have hv := hv0.up
 obtain ⟨np, nc, rfl, _⟩ := hn.len
 obtain ⟨vp, vc, rfl, hvl⟩ := hv.len
 have HXX := Qq hx
 obtain ⟨nv', bv, kv, rfl, hnm, hsx, hns, hbi, hk⟩ := Zd.1 hx
 obtain ⟨p1, c1, rfl, _⟩ := hns.len
 obtain ⟨p2, c2, rfl, _⟩ := hbi.len
 obtain ⟨p3, c3, rfl, hkl⟩ := hk.len
 have HN := Qq hn; have HV := Qq hv; have HBo := Qq hb; have HNs := Qq hns; have HBi := Qq hbi; have HK := Qq hk; have HI := Qq ih; have HLen := Qq hlen
 clear hx0 hn0 hv0 hx hn hv hns hbi hk hb ih hlen
 unfold sv at *
 go_enter func140, ntmps140
 go_upto_region 5 with fail
 generalize hW1 : (w.alloc _).alloc _ = W1
 have hb1 := eqB hW1 (Zv _ _ _)
 have hX1 := eqH (b := w.heap.size) hW1 (Q5 _ _ _)
 have hZ1 := eqH (b := w.heap.size + 1) hW1 (Q6 _ _ _)
 have HB1 := Qq hb1; have HX1 := Qq hX1; have HZ1 := Qq hZ1
 have hlt := Qf hZ1
 obtain ⟨c0, c1, c2, c3, c4, c5, c6, c7, c8⟩ := row9 hX1
 clear hW1 hb1 hX1 hZ1
 have hZW1 := kE (Qz W1.heap.size W1) hlt HZ1.out
 obtain ⟨y0, y1, y2, y3, y4⟩ := row5 hZW1
 obtain ⟨f0, f1, f2, f3, f4⟩ := frz5 hZW1
 have HZW1 := Qq hZW1
 clear hZW1
 go_region_with fail
 all_goals
  go_wp2_with fail
  show bodyPost _ _ _ _ _ (Zz W1 (w.heap.size + 1) (.int .i64 1) (.int .i64 0) (.string ⟨s.toArray⟩) (.slice none 0 0) (.slice none 0 0)).drew
  refine Q7 (v := .tuple #[.agg #[.int .i64 1, .int .i64 0, .string ⟨s.toArray⟩, .slice none 0 0, .slice none 0 0], .bool true]) (by simp [results, results140, go_sem, Qm HZW1.out]) rfl (Ue (by omega) HB1.out (fun _ => ⟨_, Zn hsx (Sl.nil _ _ _) (Sl.nil _ _ _), .mk _ _ _ _ _ (fun h => by cases h) (fun x h => by simp at h)⟩)).drew
theorem E6 (nm : Bs) (n : Int) (s : Bs) (names binds : List Bs) (kids : List Ex) (a z : Int) (d : Nat) (ih : ∀ x ∈ kids, Y7 d x) (hq : decide ((s.length : Int) ≤ 4096) = false) : ∀ (S : Nat → Prop) (ce : List Value) (nv vv : Value) (ns : List Bs) (vs : List Val) (w : World), Z5 S w ce (.mk 1 nm n s names binds kids a z) → Sl Qp S w nv ns → Sl Ql S w vv vs → ns.length ≤ vs.length → vs.length + (d + 1) ≤ 1000 → (∀ v ∈ vs, Z2 v) →
  Calls prog 140 #[.agg ce.toArray, nv, vv] w (Yf S w) := by
 intro S ce nv vv ns vs w hx0 hn0 hv0 hlen hd hb
 have hx : Z5 (fun b => S b ∧ b < w.heap.size) w ce (.mk 1 nm n s names binds kids a z) := hx0.move (.refl _ _) (fun b hb h => ⟨h, hb⟩)
 have hn := hn0.up
 have hv := hv0.up
 obtain ⟨np, nc, rfl, _⟩ := hn.len
 obtain ⟨vp, vc, rfl, hvl⟩ := hv.len
 have HXX := Qq hx
 obtain ⟨nv', bv, kv, rfl, hnm, hsx, hns, hbi, hk⟩ := Zd.1 hx
 obtain ⟨p1, c1, rfl, _⟩ := hns.len
 obtain ⟨p2, c2, rfl, _⟩ := hbi.len
 obtain ⟨p3, c3, rfl, hkl⟩ := hk.len
 have HN := Qq hn; have HV := Qq hv; have HBo := Qq hb; have HNs := Qq hns; have HBi := Qq hbi; have HK := Qq hk; have HI := Qq ih; have HLen := Qq hlen
 clear hx0 hn0 hv0 hx hn hv hns hbi hk hb ih hlen
 unfold sv at *
 go_enter func140, ntmps140
 go_upto_region 5 with fail
 generalize hW1 : (w.alloc _).alloc _ = W1
 have hb1 := eqB hW1 (Zv _ _ _)
 have hX1 := eqH (b := w.heap.size) hW1 (Q5 _ _ _)
 have hZ1 := eqH (b := w.heap.size + 1) hW1 (Q6 _ _ _)
 have HB1 := Qq hb1; have HX1 := Qq hX1; have HZ1 := Qq hZ1
 have hlt := Qf hZ1
 obtain ⟨c0, c1, c2, c3, c4, c5, c6, c7, c8⟩ := row9 hX1
 clear hW1 hb1 hX1 hZ1
 have hZW1 := kE (Qz W1.heap.size W1) hlt HZ1.out
 obtain ⟨y0, y1, y2, y3, y4⟩ := row5 hZW1
 obtain ⟨f0, f1, f2, f3, f4⟩ := frz5 hZW1
 have HZW1 := Qq hZW1
 clear hZW1
 go_region_with fail
 all_goals
  go_wp2_with fail
  show bodyPost _ _ _ _ _ (Zz W1 (w.heap.size + 1) (.int .i64 1) (.int .i64 0) (.string ⟨s.toArray⟩) (.slice none 0 0) (.slice none 0 0)).drew
  refine Q7 (v := .tuple #[.agg #[.int .i64 1, .int .i64 0, .string ⟨s.toArray⟩, .slice none 0 0, .slice none 0 0], .bool false]) (by simp [results, results140, go_sem, Qm HZW1.out]) rfl (Yb (by omega) HB1.out).drew
theorem N6 (nm : Bs) (n : Int) (s : Bs) (names binds : List Bs) (kids : List Ex) (a z : Int) (d : Nat) (ih : ∀ x ∈ kids, Y7 d x)  : ∀ (S : Nat → Prop) (ce : List Value) (nv vv : Value) (ns : List Bs) (vs : List Val) (w : World), Z5 S w ce (.mk 2 nm n s names binds kids a z) → Sl Qp S w nv ns → Sl Ql S w vv vs → ns.length ≤ vs.length → vs.length + (d + 1) ≤ 1000 → (∀ v ∈ vs, Z2 v) →
  Calls prog 140 #[.agg ce.toArray, nv, vv] w (Yf S w) := by
 intro S ce nv vv ns vs w hx0 hn0 hv0 hlen hd hb
 have hx : Z5 (fun b => S b ∧ b < w.heap.size) w ce (.mk 2 nm n s names binds kids a z) := hx0.move (.refl _ _) (fun b hb h => ⟨h, hb⟩)
 have hn := hn0.up
 have hv := hv0.up
 obtain ⟨np, nc, rfl, _⟩ := hn.len
 obtain ⟨vp, vc, rfl, hvl⟩ := hv.len
 have HXX := Qq hx
 obtain ⟨nv', bv, kv, rfl, hnm, hsx, hns, hbi, hk⟩ := Zd.1 hx
 obtain ⟨p1, c1, rfl, _⟩ := hns.len
 obtain ⟨p2, c2, rfl, _⟩ := hbi.len
 obtain ⟨p3, c3, rfl, hkl⟩ := hk.len
 have HN := Qq hn; have HV := Qq hv; have HBo := Qq hb; have HNs := Qq hns; have HBi := Qq hbi; have HK := Qq hk; have HI := Qq ih; have HLen := Qq hlen
 clear hx0 hn0 hv0 hx hn hv hns hbi hk hb ih hlen
 unfold sv at *
 go_enter func140, ntmps140
 go_upto_region 7 with fail
 generalize hW1 : (w.alloc _).alloc _ = W1
 have hb1 := eqB hW1 (Zv _ _ _)
 have hX1 := eqH (b := w.heap.size) hW1 (Q5 _ _ _)
 have hZ1 := eqH (b := w.heap.size + 1) hW1 (Q6 _ _ _)
 have HB1 := Qq hb1; have HX1 := Qq hX1; have HZ1 := Qq hZ1
 have hlt := Qf hZ1
 obtain ⟨c0, c1, c2, c3, c4, c5, c6, c7, c8⟩ := row9 hX1
 clear hW1 hb1 hX1 hZ1
 go_wp2_with (go_at_call 178; refine (Ki _ _).mono ?_; rintro e w5 ⟨X, hX, rfl, hb5⟩; have hZ5 := kE hb5 hlt HZ1.out; have f0 := fA 0 hZ5; have y0 := Qk _ _ 0 _ _ _ hZ5; have f1 := fA 1 hZ5; have y1 := Qk _ _ 1 _ _ _ hZ5; have f2 := fA 2 hZ5; have y2 := Qk _ _ 2 _ _ _ hZ5; have f3 := fA 3 hZ5; have y3 := Qk _ _ 3 _ _ _ hZ5; have f4 := fA 4 hZ5; have y4 := Qk _ _ 4 _ _ _ hZ5; simp only [List.getElem?_toArray, List.getElem?_cons_zero, List.getElem?_cons_succ] at y0 y1 y2 y3 y4; have HZ5 := Qq hZ5; have HB5 := Qq hb5; clear hZ5 hb5)
 show bodyPost _ _ _ _ _ (Zz w5 (w.heap.size + 1) (.int .i64 2) (.int .i64 X) (.string ⟨#[]⟩) (.slice none 0 0) (.slice none 0 0))
 refine Q7 (v := .tuple #[.agg #[.int .i64 2, .int .i64 X, .string ⟨#[]⟩, .slice none 0 0, .slice none 0 0], .bool true]) (by simp [results, results140, go_sem, Qm HZ5.out]) rfl (V5 HB1.out (by omega) hlt (fun _ => ⟨_, M9 _ _ _, Jf hX⟩) HB5.out)
theorem Pr (nm : Bs) (n : Int) (s : Bs) (names binds : List Bs) (kids : List Ex) (a z : Int) (d : Nat) (ih : ∀ x ∈ kids, Y7 d x)  : ∀ (S : Nat → Prop) (ce : List Value) (nv vv : Value) (ns : List Bs) (vs : List Val) (w : World), Z5 S w ce (.mk 3 nm n s names binds kids a z) → Sl Qp S w nv ns → Sl Ql S w vv vs → ns.length ≤ vs.length → vs.length + (d + 1) ≤ 1000 → (∀ v ∈ vs, Z2 v) →
  Calls prog 140 #[.agg ce.toArray, nv, vv] w (Yf S w) := by
 intro S ce nv vv ns vs w hx0 hn0 hv0 hlen hd hb
 have hx : Z5 (fun b => S b ∧ b < w.heap.size) w ce (.mk 3 nm n s names binds kids a z) := hx0.move (.refl _ _) (fun b hb h => ⟨h, hb⟩)
 have hn := hn0.up
 have hv := hv0.up
 obtain ⟨np, nc, rfl, _⟩ := hn.len
 obtain ⟨vp, vc, rfl, hvl⟩ := hv.len
 have HXX := Qq hx
 obtain ⟨nv', bv, kv, rfl, hnm, hsx, hns, hbi, hk⟩ := Zd.1 hx
 obtain ⟨p1, c1, rfl, _⟩ := hns.len
 obtain ⟨p2, c2, rfl, _⟩ := hbi.len
 obtain ⟨p3, c3, rfl, hkl⟩ := hk.len
 have HN := Qq hn; have HV := Qq hv; have HBo := Qq hb; have HNs := Qq hns; have HBi := Qq hbi; have HK := Qq hk; have HI := Qq ih; have HLen := Qq hlen
 clear hx0 hn0 hv0 hx hn hv hns hbi hk hb ih hlen
 unfold sv at *
 obtain ⟨m, hm⟩ := eX (ns.length)
 rw [hm] at HN ⊢
 have HM := Qq hm
 have hlen := HLen.out
 rw [hm] at hlen
 have hml : m ≤ 1000 := by omega
 clear hm
 go_enter func140, ntmps140
 go_upto_region 9 with fail
 generalize hW1 : (w.alloc _).alloc _ = W1
 have hb1 := eqB hW1 (Zv _ _ _)
 have hX1 := eqH (b := w.heap.size) hW1 (Q5 _ _ _)
 have hZ1 := eqH (b := w.heap.size + 1) hW1 (Q6 _ _ _)
 have HB1 := Qq hb1; have HX1 := Qq hX1; have HZ1 := Qq hZ1
 have hlt := Qf hZ1
 clear hW1 hb1 hX1 hZ1
 go_upto_region 10 with fail
 go_loopw [8] (fun i wr => ∃ (k : Nat) (j : Int), k ≤ m ∧ j = (k : Int) - 1 ∧ i = .int .i64 j ∧ Aside (Below W1.heap.size W1 wr)) (fun i _ => (intOf i + 1).toNat)
 case atStart => exact ⟨m, _, Q9 _, rfl, by go_num, Qz _ _⟩
 obtain ⟨k, j, hk, hj, rfl, hBr⟩ := hrel
 have HBr := Qq (show Below W1.heap.size W1 wr from hBr)
 clear hBr
 by_cases hk0 : k = 0
 ·have hi0 : decide (0 ≤ j) = false := by simp; omega
  clear hk hj
  have hZwr := kE HBr.out hlt HZ1.out
  obtain ⟨y0, y1, y2, y3, y4⟩ := row5 hZwr
  obtain ⟨f0, f1, f2, f3, f4⟩ := frz5 hZwr
  have HZwr := Qq hZwr
  clear hZwr
  go_wp2_with fail
  show bodyPost _ _ _ _ _ (Zz wr (w.heap.size + 1) (.int .i64 0) (.int .i64 0) (.string ⟨#[]⟩) (.slice none 0 0) (.slice none 0 0))
  refine Q7 (v := .tuple #[.agg zV, .bool false]) (by simp [results, results140, go_sem, Qm HZwr.out]) rfl (Yb (by omega) (HB1.out.thn HBr.out))
 obtain ⟨k', rfl⟩ : ∃ k', k = k' + 1 := ⟨k - 1, by omega⟩
 obtain rfl : j = (k' : Int) := by omega
 have hi0 : decide ((0 : Int) ≤ (k' : Int)) = true := by simp
 have hi1 : (0 : Int) ≤ (k' : Int) := by omega
 have hi2 : (k' : Int) < (m : Int) := by omega
 have hi3 : (k' : Int) < (vs.length : Int) := by omega
 obtain ⟨y, hy⟩ : ∃ y, ns[k']? = some y := ⟨_, Qx (by rw [HM.out]; omega)⟩
 obtain ⟨v, hv⟩ : ∃ v, vs[k']? = some v := ⟨_, Qx (by omega)⟩
 obtain ⟨nb, noff, rfl, hyc, -⟩ := (HN.out.below (HB1.out.thn HBr.out)).str hy
 obtain ⟨vb, voff, q3, l3, q4, l4, rfl, hvb, hvx, d0, d1, d2, d3, d4⟩ := (HV.out.below (HB1.out.thn HBr.out)).val hv
 have hXr := kB HBr.out HX1.out
 have c1 := rA1 hXr
 have HVx := Qq hvx; have HBv := Qq (HBo.out v (Qy hv))
 have D := Qq (Qe hvb (Qe d0 (Qe d1 (Qe d2 (Qe d3 d4)))))
 clear hy hv hXr hvx d0 d1 d2 d3 d4 hvb hj
 by_cases he : y = nm
 ·subst he
  have hq : (y == y) = true := by simp
  go_wp2_with fail
  go_quiet (fail)
  obtain ⟨wq, hwq⟩ := eX (wr.drewN nq)
  have hbq : Below wr.heap.size wr wq := by rw [← hwq]; exact Zy _ _
  rw [hwq]
  have HBq := Qq hbq
  obtain ⟨hvb, d0', d1', d2', d3', d4'⟩ := D.out
  have d0 := (hbq.cell (p := ⟨vb, voff + k' * 5, none⟩) hvb).trans d0'; have d1 := (hbq.cell (p := ⟨vb, voff + k' * 5 + 1, none⟩) hvb).trans d1'; have d2 := (hbq.cell (p := ⟨vb, voff + k' * 5 + 2, none⟩) hvb).trans d2'; have d3 := (hbq.cell (p := ⟨vb, voff + k' * 5 + 3, none⟩) hvb).trans d3'; have d4 := (hbq.cell (p := ⟨vb, voff + k' * 5 + 4, none⟩) hvb).trans d4'
  clear hwq hbq d0' d1' d2' d3' d4' hyc c1
  have hZwq := kE (HBr.out.thn HBq.out) hlt HZ1.out
  obtain ⟨y0, y1, y2, y3, y4⟩ := row5 hZwq
  obtain ⟨f0, f1, f2, f3, f4⟩ := frz5 hZwq
  have HZwq := Qq hZwq
  clear hZwq
  go_wp2_with fail
  show bodyPost _ _ _ _ _ (Zz wq (w.heap.size + 1) (.int .i64 v.kind) (.int .i64 v.n) (.string ⟨v.s.toArray⟩) (.slice q3 v.names.length l3) (.slice q4 v.kids.length l4))
  refine Q7 (v := .tuple #[.agg #[.int .i64 v.kind, .int .i64 v.n, .string ⟨v.s.toArray⟩, .slice q3 v.names.length l3, .slice q4 v.kids.length l4], .bool true]) (by simp [results, results140, go_sem, Qm HZwq.out]) rfl (Ue (by omega) ((HB1.out.thn HBr.out).thn HBq.out) (fun _ => ⟨v, HVx.out.move (.of_below HBq.out) (fun _ _ h => .inl h), HBv.out⟩))
 have hq : (y == nm) = false := by rw [← Bool.not_eq_true, beq_iff_eq]; exact he
 clear he
 go_wp2_with fail
 go_quiet (fail)
 clear hyc c1
 go_wp2_with fail
 go_roundw
 case measure => simp [intOf]
 case rel => exact ⟨k', (k' : Int) - 1, by omega, rfl, rfl, HBr.out.thn (Zy _ _)⟩
def Jx (us : List Sm) (v : Val) (t : Ty) (b : Bool) : Prop := ∀ (S S' S'' : Nat → Prop) (cv ct : List Value) (uv : Value) (w : World), Sl Jg S'' w uv us → Qh S w cv v → Y5 S' w ct t →
 Calls prog 137 #[uv, .agg cv.toArray, .agg ct.toArray] w fun e w' => e = .returned (.bool b) ∧ Gr w w'
theorem Gr.dr {a b : World} (h : Gr a b) : Gr a b.drew := h.thn ⟨1, #[], by rw [Sort.grow_empty]; rfl⟩
theorem rhasLeaf (us : List Sm) (v : Val) (k : Int) (hk : k = 0 ∨ k = 1 ∨ k = 2) (s : Bs) (n : Int) (names : List Bs) (kids : List Ty) : Jx us v (.mk k s n names kids) (v.kind == k) := by
 intro S S' S'' cv ct uv w hu hv ht
 obtain ⟨up, uc, rfl, _⟩ := hu.len
 obtain ⟨p3, k3, p4, k4, hcv, _⟩ := Qh.cells hv
 simp only [vcs] at hcv
 subst hcv
 obtain ⟨q3, l3, q4, l4, rfl, _⟩ := ht.cells'
 clear hv ht hu
 rcases hk with rfl | rfl | rfl
 all_goals
  go_enter func137, ntmps137
  go_upto_region 5 with fail
  go_region_with fail
  all_goals
   go_wp2_with fail
   go_ret
   exact ⟨rfl, by first | exact (X7 _ _ _).dr | exact ((X7 _ _ _).alloc _).dr | exact (X7 _ _ _).dr.alloc _ | exact (X7 _ _ _).alloc _⟩
theorem rhasGood (us : List Sm) (v : Val) (t : Ty) (b : Bool) (hg : Zp v) (h : Jx us v t b) (S S' S'' : Nat → Prop) (cv ct : List Value) (uv : Value) (w : World) (hu : Sl Jg S'' w uv us) (hv : Qh S w cv v) (ht : Y5 S' w ct t) :
  Calls prog 110 #[uv, .agg cv.toArray, .agg ct.toArray] w fun e w' => e = .returned (.bool b) ∧ Below w.heap.size w w' := by
 obtain ⟨up, uc, rfl, _⟩ := hu.len
 have HV := Qq (fun W (hb : Below w.heap.size w W) => Mi v hg S cv W (hv.move (.of_below hb) (fun _ _ h => h)))
 have HH := Qq (fun W (hb : Below w.heap.size w W) => h S S' S'' cv ct _ W (hu.below hb) (hv.move (.of_below hb) (fun _ _ h => h)) (ht.move (.of_below hb) (fun _ _ h => h)))
 obtain ⟨p3, k3, p4, k4, hcv, _⟩ := Qh.cells hv
 simp only [vcs] at hcv
 subst hcv
 obtain ⟨y1, y2, y3, y4, y5, y6, y7, y8, y9, rfl⟩ := ht.cells
 clear hu hv ht h hg
 go_enter func110, ntmps110
 go_wp2_with fail
 refine (HV.out _ (Zv _ _ _)).mono ?_
 rintro e w1 ⟨rfl, hw⟩
 have hG0 := (hw.block w.heap.size (by simp; omega)).trans (Q5 w _ _)
 have hG1 := (hw.block (w.heap.size + 1) (by simp)).trans (Q6 w _ _)
 have c0 := rA0 hG0; have c1 := rA1 hG0; have c2 := rA2 hG0; have c3 := rA3 hG0; have c4 := rA4 hG0; have d0 := rA0 hG1; have d1 := rA1 hG1; have d2 := rA2 hG1; have d3 := rA3 hG1; have d4 := rA4 hG1
 have HW := Qq ((Zv w _ _).thn hw)
 clear hw hG0 hG1
 go_wp2_with (go_at_call 137; refine (HH.out _ HW.out).mono ?_; rintro e w' ⟨rfl, hw⟩)
 go_ret
 exact ⟨rfl, HW.out.thn hw.bl⟩
theorem Sl.ty {S : Nat → Prop} {w : World} {p : Option Addr} {n cap : Nat} {xs : List Ty} (h : Sl Vs S w (.slice p n cap) xs) {i : Nat} {x : Ty} (hx : xs[i]? = some x) :
  ∃ b off tk ts tn t3 n3 l3 t4 n4 l4, p = some ⟨b, off, none⟩ ∧ b < w.heap.size ∧ Y5 S w [.int .i64 tk, .string ts, .int .i64 tn, .slice t3 n3 l3, .slice t4 n4 l4] x ∧ w.cell? ⟨b, off + i * 5, none⟩ = some (.int .i64 tk) ∧ w.cell? ⟨b, off + i * 5 + 1, none⟩ = some (.string ts) ∧ w.cell? ⟨b, off + i * 5 + 2, none⟩ = some (.int .i64 tn) ∧ w.cell? ⟨b, off + i * 5 + 3, none⟩ = some (.slice t3 n3 l3) ∧ w.cell? ⟨b, off + i * 5 + 4, none⟩ = some (.slice t4 n4 l4) := by
 obtain ⟨q, cap', e, hl, hh⟩ := h
 have hne : xs ≠ [] := by intro h0; subst h0; simp at hx
 obtain ⟨b, off, hq, hS, hb, hc⟩ := hh hne
 obtain ⟨cs, hcs, hr⟩ := hc i x hx
 have hr' : Y5 S w cs x := hr
 obtain ⟨tk, ts, tn, t3, n3, l3, t4, n4, l4, rfl⟩ := hr'.cells
 cases e
 exact ⟨b, off, tk, ts, tn, t3, n3, l3, t4, n4, l4, hq, hb, hr', hcs 0 _ rfl, hcs 1 _ rfl, hcs 2 _ rfl, hcs 3 _ rfl, hcs 4 _ rfl⟩
theorem Ra {A B : Type} {p : A → B → Bool} {a : List A} {b : List B} {k : Nat} {x : A} {y : B} (hx : a[k]? = some x) (hy : b[k]? = some y) : eqL p (a.drop k) (b.drop k) = (p x y && eqL p (a.drop (k + 1)) (b.drop (k + 1))) := by
 obtain ⟨h1, e1⟩ := Qj hx
 obtain ⟨h2, e2⟩ := Qj hy
 rw [List.drop_eq_getElem_cons h1, List.drop_eq_getElem_cons h2, e1, e2]; rfl
theorem rhasRec (us : List Sm) (v : Val) (s : Bs) (names : List Bs) (kids : List Ty) (p : Val → Ty → Bool) (hkl : kids.length = names.length) (hvl : v.kind = 4 → v.kids.length = v.names.length) (hp : ∀ x ∈ v.kids, ∀ y ∈ kids, Jx us x y (p x y)) : Jx us v (.mk 5 s 0 names kids) ((v.kind == 4) && decide (v.names = names) && eqL p v.kids kids) := by
 intro S S' S'' cv ct uv w hu hv ht
 obtain ⟨up, uc, rfl, _⟩ := hu.len
 obtain ⟨p3, k3, p4, k4, hcv, hvn, hvk, _⟩ := Qh.cells hv
 simp only [vcs] at hcv
 subst hcv
 obtain ⟨q3, l3, q4, l4, rfl, htn, htk⟩ := ht.cells'
 have mixed : prog.follows .mixedOrders = true := by kernel_rfl
 by_cases h4 : v.kind = 4
 ·have HST := Qq (fun W (hb : Below w.heap.size w W) => Md S S' _ _ v.names names W (hvn.below hb) (htn.below hb))
  have hq : (v.kind == 4) = true := by rw [h4]; rfl
  rw [hq, Bool.true_and]
  have hl2 := hvl h4
  rw [h4]
  obtain ⟨m, hm⟩ := eX (v.kids.length)
  have hdec : decide (v.names = names) = true → kids.length = m := fun h => by have := of_decide_eq_true h; rw [hkl, ← this]; omega
  obtain ⟨bn, hbn⟩ := eX (decide (v.names = names))
  rw [hbn] at HST hdec ⊢
  obtain ⟨r, hr⟩ := eX (eqL p v.kids kids)
  rw [hr]
  have HR := Qq hr; have HVK := Qq hvk; have HTK := Qq htk; have HU := Qq hu; have HP := Qq hp; have HM := Qq hm
  obtain ⟨_, _, _, hml⟩ := hvk.len
  rw [hm] at hml
  obtain ⟨km, hkm⟩ := eX (kids.length)
  have hkm2 : names.length = km := by omega
  rw [hm] at HVK ⊢; rw [hkm] at HTK hdec; simp only [hkm2] at HST; rw [hkm, hkm2]
  have hqm : ((km : Int) != (km : Int)) = false := by simp
  have HKM := Qq hkm; have HD := Qq hdec
  clear hu hv ht hvn hvk htn htk hp hq hl2 hr hvl hdec hbn hm hkl hkm hkm2
  go_enter func137, ntmps137
  go_wp2_with fail
  refine (HST.out _ (X7 _ _ _).bl).mono ?_
  rintro e w1 ⟨rfl, hg1⟩
  have hG0 := (hg1.bl.block w.heap.size (by simp; omega)).trans (Q5 w _ _)
  have hG1 := (hg1.bl.block (w.heap.size + 1) (by simp)).trans (Q6 w _ _)
  have hgw : Gr w w1 := (X7 _ _ _).thn hg1
  have HG := Qq hgw
  have hb0 := Qf hG0; have hb1 := Qf hG1
  have c4 := rA4 hG0; have d4 := rA4 hG1
  clear hg1 hG0 hG1 hgw
  cases bn with
  | false =>
   go_wp2_with fail
   go_ret
   exact ⟨rfl, HG.out⟩
  | true =>
   obtain rfl : km = m := HD.out rfl
   have HC4 := Qq c4; have HD4 := Qq d4
   go_wp2_with fail
   clear c4 d4 hqm
   go_loopw [8] (fun i wr => ∃ k : Nat, k ≤ km ∧ i = .int .i64 k ∧ Aside (eqL p (v.kids.drop k) (kids.drop k) = r) ∧ Aside (Gr w1 wr)) (fun i _ => km - (intOf i).toNat)
   case atStart => exact ⟨0, Q8 _, rfl, HR.out, Gr.refl _⟩
   obtain ⟨k, hk, rfl, hc, hBl⟩ := hrel
   have HBl := Qq (show Gr w1 wr from hBl); have HC := Qq (show eqL p (v.kids.drop k) (kids.drop k) = r from hc)
   have hb0' : w.heap.size < wr.heap.size := by have := HBl.out.bl.size; omega
   have hb1' : w.heap.size + 1 < wr.heap.size := by have := HBl.out.bl.size; omega
   have c4 := (HBl.out.bl.cell (p := ⟨w.heap.size, 4, none⟩) hb0).trans HC4.out
   have d4 := (HBl.out.bl.cell (p := ⟨w.heap.size + 1, 4, none⟩) hb1).trans HD4.out
   clear hBl hc
   by_cases hlt : k < km
   ·obtain ⟨x, hx⟩ : ∃ x, v.kids[k]? = some x := ⟨_, Qx (by rw [HM.out]; exact hlt)⟩
    obtain ⟨y, hy⟩ : ∃ y, kids[k]? = some y := ⟨_, Qx (by rw [HKM.out]; exact hlt)⟩
    have hwr : Below w.heap.size w wr := (HG.out.thn HBl.out).bl
    obtain ⟨ga, oa, x3, m3, x4, m4, rfl, hga, hva, a0, a1, a2, a3, a4⟩ := (HVK.out.below hwr).val hx
    obtain ⟨gb, ob, tk, ts, tn, t3, n3, l3', t4, n4, l4', rfl, hgb, hvb, e0, e1, e2, e3, e4⟩ := (HTK.out.below hwr).ty hy
    have HX := Qq (HP.out x (Qy hx) y (Qy hy))
    have hc2 := HC.out
    rw [Ra hx hy] at hc2
    have hu' := HU.out.below hwr
    have HVa := Qq hva; have HVb := Qq hvb; have HUu := Qq hu'
    generalize p x y = c at HX hc2
    have hi1 : (0 : Int) ≤ (k : Int) := by omega
    have hi2 : (k : Int) < km := by omega
    have hcg : ∀ n os, Calls prog 137 #[.slice up us.length uc, .agg (vcs x x3 m3 x4 m4).toArray, .agg #[.int .i64 tk, .string ts, .int .i64 tn, .slice t3 n3 l3', .slice t4 n4 l4']] (Sort.grow (wr.drewN n) os) fun e w' => e = .returned (.bool c) ∧ Gr (Sort.grow (wr.drewN n) os) w' := fun n os => HX.out _ _ _ _ _ _ _ (HUu.out.below (Zf _ _ _).bl) (HVa.out.move (.of_below (Zf _ _ _).bl) (fun _ _ h => h)) (HVb.out.move (.of_below (Zf _ _ _).bl) (fun _ _ h => h))
    unfold vcs at hcg
    have A0 := Zj hga a0; have A1 := Zj hga a1; have A2 := Zj hga a2; have A3 := Zj hga a3; have A4 := Zj hga a4
    have E0 := Zj hgb e0; have E1 := Zj hgb e1; have E2 := Zj hgb e2; have E3 := Zj hgb e3; have E4 := Zj hgb e4
    have C4 := Zj hb0' c4; have D4 := Zj hb1' d4
    clear a0 a1 a2 a3 a4 e0 e1 e2 e3 e4 hva hvb hx hy hu' hwr
    cases c with
    | true =>
     have HC2 := Qq (show eqL p (v.kids.drop (k + 1)) (kids.drop (k + 1)) = r from by rw [Bool.true_and] at hc2; exact hc2)
     clear hc2
     go_wp2_with fail
     go_quiet_grown (first | (go_at_call 137; refine Calls.grown_of (hcg _ _)))
     go_wp2_with fail
     go_roundw
     case rel => exact ⟨k + 1, by omega, by go_num, HC2.out, HBl.out.thn (Zf _ _ _)⟩
     case measure => simp [intOf]; omega
    | false =>
     obtain rfl : false = r := hc2
     go_wp2_with fail
     go_quiet_grown (first | (go_at_call 137; refine Calls.grown_of (hcg _ _)))
     go_wp2_with fail
     go_ret
     exact ⟨rfl, (HG.out.thn HBl.out).thn (Zf _ _ _)⟩
   obtain rfl : k = km := by omega
   have hrt : r = true := by
    rw [← HC.out, List.drop_of_length_le (by rw [HM.out]; exact Q9 _), List.drop_of_length_le (by rw [HKM.out]; exact Q9 _)]; rfl
   subst hrt
   go_wp2_with fail
   go_ret
   exact ⟨rfl, HG.out.thn HBl.out⟩
 have hq : (v.kind == 4) = false := by simpa using h4
 have hq2 : (v.kind != 4) = true := by simpa using h4
 rw [hq]
 clear hu hv ht hvn hvk htn htk hp
 go_enter func137, ntmps137
 go_wp2_with fail
 go_ret
 exact ⟨rfl, X7 _ _ _⟩
end Go.Proofs.YtppbaladeefnkaaGreatDoor

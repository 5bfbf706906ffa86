import Derived.Test.YtppbaladeefnkaaGreatDoorU35
import Derived.Test.YtppbaladeefnkaaGreatDoorU37
set_option maxRecDepth 100000
set_option maxHeartbeats 400000000
namespace Go.Proofs.YtppbaladeefnkaaGreatDoor
open Go.RowKit Go.Shelf Go.Lib Tryz
theorem rsat_any (S S0 : Nat → Prop) (d : Nat) (t : Tbl) (row : Val) (ct cr : List Value) (w : World) (he : Y7 d t.check) (ht : Qs.R S w ct t) (hr : Qh S0 w cr row) (hl : row.names.length ≤ row.kids.length) (hd : row.kids.length + d ≤ 1000) (hb : ∀ v ∈ row.kids, Z2 v) :
  Calls prog 112 #[.agg ct.toArray, .agg cr.toArray] w (Ls w) := by
 obtain ⟨cp0, cc0, kp0, kc0, rp0, rc0, k0, s10, n0, s20, p10, n10, c10, p20, n20, c20, p30, n30, c30, a0, z0, rfl, _, _, _, _, hchk⟩ := Zk ht
 obtain ⟨q3, l3, q4, l4, hcr, hn, hk, _⟩ := Qh.cells hr
 simp only [vcs] at hcr
 subst hcr
 unfold tcs
 have HS := Qq (fun W (hW : Below w.heap.size w W) => Dd t.check S [.int .i64 k0, .string s10, .int .i64 n0, .string s20, .slice p10 n10 c10, .slice p20 n20 c20, .slice p30 n30 c30, .int .i64 a0, .int .i64 z0] W (hchk.move (.of_below hW) (fun _ _ h => h)))
 have HE := Qq (fun W (hW : Below w.heap.size w W) => he (fun _ => True) [.int .i64 k0, .string s10, .int .i64 n0, .string s20, .slice p10 n10 c10, .slice p20 n20 c20, .slice p30 n30 c30, .int .i64 a0, .int .i64 z0] _ _ row.names row.kids W (hchk.move (.of_below hW) (fun _ _ _ => trivial)) ((hn.below hW).mono (fun _ _ _ => trivial)) ((hk.below hW).mono (fun _ _ _ => trivial)) hl hd hb)
 clear ht hr hchk hn hk he hb hl hd
 go_enter func112, ntmps112
 go_upto_region 1 with fail
 generalize hW1 : (w.alloc _).alloc _ = W1
 have hb1 := eqB hW1 (Zv _ _ _)
 have hT1 := eqH (b := w.heap.size) hW1 (Q5 _ _ _)
 have hR1 := eqH (b := w.heap.size + 1) hW1 (Q6 _ _ _)
 have HB1 := Qq hb1; have HT1 := Qq hT1; have HR1 := Qq hR1
 obtain ⟨c0, c1, c2, c3, c4, c5, c6, c7, c8, c9, c10, c11, c12⟩ := row13 hT1
 clear hW1 hb1 hT1 hR1
 go_upto_region 2 with (go_at_call 139; refine (HS.out _ HB1.out).mono ?_; rintro e w5 ⟨⟨b, rfl⟩, hb5⟩; have HB5 := Qq hb5; clear hb5)
 clear c0 c1 c2 c3 c4 c5 c6 c7 c8 c9 c10 c11 c12
 cases b with
 | false =>
  go_wp2_with fail
  go_ret
  exact ⟨⟨_, rfl⟩, HB1.out.thn HB5.out⟩
 | true =>
  have hT5 := kB HB5.out HT1.out
  have hR5 := kB HB5.out HR1.out
  obtain ⟨c0, c1, c2, c3, c4, c5, c6, c7, c8, c9, c10, c11, c12⟩ := row13 hT5
  obtain ⟨r0, r1, r2, r3, r4⟩ := row5 hR5
  clear hT5 hR5
  go_upto_region 5 with (go_at_call 140; refine (HE.out _ (HB1.out.thn HB5.out)).mono ?_; rintro e w7 ⟨k7, n7, s7, q37, m37, l37, q47, m47, l47, b7, rfl, _, hb7⟩; have HB7 := Qq hb7; clear hb7)
  generalize hW8 : w7.alloc _ = W8
  have hb8 := eqB hW8 (Qo _ _)
  have hV8 := eqH (b := w7.heap.size) hW8 (Qw _ _)
  have HB8 := Qq (((HB1.out.thn HB5.out).thn HB7.out).thn hb8)
  obtain ⟨v0, v1, v2, v3, v4⟩ := row5 hV8
  clear hW8 hb8 hV8 c0 c1 c2 c3 c4 c5 c6 c7 c8 c9 c10 c11 c12 r0 r1 r2 r3 r4
  have hsp : b7 = false ∨ (b7 = true ∧ (k7 == 2) = false) ∨ (b7 = true ∧ (k7 == 2) = true) := by cases b7 <;> cases (k7 == 2) <;> simp
  rcases hsp with rfl | ⟨rfl, hq⟩ | ⟨rfl, hq⟩
  all_goals
   go_wp2_with fail
   go_ret
   exact ⟨⟨_, rfl⟩, HB8.out⟩
def Ku (us : List Sm) : Prop := ∀ u ∈ us, ∀ c ∈ u.ctors, Uu c.arg
structure Ly (t : Tbl) : Prop where
 key : t.key.length ≤ 1000
 cols : t.columns.length ≤ 1000
 types : ∀ c ∈ t.columns, Uu c.type ∨ c.type.kind = 3
 check : Y7 8 t.check
structure Xo (v : Val) : Prop where
 good : Zp v
 few : v.kids.length ≤ 900
theorem Zp.lens {v : Val} (h : Zp v) : v.names.length ≤ v.kids.length ∧ (v.kind = 4 → v.kids.length = v.names.length) := by
 cases h with
 | int n => exact ⟨Q9 _, fun h => by cases h⟩
 | text s => exact ⟨Q9 _, fun h => by cases h⟩
 | bool n _ => exact ⟨Q9 _, fun h => by cases h⟩
 | make s kids _ _ _ => exact ⟨Q8 _, fun h => by cases h⟩
 | record names kids hl _ _ _ => exact ⟨Nat.le_of_eq hl, fun _ => hl.symm⟩
 | list kids _ => exact ⟨Q8 _, fun h => by cases h⟩
def hasP (us : List Sm) (v : Val) (t : Ty) : Bool := if t.kind = 3 then sumB us v t.name else v.kind == t.kind
theorem rhasP (us : List Sm) (hu : Ku us) (v : Val) (t : Ty) (h : Uu t ∨ t.kind = 3) : Jx us v t (hasP us v t) := by
 unfold hasP
 split
 ·rename_i h3
  obtain ⟨k, s, n, names, kids⟩ := t
  cases (show k = 3 from h3)
  exact rhasSum us v s n names kids hu
 rename_i h3
 exact Bl us v t (h.resolve_right h3)
theorem rhasRow (us : List Sm) (hu : Ku us) (t : Tbl) (hT : Ly t) (v : Val) (hv : Xo v) : ∃ b, Jx us v (Ec t) b := by
 obtain ⟨h1, h2, h3⟩ := Fw _ t.columns rfl
 exact ⟨_, rhasRec us v [] _ _ (hasP us) (by rw [h1, h2]) hv.good.lens.2 (fun x _ y hy => by
  obtain ⟨c, hc, rfl⟩ := h3 y hy
  exact rhasP us hu x c.type (hT.types c hc))⟩
def Ez (w : World) (e : Ending) (w' : World) : Prop := (∃ (c : Int) (x1 x2 x3 x4 x5 x6 x7 x8 x9 x10 x11 : Value), e = .returned (.agg #[.int .i64 c, x1, x2, x3, x4, x5, x6, x7, x8, x9, x10, x11])) ∧ Below w.heap.size w w'
theorem Lj (X : World) (p : Addr) : X.drew.cell? p = X.cell? p := rfl
theorem Qu {W : World} {R b j : Nat} {x0 x1 x2 x3 x4 x5 x6 x7 x8 x9 x10 x11 u : Value} (h : b ≠ R) (hc : W.cell? ⟨b, j, none⟩ = some u) : (Zh W R x0 x1 x2 x3 x4 x5 x6 x7 x8 x9 x10 x11).drew.cell? ⟨b, j, none⟩ = some u := (Lj _ _).trans ((World.cell?_of_block (Yj h)).trans hc)
def Kf : Prop := ∀ (S0 S1 : Nat → Prop) (s : Sc) (cs : List Value) (lv : Value) (l : List Rel) (w : World), Yl S0 w cs s → Sl Z8 S1 w lv l → l.length = s.tables.length → Ku s.sums → (∀ t ∈ s.tables, Ly t) → (∀ r ∈ l, ∀ v ∈ r.rows, Xo v) →
  Calls prog 66 #[.agg cs.toArray, lv] w (Ez w)
theorem Sl.valS {S : Nat → Prop} {w : World} {p : Option Addr} {n cap : Nat} {xs : List Val} (h : Sl Ql S w (.slice p n cap) xs) {i : Nat} {x : Val} (hx : xs[i]? = some x) :
  ∃ b off p3 k3 p4 k4, p = some ⟨b, off, none⟩ ∧ S b ∧ b < w.heap.size ∧ Qh S w (vcs x p3 k3 p4 k4) x ∧ w.cell? ⟨b, off + i * 5, none⟩ = some (.int .i64 x.kind) ∧ w.cell? ⟨b, off + i * 5 + 1, none⟩ = some (.int .i64 x.n) ∧ w.cell? ⟨b, off + i * 5 + 2, none⟩ = some (.string ⟨x.s.toArray⟩) ∧
   w.cell? ⟨b, off + i * 5 + 3, none⟩ = some (.slice p3 x.names.length k3) ∧ w.cell? ⟨b, off + i * 5 + 4, none⟩ = some (.slice p4 x.kids.length k4) := by
 obtain ⟨p', c', h1, _, h3⟩ := h
 simp only [Value.slice.injEq] at h1
 obtain ⟨rfl, _, _⟩ := h1
 obtain ⟨b, off, e, hS, hb, hc⟩ := h3 (by intro e; subst e; simp at hx)
 obtain ⟨cs, h4, h5⟩ := hc i x hx
 obtain ⟨p3, k3, p4, k4, rfl, _⟩ := Qh.cells h5
 exact ⟨b, off, p3, k3, p4, k4, e, hS, hb, h5, h4 0 _ rfl, h4 1 _ rfl, h4 2 _ rfl, h4 3 _ rfl, h4 4 _ rfl⟩
theorem Sk (nm : Bs) (n : Int) (s : Bs) (names binds : List Bs) (kids : List Ex) (a z : Int) (d : Nat) (ih : ∀ x ∈ kids, Y7 d x) (hk1 : kids.length = names.length + 1) (hb1 : binds.length = names.length) : ∀ (S : Nat → Prop) (ce : List Value) (nv vv : Value) (ns : List Bs) (vs : List Val) (w : World), Z5 S w ce (.mk 13 nm n s names binds kids a z) → Sl Qp S w nv ns → Sl Ql S w vv vs → ns.length ≤ vs.length → vs.length + (d + 1) ≤ 1000 → (∀ v ∈ vs, Z2 v) →
  Calls prog 180 #[.agg ce.toArray, nv, vv] w (Yf S w) := by
 intro S ce nv vv ns vs w hx0 hn0 hv0 hlen hd hb
 have hx : Z5 (fun b => S b ∧ b < w.heap.size) w ce (.mk 13 nm n s names binds kids a z) := hx0.move (.refl _ _) (fun b hb h => ⟨h, hb⟩)
 have hn := hn0.up
 have hv := hv0.up
 obtain ⟨np, nc, rfl, _⟩ := hn.len
 obtain ⟨vp, vc, rfl, hvl⟩ := hv.len
 have HXX := Qq hx
 obtain ⟨nv', bv, kv, rfl, hnm, hsx, hns, hbi, hk⟩ := Zd.1 hx
 obtain ⟨p1, c1, rfl, _⟩ := hns.len
 obtain ⟨p2, c2, rfl, _⟩ := hbi.len
 obtain ⟨p3, c3, rfl, hkl⟩ := hk.len
 have HN := Qq hn; have HV := Qq hv; have HBo := Qq hb; have HNs := Qq hns; have HBi := Qq hbi; have HK := Qq hk; have HI := Qq ih; have HLen := Qq hlen
 clear hx0 hn0 hv0 hx hn hv hns hbi hk hb ih hlen
 unfold sv at *
 obtain ⟨m, hm⟩ := eX (names.length)
 rw [hm] at hk1 hb1
 have hkl' : m + 1 ≤ 1000000 := by omega
 rw [hk1] at HK ⊢; rw [hm] at HNs ⊢; rw [hb1] at HBi ⊢
 have HM := Qq hm; have HKM := Qq hk1; have HBM := Qq hb1
 obtain ⟨x0, hx0⟩ : ∃ x, kids[0]? = some x := ⟨_, Qx (by omega)⟩
 obtain ⟨kb0, ko0, ek0, es0, en0, et0, e10, f10, g10, e20, f20, g20, e30, f30, g30, ea0, ez0, hp30, hkb0, hvx0, d00, d10, d20, d30, d40, d50, d60, d70, d80⟩ := HK.out.ex hx0
 subst hp30
 simp only [Nat.zero_mul, Nat.add_zero] at d00 d10 d20 d30 d40 d50 d60 d70 d80
 have HE0 := Qq (fun W (hW : Below w.heap.size w W) => HI.out x0 (Qy hx0) (fun b => S b ∧ b < w.heap.size) _ _ _ ns vs W (hvx0.move (.of_below hW) (fun _ _ h => h)) (HN.out.below hW) (HV.out.below hW) HLen.out (by omega) HBo.out)
 have HXx0 := Qq hvx0; have HM0 := Qq (Qy hx0)
 have DD0 := Qq (Qe hkb0 (Qe d00 (Qe d10 (Qe d20 (Qe d30 (Qe d40 (Qe d50 (Qe d60 (Qe d70 d80)))))))))
 clear hvx0 hx0 hkb0 d00 d10 d20 d30 d40 d50 d60 d70 d80
 clear hm hk1 hb1 hkl
 have hi0 : (0 : Int) < (m : Int) + 1 := by omega
 go_enter func180, ntmps180
 go_upto_region 1 with fail
 generalize hW1 : (w.alloc _).alloc _ = W1
 have hb1 := eqB hW1 (Zv _ _ _)
 have hX1 := eqH (b := w.heap.size) hW1 (Q5 _ _ _)
 have hZ1 := eqH (b := w.heap.size + 1) hW1 (Q6 _ _ _)
 have HB1 := Qq hb1; have HX1 := Qq hX1; have HZ1 := Qq hZ1
 have hlt := Qf hZ1
 clear hW1 hb1 hX1 hZ1
 have hXW1 := ((Qq (Qz W1.heap.size W1)).out.block _ (Qf HX1.out)).trans HX1.out
 have c6 := rA6 hXW1
 clear hXW1
 obtain ⟨qb, q0, q1, q2, q3, q4, q5, q6, q7, q8⟩ := DD0.out
 have d00 := kD HB1.out qb q0; have d10 := kD HB1.out qb q1; have d20 := kD HB1.out qb q2; have d30 := kD HB1.out qb q3; have d40 := kD HB1.out qb q4; have d50 := kD HB1.out qb q5; have d60 := kD HB1.out qb q6; have d70 := kD HB1.out qb q7; have d80 := kD HB1.out qb q8
 clear qb q0 q1 q2 q3 q4 q5 q6 q7 q8
 go_upto_region 2 with (go_at_call 140; refine (HE0.out _ HB1.out).mono ?_; rintro e w5 ⟨k5, n5, s5, q35, m35, l35, q45, m45, l45, b5, rfl, hv5, hb5⟩; have HV5 := Qq hv5; have HB5 := Qq hb5; clear hv5 hb5)
 generalize hW6 : w5.alloc _ = W6
 have hb6 := eqB hW6 (Qo _ _)
 have hV6 := eqH (b := w5.heap.size) hW6 (Qw _ _)
 have HB6 := Qq (HB5.out.thn hb6); have HVB6 := Qq hV6; have HVX6 := Qq hb6
 clear hW6 hb6 hV6
 have hlt6 : w.heap.size + 1 < W6.heap.size := by have := HB6.out.size; omega
 clear c6 d00 d10 d20 d30 d40 d50 d60 d70 d80 hi0
 obtain ⟨v0, v1, v2, v3, v4⟩ := row5 HVB6.out
 have hsp : b5 = false ∨ (b5 = true ∧ (k5 != 3) = true) ∨ (b5 = true ∧ k5 = 3) := by
  cases b5 with
  | false => exact .inl rfl
  | true =>
   by_cases h : k5 = 3
   ·exact .inr (.inr ⟨rfl, h⟩)
   exact .inr (.inl ⟨rfl, by simpa using h⟩)
 rcases hsp with rfl | ⟨rfl, hq⟩ | ⟨rfl, hk3⟩
 ·clear v0 v1 v2 v3 v4
  obtain ⟨v0, v1, v2, v3, v4⟩ := row5 HVB6.out
  have hZW6 := kE HB6.out hlt HZ1.out
  obtain ⟨y0, y1, y2, y3, y4⟩ := row5 hZW6
  obtain ⟨f0, f1, f2, f3, f4⟩ := frz5 hZW6
  have HZW6 := Qq hZW6
  clear hZW6
  go_wp2_with fail
  show bodyPost _ _ _ _ _ (Zz W6 (w.heap.size + 1) (.int .i64 k5) (.int .i64 n5) (.string s5) (.slice q35 m35 l35) (.slice q45 m45 l45))
  refine Q7 (v := .tuple #[.agg #[.int .i64 k5, .int .i64 n5, .string s5, .slice q35 m35 l35, .slice q45 m45 l45], .bool false]) (by simp [results, results180, go_sem, Qm HZW6.out]) rfl (Yb (by omega) (HB1.out.thn HB6.out))
 ·skip
  have hZW6 := kE HB6.out hlt HZ1.out
  obtain ⟨y0, y1, y2, y3, y4⟩ := row5 hZW6
  obtain ⟨f0, f1, f2, f3, f4⟩ := frz5 hZW6
  have HZW6 := Qq hZW6
  clear hZW6
  go_wp2_with fail
  show bodyPost _ _ _ _ _ (Zz W6 (w.heap.size + 1) (.int .i64 k5) (.int .i64 n5) (.string s5) (.slice q35 m35 l35) (.slice q45 m45 l45))
  refine Q7 (v := .tuple #[.agg #[.int .i64 k5, .int .i64 n5, .string s5, .slice q35 m35 l35, .slice q45 m45 l45], .bool false]) (by simp [results, results180, go_sem, Qm HZW6.out]) rfl (Yb (by omega) (HB1.out.thn HB6.out))
 obtain ⟨v, hvx, hvb⟩ := HV5.out rfl
 obtain ⟨a3, b3, a4, b4, hcs, -, hvk, hvs⟩ := Qh.cells hvx
 simp only [vcs, List.cons.injEq, Value.int.injEq, Value.string.injEq, Value.slice.injEq, true_and, and_true] at hcs
 obtain ⟨rfl, rfl, rfl, ⟨rfl, rfl, rfl⟩, rfl, rfl, rfl⟩ := hcs
 have hq : (v.kind != 3) = false := by rw [hk3]; rfl
 have HVX := Qq hvx; have HVb := Qq hvb; have HVK := Qq hvk
 clear hvx hvb hvk hk3
 go_upto_region 5 with fail
 clear hq v0 v1 v2 v3 v4
 go_loopw [10] (fun i wr => ∃ j : Nat, j ≤ m ∧ i = .int .i64 j ∧ Aside (Below W6.heap.size W6 wr)) (fun i _ => m - (intOf i).toNat)
 case atStart => exact ⟨0, Q8 _, rfl, Qz _ _⟩
 obtain ⟨j, hj, rfl, hBr⟩ := hrel
 have HBr := Qq (show Below W6.heap.size W6 wr from hBr)
 clear hBr
 have HB6r := Qq (HB6.out.thn HBr.out)
 have HBwr := Qq (HB1.out.thn HB6r.out)
 have hV6r := kB HBr.out HVB6.out
 have HV6r := Qq hV6r
 clear hV6r
 have hXwr := kB HB6r.out HX1.out
 have c4 := rA4 hXwr; have c5 := rA5 hXwr; have c6 := rA6 hXwr
 clear hXwr
 by_cases hlt2 : j < m
 ·have hi1 : (0 : Int) ≤ (j : Int) := by omega
  have hi2 : (j : Int) < (m : Int) := by omega
  obtain ⟨y, hy⟩ : ∃ y, names[j]? = some y := ⟨_, Qx (by rw [HM.out]; omega)⟩
  obtain ⟨nb, noff, rfl, hyc, -⟩ := (HNs.out.below HBwr.out).str hy
  clear hy
  have v2 := rA2 HV6r.out
  by_cases he : y = v.s
  ·subst he
   have hq : (v.s != v.s) = false := by simp
   have hq' : (v.s == v.s) = true := by simp
   obtain ⟨z, hz⟩ : ∃ z, binds[j]? = some z := ⟨_, Qx (by rw [HBM.out]; omega)⟩
   obtain ⟨bb, boff, hbb, hzc0, hzl⟩ := HBi.out.str hz
   subst hbb
   have hbbl := Qv _ _ hzc0
   have hbz : bb ≠ w.heap.size + 1 := by have h : bb < w.heap.size := hbbl; omega
   have HZC := Qq hzc0
   clear hz hzc0
   go_upto_region 7 with fail
   go_quiet (fail)
   obtain ⟨wq, hwq⟩ := eX (wr.drewN nq)
   have hbq : Below wr.heap.size wr wq := by rw [← hwq]; exact Zy _ _
   rw [hwq]
   have HBq := Qq (HB6r.out.thn hbq); have HBwq := Qq (HBwr.out.thn hbq)
   have hVq := kB hbq HV6r.out
   have HVq := Qq hVq
   have hlq : w.heap.size + 1 < wq.heap.size := by have := HBq.out.size; omega
   have HVXq := Qq (HVX.out.move (.of_below (HVX6.out.thn (HBr.out.thn hbq))) (fun _ _ h => h))
   have HVKq := Qq (HVK.out.below (HVX6.out.thn (HBr.out.thn hbq)))
   clear hwq hbq hVq hyc hq c4 c5 c6 v2
   have hXwq := kB HBq.out HX1.out
   have c5 := rA5 hXwq; have c6 := rA6 hXwq
   clear hXwq
   have hzc := (HBwq.out.cell (p := ⟨bb, boff + j, none⟩) hbbl).trans HZC.out
   obtain ⟨x1, hx1⟩ : ∃ x, kids[j + 1]? = some x := ⟨_, Qx (by rw [HKM.out]; omega)⟩
   obtain ⟨kb1, ko1, ek1, es1, en1, et1, e11, f11, g11, e21, f21, g21, e31, f31, g31, ea1, ez1, hp31, hkb1, hvx1, d01, d11, d21, d31, d41, d51, d61, d71, d81⟩ := HK.out.ex hx1
   simp only [Option.some.injEq, Addr.mk.injEq, and_true] at hp31
   obtain ⟨rfl, rfl⟩ := hp31
   have HE1 := Qq (fun W (hW : Below w.heap.size w W) => HI.out x1 (Qy hx1) (fun b => S b ∧ b < w.heap.size) _ _ _ ns vs W (hvx1.move (.of_below hW) (fun _ _ h => h)) (HN.out.below hW) (HV.out.below hW) HLen.out (by omega) HBo.out)
   have HXx1 := Qq hvx1; have HM1 := Qq (Qy hx1)
   have DD1 := Qq (Qe hkb1 (Qe d01 (Qe d11 (Qe d21 (Qe d31 (Qe d41 (Qe d51 (Qe d61 (Qe d71 d81)))))))))
   clear hvx1 hx1 hkb1 d01 d11 d21 d31 d41 d51 d61 d71 d81
   obtain ⟨qb, q0, q1, q2, q3, q4, q5, q6, q7, q8⟩ := DD1.out
   have d01 := kD HBwq.out qb q0; have d11 := kD HBwq.out qb q1; have d21 := kD HBwq.out qb q2; have d31 := kD HBwq.out qb q3; have d41 := kD HBwq.out qb q4; have d51 := kD HBwq.out qb q5; have d61 := kD HBwq.out qb q6; have d71 := kD HBwq.out qb q7; have d81 := kD HBwq.out qb q8
   clear qb q0 q1 q2 q3 q4 q5 q6 q7 q8
   have hw1 : IntKind.i64.wrap ((j : Int) + 1) = (j : Int) + 1 := by rw [IntKind.wrap_i64]; omega
   have hi3 : (0 : Int) ≤ (j : Int) + 1 := by omega
   have hi4 : (j : Int) + 1 < (m : Int) + 1 := by omega
   have hi5 : ((j : Int) + 1).toNat = j + 1 := by omega
   cases z with
   | nil =>
    go_wp2_with (go_at_call 140; refine (HE1.out _ HBwq.out).mono ?_; rintro e w7 ⟨k7, n7, s7, q37, m37, l37, q47, m47, l47, b7, rfl, hv7, hb7⟩; have hZ7 := kE (HBq.out.thn hb7) hlt HZ1.out; have f0 := fA 0 hZ7; have y0 := Qk _ _ 0 _ _ _ hZ7; have f1 := fA 1 hZ7; have y1 := Qk _ _ 1 _ _ _ hZ7; have f2 := fA 2 hZ7; have y2 := Qk _ _ 2 _ _ _ hZ7; have f3 := fA 3 hZ7; have y3 := Qk _ _ 3 _ _ _ hZ7; have f4 := fA 4 hZ7; have y4 := Qk _ _ 4 _ _ _ hZ7; simp only [List.getElem?_toArray, List.getElem?_cons_zero, List.getElem?_cons_succ] at y0 y1 y2 y3 y4; have HZ7 := Qq hZ7; clear hZ7; have HV7 := Qq hv7; have HB7 := Qq hb7; clear hv7 hb7)
    show bodyPost _ _ _ _ _ (Zz w7 (w.heap.size + 1) (.int .i64 k7) (.int .i64 n7) (.string s7) (.slice q37 m37 l37) (.slice q47 m47 l47))
    refine Q7 (v := .tuple #[.agg #[.int .i64 k7, .int .i64 n7, .string s7, .slice q37 m37 l37, .slice q47 m47 l47], .bool b7]) (by simp [results, results180, go_sem, Qm HZ7.out]) rfl (V5 HBwq.out (by omega) hlq HV7.out HB7.out)
   | cons c z =>
    by_cases h1 : v.kids.length = 1
    ·obtain ⟨y, hy⟩ : ∃ y, v.kids[0]? = some y := ⟨_, Qx (by omega)⟩
     obtain ⟨ub, uoff, t3, l3, t4, l4, hub, hSu, hul, hvu, u0, u1, u2, u3, u4⟩ := HVKq.out.valS hy
     subst hub
     rw [h1] at HVq HVXq HVKq
     simp only [Nat.zero_mul, Nat.add_zero] at u0 u1 u2 u3 u4
     have huz : ub ≠ w.heap.size + 1 := by rcases hSu with h | h; exact (by have := h.2; omega); exact (by have h' : W1.heap.size ≤ ub := h; omega)
     have hE := Qq (fun W (hW : Below wq.heap.size wq W) => F8 d x1 (HI.out x1 HM1.out) (fun c => (S c ∧ c < w.heap.size) ∨ W1.heap.size ≤ c) _ _ _ ns vs (c :: z) y [.int .i64 y.kind, .int .i64 y.n, .string ⟨y.s.toArray⟩, .slice t3 y.names.length l3, .slice t4 y.kids.length l4] W (HXx1.out.move (.of_below (HBwq.out.thn hW)) (fun _ _ h => .inl h)) ((HN.out.below (HBwq.out.thn hW)).mono (fun _ _ h => .inl h)) ((HV.out.below (HBwq.out.thn hW)).mono (fun _ _ h => .inl h)) HLen.out (by omega) HBo.out hzl (hvu.move (.of_below hW) (fun _ _ h => h)) (HVb.out.kids y (Qy hy)))
     unfold sv at hE
     have hq1 : ((1 : Int) != 1) = false := rfl
     have v4 := rA4 HVq.out
     go_upto_region 12 with fail
     have hkz : kb0 ≠ w.heap.size + 1 := by have := DD1.out.1; omega
     have h5z : w5.heap.size ≠ w.heap.size + 1 := by have := HB5.out.size; omega
     refine let_mvar% ?Lq1 := fun w' : World => w'.cell? ⟨w.heap.size, 5, none⟩ = some (.slice (some ⟨bb, boff, none⟩) m c2) ∧ w'.cell? ⟨w.heap.size, 6, none⟩ = some (.slice (some ⟨kb0, ko0, none⟩) (m + 1) c3) ∧ w'.cell? ⟨bb, boff + j, none⟩ = some (.string ⟨(c :: z).toArray⟩) ∧ w'.cell? ⟨w5.heap.size, 4, none⟩ = some (.slice (some ⟨ub, uoff, none⟩) 1 l45) ∧ w'.cell? ⟨kb0, ko0 + (j + 1) * 9, none⟩ = some (.int .i64 ek1) ∧ w'.cell? ⟨kb0, ko0 + (j + 1) * 9 + 1, none⟩ = some (.string es1) ∧ w'.cell? ⟨kb0, ko0 + (j + 1) * 9 + 2, none⟩ = some (.int .i64 en1) ∧ w'.cell? ⟨kb0, ko0 + (j + 1) * 9 + 3, none⟩ = some (.string et1) ∧ w'.cell? ⟨kb0, ko0 + (j + 1) * 9 + 4, none⟩ = some (.slice e11 f11 g11) ∧ w'.cell? ⟨kb0, ko0 + (j + 1) * 9 + 5, none⟩ = some (.slice e21 f21 g21) ∧ w'.cell? ⟨kb0, ko0 + (j + 1) * 9 + 6, none⟩ = some (.slice e31 f31 g31) ∧ w'.cell? ⟨kb0, ko0 + (j + 1) * 9 + 7, none⟩ = some (.int .i64 ea1) ∧ w'.cell? ⟨kb0, ko0 + (j + 1) * 9 + 8, none⟩ = some (.int .i64 ez1) ∧ w'.cell? ⟨ub, uoff, none⟩ = some (.int .i64 y.kind) ∧ w'.cell? ⟨ub, uoff + 1, none⟩ = some (.int .i64 y.n) ∧ w'.cell? ⟨ub, uoff + 2, none⟩ = some (.string ⟨y.s.toArray⟩) ∧ w'.cell? ⟨ub, uoff + 3, none⟩ = some (.slice t3 y.names.length l3) ∧ w'.cell? ⟨ub, uoff + 4, none⟩ = some (.slice t4 y.kids.length l4); ?_
     have HS : ∀ w', Below wq.heap.size wq w' → ?Lq1 w' := by
      intro w' h
      have hh : ∀ {b j : Nat} {u : Value}, wq.cell? ⟨b, j, none⟩ = some u → w'.cell? ⟨b, j, none⟩ = some u := fun hc => kC h hc
      exact ⟨hh c5, hh c6, hh hzc, hh v4, hh d01, hh d11, hh d21, hh d31, hh d41, hh d51, hh d61, hh d71, hh d81, hh u0, hh u1, hh u2, hh u3, hh u4⟩
     have HP : ∀ w' x0 x1 x2 x3 x4, ?Lq1 w' → ?Lq1 (Zz w' (w.heap.size + 1) x0 x1 x2 x3 x4) := fun w' x0 x1 x2 x3 x4 h => ⟨Qr (by omega) h.1, Qr (by omega) h.2.1, Qr hbz h.2.2.1, Qr h5z h.2.2.2.1, Qr hkz h.2.2.2.2.1, Qr hkz h.2.2.2.2.2.1, Qr hkz h.2.2.2.2.2.2.1, Qr hkz h.2.2.2.2.2.2.2.1, Qr hkz h.2.2.2.2.2.2.2.2.1, Qr hkz h.2.2.2.2.2.2.2.2.2.1, Qr hkz h.2.2.2.2.2.2.2.2.2.2.1, Qr hkz h.2.2.2.2.2.2.2.2.2.2.2.1, Qr hkz h.2.2.2.2.2.2.2.2.2.2.2.2.1, Qr huz h.2.2.2.2.2.2.2.2.2.2.2.2.2.1, Qr huz h.2.2.2.2.2.2.2.2.2.2.2.2.2.2.1, Qr huz h.2.2.2.2.2.2.2.2.2.2.2.2.2.2.2.1, Qr huz h.2.2.2.2.2.2.2.2.2.2.2.2.2.2.2.2.1, Qr huz h.2.2.2.2.2.2.2.2.2.2.2.2.2.2.2.2.2⟩
     unfold Zz at HP
     have HS0 := Qq (HS wq.drew (Qz _ _).drew); have HSq := Qq HS; have HP' := Qq HP
     clear HS HP c5 c6 hzc v4 d01 d11 d21 d31 d41 d51 d61 d71 d81 u0 u1 u2 u3 u4 hSu hvu hy
     go_region_held3 ?Lq1 (first | with_reducible exact HS0.out | with_reducible exact hS2 | with_reducible exact HP'.out _ _ _ _ _ _ hS2)
      (first
       | (go_at_call 179; refine (hE.out _ (Qz _ _).drew).mono ?_; rintro e w7 ⟨k7, n7, s7, q37, m37, l37, q47, m47, l47, b7, rfl, hv7, hb7⟩; have hb7' := (Qz _ wq).drew.thn hb7; have hS2 := HSq.out w7 hb7'; have hb17 := HBq.out.thn hb7'; have hZ7 := kE (hb17) hlt HZ1.out; have f0 := fA 0 hZ7; have y0 := Qk _ _ 0 _ _ _ hZ7; have f1 := fA 1 hZ7; have y1 := Qk _ _ 1 _ _ _ hZ7; have f2 := fA 2 hZ7; have y2 := Qk _ _ 2 _ _ _ hZ7; have f3 := fA 3 hZ7; have y3 := Qk _ _ 3 _ _ _ hZ7; have f4 := fA 4 hZ7; have y4 := Qk _ _ 4 _ _ _ hZ7; simp only [List.getElem?_toArray, List.getElem?_cons_zero, List.getElem?_cons_succ] at y0 y1 y2 y3 y4; have HZ7 := Qq hZ7; clear hZ7; have HV7 := Qq hv7; have HB7 := Qq hb17; clear hv7 hb7 hb17 hb7'))
     all_goals
      go_wp2_with fail
      show bodyPost _ _ _ _ _ (Zz w7 (w.heap.size + 1) (.int .i64 k7) (.int .i64 n7) (.string s7) (.slice q37 m37 l37) (.slice q47 m47 l47))
      refine Q7 (v := .tuple #[.agg #[.int .i64 k7, .int .i64 n7, .string s7, .slice q37 m37 l37, .slice q47 m47 l47], .bool b7]) (by simp [results, results180, go_sem, Qm HZ7.out]) rfl (V5 HB1.out (by omega) hlt (fun hb => by
        obtain ⟨v, h1, h2⟩ := HV7.out hb
        refine ⟨v, h1.move (.refl _ _) (fun c _ hc => ?_), h2⟩
        rcases hc with hc | hc
        ·exact hc
        exact .inr (by have := HBq.out.size; have h' : wq.heap.size ≤ c := hc; omega)) HB7.out)
    have hq1 : ((v.kids.length : Int) != 1) = true := by simp; omega
    obtain ⟨v0, v1, v2, v3, v4⟩ := row5 HVq.out
    have hZwq := kE HBq.out hlt HZ1.out
    obtain ⟨y0, y1, y2, y3, y4⟩ := row5 hZwq
    obtain ⟨f0, f1, f2, f3, f4⟩ := frz5 hZwq
    have HZwq := Qq hZwq
    clear hZwq
    go_wp2_with fail
    show bodyPost _ _ _ _ _ (Zz wq (w.heap.size + 1) (.int .i64 v.kind) (.int .i64 v.n) (.string ⟨v.s.toArray⟩) (.slice q35 v.names.length l35) (.slice q45 v.kids.length l45))
    refine Q7 (v := .tuple #[.agg #[.int .i64 v.kind, .int .i64 v.n, .string ⟨v.s.toArray⟩, .slice q35 v.names.length l35, .slice q45 v.kids.length l45], .bool false]) (by simp [results, results180, go_sem, Qm HZwq.out]) rfl (Yb (by omega) HBwq.out)
  have hq : (y != v.s) = true := by rw [bne_iff_ne]; exact he
  have hq' : (y == v.s) = false := by rw [← Bool.not_eq_true, beq_iff_eq]; exact he
  clear he
  go_upto_region 7 with fail
  go_quiet (fail)
  go_wp2_with fail
  go_roundw
  case measure => simp [intOf]; omega
  case rel => exact ⟨j + 1, by omega, by go_num, HBr.out.thn (Zy _ _)⟩
 have hjm : j = m := by omega
 subst hjm
 obtain ⟨v0, v1, v2, v3, v4⟩ := row5 HV6r.out
 have hZwr := kE HB6r.out hlt HZ1.out
 obtain ⟨y0, y1, y2, y3, y4⟩ := row5 hZwr
 obtain ⟨f0, f1, f2, f3, f4⟩ := frz5 hZwr
 have HZwr := Qq hZwr
 clear hZwr
 go_wp2_with fail
 show bodyPost _ _ _ _ _ (Zz wr (w.heap.size + 1) (.int .i64 v.kind) (.int .i64 v.n) (.string ⟨v.s.toArray⟩) (.slice q35 v.names.length l35) (.slice q45 v.kids.length l45))
 refine Q7 (v := .tuple #[.agg #[.int .i64 v.kind, .int .i64 v.n, .string ⟨v.s.toArray⟩, .slice q35 v.names.length l35, .slice q45 v.kids.length l45], .bool false]) (by simp [results, results180, go_sem, Qm HZwr.out]) rfl (Yb (by omega) HBwr.out)
theorem Pv (S : Nat → Prop) (v : Value) (l : List Int) (w : World) (hs : Y4 S w v l) (hi : Vw l) (hk : Zo l 0 13 = 7) :
  Calls prog 35 #[v, .int .i64 0] w (V8 w (Gen.check 7)) := by
 have HP := Qq (fun W (hb : Below w.heap.size w W) => Zr S v l 0 13 W (hs.below hb) hi (by omega) (by omega))
 rw [hk] at HP
 obtain ⟨p, cap, rfl, _⟩ := hs.len
 clear hs hi hk
 go_enter func35, ntmps35
 go_upto_region 8 with fail
 generalize hW8 : (((((((w.alloc _).alloc _).alloc _).alloc _).alloc _).alloc _).alloc _).alloc _ = W8
 have hb8 := eqB hW8 (Zq (Zq (Zq (Zq (Zq (Zq (Zq (Qo w _) _) _) _) _) _) _) _)
 have hz8 : W8.heap.size = w.heap.size + 8 := by rw [← hW8]; simp
 have r8 := eqH (b := w.heap.size) hW8 (Qi (Qi (Qi (Qi (Qi (Qi (Qi (Z6 rfl _) _) _) _) _) _) _) _)
 have ha := eqH (b := w.heap.size + 1) hW8 (Qi (Qi (Qi (Qi (Qi (Qi (Z6 (by simp) _) _) _) _) _) _) _)
 have hb := eqH (b := w.heap.size + 1 + 1) hW8 (Qi (Qi (Qi (Qi (Qi (Z6 (by simp) _) _) _) _) _) _)
 have hone := eqH (b := w.heap.size + 1 + 1 + 1 + 1 + 1 + 1) hW8 (Qi (Z6 (by simp) _) _)
 have hRl : w.heap.size < W8.heap.size := by omega
 have hRn : w.heap.size ≠ W8.heap.size := by omega
 have HZ8 := Qq hz8
 clear hz8
 have HB8 := Qq hb8; have HR8 := Qq r8
 clear hW8 hb8 r8
 obtain ⟨a0, a1, a2, a3, a4, a5, a6, a7, a8⟩ := row9 ha
 clear ha
 obtain ⟨b0, b1, b2, b3, b4, b5, b6, b7, b8⟩ := row9 hb
 clear hb
 obtain ⟨one0, one1, one2, one3, one4, one5, one6, one7, one8⟩ := row9 hone
 clear hone
 go_upto_region 22 with (go_at_call 26; refine (HP.out _ HB8.out).mono ?_; rintro e w' ⟨rfl, rfl⟩)
 have hTok1 := Qq True.intro; have hTok2 := Qq True.intro; have hTok3 := Qq True.intro; have hTok4 := Qq True.intro
 go_upto_region 23 with (have hk := hTok3.out; clear hTok3 hk; generalize hWW9 : World.alloc W8 _ = W9; have hbW9 := eqB hWW9 (Qo _ _); have hKW9 := eqH (b := W8.heap.size) hWW9 (Qw _ _); have a0 := kC hbW9 a0; have a1 := kC hbW9 a1; have a2 := kC hbW9 a2; have a3 := kC hbW9 a3; have a4 := kC hbW9 a4; have a5 := kC hbW9 a5; have a6 := kC hbW9 a6; have a7 := kC hbW9 a7; have a8 := kC hbW9 a8; have b0 := kC hbW9 b0; have b1 := kC hbW9 b1; have b2 := kC hbW9 b2; have b3 := kC hbW9 b3; have b4 := kC hbW9 b4; have b5 := kC hbW9 b5; have b6 := kC hbW9 b6; have b7 := kC hbW9 b7; have b8 := kC hbW9 b8; have one0 := kC hbW9 one0; have one1 := kC hbW9 one1; have one2 := kC hbW9 one2; have one3 := kC hbW9 one3; have one4 := kC hbW9 one4; have one5 := kC hbW9 one5; have one6 := kC hbW9 one6; have one7 := kC hbW9 one7; have one8 := kC hbW9 one8; have HKW9 := Qq hKW9; have HBW9 := Qq hbW9; clear hWW9 hKW9 hbW9)
 generalize hW : (World.alloc W9 _).alloc _ = W11
 have hbW11 := eqB hW (Zv _ _ _)
 have hK1 := eqH (b := W9.heap.size) hW (Qi (Z6 rfl _) _)
 have hB1 := eqH (b := W9.heap.size + 1) hW (Z6 (by simp) _)
 clear hW
 have one0 := kC hbW11 one0
 have one1 := kC hbW11 one1
 have one2 := kC hbW11 one2
 have one3 := kC hbW11 one3
 have one4 := kC hbW11 one4
 have one5 := kC hbW11 one5
 have one6 := kC hbW11 one6
 have one7 := kC hbW11 one7
 have one8 := kC hbW11 one8
 obtain ⟨r0, r1, r2, r3, r4, r5, r6, r7, r8⟩ := row9 hB1
 have HN1 := Qq (kB hbW11 HKW9.out)
 have HB11 := Qq (HBW9.out.thn hbW11); have HK1 := Qq hK1
 clear hbW11 hK1 hB1 a0 b0 a1 b1 a2 b2 a3 b3 a4 b4 a5 b5 a6 b6 a7 b7 a8 b8
 go_upto_region 24 with (have hk := hTok4.out; clear hTok4 hk; generalize hWW12 : World.alloc W11 _ = W12; have hbW12 := eqB hWW12 (Qo _ _); have hKW12 := eqH (b := W11.heap.size) hWW12 (Qw _ _); have r0 := kC hbW12 r0; have r1 := kC hbW12 r1; have r2 := kC hbW12 r2; have r3 := kC hbW12 r3; have r4 := kC hbW12 r4; have r5 := kC hbW12 r5; have r6 := kC hbW12 r6; have r7 := kC hbW12 r7; have r8 := kC hbW12 r8; have one0 := kC hbW12 one0; have one1 := kC hbW12 one1; have one2 := kC hbW12 one2; have one3 := kC hbW12 one3; have one4 := kC hbW12 one4; have one5 := kC hbW12 one5; have one6 := kC hbW12 one6; have one7 := kC hbW12 one7; have one8 := kC hbW12 one8; have HKW12 := Qq hKW12; have HBW12 := Qq hbW12; clear hWW12 hKW12 hbW12)
 generalize hW : (World.alloc W12 _).alloc _ = W14
 have hbW14 := eqB hW (Zv _ _ _)
 have hK2 := eqH (b := W12.heap.size) hW (Qi (Z6 rfl _) _)
 have hB2 := eqH (b := W12.heap.size + 1) hW (Z6 (by simp) _)
 clear hW
 have r0 := kC hbW14 r0
 have r1 := kC hbW14 r1
 have r2 := kC hbW14 r2
 have r3 := kC hbW14 r3
 have r4 := kC hbW14 r4
 have r5 := kC hbW14 r5
 have r6 := kC hbW14 r6
 have r7 := kC hbW14 r7
 have r8 := kC hbW14 r8
 obtain ⟨t0, t1, t2, t3, t4, t5, t6, t7, t8⟩ := row9 hB2
 have HN2 := Qq (kB hbW14 HKW12.out)
 have HB14 := Qq (HBW12.out.thn hbW14); have HK2 := Qq hK2
 have HB811 := Qq (HB11.out.thn (HBW12.out.thn hbW14))
 have hl9 : w.heap.size < W9.heap.size := Qa hRl HBW9.out.size
 have hl12 : w.heap.size < W12.heap.size := Qa hRl (HB11.out.thn HBW12.out).size
 clear hbW14 hK2 hB2 one0 one1 one2 one3 one4 one5 one6 one7 one8
 have hl11 : w.heap.size < W11.heap.size := Qa hRl HB11.out.size
 have hl14 : w.heap.size < W14.heap.size := Qa hRl HB811.out.size
 have hrec : ∀ W, Below W11.heap.size W11 W → Z5 (fun b => w.heap.size < b) W [.int .i64 6, .string ⟨#[]⟩, .int .i64 0, .string ⟨#[]⟩, .slice (some ⟨W8.heap.size, 0, none⟩) 2 2, .slice none 0 0, .slice (some ⟨W9.heap.size, 0, none⟩) 2 2, .int .i64 0, .int .i64 0] Gen.rec := fun W hW => Zt (nm := []) (s := []) (by simp) (by simp) (Z4 (xs := [[121], [120]]) (kB hW HN1.out) hRl (Gd _ _ [121] [120] (by simp) (by simp)) rfl rfl (by simp)) (Sl.nil _ _ _) (Z4 (xs := [Gen.a, Gen.b]) (kB hW HK1.out) hl9 ((Cs.one (r := Yo) (Zx 3 [97] 0 [] (by simp) (by simp))).app (Cs.one (r := Yo) (Zx 3 [98] 0 [] (by simp) (by simp)))) rfl rfl (by simp))
 have hwth : ∀ W, Below W14.heap.size W14 W → Z5 (fun b => w.heap.size < b) W [.int .i64 7, .string ⟨#[]⟩, .int .i64 0, .string ⟨#[]⟩, .slice (some ⟨W11.heap.size, 0, none⟩) 1 1, .slice none 0 0, .slice (some ⟨W12.heap.size, 0, none⟩) 2 2, .int .i64 0, .int .i64 0] Gen.wth := fun W hW => Zt (nm := []) (s := []) (by simp) (by simp) (Z4 (xs := [[120]]) (kB hW HN2.out) hl11 (Uk [120] (by simp)) rfl rfl (by simp)) (Sl.nil _ _ _) (Z4 (xs := [Gen.rec, Gen.one]) (kB hW HK2.out) hl12 ((Cs.one (r := Yo) (hrec W (HB14.out.thn hW))).app (Cs.one (r := Yo) (Zx 0 [] 1 [] (by simp) (by simp)))) rfl rfl (by simp))
 have HRec := Qq hrec; have HWth := Qq hwth
 clear hrec hwth
 go_wp2_with (first
   | (have hk := hTok1.out; clear hTok1 hk; generalize hWW15 : World.alloc W14 _ = W15; have hbW15 := eqB hWW15 (Qo _ _); have hKW15 := eqH (b := W14.heap.size) hWW15 (Qw _ _); have r0 := kC hbW15 r0; have r1 := kC hbW15 r1; have r2 := kC hbW15 r2; have r3 := kC hbW15 r3; have r4 := kC hbW15 r4; have r5 := kC hbW15 r5; have r6 := kC hbW15 r6; have r7 := kC hbW15 r7; have r8 := kC hbW15 r8; have HKW15 := Qq hKW15; have HBW15 := Qq hbW15; clear hWW15 hKW15 hbW15)
   | (have hk := hTok2.out; clear hTok2 hk; generalize hWW16 : World.alloc W15 _ = W16; have hbW16 := eqB hWW16 (Qo _ _); have hKW16 := eqH (b := W15.heap.size) hWW16 (Qw _ _); have HKW16 := Qq hKW16; have HBW16 := Qq hbW16; clear hWW16 hKW16 hbW16)
   | (go_at_call 70; refine (Xj w.heap.size [60] _ _ [.int .i64 8, .string ⟨#[120]⟩, .int .i64 0, .string ⟨#[]⟩, .slice none 0 0, .slice none 0 0, .slice (some ⟨W14.heap.size, 0, none⟩) 1 1, .int .i64 0, .int .i64 0] [.int .i64 8, .string ⟨#[121]⟩, .int .i64 0, .string ⟨#[]⟩, .slice none 0 0, .slice none 0 0, .slice (some ⟨W15.heap.size, 0, none⟩) 1 1, .int .i64 0, .int .i64 0] _ (by simp) (Zt (nm := [120]) (s := []) (by simp) (by simp) (Sl.nil _ _ _) (Sl.nil _ _ _) (Z4 (xs := [Gen.wth]) (kB HBW16.out HKW15.out) hl14 (Cs.one (r := Yo) (x := Gen.wth) (show Z5 _ _ _ _ from HWth.out _ (HBW15.out.thn HBW16.out))) rfl rfl (by simp))) (Zt (nm := [121]) (s := []) (by simp) (by simp) (Sl.nil _ _ _) (Sl.nil _ _ _) (Z4 (xs := [Gen.rec]) HKW16.out (Qa hl14 HBW15.out.size) (Cs.one (r := Yo) (x := Gen.rec) (show Z5 _ _ _ _ from HRec.out _ (HB14.out.thn (HBW15.out.thn HBW16.out)))) rfl rfl (by simp))) (Qa hl14 (HBW15.out.thn HBW16.out).size)).mono ?_; rintro e w1 ⟨ek1, es1, en1, et1, e11, f11, g11, e21, f21, g21, e31, f31, g31, ea1, ez1, rfl, hx1, hb1⟩; have hR1 := (((HB811.out.thn (HBW15.out.thn HBW16.out)).thn hb1).block _ hRl).trans HR8.out; have f0 := fA 0 hR1; have y0 := Qk _ _ 0 _ _ _ hR1; have f1 := fA 1 hR1; have y1 := Qk _ _ 1 _ _ _ hR1; have f2 := fA 2 hR1; have y2 := Qk _ _ 2 _ _ _ hR1; have f3 := fA 3 hR1; have y3 := Qk _ _ 3 _ _ _ hR1; have f4 := fA 4 hR1; have y4 := Qk _ _ 4 _ _ _ hR1; have f5 := fA 5 hR1; have y5 := Qk _ _ 5 _ _ _ hR1; have f6 := fA 6 hR1; have y6 := Qk _ _ 6 _ _ _ hR1; have f7 := fA 7 hR1; have y7 := Qk _ _ 7 _ _ _ hR1; have f8 := fA 8 hR1; have y8 := Qk _ _ 8 _ _ _ hR1; simp only [List.getElem?_toArray, List.getElem?_cons_zero, List.getElem?_cons_succ] at y0 y1 y2 y3 y4 y5 y6 y7 y8; have HR1 := Qq hR1; clear hR1; have H1 := Qq hx1; have HB1 := Qq hb1; clear hx1 hb1))
 show bodyPost _ _ _ _ _ (put9 w1 w.heap.size (.int .i64 ek1) (.string es1) (.int .i64 en1) (.string et1) (.slice e11 f11 g11) (.slice e21 f21 g21) (.slice e31 f31 g31) (.int .i64 ea1) (.int .i64 ez1))
 exact Q7 (v := .agg #[.int .i64 ek1, .string es1, .int .i64 en1, .string et1, .slice e11 f11 g11, .slice e21 f21 g21, .slice e31 f31 g31, .int .i64 ea1, .int .i64 ez1]) (by simp [results, results35, go_sem, Y2 HR1.out]) rfl (Vq H1.out (HB8.out.thn (HB811.out.thn (HBW15.out.thn (HBW16.out.thn HB1.out)))) rfl)
end Go.Proofs.YtppbaladeefnkaaGreatDoor

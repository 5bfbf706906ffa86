import Derived.Test.YtppbaladeefnkaaGreatDoorU37
import Derived.Test.YtppbaladeefnkaaGreatDoorU35
set_option maxRecDepth 100000
set_option maxHeartbeats 400000000
namespace Go.Proofs.YtppbaladeefnkaaGreatDoor
open Go.RowKit Go.Shelf Go.Lib Tryz
theorem Mb (k : Int) (nm : Bs) (n : Int) (s : Bs) (names binds : List Bs) (kids : List Ex) (a z : Int) (d : Nat) (ih : ∀ x ∈ kids, Y7 d x) (hN : Fb k nm names binds kids.length) (q0 : k ≠ 0) (q1 : k ≠ 1) (q2 : k ≠ 2) (q3 : k ≠ 3) (q11 : k ≠ 11) (q12 : k ≠ 12) (q13 : k ≠ 13) (q14 : k ≠ 14) : ∀ (S : Nat → Prop) (ce : List Value) (nv vv : Value) (ns : List Bs) (vs : List Val) (w : World), Z5 S w ce (.mk k nm n s names binds kids a z) → Sl Qp S w nv ns → Sl Ql S w vv vs → ns.length ≤ vs.length → vs.length + (d + 1) ≤ 1000 → (∀ v ∈ vs, Z2 v) →
  Calls prog 140 #[.agg ce.toArray, nv, vv] w (Yf S w) := by
 intro S ce nv vv ns vs w hx0 hn0 hv0 hlen hd hb
 have hx : Z5 (fun b => S b ∧ b < w.heap.size) w ce (.mk k nm n s names binds kids a z) := hx0.move (.refl _ _) (fun b hb h => ⟨h, hb⟩)
 have hn := hn0.up
 have hv := hv0.up
 obtain ⟨np, nc, rfl, _⟩ := hn.len
 obtain ⟨vp, vc, rfl, hvl⟩ := hv.len
 have HXX := Qq hx
 obtain ⟨nv', bv, kv, rfl, hnm, hsx, hns, hbi, hk⟩ := Zd.1 hx
 obtain ⟨p1, c1, rfl, _⟩ := hns.len
 obtain ⟨p2, c2, rfl, _⟩ := hbi.len
 obtain ⟨p3, c3, rfl, hkl⟩ := hk.len
 have HN := Qq hn; have HV := Qq hv; have HBo := Qq hb; have HNs := Qq hns; have HBi := Qq hbi; have HK := Qq hk; have HI := Qq ih; have HLen := Qq hlen
 clear hx0 hn0 hv0 hx hn hv hns hbi hk hb ih hlen
 unfold sv at *
 have r0 : (k == 0) = false := by rw [← Bool.not_eq_true, beq_iff_eq]; exact q0
 have r1 : (k == 1) = false := by rw [← Bool.not_eq_true, beq_iff_eq]; exact q1
 have r2 : (k == 2) = false := by rw [← Bool.not_eq_true, beq_iff_eq]; exact q2
 have r3 : (k == 3) = false := by rw [← Bool.not_eq_true, beq_iff_eq]; exact q3
 have r11 : (k == 11) = false := by rw [← Bool.not_eq_true, beq_iff_eq]; exact q11
 have r12 : (k == 12) = false := by rw [← Bool.not_eq_true, beq_iff_eq]; exact q12
 have r13 : (k == 13) = false := by rw [← Bool.not_eq_true, beq_iff_eq]; exact q13
 have r14 : (k == 14) = false := by rw [← Bool.not_eq_true, beq_iff_eq]; exact q14
 clear q0 q1 q2 q3 q11 q12 q13 q14
 obtain ⟨m, hm⟩ := eX (kids.length)
 have hm1 : m ≤ 1000 := by rw [← hm]; exact hN.few
 have HNo := Qq hN
 rw [hm] at HK ⊢
 have HM := Qq hm
 clear hm hN
 obtain ⟨i0, j1, j2, j3, j4⟩ := Ze (P := prog) (t := 44) (z := .agg zV) (n := 5) (b := 80) (by kernel_rfl)
 have HJ := Qq j1; have HJ2 := Qq j2; have HJ3 := Qq j3; have HJ4 := Qq j4
 clear j1 j2 j3 j4
 go_enter func140, ntmps140
 go_upto_region 31 with fail
 generalize hW1 : (w.alloc _).alloc _ = W1
 have hb1 := eqB hW1 (Zv _ _ _)
 have hX1 := eqH (b := w.heap.size) hW1 (Q5 _ _ _)
 have hZ1 := eqH (b := w.heap.size + 1) hW1 (Q6 _ _ _)
 have HB1 := Qq hb1; have HX1 := Qq hX1; have HZ1 := Qq hZ1
 have hlt := Qf hZ1
 clear hW1 hb1 hX1 hZ1
 clear r0 r1 r2 r3 r11 r12 r13 r14
 go_loopw [13, 14, 15, 16] (fun o i _ _ wr => ∃ (j : Nat) (l : List Val) (p : Option Addr) (cap : Nat), j ≤ m ∧ i = .int .i64 j ∧ o = .slice p j cap ∧ l.length = j ∧ Aside (∀ v ∈ l, Z2 v) ∧ Below (w.heap.size + 2) W1 wr ∧
  (∃ css, Own Ql 44 (fun c => (S c ∧ c < w.heap.size) ∨ w.heap.size + 2 ≤ c) (w.heap.size + 2) wr (.slice p j cap) l css)) (fun _ i _ _ _ => m - (intOf i).toNat)
 case atStart => exact ⟨0, [], none, 0, Q8 _, rfl, rfl, rfl, fun v h => by simp at h, Qz _ _, [], Own.nil _ _ _ _ _⟩
 obtain ⟨j, l, p, cap, hj, rfl, rfl, hll, hbl, hBr, css, hO⟩ := hrel
 have hXr := kE hBr (by omega) HX1.out
 have hZr := kE hBr (by omega) HZ1.out
 have hbw : Below w.heap.size w wr := HB1.out.trans (hBr.mono (by omega))
 have hsr := hBr.size
 have HXr := Qq hXr; have HZr := Qq hZr; have HBr := Qq hBr; have HBw := Qq hbw; have HO := Qq hO; have HBl := Qq hbl.out; have HLL := Qq hll
 clear hXr hZr hBr hbw hO hbl hll
 by_cases hlt2 : j < m
 ·have hi1 : (0 : Int) ≤ (j : Int) := by omega
  have hi2 : (j : Int) < (m : Int) := by omega
  obtain ⟨x0, hx0⟩ : ∃ x, kids[j]? = some x := ⟨_, Qx (by rw [HM.out]; exact hlt2)⟩
  obtain ⟨kb0, ko0, ek0, es0, en0, et0, e10, f10, g10, e20, f20, g20, e30, f30, g30, ea0, ez0, hp30, hkb0, hvx0, d00, d10, d20, d30, d40, d50, d60, d70, d80⟩ := HK.out.ex hx0
  subst hp30
  have HE0 := Qq (fun W (hW : Below w.heap.size w W) => HI.out x0 (Qy hx0) (fun b => S b ∧ b < w.heap.size) _ _ _ ns vs W (hvx0.move (.of_below hW) (fun _ _ h => h)) (HN.out.below hW) (HV.out.below hW) HLen.out (by omega) HBo.out)
  have HXx0 := Qq hvx0; have HM0 := Qq (Qy hx0)
  have DD0 := Qq (Qe hkb0 (Qe d00 (Qe d10 (Qe d20 (Qe d30 (Qe d40 (Qe d50 (Qe d60 (Qe d70 d80)))))))))
  clear hvx0 hx0 hkb0 d00 d10 d20 d30 d40 d50 d60 d70 d80
  obtain ⟨qb, q0, q1, q2, q3, q4, q5, q6, q7, q8⟩ := DD0.out
  have d00 := kD HBw.out qb q0; have d10 := kD HBw.out qb q1; have d20 := kD HBw.out qb q2; have d30 := kD HBw.out qb q3; have d40 := kD HBw.out qb q4; have d50 := kD HBw.out qb q5; have d60 := kD HBw.out qb q6; have d70 := kD HBw.out qb q7; have d80 := kD HBw.out qb q8
  clear qb q0 q1 q2 q3 q4 q5 q6 q7 q8
  have c6 := rA6 HXr.out
  go_upto_region 34 with (go_at_call 140; refine (HE0.out _ HBw.out).mono ?_; rintro e w5 ⟨k5, n5, s5, q35, m35, l35, q45, m45, l45, b5, rfl, hv5, hb5⟩; have HV5 := Qq hv5; have HB5 := Qq hb5; clear hv5 hb5)
  clear c6 d00 d10 d20 d30 d40 d50 d60 d70 d80
  generalize hW6 : w5.alloc _ = W6
  have hb6 := eqB hW6 (Qo _ _)
  have hV6 := eqH (b := w5.heap.size) hW6 (Qw _ _)
  have HB6 := Qq (HB5.out.thn hb6); have HVB6 := Qq hV6; have HVX6 := Qq hb6
  clear hW6 hb6 hV6
  have hsz6 := HB6.out.size
  have hbw6 := HBw.out.thn HB6.out
  have HBw6 := Qq hbw6
  clear hbw6
  cases b5 with
  | false =>
   obtain ⟨v0, v1, v2, v3, v4⟩ := row5 HVB6.out
   have hZW6 := kB HB6.out HZr.out
   obtain ⟨y0, y1, y2, y3, y4⟩ := row5 hZW6
   obtain ⟨f0, f1, f2, f3, f4⟩ := frz5 hZW6
   have HZW6 := Qq hZW6
   clear hZW6
   go_wp2_with fail
   show bodyPost _ _ _ _ _ (Zz W6 (w.heap.size + 1) (.int .i64 k5) (.int .i64 n5) (.string s5) (.slice q35 m35 l35) (.slice q45 m45 l45))
   refine Q7 (v := .tuple #[.agg #[.int .i64 k5, .int .i64 n5, .string s5, .slice q35 m35 l35, .slice q45 m45 l45], .bool false]) (by simp [results, results140, go_sem, Qm HZW6.out]) rfl (Yb (by omega) HBw6.out)
  | true =>
   obtain ⟨u, hvx, hvb⟩ := HV5.out rfl
   have hO5 := HO.out.below HB6.out
   have hV6 : Ql.R (But (fun c => (S c ∧ c < w.heap.size) ∨ w.heap.size + 2 ≤ c) (.slice p j cap)) W6 [.int .i64 k5, .int .i64 n5, .string s5, .slice q35 m35 l35, .slice q45 m45 l45] u := Qh.move hvx (.of_below HVX6.out) (fun b hb hc => by
    rcases hc with h | h
    ·exact ⟨.inl h, fun e => by have := (HO.out.row.lt b e.symm).1; have := h.2; omega⟩
    have h' : wr.heap.size ≤ b := h
    exact ⟨.inr (by omega), fun e => by have := (HO.out.row.lt b e.symm).2; omega⟩)
   have HO5 := Qq hO5; have HV6 := Qq hV6; have HVb := Qq hvb
   clear hO5 hV6 hvx hvb
   obtain ⟨v0, v1, v2, v3, v4⟩ := row5 HVB6.out
   go_wp2_with (at_builtin; refine Zm (r := Ql) (by decide) rfl (.tmp 160) (.tmp 162) _ rfl 44 i0 (.agg zV) 80 underlying40 HJ.out HJ2.out HJ3.out HJ4.out rfl (by omega) (fun c => (S c ∧ c < w.heap.size) ∨ w.heap.size + 2 ≤ c) (w.heap.size + 2) W6 (.slice p j cap) l css [.int .i64 k5, .int .i64 n5, .string s5, .slice q35 m35 l35, .slice q45 m45 l45] u rfl HO5.out rfl HV6.out (by simp [Value.oneCell']) j HLL.out (by omega) (by omega) ?_; intro p7 cap7 css7 w7 hO7 hL7; have HO7 := Qq hO7; have HL7 := Qq hL7; clear hO7 hL7)
   go_roundw
   case measure => simp [intOf]; omega
   case rel =>
    refine ⟨j + 1, l ++ [u], p7, cap7, by omega, by go_num, rfl, by have := HLL.out; simp [this], (show Aside _ from ?_), (HBr.out.trans (HB6.out.mono (by omega))).trans HL7.out.below, css7, HO7.out⟩
    intro v hv
    rcases List.mem_append.1 hv with h | h
    ·exact HBl.out v h
    simp only [List.mem_cons, List.not_mem_nil, or_false] at h
    subst h; exact HVb.out
 have hjm : j = m := by omega
 subst hjm
 have hE := Qq (Ny k nm n s names binds kids a z (fun c => (S c ∧ c < w.heap.size) ∨ w.heap.size + 2 ≤ c) [.int .i64 k, .string ⟨nm.toArray⟩, .int .i64 n, .string ⟨s.toArray⟩, .slice p1 names.length c1, .slice p2 binds.length c2, .slice p3 j c3, .int .i64 a, .int .i64 z] (.slice p j cap) l wr HNo.out (by
  have h := HXX.out.move (S' := (fun c => (S c ∧ c < w.heap.size) ∨ w.heap.size + 2 ≤ c)) (.of_below HBw.out) (fun _ _ h => .inl h)
  rw [HM.out] at h
  exact h) (by rw [HLL.out, HM.out]) (HLL.out ▸ HO.out.sl (by have := HLL.out; omega) (fun b hb => .inr hb) (fun b _ h => h)) HBl.out)
 obtain ⟨c0, c1, c2, c3, c4, c5, c6, c7, c8⟩ := row9 HXr.out
 go_wp2_with (go_at_call 182; refine hE.out.mono ?_; rintro e w7 ⟨k7, n7, s7, q37, m37, l37, q47, m47, l47, b7, rfl, hv7, hb7⟩; have hZ7 := kB hb7 HZr.out; have f0 := fA 0 hZ7; have y0 := Qk _ _ 0 _ _ _ hZ7; have f1 := fA 1 hZ7; have y1 := Qk _ _ 1 _ _ _ hZ7; have f2 := fA 2 hZ7; have y2 := Qk _ _ 2 _ _ _ hZ7; have f3 := fA 3 hZ7; have y3 := Qk _ _ 3 _ _ _ hZ7; have f4 := fA 4 hZ7; have y4 := Qk _ _ 4 _ _ _ hZ7; simp only [List.getElem?_toArray, List.getElem?_cons_zero, List.getElem?_cons_succ] at y0 y1 y2 y3 y4; have HZ7 := Qq hZ7; have HV7 := Qq hv7; have HB7 := Qq hb7; clear hv7 hb7 hZ7)
 show bodyPost _ _ _ _ _ (Zz w7 (w.heap.size + 1) (.int .i64 k7) (.int .i64 n7) (.string s7) (.slice q37 m37 l37) (.slice q47 m47 l47))
 refine Q7 (v := .tuple #[.agg #[.int .i64 k7, .int .i64 n7, .string s7, .slice q37 m37 l37, .slice q47 m47 l47], .bool b7]) (by simp [results, results140, go_sem, Qm HZ7.out]) rfl (Ue (by omega) (HBw.out.thn HB7.out) (fun hb => by
   obtain ⟨v, h1, h2⟩ := HV7.out hb
   refine ⟨v, h1.move (.refl _ _) (fun c _ hc => ?_), h2⟩
   rcases hc with (hc | hc) | hc
   ·exact .inl hc
   ·exact .inr (by omega)
   exact .inr (by have h' : wr.heap.size ≤ c := hc; omega)))
theorem O5 (a b c d e f g h i j k l : Value) (w : World) : (Instr.field 94 (.agg #[a, b, c, d, e, f, g, h, i, j, k, l]) 0).run prog w = .ok a w := by
 simp [Instr.field, go_sem, part, asAgg]
theorem pair_bd {a b : Int} (h : -1000 ≤ a ∧ a ≤ 1000) : ∀ p ∈ [((1 : Int), (3 : Int)), (a, b)], -1000 ≤ p.1 ∧ p.1 ≤ 1000 := by
 intro p hp
 simp at hp
 rcases hp with rfl | rfl
 ·decide
 exact h
def LvSt (w : World) (l : List (Int × Int)) (e : Ending) (w' : World) : Prop := ∃ p cap, e = .returned (.slice p 2 cap) ∧ Sl Z8 (fun _ => True) w' (.slice p 2 cap) (Law.st l) ∧ Below w.heap.size w w'
def CodeIs (w : World) (q : Int) (e : Ending) (w' : World) : Prop := ∃ a1 a2 a3 a4 a5 a6 a7 a8 a9 a10 a11 : Value, e = .returned (.agg #[.int .i64 q, a1, a2, a3, a4, a5, a6, a7, a8, a9, a10, a11]) ∧ Below w.heap.size w w'
theorem Dn (S0 S1 : Nat → Prop) (cs : List Value) (lv : Value) (l : List (Int × Int)) (q : Int) (w : World) (hs : Yl S0 w cs Law.sc) (hl : Sl Z8 S1 w lv (Law.st l)) (hkw : Xd w) (hll : l.length ≤ 1000) (hb : ∀ p ∈ l, -1000 ≤ p.1 ∧ p.1 ≤ 1000)
  (hi : J3 (l.map fun p => Law.rT p.1 p.2) = true) (hq : ∀ f, Vp Law.sc.tables.length (Law.cf l) (fun i => ((Law.sc.tables[i]?).getD Tbl.zero).name) f → f.code = q) :
  Calls prog 51 #[.agg cs.toArray, lv] w (CodeIs w q) := by
 refine (checkOk S0 S1 Law.sc cs lv (Law.st l) _ _ _ w hs hl hkw (by decide) (Law.st_ok l hll hb)).mono ?_
 rintro e w' ⟨f, h1, _, cs', rfl, hf, hbw⟩
 obtain ⟨p3, k3, p4, k4, q3, l3, q4, l4, rfl, _⟩ := Vo hf
 have := hq f (h1 (Law.st_norm l hi))
 refine ⟨.string ⟨f.table.toArray⟩, .int .i64 f.row.kind, .int .i64 f.row.n, .string ⟨f.row.s.toArray⟩, .slice p3 f.row.names.length k3, .slice p4 f.row.kids.length k4, .int .i64 f.other.kind, .int .i64 f.other.n, .string ⟨f.other.s.toArray⟩, .slice q3 f.other.names.length l3, .slice q4 f.other.kids.length l4, ?_, hbw⟩
 rw [← this]
 rfl
theorem Oh (w : World) (hkw : Xd w) : Calls prog 18 #[] w fun e w' => e = .returned (.bool true) ∧ Below w.heap.size w w' := by
 have mixed : (prog).follows .mixedOrders = true := by kernel_rfl
 go_enter func18, ntmps18
 go_upto_region 6 with fail
 obtain ⟨W6, hW6⟩ := eX ((World.alloc (World.alloc (World.alloc (World.alloc (World.alloc (World.alloc (World.alloc (World.alloc (World.alloc (World.alloc (World.alloc (World.alloc w (.cells zY 70)) (.cells #[.string ⟨#[107]⟩, .int .i64 0, .string ⟨#[]⟩, .int .i64 0, .slice none 0 0, .slice none 0 0] 78)) (.cells #[.string ⟨#[107]⟩] 9)) (.cells #[.string ⟨#[117]⟩, .slice (some ⟨w.heap.size + 1, 0, none⟩) 1 1, .slice (some ⟨w.heap.size + 1 + 1, 0, none⟩) 1 1, .slice none 0 0, .int .i64 2, .string ⟨#[]⟩, .int .i64 1, .string ⟨#[]⟩, .slice none 0 0, .slice none 0 0, .slice none 0 0, .int .i64 0, .int .i64 0] 37)) (.cells #[.int .i64 3, .string ⟨#[97]⟩, .int .i64 0, .string ⟨#[]⟩, .slice none 0 0, .slice none 0 0, .slice none 0 0, .int .i64 0, .int .i64 0, .int .i64 3, .string ⟨#[98]⟩, .int .i64 0, .string ⟨#[]⟩, .slice none 0 0, .slice none 0 0, .slice none 0 0, .int .i64 0, .int .i64 0] 35)) (.cells #[.int .i64 14, .string ⟨#[60]⟩, .int .i64 0, .string ⟨#[]⟩, .slice none 0 0, .slice none 0 0, .slice (some ⟨w.heap.size + 1 + 1 + 1 + 1, 0, none⟩) 2 2, .int .i64 0, .int .i64 0] 35)) (.cells #[.string ⟨#[97]⟩, .int .i64 0, .string ⟨#[]⟩, .int .i64 0, .slice none 0 0, .slice none 0 0, .string ⟨#[98]⟩, .int .i64 0, .string ⟨#[]⟩, .int .i64 0, .slice none 0 0, .slice none 0 0] 78)) (.cells #[.string ⟨#[97]⟩] 9)) (.cells #[.string ⟨#[98]⟩, .string ⟨#[117]⟩] 80)) (.cells #[.string ⟨#[116]⟩, .slice (some ⟨w.heap.size + 1 + 1 + 1 + 1 + 1 + 1, 0, none⟩) 2 2, .slice (some ⟨w.heap.size + 1 + 1 + 1 + 1 + 1 + 1 + 1, 0, none⟩) 1 1, .slice (some ⟨w.heap.size + 1 + 1 + 1 + 1 + 1 + 1 + 1 + 1, 0, none⟩) 1 1, .int .i64 14, .string ⟨#[60]⟩, .int .i64 0, .string ⟨#[]⟩, .slice none 0 0, .slice none 0 0, .slice (some ⟨w.heap.size + 1 + 1 + 1 + 1, 0, none⟩) 2 2, .int .i64 0, .int .i64 0] 37)) (.cells #[.string ⟨#[116]⟩, .slice (some ⟨w.heap.size + 1 + 1 + 1 + 1 + 1 + 1, 0, none⟩) 2 2, .slice (some ⟨w.heap.size + 1 + 1 + 1 + 1 + 1 + 1 + 1, 0, none⟩) 1 1, .slice (some ⟨w.heap.size + 1 + 1 + 1 + 1 + 1 + 1 + 1 + 1, 0, none⟩) 1 1, .int .i64 14, .string ⟨#[60]⟩, .int .i64 0, .string ⟨#[]⟩, .slice none 0 0, .slice none 0 0, .slice (some ⟨w.heap.size + 1 + 1 + 1 + 1, 0, none⟩) 2 2, .int .i64 0, .int .i64 0, .string ⟨#[117]⟩, .slice (some ⟨w.heap.size + 1, 0, none⟩) 1 1, .slice (some ⟨w.heap.size + 1 + 1, 0, none⟩) 1 1, .slice none 0 0, .int .i64 2, .string ⟨#[]⟩, .int .i64 1, .string ⟨#[]⟩, .slice none 0 0, .slice none 0 0, .slice none 0 0, .int .i64 0, .int .i64 0] 37)) (.cells #[.slice none 0 0, .slice (some ⟨w.heap.size + 1 + 1 + 1 + 1 + 1 + 1 + 1 + 1 + 1 + 1, 0, none⟩) 2 2] 26)))
 have k1 := eqH (b := w.heap.size + 1) hW6 (Qi (Qi (Qi (Qi (Qi (Qi (Qi (Qi (Qi (Qi (Z6 (by simp) _) _) _) _) _) _) _) _) _) _) _)
 have k2 := eqH (b := w.heap.size + 1 + 1) hW6 (Qi (Qi (Qi (Qi (Qi (Qi (Qi (Qi (Qi (Z6 (by simp) _) _) _) _) _) _) _) _) _) _)
 have k4 := eqH (b := w.heap.size + 1 + 1 + 1 + 1) hW6 (Qi (Qi (Qi (Qi (Qi (Qi (Qi (Z6 (by simp) _) _) _) _) _) _) _) _)
 have k6 := eqH (b := w.heap.size + 1 + 1 + 1 + 1 + 1 + 1) hW6 (Qi (Qi (Qi (Qi (Qi (Z6 (by simp) _) _) _) _) _) _)
 have k7 := eqH (b := w.heap.size + 1 + 1 + 1 + 1 + 1 + 1 + 1) hW6 (Qi (Qi (Qi (Qi (Z6 (by simp) _) _) _) _) _)
 have k8 := eqH (b := w.heap.size + 1 + 1 + 1 + 1 + 1 + 1 + 1 + 1) hW6 (Qi (Qi (Qi (Z6 (by simp) _) _) _) _)
 have k10 := eqH (b := w.heap.size + 1 + 1 + 1 + 1 + 1 + 1 + 1 + 1 + 1 + 1) hW6 (Qi (Z6 (by simp) _) _)
 have k11 := eqH (b := w.heap.size + 1 + 1 + 1 + 1 + 1 + 1 + 1 + 1 + 1 + 1 + 1) hW6 (Z6 (by simp) _)
 have hb6 := eqB hW6 (Zq (Zq (Zq (Zq (Zq (Zq (Zq (Zq (Zq (Zq (Zq (Qo w _) _) _) _) _) _) _) _) _) _) _) _)
 rw [hW6]
 have hsc : Yl (fun b => b < W6.heap.size) W6 [.slice none 0 0, .slice (some ⟨w.heap.size + 1 + 1 + 1 + 1 + 1 + 1 + 1 + 1 + 1 + 1, 0, none⟩) 2 2] Law.sc := by
  refine ⟨_, _, rfl, Sl.nil _ _ _, ?_⟩
  refine Z4 (xs := Law.sc.tables) k10 (Qf k10) ((Cs.one (r := Qs) (c := [.string ⟨#[116]⟩, .slice (some ⟨w.heap.size + 1 + 1 + 1 + 1 + 1 + 1, 0, none⟩) 2 2, .slice (some ⟨w.heap.size + 1 + 1 + 1 + 1 + 1 + 1 + 1, 0, none⟩) 1 1, .slice (some ⟨w.heap.size + 1 + 1 + 1 + 1 + 1 + 1 + 1 + 1, 0, none⟩) 1 1, .int .i64 14, .string ⟨#[60]⟩, .int .i64 0, .string ⟨#[]⟩, .slice none 0 0, .slice none 0 0, .slice (some ⟨w.heap.size + 1 + 1 + 1 + 1, 0, none⟩) 2 2, .int .i64 0, .int .i64 0]) (x := Law.tT) ⟨_, _, _, _, rfl, by simp [Law.tT], ?_, ?_, ?_, ?_⟩).app (Cs.one (r := Qs) (c := [.string ⟨#[117]⟩, .slice (some ⟨w.heap.size + 1, 0, none⟩) 1 1, .slice (some ⟨w.heap.size + 1 + 1, 0, none⟩) 1 1, .slice none 0 0, .int .i64 2, .string ⟨#[]⟩, .int .i64 1, .string ⟨#[]⟩, .slice none 0 0, .slice none 0 0, .slice none 0 0, .int .i64 0, .int .i64 0]) (x := Law.uT) ⟨_, _, _, _, rfl, by simp [Law.uT], ?_, ?_, Sl.nil _ _ _, Ek _ _ none none none 0 0 0⟩)) rfl rfl (by simp [Law.sc])
  ·exact Z4 (xs := Law.tT.columns) k6 (Qf k6) ((Cs.one (r := Yy) (X9 [97] 0 [] (by simp) (by simp))).app (Cs.one (r := Yy) (X9 [98] 0 [] (by simp) (by simp)))) rfl rfl (by simp [Law.tT])
  ·exact Z4 (xs := Law.tT.key) k7 (Qf k7) (Uk [97] (by simp)) rfl rfl (by simp [Law.tT])
  ·exact Z4 (xs := Law.tT.refs) k8 (Qf k8) (Cs.one (r := Ut) (x := ⟨[98], [117]⟩) (c := [.string ⟨#[98]⟩, .string ⟨#[117]⟩]) ⟨rfl, by simp, by simp⟩) rfl rfl (by simp [Law.tT])
  ·refine Zt (nm := [60]) (s := []) (by simp) (by simp) (Sl.nil _ _ _) (Sl.nil _ _ _) ?_
   exact Z4 (xs := [Gen.a, Gen.b]) k4 (Qf k4) ((Cs.one (r := Yo) (x := Gen.var [97]) (show Z5 _ W6 [.int .i64 3, .string ⟨#[97]⟩, .int .i64 0, .string ⟨#[]⟩, .slice none 0 0, .slice none 0 0, .slice none 0 0, .int .i64 0, .int .i64 0] (Gen.var [97]) from Zt (nm := [97]) (s := []) (by simp) (by simp) (Sl.nil _ _ _) (Sl.nil _ _ _) (Sl.nil _ _ _))).app (Cs.one (r := Yo) (x := Gen.var [98]) (show Z5 _ W6 [.int .i64 3, .string ⟨#[98]⟩, .int .i64 0, .string ⟨#[]⟩, .slice none 0 0, .slice none 0 0, .slice none 0 0, .int .i64 0, .int .i64 0] (Gen.var [98]) from Zt (nm := [98]) (s := []) (by simp) (by simp) (Sl.nil _ _ _) (Sl.nil _ _ _) (Sl.nil _ _ _)))) rfl rfl (by simp)
  ·exact Z4 (xs := Law.uT.columns) k1 (Qf k1) (Cs.one (r := Yy) (X9 [107] 0 [] (by simp) (by simp))) rfl rfl (by simp [Law.uT])
  exact Z4 (xs := Law.uT.key) k2 (Qf k2) (Uk [107] (by simp)) rfl rfl (by simp [Law.uT])
 obtain ⟨c0, c1⟩ := row2 k11
 have HSc := Qq hsc; have HB6 := Qq hb6; have K11 := Qq k11; have HK6 := Qq (hkw.below hb6)
 have HEm : Hid (Calls prog 29 #[.agg #[.slice none 0 0, .slice (some ⟨w.heap.size + 1 + 1 + 1 + 1 + 1 + 1 + 1 + 1 + 1 + 1, 0, none⟩) 2 2]] W6 (Ew W6 [⟨[116], []⟩, ⟨[117], []⟩])) := Qq ((Rg _ Law.sc _ W6 hsc (by decide) (by decide)).mono (fun e w' ⟨p, cap, he, hst, hb⟩ => ⟨p, cap, he, hst.sl (by decide) (by decide) (fun _ => True) (fun _ _ => trivial) (fun _ _ _ => trivial), hb⟩))
 clear hsc hb6 hW6 hkw k1 k2 k4 k6 k7 k8 k10 k11
 go_wp2_with fail
 refine HEm.out.mono ?_
 rintro e w7 ⟨p7, cap7, rfl, hSl7, hb7⟩
 have HSl7 := Qq hSl7; have HB7 := Qq hb7
 clear hSl7 hb7 HEm
 go_wp2_with fail
 obtain ⟨W8, hW8⟩ := eX ((w7.alloc (.cells #[.string ⟨#[107]⟩] 9)).alloc (.cells #[.int .i64 0, .int .i64 3, .string ⟨#[]⟩, .slice none 0 0, .slice none 0 0] 44))
 rw [hW8]
 have hb8 := eqB hW8 (Zv _ _ _)
 have hx8 : Qh (fun _ => True) W8 [.int .i64 4, .int .i64 0, .string ⟨#[]⟩, .slice (some ⟨w7.heap.size, 0, none⟩) 1 1, .slice (some ⟨w7.heap.size + 1, 0, none⟩) 1 1] (Law.rU 3) := by
  refine Zn (s := []) (by simp) ?_ ?_
  ·exact Z4 (xs := [[107]]) (show W8.heap[w7.heap.size]? = some _ by rw [← hW8]; exact Q5 _ _ _) trivial (Uk [107] (by simp)) rfl rfl (by simp)
  exact Z4 (xs := [Ys 3]) (show W8.heap[w7.heap.size + 1]? = some _ by rw [← hW8]; exact Q6 _ _ _) trivial (Cs.one (r := Ql) (Vg _ W8 3)) rfl rfl (by simp)
 have HB8 := Qq (HB7.out.thn hb8)
 have HI8 : Hid (Calls prog 22 #[.slice p7 2 cap7, .string ⟨#[117]⟩, .agg #[.int .i64 4, .int .i64 0, .string ⟨#[]⟩, .slice (some ⟨w7.heap.size, 0, none⟩) 1 1, .slice (some ⟨w7.heap.size + 1, 0, none⟩) 1 1]] W8 (Ew W8 [⟨[116], []⟩, ⟨[117], [Law.rU 3]⟩])) :=
  Qq (Je _ _ _ [⟨[116], []⟩, ⟨[117], []⟩] [117] (Law.rU 3) _ W8 1 ⟨[117], []⟩ (HSl7.out.below hb8) hx8 (by decide) rfl (by simp) (by simp) (by simp))
 clear hb8 hx8 hW8
 refine HI8.out.mono ?_
 rintro e w9 ⟨p9, cap9, rfl, hSl9, hb9⟩
 have HSl9 := Qq hSl9; have HB9 := Qq (HB8.out.thn hb9)
 have HR9 : Hid (Calls prog 50 #[.string ⟨#[97]⟩, .int .i64 1, .string ⟨#[98]⟩, .int .i64 3] w9 (Gx w9 (Law.rT 1 3))) := Qq (Kq [97] [98] 1 3 w9 (by simp) (by simp))
 clear hSl9 hb9 HI8
 go_wp2_with fail
 refine HR9.out.mono ?_
 rintro e w10 ⟨cx, rfl, hx10, hb10⟩
 obtain ⟨x3, m3, x4, m4, hcs, _⟩ := Qh.cells hx10
 simp only [vcs] at hcs
 subst hcs
 have HB10 := Qq (HB9.out.thn hb10)
 have HI10 : Hid (Calls prog 22 #[.slice p9 2 cap9, .string ⟨#[116]⟩, .agg #[.int .i64 4, .int .i64 0, .string ⟨#[]⟩, .slice x3 2 m3, .slice x4 2 m4]] w10 (LvSt w10 [(1, 3)])) :=
  Qq (Je _ _ _ [⟨[116], []⟩, ⟨[117], [Law.rU 3]⟩] [116] (Law.rT 1 3) _ w10 0 ⟨[116], []⟩ (HSl9.out.below hb10) hx10 (by decide) rfl (by simp) (by simp) (by simp))
 clear hx10 hb10 HR9
 go_wp2_with fail
 refine HI10.out.mono ?_
 rintro e w11 ⟨p11, cap11, rfl, hSl11, hb11⟩
 have HSl11 := Qq hSl11; have HB11 := Qq (HB10.out.thn hb11)
 clear hSl11 hb11 HI10
 have HR0 : Hid (Calls prog 50 #[.string ⟨#[97]⟩, .int .i64 1, .string ⟨#[98]⟩, .int .i64 4] w11 (Gx w11 (Law.rT 1 4))) := Qq (Kq [97] [98] 1 4 w11 (by simp) (by simp))
 go_wp2_with fail
 refine HR0.out.mono ?_
 rintro e w12 ⟨cx, rfl, hx, hbx⟩
 obtain ⟨y0, m0, z0, n0, hcs, _⟩ := Qh.cells hx
 obtain rfl : cx = [.int .i64 4, .int .i64 0, .string ⟨#[]⟩, .slice y0 2 m0, .slice z0 2 n0] := hcs
 have HX0 := Qq hx; have HB12 := Qq (HB11.out.thn hbx); have HS12 := Qq hbx
 clear hx hbx HR0
 have HR1 : Hid (Calls prog 50 #[.string ⟨#[97]⟩, .int .i64 2, .string ⟨#[98]⟩, .int .i64 4] w12 (Gx w12 (Law.rT 2 4))) := Qq (Kq [97] [98] 2 4 w12 (by simp) (by simp))
 go_wp2_with fail
 refine HR1.out.mono ?_
 rintro e w13 ⟨cx, rfl, hx, hbx⟩
 obtain ⟨y1, m1, z1, n1, hcs, _⟩ := Qh.cells hx
 obtain rfl : cx = [.int .i64 4, .int .i64 0, .string ⟨#[]⟩, .slice y1 2 m1, .slice z1 2 n1] := hcs
 have HX1 := Qq hx; have HB13 := Qq (HB12.out.thn hbx); have HS13 := Qq hbx
 clear hx hbx HR1
 have HR2 : Hid (Calls prog 50 #[.string ⟨#[97]⟩, .int .i64 5, .string ⟨#[98]⟩, .int .i64 3] w13 (Gx w13 (Law.rT 5 3))) := Qq (Kq [97] [98] 5 3 w13 (by simp) (by simp))
 go_wp2_with fail
 refine HR2.out.mono ?_
 rintro e w14 ⟨cx, rfl, hx, hbx⟩
 obtain ⟨y2, m2, z2, n2, hcs, _⟩ := Qh.cells hx
 obtain rfl : cx = [.int .i64 4, .int .i64 0, .string ⟨#[]⟩, .slice y2 2 m2, .slice z2 2 n2] := hcs
 have HX2 := Qq hx; have HB14 := Qq (HB13.out.thn hbx); have HS14 := Qq hbx
 clear hx hbx HR2
 go_upto_region 10 with fail
 obtain ⟨W15, hW15⟩ := eX ((w14.alloc (.cells #[.int .i64 4, .int .i64 0, .string ⟨#[]⟩, .slice y0 2 m0, .slice z0 2 n0, .int .i64 4, .int .i64 0, .string ⟨#[]⟩, .slice y1 2 m1, .slice z1 2 n1, .int .i64 4, .int .i64 0, .string ⟨#[]⟩, .slice y2 2 m2, .slice z2 2 n2] 44)).alloc (.cells #[.int .i64 11, .int .i64 12, .int .i64 13] 58))
 have hb15 := eqB hW15 (Zv _ _ _)
 have hm15 := eqH (b := w14.heap.size) hW15 (Q5 _ _ _)
 have hn15 := eqH (b := w14.heap.size + 1) hW15 (Q6 _ _ _)
 have HB15 := Qq (HB14.out.thn hb15)
 have d0 := (HB15.out.cell (p := ⟨w.heap.size + 1 + 1 + 1 + 1 + 1 + 1 + 1 + 1 + 1 + 1 + 1, 0, none⟩) (Qf K11.out)).trans c0
 have d1 := (HB15.out.cell (p := ⟨w.heap.size + 1 + 1 + 1 + 1 + 1 + 1 + 1 + 1 + 1 + 1 + 1, 1, none⟩) (Qf K11.out)).trans c1
 have hb11 := ((HS12.out.thn HS13.out).thn HS14.out).thn hb15
 have HCk := Qq (Dn _ _ [.slice none 0 0, .slice (some ⟨w.heap.size + 1 + 1 + 1 + 1 + 1 + 1 + 1 + 1 + 1 + 1, 0, none⟩) 2 2] (.slice p11 2 cap11) [(1, 3)] 0 W15 (HSc.out.below HB15.out) (HSl11.out.below hb11) (HK6.out.below HB15.out) (by decide) (by decide) (Law.inc1 1 3) (fun f h => Law.code0 h))
 have HM15 := Qq hm15; have HN15 := Qq hn15; have HB11' := Qq hb11
 have HXa := Qq (Qh.move (S' := fun _ => True) HX0.out (.of_below ((HS13.out.thn HS14.out).thn hb15)) (fun _ _ _ => trivial)); have HXb := Qq (Qh.move (S' := fun _ => True) HX1.out (.of_below (HS14.out.thn hb15)) (fun _ _ _ => trivial)); have HXc := Qq (Qh.move (S' := fun _ => True) HX2.out (.of_below hb15) (fun _ _ _ => trivial))
 rw [hW15]
 clear hb15 hm15 hn15 hb11 hW15 c0 c1
 go_wp2_with fail
 refine HCk.out.mono ?_
 rintro e w16 ⟨a1, a2, a3, a4, a5, a6, a7, a8, a9, a10, a11, rfl, hb16⟩
 have hfd := fun W => O5 (.int .i64 0) a1 a2 a3 a4 a5 a6 a7 a8 a9 a10 a11 W
 have HB16 := Qq hb16
 clear hb16 HCk
 go_wp2_with fail
 go_loopw [9] (fun i wr => ∃ k : Nat, k ≤ 3 ∧ i = .int .i64 k ∧ Below W15.heap.size W15 wr) (fun i _ => 3 - (intOf i).toNat)
 case atStart => exact ⟨0, Q8 _, rfl, HB16.out⟩
 obtain ⟨k, hk3, rfl, hBr⟩ := hrel
 have HBr := Qq hBr
 clear hBr
 by_cases hlt : k < 3
 ·have hcase : ∃ (a b q : Int) (yy : Option Addr) (mm : Nat) (zz9 : Option Addr) (nn : Nat), (∀ (j : Nat) (u : Value), [.int .i64 4, .int .i64 0, .string ⟨#[]⟩, .slice yy 2 mm, .slice zz9 2 nn][j]? = some u → (#[.int .i64 4, .int .i64 0, .string ⟨#[]⟩, .slice y0 2 m0, .slice z0 2 n0, .int .i64 4, .int .i64 0, .string ⟨#[]⟩, .slice y1 2 m1, .slice z1 2 n1, .int .i64 4, .int .i64 0, .string ⟨#[]⟩, .slice y2 2 m2, .slice z2 2 n2] : Array Value)[k * 5 + j]? = some u) ∧ (#[.int .i64 11, .int .i64 12, .int .i64 13] : Array Value)[k]? = some (.int .i64 q) ∧
    Qh (fun _ => True) W15 [.int .i64 4, .int .i64 0, .string ⟨#[]⟩, .slice yy 2 mm, .slice zz9 2 nn] (Law.rT a b) ∧ eqv (Law.rT 1 3) (Law.rT a b) = false ∧ decide (0 < Z1 (Law.rT 1 3) (Law.rT a b)) = false ∧ (-1000 ≤ a ∧ a ≤ 1000) ∧ J3 ([(1, 3), (a, b)].map fun p => Law.rT p.1 p.2) = true ∧
    ∀ f, Vp Law.sc.tables.length (Law.cf [(1, 3), (a, b)]) (fun i => ((Law.sc.tables[i]?).getD Tbl.zero).name) f → f.code = q := by
   match k, hlt with
  | 0, _ => exact ⟨1, 4, 11, y0, m0, z0, n0, fun j u hu => (by
    match j, hu with
    | 0, hu => exact hu
    | 1, hu => exact hu
    | 2, hu => exact hu
    | 3, hu => exact hu
    | 4, hu => exact hu), rfl, HXa.out, by decide, by decide, by decide, (Law.inc2 1 3 1 4 (by decide)), fun f h => Law.code1 h⟩
  | 1, _ => exact ⟨2, 4, 12, y1, m1, z1, n1, fun j u hu => (by
    match j, hu with
    | 0, hu => exact hu
    | 1, hu => exact hu
    | 2, hu => exact hu
    | 3, hu => exact hu
    | 4, hu => exact hu), rfl, HXb.out, by decide, by decide, by decide, (Law.inc2 1 3 2 4 (by decide)), fun f h => Law.code2 h⟩
  | 2, _ => exact ⟨5, 3, 13, y2, m2, z2, n2, fun j u hu => (by
    match j, hu with
    | 0, hu => exact hu
    | 1, hu => exact hu
    | 2, hu => exact hu
    | 3, hu => exact hu
    | 4, hu => exact hu), rfl, HXc.out, by decide, by decide, by decide, (Law.inc2 1 3 5 3 (by decide)), fun f h => Law.code3 h⟩
  obtain ⟨a, b, q, yy, mm, zz9, nn, hcx, hcq, hxv, hne, hgr, hab, hin, hcode⟩ := hcase
  have hi1 : (0 : Int) ≤ (k : Int) := by omega
  have hi2 : (k : Int) < 3 := by omega
  have hq : (q != q) = false := by simp
  have hM := kB HBr.out HM15.out
  have hN := kB HBr.out HN15.out
  have hS6 := HB15.out.thn HBr.out
  have hKr := kB hS6 K11.out
  refine let_mvar% ?Lq1 := fun w' : World => w'.cell? ⟨w.heap.size + 1 + 1 + 1 + 1 + 1 + 1 + 1 + 1 + 1 + 1 + 1, 0, none⟩ = some (.slice none 0 0) ∧ w'.cell? ⟨w.heap.size + 1 + 1 + 1 + 1 + 1 + 1 + 1 + 1 + 1 + 1 + 1, 1, none⟩ = some (.slice (some ⟨w.heap.size + 1 + 1 + 1 + 1 + 1 + 1 + 1 + 1 + 1 + 1, 0, none⟩) 2 2) ∧ w'.cell? ⟨w14.heap.size, k * 5, none⟩ = some (.int .i64 4) ∧ w'.cell? ⟨w14.heap.size, k * 5 + 1, none⟩ = some (.int .i64 0) ∧ w'.cell? ⟨w14.heap.size, k * 5 + 2, none⟩ = some (.string ⟨#[]⟩) ∧ w'.cell? ⟨w14.heap.size, k * 5 + 3, none⟩ = some (.slice yy 2 mm) ∧ w'.cell? ⟨w14.heap.size, k * 5 + 4, none⟩ = some (.slice zz9 2 nn) ∧ w'.cell? ⟨w14.heap.size + 1, k, none⟩ = some (.int .i64 q) ∧ Below wr.heap.size wr w'; ?_
  have HS : ∀ w', Below wr.heap.size wr w' → ?Lq1 w' := by
   intro w' h
   have hm := kB h hM
   have hn := kB h hN
   have hk := kB h hKr
   have e : ∀ (j : Nat) (u : Value), [.int .i64 4, .int .i64 0, .string ⟨#[]⟩, .slice yy 2 mm, .slice zz9 2 nn][j]? = some u → w'.cell? ⟨w14.heap.size, k * 5 + j, none⟩ = some u := fun j u hu => by rw [Qk _ _ _ _ _ _ hm]; exact hcx j u hu
   exact ⟨by rw [Qk _ _ _ _ _ _ hk]; rfl, by rw [Qk _ _ _ _ _ _ hk]; rfl, e 0 _ rfl, e 1 _ rfl, e 2 _ rfl, e 3 _ rfl, e 4 _ rfl, by rw [Qk _ _ _ _ _ _ hn]; exact hcq, h⟩
  have HB9 : ∀ w', ?Lq1 w' → Below wr.heap.size wr w' := fun w' h => h.2.2.2.2.2.2.2.2
  have HX9 : ∀ w' w'', ?Lq1 w' → Below w'.heap.size w' w'' → ?Lq1 w'' := fun w' w'' h h2 => HS w'' ((HB9 w' h).thn h2)
  have HIk := Qq (fun W' (h' : ?Lq1 W') => (show Calls prog 22 #[.slice p11 2 cap11, .string ⟨#[116]⟩, .agg #[.int .i64 4, .int .i64 0, .string ⟨#[]⟩, .slice yy 2 mm, .slice zz9 2 nn]] W' (LvSt W' [(1, 3), (a, b)]) from Je _ _ _ (Law.st [(1, 3)]) [116] (Law.rT a b) _ W' 0 ⟨[116], [Law.rT 1 3]⟩ (HSl11.out.below (HB11'.out.thn (HBr.out.thn (HB9 W' h')))) (Qh.move hxv (.of_below (HBr.out.thn (HB9 W' h'))) (fun _ _ h => h)) (by decide) rfl
   (by intro y hy; simp at hy; subst hy; exact hne) (by intro y hy; simp at hy; subst hy; exact hgr) (by intro r hr; simp [Law.st] at hr; rcases hr with rfl | rfl <;> simp)).mono (R' := fun e w2 => ∃ p cap, e = .returned (.slice p 2 cap) ∧ Sl Z8 (fun _ => True) w2 (.slice p 2 cap) (Law.st [(1, 3), (a, b)]) ∧ ?Lq1 w2) (by
   rintro e w2 ⟨p, cap, rfl, h3, h4⟩
   exact ⟨p, cap, rfl, h3, HX9 _ _ h' h4⟩))
  have HC2 := Qq (fun W' v (h' : ?Lq1 W') (hsl : Sl Z8 (fun _ => True) W' v (Law.st [(1, 3), (a, b)])) => (Dn _ _ [.slice none 0 0, .slice (some ⟨w.heap.size + 1 + 1 + 1 + 1 + 1 + 1 + 1 + 1 + 1 + 1, 0, none⟩) 2 2] v [(1, 3), (a, b)] q W' (HSc.out.below (HB15.out.thn (HBr.out.thn (HB9 W' h')))) hsl (HK6.out.below (HB15.out.thn (HBr.out.thn (HB9 W' h')))) (by simp) (pair_bd hab) hin hcode).mono (R' := fun e w2 => (∃ a1 a2 a3 a4 a5 a6 a7 a8 a9 a10 a11 : Value, e = .returned (.agg #[.int .i64 q, a1, a2, a3, a4, a5, a6, a7, a8, a9, a10, a11])) ∧ ?Lq1 w2) (by
   rintro e w2 ⟨a1, a2, a3, a4, a5, a6, a7, a8, a9, a10, a11, rfl, h4⟩
   exact ⟨⟨a1, a2, a3, a4, a5, a6, a7, a8, a9, a10, a11, rfl⟩, HX9 _ _ h' h4⟩))
  have HHS := Qq (HS wr.drew (Qz _ _).drew); have HB9' := Qq HB9
  clear HS HB9 HX9 hcx hcq hxv hne hgr hab hin hcode hM hN hS6 hKr hfd d0 d1
  go_wp2_with fail
  go_region_held3 ?Lq1 (first | with_reducible exact HHS.out | with_reducible exact hS18 | with_reducible exact hS17)
   (first
    | (go_at_call 22; refine (HIk.out _ (by assumption)).mono ?_; rintro e w17 ⟨p17, cap17, rfl, hs17, hS17⟩)
    | (go_at_call 51; refine (HC2.out _ _ (by assumption) hs17).mono ?_; rintro e w18 ⟨⟨a1, a2, a3, a4, a5, a6, a7, a8, a9, a10, a11, rfl⟩, hS18⟩; have hfd := fun W => O5 (.int .i64 q) a1 a2 a3 a4 a5 a6 a7 a8 a9 a10 a11 W))
  have HB18 := Qq (HB9'.out _ hS18)
  clear hS18 hS17 hs17
  go_wp2_with fail
  go_roundw
  case measure => simp [intOf]; omega
  case rel => exact ⟨k + 1, by omega, by go_num, HBr.out.thn HB18.out⟩
 obtain rfl : k = 3 := by omega
 go_wp2_with fail
 go_ret
 exact ⟨rfl, HB6.out.thn (HB15.out.thn HBr.out)⟩
end Go.Proofs.YtppbaladeefnkaaGreatDoor

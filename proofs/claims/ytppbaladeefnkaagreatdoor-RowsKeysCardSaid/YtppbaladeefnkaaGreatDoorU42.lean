import Derived.Test.YtppbaladeefnkaaGreatDoorU38
import Derived.Test.YtppbaladeefnkaaGreatDoorU39
import Derived.Test.YtppbaladeefnkaaGreatDoorU41
set_option maxRecDepth 100000
set_option maxHeartbeats 400000000
namespace Go.Proofs.YtppbaladeefnkaaGreatDoor
open Go.RowKit Go.Shelf Go.Lib Tryz
theorem Lz {S : Nat → Prop} {w : World} {cs : List Value} {v : Val} (h : Qh S w cs v) : v.s.length ≤ 1000000 := by
 obtain ⟨_, _, _, _, _, _, _, h4⟩ := Qh.cells h
 exact h4
theorem Pc (nm : Bs) (hnm : nm = [43, 43]) (n : Int) (s : Bs) (names binds : List Bs) (kids : List Ex) (a z : Int) (d : Nat) (h2 : kids.length = 2) (ih : ∀ x ∈ kids, Y7 d x)  : ∀ (S : Nat → Prop) (ce : List Value) (nv vv : Value) (ns : List Bs) (vs : List Val) (w : World), Z5 S w ce (.mk 14 nm n s names binds kids a z) → Sl Qp S w nv ns → Sl Ql S w vv vs → ns.length ≤ vs.length → vs.length + (d + 1) ≤ 1000 → (∀ v ∈ vs, Z2 v) →
  Calls prog 181 #[.agg ce.toArray, nv, vv] w (Yf S w) := by
 subst hnm
 intro S ce nv vv ns vs w hx0 hn0 hv0 hlen hd hb
 have hx : Z5 (fun b => S b ∧ b < w.heap.size) w ce (.mk 14 [43, 43] n s names binds kids a z) := hx0.move (.refl _ _) (fun b hb h => ⟨h, hb⟩)
 have hn := hn0.up
 have hv := hv0.up
 obtain ⟨np, nc, rfl, _⟩ := hn.len
 obtain ⟨vp, vc, rfl, hvl⟩ := hv.len
 have HXX := Qq hx
 obtain ⟨nv', bv, kv, rfl, hnm, hsx, hns, hbi, hk⟩ := Zd.1 hx
 obtain ⟨p1, c1, rfl, _⟩ := hns.len
 obtain ⟨p2, c2, rfl, _⟩ := hbi.len
 obtain ⟨p3, c3, rfl, hkl⟩ := hk.len
 have HN := Qq hn; have HV := Qq hv; have HBo := Qq hb; have HNs := Qq hns; have HBi := Qq hbi; have HK := Qq hk; have HI := Qq ih; have HLen := Qq hlen
 clear hx0 hn0 hv0 hx hn hv hns hbi hk hb ih hlen
 unfold sv at *
 rw [h2] at HK ⊢
 obtain ⟨x0, hx0⟩ : ∃ x, kids[0]? = some x := ⟨_, Qx (by omega)⟩
 obtain ⟨kb0, ko0, ek0, es0, en0, et0, e10, f10, g10, e20, f20, g20, e30, f30, g30, ea0, ez0, hp30, hkb0, hvx0, d00, d10, d20, d30, d40, d50, d60, d70, d80⟩ := HK.out.ex hx0
 subst hp30
 simp only [Nat.zero_mul, Nat.add_zero] at d00 d10 d20 d30 d40 d50 d60 d70 d80
 have HE0 := Qq (fun W (hW : Below w.heap.size w W) => HI.out x0 (Qy hx0) (fun b => S b ∧ b < w.heap.size) _ _ _ ns vs W (hvx0.move (.of_below hW) (fun _ _ h => h)) (HN.out.below hW) (HV.out.below hW) HLen.out (by omega) HBo.out)
 have HXx0 := Qq hvx0; have HM0 := Qq (Qy hx0)
 have DD0 := Qq (Qe hkb0 (Qe d00 (Qe d10 (Qe d20 (Qe d30 (Qe d40 (Qe d50 (Qe d60 (Qe d70 d80)))))))))
 clear hvx0 hx0 hkb0 d00 d10 d20 d30 d40 d50 d60 d70 d80
 obtain ⟨x1, hx1⟩ : ∃ x, kids[1]? = some x := ⟨_, Qx (by omega)⟩
 obtain ⟨kb1, ko1, ek1, es1, en1, et1, e11, f11, g11, e21, f21, g21, e31, f31, g31, ea1, ez1, hp31, hkb1, hvx1, d01, d11, d21, d31, d41, d51, d61, d71, d81⟩ := HK.out.ex hx1
 simp only [Option.some.injEq, Addr.mk.injEq, and_true] at hp31
 obtain ⟨rfl, rfl⟩ := hp31
 simp only [Nat.one_mul] at d01 d11 d21 d31 d41 d51 d61 d71 d81
 have HE1 := Qq (fun W (hW : Below w.heap.size w W) => HI.out x1 (Qy hx1) (fun b => S b ∧ b < w.heap.size) _ _ _ ns vs W (hvx1.move (.of_below hW) (fun _ _ h => h)) (HN.out.below hW) (HV.out.below hW) HLen.out (by omega) HBo.out)
 have HXx1 := Qq hvx1; have HM1 := Qq (Qy hx1)
 have DD1 := Qq (Qe hkb1 (Qe d01 (Qe d11 (Qe d21 (Qe d31 (Qe d41 (Qe d51 (Qe d61 (Qe d71 d81)))))))))
 clear hvx1 hx1 hkb1 d01 d11 d21 d31 d41 d51 d61 d71 d81
 go_enter func181, ntmps181
 go_upto_region 3 with fail
 generalize hW1 : (w.alloc _).alloc _ = W1
 have hb1 := eqB hW1 (Zv _ _ _)
 have hX1 := eqH (b := w.heap.size) hW1 (Q5 _ _ _)
 have hZ1 := eqH (b := w.heap.size + 1) hW1 (Q6 _ _ _)
 have HB1 := Qq hb1; have HX1 := Qq hX1; have HZ1 := Qq hZ1
 have hlt := Qf hZ1
 clear hW1 hb1 hX1 hZ1
 have hXW1 := ((Qq (Qz W1.heap.size W1)).out.block _ (Qf HX1.out)).trans HX1.out
 have c6 := rA6 hXW1
 clear hXW1
 obtain ⟨qb, q0, q1, q2, q3, q4, q5, q6, q7, q8⟩ := DD0.out
 have d00 := kD HB1.out qb q0; have d10 := kD HB1.out qb q1; have d20 := kD HB1.out qb q2; have d30 := kD HB1.out qb q3; have d40 := kD HB1.out qb q4; have d50 := kD HB1.out qb q5; have d60 := kD HB1.out qb q6; have d70 := kD HB1.out qb q7; have d80 := kD HB1.out qb q8
 clear qb q0 q1 q2 q3 q4 q5 q6 q7 q8
 go_upto_region 4 with (go_at_call 140; refine (HE0.out _ HB1.out).mono ?_; rintro e w5 ⟨k5, n5, s5, q35, m35, l35, q45, m45, l45, b5, rfl, hv5, hb5⟩; have HV5 := Qq hv5; have HB5 := Qq hb5; clear hv5 hb5)
 generalize hW6 : w5.alloc _ = W6
 have hb6 := eqB hW6 (Qo _ _)
 have hV6 := eqH (b := w5.heap.size) hW6 (Qw _ _)
 have HB6 := Qq (HB5.out.thn hb6); have HVB6 := Qq hV6; have HVX6 := Qq hb6
 clear hW6 hb6 hV6
 have hlt6 : w.heap.size + 1 < W6.heap.size := by have := HB6.out.size; omega
 clear c6 d00 d10 d20 d30 d40 d50 d60 d70 d80
 have hXW6 := kB HB6.out HX1.out
 have c1 := rA1 hXW6; have c6 := rA6 hXW6
 clear hXW6
 cases b5 with
 | false =>
  obtain ⟨v0, v1, v2, v3, v4⟩ := row5 HVB6.out
  have hZW6 := kE HB6.out hlt HZ1.out
  obtain ⟨y0, y1, y2, y3, y4⟩ := row5 hZW6
  obtain ⟨f0, f1, f2, f3, f4⟩ := frz5 hZW6
  have HZW6 := Qq hZW6
  clear hZW6
  go_wp2_with fail
  show bodyPost _ _ _ _ _ (Zz W6 (w.heap.size + 1) (.int .i64 k5) (.int .i64 n5) (.string s5) (.slice q35 m35 l35) (.slice q45 m45 l45))
  refine Q7 (v := .tuple #[.agg #[.int .i64 k5, .int .i64 n5, .string s5, .slice q35 m35 l35, .slice q45 m45 l45], .bool false]) (by simp [results, results181, go_sem, Qm HZW6.out]) rfl (Yb (by omega) (HB1.out.thn HB6.out))
 | true =>
  obtain ⟨v0, v1, v2, v3, v4⟩ := row5 HVB6.out
  obtain ⟨qb, q0, q1, q2, q3, q4, q5, q6, q7, q8⟩ := DD1.out
  have d01 := kD (HB1.out.thn HB6.out) qb q0; have d11 := kD (HB1.out.thn HB6.out) qb q1; have d21 := kD (HB1.out.thn HB6.out) qb q2; have d31 := kD (HB1.out.thn HB6.out) qb q3; have d41 := kD (HB1.out.thn HB6.out) qb q4; have d51 := kD (HB1.out.thn HB6.out) qb q5; have d61 := kD (HB1.out.thn HB6.out) qb q6; have d71 := kD (HB1.out.thn HB6.out) qb q7; have d81 := kD (HB1.out.thn HB6.out) qb q8
  clear qb q0 q1 q2 q3 q4 q5 q6 q7 q8
  go_upto_region 12 with (go_at_call 140; refine (HE1.out _ (HB1.out.thn HB6.out)).mono ?_; rintro e w7 ⟨k7, n7, s7, q37, m37, l37, q47, m47, l47, b7, rfl, hv7, hb7⟩; have HV7 := Qq hv7; have HB7 := Qq hb7; clear hv7 hb7)
  generalize hW8 : w7.alloc _ = W8
  have hb8 := eqB hW8 (Qo _ _)
  have hV8 := eqH (b := w7.heap.size) hW8 (Qw _ _)
  have HB8 := Qq (HB7.out.thn hb8); have HVB8 := Qq hV8; have HVX8 := Qq hb8
  clear hW8 hb8 hV8
  have hlt8 : w.heap.size + 1 < W8.heap.size := by have := HB8.out.size; omega
  clear d01 d11 d21 d31 d41 d51 d61 d71 d81
  have HB68 := Qq (HB6.out.thn HB8.out)
  clear c1 c6 v0 v1 v2 v3 v4
  have hXW8 := kB HB68.out HX1.out
  have c1 := rA1 hXW8; have c6 := rA6 hXW8
  clear hXW8
  cases b7 with
  | false =>
   obtain ⟨u0, u1, u2, u3, u4⟩ := row5 HVB8.out
   have hZW8 := kE HB68.out hlt HZ1.out
   obtain ⟨y0, y1, y2, y3, y4⟩ := row5 hZW8
   obtain ⟨f0, f1, f2, f3, f4⟩ := frz5 hZW8
   have HZW8 := Qq hZW8
   clear hZW8
   go_wp2_with fail
   show bodyPost _ _ _ _ _ (Zz W8 (w.heap.size + 1) (.int .i64 k7) (.int .i64 n7) (.string s7) (.slice q37 m37 l37) (.slice q47 m47 l47))
   refine Q7 (v := .tuple #[.agg #[.int .i64 k7, .int .i64 n7, .string s7, .slice q37 m37 l37, .slice q47 m47 l47], .bool false]) (by simp [results, results181, go_sem, Qm HZW8.out]) rfl (Yb (by omega) (HB1.out.thn HB68.out))
  | true =>
   obtain ⟨v, hvxV, hvbV⟩ := HV5.out (by first | rfl | trivial)
   obtain ⟨a3V, b3V, a4V, b4V, hcsV, -, -, hvsV⟩ := Qh.cells hvxV
   simp only [vcs, List.cons.injEq, Value.int.injEq, Value.string.injEq, Value.slice.injEq, true_and, and_true] at hcsV
   obtain ⟨rfl, rfl, rfl, ⟨rfl, rfl, rfl⟩, rfl, rfl, rfl⟩ := hcsV
   have HXV := Qq hvxV; have HVbV := Qq hvbV
   clear hvxV hvbV
   obtain ⟨u, hvxU, hvbU⟩ := HV7.out (by first | rfl | trivial)
   obtain ⟨a3U, b3U, a4U, b4U, hcsU, -, -, hvsU⟩ := Qh.cells hvxU
   simp only [vcs, List.cons.injEq, Value.int.injEq, Value.string.injEq, Value.slice.injEq, true_and, and_true] at hcsU
   obtain ⟨rfl, rfl, rfl, ⟨rfl, rfl, rfl⟩, rfl, rfl, rfl⟩ := hcsU
   have HXU := Qq hvxU; have HVbU := Qq hvbU
   clear hvxU hvbU
   have HC := Qq (fun W (hW : Below W8.heap.size W8 W) => Kk _ _ v u [.int .i64 v.kind, .int .i64 v.n, .string ⟨v.s.toArray⟩, .slice q35 v.names.length l35, .slice q45 v.kids.length l45] [.int .i64 u.kind, .int .i64 u.n, .string ⟨u.s.toArray⟩, .slice q37 u.names.length l37, .slice q47 u.kids.length l47] W (HXV.out.move (.of_below ((HVX6.out.thn HB8.out).thn hW)) (fun _ _ h => h)) (HXU.out.move (.of_below (HVX8.out.thn hW)) (fun _ _ h => h)))
   generalize Z1 v u = c at HC
   have hv8 := kB HB8.out HVB6.out
   have HV8 := Qq hv8
   clear hv8
   obtain ⟨v0, v1, v2, v3, v4⟩ := row5 HV8.out
   obtain ⟨u0, u1, u2, u3, u4⟩ := row5 HVB8.out
   have hsl : v.s.length ≤ 1000000 := (Lz HXV.out)
   have hsu : u.s.length ≤ 1000000 := (Lz HXU.out)
   have hcat : ((⟨v.s.toArray⟩ : ByteArray) ++ ⟨u.s.toArray⟩) = ⟨(v.s ++ u.s).toArray⟩ := ByteArray.ext (by simp)
   have hadd : ∀ w, (Op.stringOp .add ⟨v.s.toArray⟩ ⟨u.s.toArray⟩).run prog w = .ok (.string ⟨(v.s ++ u.s).toArray⟩) w := fun w => by
    rw [run_string_add_sum w _ _ (by show v.s.toArray.size + u.s.toArray.size ≤ _; simp; omega), hcat]
   clear hcat
   go_upto_region 17 with (go_at_call 17; refine (HC.out _ (Qz _ _)).mono ?_; rintro e w9 ⟨rfl, hg9⟩; have HB9 := Qq (show Below W8.heap.size W8 w9 from hg9.bl); clear hg9)
   clear c1 c6
   have HB19 := Qq (HB68.out.thn HB9.out)
   have hx9 := kB HB19.out HX1.out
   have hv9 := kB HB9.out HV8.out
   have hu9 := kB HB9.out HVB8.out
   have HX9 := Qq hx9; have HV9 := Qq hv9; have HU9 := Qq hu9
   clear hx9 hv9 hu9 v0 v1 v2 v3 v4 u0 u1 u2 u3 u4
   have c1 := rA1 HX9.out
   obtain ⟨v0, v1, v2, v3, v4⟩ := row5 HV9.out
   obtain ⟨u0, u1, u2, u3, u4⟩ := row5 HU9.out
   go_upto_region 27 with fail
   have h5z : w5.heap.size ≠ w.heap.size + 1 := by have := HB5.out.size; omega
   have h7z : w7.heap.size ≠ w.heap.size + 1 := by have h1 := HB6.out.size; have h2 := HB7.out.size; omega
   have hsp : (v.kind == 1) = false ∨ ((v.kind == 1) = true ∧ (u.kind == 1) = false) ∨ ((v.kind == 1) = true ∧ (u.kind == 1) = true ∧ decide ((v.s.length : Int) + (u.s.length : Int) ≤ 4096) = false) ∨ ((v.kind == 1) = true ∧ (u.kind == 1) = true ∧ (v.s.length : Int) + (u.s.length : Int) ≤ 4096) := by
    cases (v.kind == 1) <;> cases (u.kind == 1) <;> simp <;> omega
   clear c1 v1 v3 v4 u1 u3 u4
   rcases hsp with hq1 | ⟨hq1, hq2⟩ | ⟨hq1, hq2, hq3⟩ | ⟨hq1, hq2, hq3⟩
   focus
    have hZw9 := kE HB19.out hlt HZ1.out
    obtain ⟨y0, y1, y2, y3, y4⟩ := row5 hZw9
    obtain ⟨f0, f1, f2, f3, f4⟩ := frz5 hZw9
    have HZw9 := Qq hZw9
    clear hZw9
    go_region
    all_goals
     go_wp2_with fail
     show bodyPost _ _ _ _ _ (Zz w9 (w.heap.size + 1) (.int .i64 1) (.int .i64 0) (.string ⟨(v.s ++ u.s).toArray⟩) (.slice none 0 0) (.slice none 0 0)).drew
     refine Q7 (v := .tuple #[.agg #[.int .i64 1, .int .i64 0, .string ⟨(v.s ++ u.s).toArray⟩, .slice none 0 0, .slice none 0 0], .bool false]) (by simp [results, results181, go_sem, Qm HZw9.out]) rfl ((Yb (by omega) (HB1.out.thn HB19.out))).drew
   focus
    have hZw9 := kE HB19.out hlt HZ1.out
    obtain ⟨y0, y1, y2, y3, y4⟩ := row5 hZw9
    obtain ⟨f0, f1, f2, f3, f4⟩ := frz5 hZw9
    have HZw9 := Qq hZw9
    clear hZw9
    go_region
    all_goals
     go_wp2_with fail
     show bodyPost _ _ _ _ _ (Zz w9 (w.heap.size + 1) (.int .i64 1) (.int .i64 0) (.string ⟨(v.s ++ u.s).toArray⟩) (.slice none 0 0) (.slice none 0 0)).drew
     refine Q7 (v := .tuple #[.agg #[.int .i64 1, .int .i64 0, .string ⟨(v.s ++ u.s).toArray⟩, .slice none 0 0, .slice none 0 0], .bool false]) (by simp [results, results181, go_sem, Qm HZw9.out]) rfl ((Yb (by omega) (HB1.out.thn HB19.out))).drew
   focus
    have hZw9 := kE HB19.out hlt HZ1.out
    obtain ⟨y0, y1, y2, y3, y4⟩ := row5 hZw9
    obtain ⟨f0, f1, f2, f3, f4⟩ := frz5 hZw9
    have HZw9 := Qq hZw9
    clear hZw9
    go_region
    all_goals
     go_wp2_with fail
     show bodyPost _ _ _ _ _ (Zz w9 (w.heap.size + 1) (.int .i64 1) (.int .i64 0) (.string ⟨(v.s ++ u.s).toArray⟩) (.slice none 0 0) (.slice none 0 0)).drew
     refine Q7 (v := .tuple #[.agg #[.int .i64 1, .int .i64 0, .string ⟨(v.s ++ u.s).toArray⟩, .slice none 0 0, .slice none 0 0], .bool false]) (by simp [results, results181, go_sem, Qm HZw9.out]) rfl ((Yb (by omega) (HB1.out.thn HB19.out))).drew
   focus
    have hZw9 := kE HB19.out hlt HZ1.out
    obtain ⟨y0, y1, y2, y3, y4⟩ := row5 hZw9
    obtain ⟨f0, f1, f2, f3, f4⟩ := frz5 hZw9
    have HZw9 := Qq hZw9
    clear hZw9
    go_region
    all_goals
     go_wp2_with fail
     show bodyPost _ _ _ _ _ (Zz w9 (w.heap.size + 1) (.int .i64 1) (.int .i64 0) (.string ⟨(v.s ++ u.s).toArray⟩) (.slice none 0 0) (.slice none 0 0)).drew
     refine Q7 (v := .tuple #[.agg #[.int .i64 1, .int .i64 0, .string ⟨(v.s ++ u.s).toArray⟩, .slice none 0 0, .slice none 0 0], .bool true]) (by simp [results, results181, go_sem, Qm HZw9.out]) rfl ((Ue (by omega) (HB1.out.thn HB19.out) (fun _ => ⟨_, Zn (by rw [List.length_append]; omega) (Sl.nil _ _ _) (Sl.nil _ _ _), .mk _ _ _ _ _ (fun h => by cases h) (fun x h => by simp at h)⟩))).drew
theorem Rr (nm : Bs) (n : Int) (s : Bs) (names binds : List Bs) (kids : List Ex) (a z : Int) (d : Nat) (hN : Fb 14 nm names binds kids.length) (ih : ∀ x ∈ kids, Y7 d x) : ∀ (S : Nat → Prop) (ce : List Value) (nv vv : Value) (ns : List Bs) (vs : List Val) (w : World), Z5 S w ce (.mk 14 nm n s names binds kids a z) → Sl Qp S w nv ns → Sl Ql S w vv vs → ns.length ≤ vs.length → vs.length + (d + 1) ≤ 1000 → (∀ v ∈ vs, Z2 v) →
  Calls prog 181 #[.agg ce.toArray, nv, vv] w (Yf S w) := by
 obtain ⟨hm, hl⟩ := hN.op rfl
 unfold Fz at hm
 simp only [List.mem_cons, List.not_mem_nil, or_false] at hm
 rcases hm with h | h | h | h | h | h | h | h | h | h | h
 ·exact Xk nm n s names binds kids a z d (by rw [hl, h]; rfl) (by simp [h]) ih
 ·exact Xk nm n s names binds kids a z d (by rw [hl, h]; rfl) (by simp [h]) ih
 ·exact Xk nm n s names binds kids a z d (by rw [hl, h]; rfl) (by simp [h]) ih
 ·exact Xk nm n s names binds kids a z d (by rw [hl, h]; rfl) (by simp [h]) ih
 ·exact Xk nm n s names binds kids a z d (by rw [hl, h]; rfl) (by simp [h]) ih
 ·exact Xk nm n s names binds kids a z d (by rw [hl, h]; rfl) (by simp [h]) ih
 ·exact Xk nm n s names binds kids a z d (by rw [hl, h]; rfl) (by simp [h]) ih
 ·exact Pc nm h n s names binds kids a z d (by rw [hl, h]; rfl) ih
 ·exact Pu nm h n s names binds kids a z d (by rw [hl, h]; rfl) ih
 ·exact roper_or nm h n s names binds kids a z d (by rw [hl, h]; rfl) ih
 exact Ry nm h n s names binds kids a z d (by rw [hl, h]; rfl) ih
theorem G6 : ∀ (d : Nat) (e : Ex), WfE d e → Y7 d e
 | 0, e, h => by cases h
 | d + 1, .mk k nm n s names binds kids a z, h => by
  cases h with
  | mk _ _ _ _ _ _ _ _ _ _ hN hk =>
   have ih : ∀ x ∈ kids, Y7 d x := fun x hx => G6 d x (hk x hx)
   by_cases h0 : k = 0
   ·subst h0; exact Rz nm n s names binds kids a z d ih
   by_cases h1 : k = 1
   ·subst h1
    by_cases hq : (s.length : Int) ≤ 4096
    ·exact Hv nm n s names binds kids a z d ih hq
    exact E6 nm n s names binds kids a z d ih (by simpa using hq)
   by_cases h2 : k = 2
   ·subst h2; exact N6 nm n s names binds kids a z d ih
   by_cases h3 : k = 3
   ·subst h3; exact Pr nm n s names binds kids a z d ih
   by_cases h11 : k = 11
   ·subst h11; exact P6 nm n s names binds kids a z d ih (hN.two rfl)
   by_cases h12 : k = 12
   ·subst h12; exact reval_if nm n s names binds kids a z d ih (hN.three rfl)
   by_cases h13 : k = 13
   ·subst h13; exact Lo nm n s names binds kids a z d (Sk nm n s names binds kids a z d ih (hN.mtch rfl).1 (hN.mtch rfl).2)
   by_cases h14 : k = 14
   ·subst h14; exact Bv nm n s names binds kids a z d (Rr nm n s names binds kids a z d hN ih)
   exact Mb k nm n s names binds kids a z d ih hN h0 h1 h2 h3 h11 h12 h13 h14
theorem Ho (k : Nat) : Y7 8 (Gen.check k) := G6 8 _ (wf_check k)
theorem R7 : Y7 8 Gen.yes := G6 8 _ (wf_yes _)
theorem Ff (c : UInt8) (h1 : Jr c = true) (h2 : tk Js [c] = 1) (h3 : Ds [c] = false) : Yt [c] :=
 ⟨by simp, by simp, by intro d hd; simp at hd; subst hd; exact h1, h2, h3⟩
theorem hue_gen : Vb [Gen.hue] := by
 intro u hu c hc
 obtain rfl := List.mem_singleton.1 hu
 rcases List.mem_cons.1 hc with rfl | hc
 ·exact ⟨.inl rfl, ⟨by decide, by decide, by intro c hc; simp at hc; subst hc; decide, by decide⟩⟩
 obtain rfl := List.mem_singleton.1 hc
 exact ⟨.inl rfl, ⟨by decide, by decide, by intro c hc; simp at hc; subst hc; decide, by decide⟩⟩
theorem t_gen (key : List Bs) (refs : List Rf) (x : Ex) (hr : refs.length ≤ 1000) : Jz ⟨[116], [⟨[97], Gen.whole⟩, ⟨[98], Gen.whole⟩, ⟨[99], Gen.text⟩, ⟨[100], Gen.yesno⟩, ⟨[101], Gen.hueT⟩], key, refs, x⟩ where
 few := by simp
 refs := hr
 words := by
  intro c hc
  simp only [List.mem_cons, List.not_mem_nil, or_false] at hc
  rcases hc with rfl | rfl | rfl | rfl | rfl
  all_goals exact Ff _ (by decide) (by decide) (by decide)
 once := by simp
 types := by
  intro c hc
  simp only [List.mem_cons, List.not_mem_nil, or_false] at hc
  rcases hc with rfl | rfl | rfl | rfl | rfl
  ·exact .inl (.inl rfl)
  ·exact .inl (.inl rfl)
  ·exact .inl (.inr (.inl rfl))
  ·exact .inl (.inr (.inr rfl))
  exact .inr rfl
theorem u_gen : Jz ⟨[117], [⟨[107], Gen.whole⟩, ⟨[110], Gen.text⟩], [[107]], [], Gen.yes⟩ where
 few := by simp
 refs := by simp
 words := by
  intro c hc
  simp only [List.mem_cons, List.not_mem_nil, or_false] at hc
  rcases hc with rfl | rfl
  all_goals exact Ff _ (by decide) (by decide) (by decide)
 once := by simp
 types := by
  intro c hc
  simp only [List.mem_cons, List.not_mem_nil, or_false] at hc
  rcases hc with rfl | rfl
  ·exact .inl (.inl rfl)
  exact .inl (.inr (.inl rfl))
theorem v_gen : Jz ⟨[118], [⟨[120], Gen.whole⟩, ⟨[121], Gen.whole⟩], [[120]], [⟨[121], [118]⟩, ⟨[120], [117]⟩], Gen.yes⟩ where
 few := by simp
 refs := by simp
 words := by
  intro c hc
  simp only [List.mem_cons, List.not_mem_nil, or_false] at hc
  rcases hc with rfl | rfl
  all_goals exact Ff _ (by decide) (by decide) (by decide)
 once := by simp
 types := by
  intro c hc
  simp only [List.mem_cons, List.not_mem_nil, or_false] at hc
  rcases hc with rfl | rfl
  all_goals exact .inl (.inl rfl)
theorem Gy {k : Nat} {two ref third : Bool} {t : Tbl} (h : t ∈ (Gen.schema k two ref third).tables) : Jz t ∧ t.key.length ≤ 2 ∧ (t.check = Gen.check k ∨ t.check = Gen.yes) := by
 unfold Gen.schema at h
 rcases List.mem_append.1 h with h | h
 ·rcases List.mem_cons.1 h with rfl | h
  ·refine ⟨t_gen _ _ _ (by cases ref <;> simp), ?_, .inl rfl⟩
   cases two <;> simp
  obtain rfl := List.mem_singleton.1 h
  exact ⟨u_gen, by simp, .inr rfl⟩
 cases third with
 | false => simp at h
 | true =>
  obtain rfl := List.mem_singleton.1 h
  exact ⟨v_gen, by simp, .inr rfl⟩
theorem Ee (k : Nat) (two ref third : Bool) : O9 (Gen.schema k two ref third) where
 sums := hue_gen
 gen := fun t ht => (Gy ht).1
 ok := fun t ht => by
  obtain ⟨h1, h2, h3⟩ := Gy ht
  refine ⟨by omega, by have := h1.few; omega, h1.types, ?_⟩
  rcases h3 with h3 | h3
  ·rw [h3]; exact Ho k
  rw [h3]; exact R7
 few := by cases third <;> simp [Gen.schema]
 once := by cases third <;> simp [Gen.schema]
end Go.Proofs.YtppbaladeefnkaaGreatDoor

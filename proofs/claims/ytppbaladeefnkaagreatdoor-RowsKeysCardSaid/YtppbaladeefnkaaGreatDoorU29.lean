import Derived.Test.YtppbaladeefnkaaGreatDoorU25
import Derived.Test.YtppbaladeefnkaaGreatDoorU23
import Derived.Test.YtppbaladeefnkaaGreatDoorU19
set_option maxRecDepth 100000
set_option maxHeartbeats 400000000
namespace Go.Proofs.YtppbaladeefnkaaGreatDoor
open Go.RowKit Go.Shelf Go.Lib Tryz
theorem Ou {T : Type} {l : List T} {i : Nat} {x y : T} (h : y ∈ Y3 l i x) : y ∈ l ∨ y = x := by
 unfold Y3 at h
 rcases List.mem_append.1 h with h | h
 ·exact .inl (List.mem_of_mem_take h)
 rcases List.mem_cons.1 h with h | h
 ·exact .inr h
 exact .inl (List.mem_of_mem_drop h)
theorem rec2_mem : ∀ {z : List (Bs × Val)} {y : Val}, y ∈ (Yk z).2 → ∃ x, (x, y) ∈ z := by
 have : ∀ (z : List (Bs × Val)) (A : List Bs × List Val) (y : Val), y ∈ (z.foldl Vc A).2 → y ∈ A.2 ∨ ∃ x, (x, y) ∈ z := by
  intro z
  induction z with
  | nil => intro A y h; exact .inl h
  | cons p z ih =>
   intro A y h
   rcases ih (Vc A p) y h with h | ⟨x, h⟩
   ·rcases Ou h with h | h
    ·exact .inl h
    exact .inr ⟨p.1, by rw [h]; exact List.mem_cons_self⟩
   exact .inr ⟨x, List.mem_cons_of_mem _ h⟩
 intro z y h
 rcases this z ([], []) y h with h | h
 ·simp at h
 exact h
theorem He (nm : Bs) (n : Int) (sx : Bs) (names binds : List Bs) (kids : List Ex) (a z : Int) (S : Nat → Prop) (ce : List Value) (vv : Value) (vals : List Val) (w : World) (he : Z5 S w ce (.mk 5 nm n sx names binds kids a z)) (hv0 : Sl Ql S w vv vals) (hb : ∀ v ∈ vals, Z2 v)  : Calls prog 182 #[.agg ce.toArray, vv] w (Yf S w) := by
 have hv := hv0.up
 obtain ⟨vp, vc, rfl, hvl⟩ := hv.len
 obtain ⟨nv, bv, kv, rfl, hnm, hsx, hn, hbi, hk⟩ := Zd.1 he
 obtain ⟨p1, c1, rfl, _⟩ := hn.len
 obtain ⟨p2, c2, rfl, _⟩ := hbi.len
 obtain ⟨p3, c3, rfl, _⟩ := hk.len
 have HV := Qq hv; have HBo := Qq hb; have HNs := Qq hn
 clear he hv0 hv hn hbi hk hb
 unfold sv
 go_enter func182, ntmps182
 go_wp2_with fail
 refine Q7 (v := .tuple #[.agg #[.int .i64 3, .int .i64 0, .string ⟨nm.toArray⟩, .slice none 0 0, .slice vp vals.length vc], .bool true]) (by simp [results, results182, go_sem]) rfl ⟨3, 0, ⟨nm.toArray⟩, none, 0, 0, vp, vals.length, vc, true, rfl, fun _ => ⟨.mk 3 0 nm [] vals, Zn hnm (Sl.nil _ _ _) ((HV.out.mono (fun b _ h => .inl h.1)).below (Zv _ _ _)), .mk _ _ _ _ _ (fun h => by cases h) HBo.out⟩, Zv _ _ _⟩
theorem Hi (nm : Bs) (n : Int) (sx : Bs) (names binds : List Bs) (kids : List Ex) (a z : Int) (S : Nat → Prop) (ce : List Value) (vv : Value) (vals : List Val) (w : World) (he : Z5 S w ce (.mk 9 nm n sx names binds kids a z)) (hv0 : Sl Ql S w vv vals) (hb : ∀ v ∈ vals, Z2 v) (hl : vals.length ≤ 4096) : Calls prog 182 #[.agg ce.toArray, vv] w (Yf S w) := by
 have hv := hv0.up
 obtain ⟨vp, vc, rfl, hvl⟩ := hv.len
 obtain ⟨nv, bv, kv, rfl, hnm, hsx, hn, hbi, hk⟩ := Zd.1 he
 obtain ⟨p1, c1, rfl, _⟩ := hn.len
 obtain ⟨p2, c2, rfl, _⟩ := hbi.len
 obtain ⟨p3, c3, rfl, _⟩ := hk.len
 have HV := Qq hv; have HBo := Qq hb; have HNs := Qq hn
 clear he hv0 hv hn hbi hk hb
 unfold sv
 have hq : (vals.length : Int) ≤ 4096 := by omega
 go_enter func182, ntmps182
 go_wp2_with fail
 refine Q7 (v := .tuple #[.agg #[.int .i64 5, .int .i64 0, .string ⟨#[]⟩, .slice none 0 0, .slice vp vals.length vc], .bool true]) (by simp [results, results182, go_sem]) rfl ⟨5, 0, ⟨#[]⟩, none, 0, 0, vp, vals.length, vc, true, rfl, fun _ => ⟨.mk 5 0 [] [] vals, Zn (s := []) (by simp) (Sl.nil _ _ _) ((HV.out.mono (fun b _ h => .inl h.1)).below (Zv _ _ _)), .mk _ _ _ _ _ (fun h => by cases h) HBo.out⟩, Zv _ _ _⟩
theorem Lx (k : Int) (nm : Bs) (n : Int) (sx : Bs) (names binds : List Bs) (kids : List Ex) (a z : Int) (S : Nat → Prop) (ce : List Value) (vv : Value) (vals : List Val) (w : World) (he : Z5 S w ce (.mk k nm n sx names binds kids a z)) (hv0 : Sl Ql S w vv vals) (hb : ∀ v ∈ vals, Z2 v) (hk5 : k ≠ 5) (hk9 : k ≠ 9) (hk6 : k ≠ 6) (hk8 : k ≠ 8) (hk7 : k ≠ 7) : Calls prog 182 #[.agg ce.toArray, vv] w (Yf S w) := by
 have hv := hv0.up
 obtain ⟨vp, vc, rfl, hvl⟩ := hv.len
 obtain ⟨nv, bv, kv, rfl, hnm, hsx, hn, hbi, hk⟩ := Zd.1 he
 obtain ⟨p1, c1, rfl, _⟩ := hn.len
 obtain ⟨p2, c2, rfl, _⟩ := hbi.len
 obtain ⟨p3, c3, rfl, _⟩ := hk.len
 have HV := Qq hv; have HBo := Qq hb; have HNs := Qq hn
 clear he hv0 hv hn hbi hk hb
 unfold sv
 have q5 : (k == 5) = false := by simpa using hk5
 have q9 : (k == 9) = false := by simpa using hk9
 have q6 : (k == 6) = false := by simpa using hk6
 have q8 : (k == 8) = false := by simpa using hk8
 have q7 : (k == 7) = false := by simpa using hk7
 clear hk5 hk9 hk6 hk8 hk7
 go_enter func182, ntmps182
 go_wp2_with fail
 refine Q7 (v := .tuple #[.agg zV, .bool false]) (by simp [results, results182, go_sem]) rfl ⟨0, 0, ⟨#[]⟩, none, 0, 0, none, 0, 0, false, rfl, fun h => (by cases h), Zv _ _ _⟩
theorem Mt (nm : Bs) (n : Int) (sx : Bs) (names binds : List Bs) (kids : List Ex) (a z : Int) (S : Nat → Prop) (ce : List Value) (vv : Value) (vals : List Val) (w : World) (he : Z5 S w ce (.mk 6 nm n sx names binds kids a z)) (hv0 : Sl Ql S w vv vals) (hb : ∀ v ∈ vals, Z2 v) (hw : ∀ x ∈ names, Yt x) (hnl : names.length ≤ 1000) : Calls prog 182 #[.agg ce.toArray, vv] w (Yf S w) := by
 have hv := hv0.up
 obtain ⟨vp, vc, rfl, hvl⟩ := hv.len
 obtain ⟨nv, bv, kv, rfl, hnm, hsx, hn, hbi, hk⟩ := Zd.1 he
 obtain ⟨p1, c1, rfl, _⟩ := hn.len
 obtain ⟨p2, c2, rfl, _⟩ := hbi.len
 obtain ⟨p3, c3, rfl, _⟩ := hk.len
 have HV := Qq hv; have HBo := Qq hb; have HNs := Qq hn
 clear he hv0 hv hn hbi hk hb
 unfold sv
 have HRec := Qq (fun W (hb : Below w.heap.size w W) => Dc (fun b => S b ∧ b < w.heap.size) _ _ names vals W ((HNs.out.mono (fun b hb h => ⟨h, hb⟩)).below hb) (HV.out.below hb) hw hnl)
 clear hw
 go_enter func182, ntmps182
 go_wp2_with fail
 refine (HRec.out _ (Zv _ _ _)).mono ?_
 rintro e w1 ⟨hb1, hcase⟩
 have hZ1 := (hb1.block (w.heap.size + 1) (by simp)).trans (Q6 _ _ _)
 have HZ1 := Qq hZ1; have HB1 := Qq ((Zv w _ _).thn hb1)
 have hlt := Qf hZ1
 rcases hcase with ⟨err, he0, rfl, _⟩ | ⟨q3, l3, q4, l4, _, rfl, _, _, hvr⟩
 ·have hq : (err == 0) = false := by simpa using he0
  clear he0 hb1 hZ1
  go_upto_region 8 with fail
  generalize hW2 : w1.alloc _ = W2
  have hb2 := eqB hW2 (Qo _ _)
  have hX2 := eqH (b := w1.heap.size) hW2 (Qw _ _)
  have hZ2 := kE hb2 hlt HZ1.out
  have HZ2 := Qq hZ2; have HB2 := Qq (HB1.out.thn hb2)
  obtain ⟨x0, x1, x2, x3, x4⟩ := row5 hX2
  obtain ⟨z0, z1, z2, z3, z4⟩ := row5 hZ2
  obtain ⟨f0, f1, f2, f3, f4⟩ := frz5 hZ2
  clear hW2 hb2 hX2 hZ2
  go_wp2_with fail
  show bodyPost _ _ _ _ _ (Zz W2 (w.heap.size + 1) (.int .i64 0) (.int .i64 0) (.string ⟨#[]⟩) (.slice none 0 0) (.slice none 0 0))
  refine Q7 (v := .tuple #[.agg zV, .bool false]) (by simp [results, results182, go_sem, Qm HZ2.out]) rfl ⟨0, 0, ⟨#[]⟩, none, 0, 0, none, 0, 0, false, rfl, fun h => (by cases h), Qn HB2.out (by omega)⟩
 obtain ⟨hz1, hz2⟩ := Xi (names.zip vals)
 have hbo : Z2 (Vu (Yk (names.zip vals)).1 (Yk (names.zip vals)).2) := .mk _ _ _ _ _ (fun h => by cases h) (fun y hy => by
  obtain ⟨x, hx⟩ := rec2_mem hy
  exact HBo.out y (List.of_mem_zip hx).2)
 have HBr := Qq hbo
 rw [Fv] at hvr ⊢
 have HVr := Qq hvr
 obtain ⟨r, hr⟩ := eX ((names.zip vals).length)
 rw [hr] at HVr ⊢
 clear hvr hb1 hZ1 hbo hz1 hz2 hr
 go_upto_region 8 with fail
 generalize hW2 : w1.alloc _ = W2
 have hb2 := eqB hW2 (Qo _ _)
 have hX2 := eqH (b := w1.heap.size) hW2 (Qw _ _)
 have hZ2 := kE hb2 hlt HZ1.out
 have HZ2 := Qq hZ2; have HB2 := Qq (HB1.out.thn hb2)
 have HVr2 := Qq (HVr.out.move (S' := fun b => (S b ∧ b ≠ w.heap.size + 1) ∨ w.heap.size + 2 ≤ b) (.of_below hb2) (fun b _ h => by
  rcases h with h | h
  ·exact .inl ⟨h.1, by have := h.2; omega⟩
  exact .inr (by simpa using h)))
 obtain ⟨x0, x1, x2, x3, x4⟩ := row5 hX2
 obtain ⟨z0, z1, z2, z3, z4⟩ := row5 hZ2
 obtain ⟨f0, f1, f2, f3, f4⟩ := frz5 hZ2
 clear hW2 hb2 hX2 hZ2
 go_wp2_with fail
 show bodyPost _ _ _ _ _ (Zz W2 (w.heap.size + 1) (.int .i64 4) (.int .i64 0) (.string ⟨#[]⟩) (.slice q3 r l3) (.slice q4 r l4))
 refine Q7 (v := .tuple #[.agg #[.int .i64 4, .int .i64 0, .string ⟨#[]⟩, .slice q3 r l3, .slice q4 r l4], .bool true]) (by simp [results, results182, go_sem, Qm HZ2.out]) rfl ⟨4, 0, ⟨#[]⟩, q3, r, l3, q4, r, l4, true, rfl, fun _ => ⟨_, ?_, HBr.out⟩, Qn HB2.out (by omega)⟩
 exact HVr2.out.move (fun b hb _ => Qt (by omega)) (fun b _ hb => by
  rcases hb with h | h
  ·exact .inl h.1
  exact .inr (by omega))
theorem Ei (nm : Bs) (n : Int) (sx : Bs) (names binds : List Bs) (kids : List Ex) (a z : Int) (S : Nat → Prop) (ce : List Value) (vv : Value) (vals : List Val) (w : World) (he : Z5 S w ce (.mk 8 nm n sx names binds kids a z)) (hv0 : Sl Ql S w vv vals) (hb : ∀ v ∈ vals, Z2 v) (v0 : Val) (hv00 : vals[0]? = some v0) : Calls prog 182 #[.agg ce.toArray, vv] w (Yf S w) := by
 have hv := hv0.up
 obtain ⟨vp, vc, rfl, hvl⟩ := hv.len
 obtain ⟨nv, bv, kv, rfl, hnm, hsx, hn, hbi, hk⟩ := Zd.1 he
 obtain ⟨p1, c1, rfl, _⟩ := hn.len
 obtain ⟨p2, c2, rfl, _⟩ := hbi.len
 obtain ⟨p3, c3, rfl, _⟩ := hk.len
 have HV := Qq hv; have HBo := Qq hb; have HNs := Qq hn
 clear he hv0 hv hn hbi hk hb
 unfold sv
 obtain ⟨vb, voff, q3, l3, q4, l4, rfl, hvb, hvx, d0, d1, d2, d3, d4⟩ := HV.out.val hv00
 have HG := Qq (fun W (hb : Below w.heap.size w W) => G9 (fun b => S b ∧ b < w.heap.size) v0 [.int .i64 v0.kind, .int .i64 v0.n, .string ⟨v0.s.toArray⟩, .slice q3 v0.names.length l3, .slice q4 v0.kids.length l4] nm W (Qh.move hvx (.of_below hb) (fun _ _ h => h)))
 unfold sv at HG
 have hlen : 0 < vals.length := (Qj hv00).1
 have hi2 : (0 : Int) < (vals.length : Int) := by omega
 have hb0 := HBo.out v0 (Qy hv00)
 have HB0 := Qq hb0
 simp only [Nat.zero_mul, Nat.add_zero] at d0 d1 d2 d3 d4
 have D := Qq (Qe d0 (Qe d1 (Qe d2 (Qe d3 d4))))
 clear hvx hv00 hb0 d0 d1 d2 d3 d4
 go_enter func182, ntmps182
 go_upto_region 10 with fail
 generalize hW1 : (w.alloc _).alloc _ = W1
 have hb1 := eqB hW1 (Zv _ _ _)
 have hX1 := eqH (b := w.heap.size) hW1 (Q5 _ _ _)
 have hZ1 := eqH (b := w.heap.size + 1) hW1 (Q6 _ _ _)
 have HB1 := Qq hb1; have HZ1 := Qq hZ1
 have hlt := Qf hZ1
 have c1x := rA1 hX1
 obtain ⟨d0', d1', d2', d3', d4'⟩ := D.out
 have d0 := (hb1.cell (p := ⟨vb, voff, none⟩) hvb).trans d0'; have d1 := (hb1.cell (p := ⟨vb, voff + 1, none⟩) hvb).trans d1'; have d2 := (hb1.cell (p := ⟨vb, voff + 2, none⟩) hvb).trans d2'; have d3 := (hb1.cell (p := ⟨vb, voff + 3, none⟩) hvb).trans d3'; have d4 := (hb1.cell (p := ⟨vb, voff + 4, none⟩) hvb).trans d4'
 clear hW1 hb1 hX1 hZ1 d0' d1' d2' d3' d4'
 go_region_with (go_at_call 38; refine (HG.out _ (HB1.out.thn (Qz _ _).drew)).mono ?_; rintro e w5 ⟨cs', rfl, hv5, hb5⟩; obtain ⟨t3, s3, t4, s4, hcs, _⟩ := Qh.cells hv5; simp only [vcs] at hcs; subst hcs; have hZ5 := kE ((Qz _ W1).drew.thn hb5) hlt HZ1.out; have HZ5 := Qq hZ5; have HB5 := Qq (HB1.out.thn ((Qz _ W1).drew.thn hb5)); have HV5 := Qq hv5; have g0 := fA 0 hZ5; have y0 := Qk _ _ 0 _ _ _ hZ5; have g1 := fA 1 hZ5; have y1 := Qk _ _ 1 _ _ _ hZ5; have g2 := fA 2 hZ5; have y2 := Qk _ _ 2 _ _ _ hZ5; have g3 := fA 3 hZ5; have y3 := Qk _ _ 3 _ _ _ hZ5; have g4 := fA 4 hZ5; have y4 := Qk _ _ 4 _ _ _ hZ5; simp only [List.getElem?_toArray, List.getElem?_cons_zero, List.getElem?_cons_succ] at y0 y1 y2 y3 y4; clear hv5 hb5 hZ5)
 all_goals
  go_wp2_with fail
  show bodyPost _ _ _ _ _ (Zz w5 (w.heap.size + 1) (.int .i64 ((Yw v0 nm).getD Val.zero).kind) (.int .i64 ((Yw v0 nm).getD Val.zero).n) (.string ⟨((Yw v0 nm).getD Val.zero).s.toArray⟩) (.slice t3 ((Yw v0 nm).getD Val.zero).names.length s3) (.slice t4 ((Yw v0 nm).getD Val.zero).kids.length s4))
  refine Q7 (v := .tuple #[.agg #[.int .i64 ((Yw v0 nm).getD Val.zero).kind, .int .i64 ((Yw v0 nm).getD Val.zero).n, .string ⟨((Yw v0 nm).getD Val.zero).s.toArray⟩, .slice t3 ((Yw v0 nm).getD Val.zero).names.length s3, .slice t4 ((Yw v0 nm).getD Val.zero).kids.length s4], .bool (Yw v0 nm).isSome]) (by simp [results, results182, go_sem, Qm HZ5.out]) rfl ⟨_, _, _, t3, _, s3, t4, _, s4, _, rfl, fun hsm => ⟨(Yw v0 nm).getD Val.zero, ?_, ?_⟩, Qn HB5.out (by omega)⟩
  ·exact HV5.out.move (fun b hb _ => Qt (by have := hb.2; omega)) (fun b _ hb => .inl hb.1)
  cases hg : Yw v0 nm with
  | none => exact Z2.zero
  | some u =>
   obtain ⟨i, _, hu, _⟩ := Dy hg
   exact HB0.out.kids u (Qy hu)
def Ok (S : Nat → Prop) (w W1 : World) (t10 t11 : Value) (wx : World) : Prop :=
 ∃ (G : Nat) (uk un : Int) (us : ByteArray) (u3 : Option Addr) (m3 l3 : Nat) (u4 : Option Addr) (m4 l4 : Nat) (b : Bool), t10 = .pointer (some ⟨G, 0, none⟩) ∧ t11 = .bool b ∧ wx.heap[G]? = some (.cells #[.int .i64 uk, .int .i64 un, .string us, .slice u3 m3 l3, .slice u4 m4 l4] 44 (0, 0)) ∧ Below W1.heap.size W1 wx ∧ W1.heap.size ≤ G ∧ (b = true → ∃ v, Qh (fun c => (S c ∧ c < w.heap.size) ∨ W1.heap.size ≤ c) wx [.int .i64 uk, .int .i64 un, .string us, .slice u3 m3 l3, .slice u4 m4 l4] v ∧ Z2 v)
def WithMid (S : Nat → Prop) (w W1 : World) (i : Value) (wr : World) : Prop := (i = .int .i64 1 ∧ W1 = wr) ∨
 (i = .int .i64 2 ∧ Below w.heap.size w wr ∧ ∃ (uk un : Int) (us : ByteArray) (u3 : Option Addr) (m3 l3 : Nat) (u4 : Option Addr) (m4 l4 : Nat), wr.heap[w.heap.size + 1]? = some (.cells zV 44 (0, 0)) ∧ wr.heap[w.heap.size + 1 + 1]? = some (.cells #[.int .i64 uk, .int .i64 un, .string us, .slice u3 m3 l3, .slice u4 m4 l4] 44 (0, 0)) ∧ ∃ v, Qh (fun c => (S c ∧ c < w.heap.size) ∨ w.heap.size + 3 ≤ c) wr [.int .i64 uk, .int .i64 un, .string us, .slice u3 m3 l3, .slice u4 m4 l4] v ∧ Z2 v)
theorem Hh (nm : Bs) (n : Int) (sx : Bs) (names binds : List Bs) (kids : List Ex) (a z : Int) (S : Nat → Prop) (ce : List Value) (vv : Value) (vals : List Val) (w : World) (he : Z5 S w ce (.mk 7 nm n sx names binds kids a z)) (hv0 : Sl Ql S w vv vals) (hb : ∀ v ∈ vals, Z2 v) (x1 : Bs) (hnames : names = [x1]) (v0 v1 : Val) (hvals : vals = [v0, v1]) : Calls prog 182 #[.agg ce.toArray, vv] w (Yf S w) := by
 subst hnames; subst hvals
 have hv : Sl Ql (fun b => S b ∧ b < w.heap.size) w vv [v0, v1] := hv0.mono (fun b hb h => ⟨h, hb⟩)
 obtain ⟨vp, vc, rfl, hvl⟩ := hv.len
 obtain ⟨nv, bv, kv, rfl, hnm, hsx, hn, hbi, hk⟩ := Zd.1 he
 obtain ⟨p1, c1, rfl, _⟩ := hn.len
 obtain ⟨p2, c2, rfl, _⟩ := hbi.len
 obtain ⟨p3, c3, rfl, _⟩ := hk.len
 have HV := Qq hv; have HBo := Qq hb; have HNs := Qq hn
 clear he hv0 hv hn hbi hk hb
 unfold sv
 simp only [List.length_cons, List.length_nil, Nat.zero_add, Nat.reduceAdd] at HV HNs ⊢
 have mixed : prog.follows .mixedOrders = true := by kernel_rfl
 obtain ⟨vb, voff, q3, e3, q4, e4, hvp, hvb, hv0x, d0, d1, d2, d3, d4⟩ := HV.out.val (i := 0) (x := v0) rfl
 obtain ⟨vb', voff', r3, f3, r4, f4, he2, _, hv1x, g0, g1, g2, g3, g4⟩ := HV.out.val (i := 1) (x := v1) rfl
 subst hvp
 obtain ⟨rfl, rfl⟩ : vb = vb' ∧ voff = voff' := by simpa using he2
 obtain ⟨nb, noff, hnp, hnc, _⟩ := HNs.out.str (i := 0) (x := x1) rfl
 subst hnp
 have hnb := Qv _ _ hnc
 simp only [Nat.zero_mul, Nat.one_mul, Nat.add_zero] at d0 d1 d2 d3 d4 g0 g1 g2 g3 g4 hnc
 have HB0 := Qq (HBo.out v0 (by simp)); have HB1v := Qq (HBo.out v1 (by simp))
 have HW := Qq (fun W (hb : Below w.heap.size w W) => Pn (fun b => S b ∧ b < w.heap.size) v0 v1 x1 [.int .i64 v0.kind, .int .i64 v0.n, .string ⟨v0.s.toArray⟩, .slice q3 v0.names.length e3, .slice q4 v0.kids.length e4] [.int .i64 v1.kind, .int .i64 v1.n, .string ⟨v1.s.toArray⟩, .slice r3 v1.names.length f3, .slice r4 v1.kids.length f4] W (Qh.move hv0x (.of_below hb) (fun _ _ h => h)) (Qh.move hv1x (.of_below hb) (fun _ _ h => h)) HB0.out HB1v.out)
 unfold sv at HW
 have HV0 := Qq hv0x
 have GG := Qq (Qe g0 (Qe g1 (Qe g2 (Qe g3 (Qe g4 hnc)))))
 clear hv0x hv1x he2 g0 g1 g2 g3 g4 hnc
 go_enter func182, ntmps182
 go_upto_region 13 with fail
 generalize hW1 : ((w.alloc _).alloc _).alloc _ = W1
 have hb1 := eqB hW1 (Xl _ _ _ _)
 have hE1 := eqH (b := w.heap.size) hW1 (Zb _ _ _ _)
 have hZ1 := eqH (b := w.heap.size + 1) hW1 (Z7 _ _ _ _)
 have hV1 := eqH (b := w.heap.size + 1 + 1) hW1 (Zw _ _ _ _)
 have HB1 := Qq hb1; have HZ1 := Qq hZ1; have HV1 := Qq hV1; have HE1 := Qq hE1
 have hlt := Qf hV1
 clear hW1 hb1 hZ1 hE1 hV1 d0 d1 d2 d3 d4
 go_wp2_with fail
 go_loopw [9, 10, 11, 12] (fun i _ _ _ wr => WithMid S w W1 i wr) (fun i _ _ _ _ => 2 - (intOf i).toNat)
 case atStart => exact .inl ⟨rfl, rfl⟩
 rcases hrel with ⟨rfl, rfl⟩ | ⟨rfl, hbw, uk, un, us, u3, m3, l3, u4, m4, l4, hZ, hX, v, hv, hbv⟩
 ·obtain ⟨g0', g1', g2', g3', g4', hnc'⟩ := GG.out
  refine let_mvar% ?S1 := fun w' : World => w'.cell? ⟨w.heap.size + 1 + 1, 0, none⟩ = some (.int .i64 v0.kind) ∧ w'.cell? ⟨w.heap.size + 1 + 1, 1, none⟩ = some (.int .i64 v0.n) ∧ w'.cell? ⟨w.heap.size + 1 + 1, 2, none⟩ = some (.string ⟨v0.s.toArray⟩) ∧ w'.cell? ⟨w.heap.size + 1 + 1, 3, none⟩ = some (.slice q3 v0.names.length e3) ∧ w'.cell? ⟨w.heap.size + 1 + 1, 4, none⟩ = some (.slice q4 v0.kids.length e4) ∧ w'.cell? ⟨w.heap.size, 4, none⟩ = some (.slice (some ⟨nb, noff, none⟩) 1 c1) ∧ w'.cell? ⟨nb, noff, none⟩ = some (.string ⟨x1.toArray⟩) ∧ w'.cell? ⟨vb, voff + 5, none⟩ = some (.int .i64 v1.kind) ∧ w'.cell? ⟨vb, voff + 5 + 1, none⟩ = some (.int .i64 v1.n) ∧ w'.cell? ⟨vb, voff + 5 + 2, none⟩ = some (.string ⟨v1.s.toArray⟩) ∧ w'.cell? ⟨vb, voff + 5 + 3, none⟩ = some (.slice r3 v1.names.length f3) ∧ w'.cell? ⟨vb, voff + 5 + 4, none⟩ = some (.slice r4 v1.kids.length f4) ∧ Below W1.heap.size W1 w'; ?_
  have HS : ∀ w', Below W1.heap.size W1 w' → ?S1 w' := by
   intro w' h
   have hh : ∀ {b j : Nat} {u : Value}, b < w.heap.size → w.cell? ⟨b, j, none⟩ = some u → w'.cell? ⟨b, j, none⟩ = some u := fun {b j u} hlt2 hc => (h.cell (p := ⟨b, j, none⟩) (Qa hlt2 HB1.out.size)).trans ((HB1.out.cell (p := ⟨b, j, none⟩) hlt2).trans hc)
   have hV := kE h hlt HV1.out
   have hE := kB h HE1.out
   exact ⟨Qk _ _ 0 _ _ _ hV, Qk _ _ 1 _ _ _ hV, Qk _ _ 2 _ _ _ hV, Qk _ _ 3 _ _ _ hV, Qk _ _ 4 _ _ _ hV, Qk _ _ 4 _ _ _ hE, hh hnb hnc', hh hvb g0', hh hvb g1', hh hvb g2', hh hvb g3', hh hvb g4', h⟩
  have HSB : ∀ w', ?S1 w' → Below W1.heap.size W1 w' := fun w' h => h.2.2.2.2.2.2.2.2.2.2.2.2
  have HA : ∀ w' o, ?S1 w' → ?S1 (w'.alloc o) := fun w' o h => HS _ ((HSB w' h).alloc (HSB w' h).size o)
  have HP : ∀ w' a b c d e, ?S1 w' → ?S1 (Zz w' W1.heap.size a b c d e) := fun w' a b c d e h => HS _ (Qn (HSB w' h) (Q9 _))
  unfold Zz at HP
  have HC := Qq (fun W' (h' : ?S1 W') => (HW.out W' (HB1.out.thn (HSB _ h'))).mono (R' := fun e w2 => ∃ (uk un : Int) (us : ByteArray) (u3 : Option Addr) (m3 l3 : Nat) (u4 : Option Addr) (m4 l4 : Nat) (b : Bool), e = .returned (.tuple #[.agg #[.int .i64 uk, .int .i64 un, .string us, .slice u3 m3 l3, .slice u4 m4 l4], .bool b]) ∧ (b = true → ∃ v, Qh (fun c => (S c ∧ c < w.heap.size) ∨ W'.heap.size ≤ c) w2 [.int .i64 uk, .int .i64 un, .string us, .slice u3 m3 l3, .slice u4 m4 l4] v ∧ Z2 v) ∧ Below W'.heap.size W' w2 ∧ W1.heap.size ≤ W'.heap.size ∧ ?S1 w2) (by
   rintro e w2 ⟨uk, un, us, u3, m3, l3, u4, m4, l4, b, rfl, h3, h4⟩
   exact ⟨uk, un, us, u3, m3, l3, u4, m4, l4, b, rfl, h3, h4, (HSB _ h').size, HS _ ((HSB _ h').thn h4)⟩))
  have HS0 := Qq (HS W1.drew (Qz _ _).drew); have HSr := Qq (HS W1 (Qz _ _)); have HD' := Qq (fun w' (h : ?S1 w') => HS w'.drew (HSB w' h).drew); have HSB' := Qq HSB; have HA' := Qq HA; have HP' := Qq HP
  clear HS HSB HA HP g0' g1' g2' g3' g4' hnc'
  have hwz : IntKind.i64.wrap 0 = 0 := by decide
  go_upto_region 16 with fail
  go_cut [10, 11] from 55 to 100 (fun t10 t11 wx => Ok S w W1 t10 t11 wx)
  case first =>
   go_region_held3 ?S1 (first | with_reducible exact HS0.out | with_reducible exact hS2 | with_reducible exact HD'.out _ (HA'.out _ _ HSr.out) | with_reducible exact HA'.out _ _ hS2 | with_reducible exact HP'.out _ _ _ _ _ _ hS2)
    (first
     | (go_at_call 197; refine (HC.out _ (by assumption)).mono ?_; rintro e w2 ⟨uk, un, us, u3, m3, l3, u4, m4, l4, b, rfl, hv2, hb2, hsz2, hS2⟩; (try (have r2 : w2.heap[W1.heap.size]? = some (.cells zV 44 (0, 0)) := (hb2.block W1.heap.size (by simp)).trans (Qw W1 _); have g0 := fA 0 r2; have y0 := Qk _ _ 0 _ _ _ r2; have g1 := fA 1 r2; have y1 := Qk _ _ 1 _ _ _ r2; have g2 := fA 2 r2; have y2 := Qk _ _ 2 _ _ _ r2; have g3 := fA 3 r2; have y3 := Qk _ _ 3 _ _ _ r2; have g4 := fA 4 r2; have y4 := Qk _ _ 4 _ _ _ r2; simp only [List.getElem?_toArray, List.getElem?_cons_zero, List.getElem?_cons_succ] at y0 y1 y2 y3 y4; have HR2 := Qq r2; clear r2)); have HV2 := Qq hv2; have HB2 := Qq hb2; clear hv2 hb2))
   all_goals
    go_wp2_with fail
    go_meet
   ·exact ⟨w2.heap.size, uk, un, us, u3, m3, l3, u4, m4, l4, b, rfl, rfl, Qw _ _, (HSB'.out _ hS2).thn (Qo _ _), (HSB'.out _ hS2).size, fun hbt => by
       obtain ⟨v, h1, h2⟩ := HV2.out hbt
       exact ⟨v, h1.move (.of_below (Qo _ _)) (fun c _ h => by rcases h with h | h; exact .inl h; exact .inr (by simpa using h)), h2⟩⟩
   show Ok S w W1 _ _ (Zz w2 W1.heap.size _ _ _ _ _)
   exact ⟨W1.heap.size, uk, un, us, u3, m3, l3, u4, m4, l4, b, rfl, rfl, Y9 HR2.out, Qn (HSB'.out _ hS2) (Q9 _), Q9 _, fun hbt => by
      obtain ⟨v, h1, h2⟩ := HV2.out hbt
      exact ⟨v, h1.move (S' := fun c => (S c ∧ c < w.heap.size) ∨ W1.heap.size < c) (.refl _ _) (fun c _ h => by rcases h with h | h; exact .inl h; exact .inr (by have h' := h; simp at h'; omega)) |>.move (fun c hc _ => Qt (by rcases hc with h | h; exact (by have := h.2; have := HB1.out.size; omega); omega)) (fun c _ h => by rcases h with h | h; exact .inl h; exact .inr (by omega)), h2⟩⟩
  obtain ⟨G, uk, un, us, u3, m3, l3, u4, m4, l4, b, rfl, rfl, hG, hbc, hGl, hvb2⟩ := hcut
  have HG := Qq hG; have HBc := Qq hbc; have HVb := Qq hvb2
  have hGs := Qf hG
  have HVc := Qq (kE hbc hlt HV1.out); have HZc := Qq (kB hbc HZ1.out)
  clear HC HS0 HSr HD' HSB' HA' HP' hG hbc hvb2
  go_wp2_with fail
  go_loopw [11, 12] (fun t11 t12 wr => t11 = .bool b ∧ t12 = .int .i64 0 ∧ wc = wr) (fun _ _ _ => 0)
  case atStart => exact ⟨rfl, rfl, rfl⟩
  obtain ⟨rfl, rfl, rfl⟩ := hrel
  obtain ⟨c0, c1, c2, c3, c4⟩ := row5 HVc.out
  obtain ⟨f0, f1, f2, f3, f4⟩ := frz5 HVc.out
  obtain ⟨g0, g1, g2, g3, g4⟩ := row5 HG.out
  obtain ⟨z0, z1, z2, z3, z4⟩ := row5 HZc.out
  obtain ⟨h0, h1, h2, h3, h4⟩ := frz5 HZc.out
  cases b with
  | false =>
   go_wp2_with fail
   show bodyPost _ _ _ _ _ (Zz wc (w.heap.size + 1) (.int .i64 v0.kind) (.int .i64 v0.n) (.string ⟨v0.s.toArray⟩) (.slice q3 v0.names.length e3) (.slice q4 v0.kids.length e4))
   refine Q7 (v := .tuple #[.agg #[.int .i64 v0.kind, .int .i64 v0.n, .string ⟨v0.s.toArray⟩, .slice q3 v0.names.length e3, .slice q4 v0.kids.length e4], .bool false]) (by simp [results, results182, go_sem, Qm HZc.out]) rfl ⟨_, _, _, _, _, _, _, _, _, false, rfl, fun h => (by cases h), Qn (HB1.out.thn HBc.out) (by omega)⟩
  | true =>
   go_wp2_with fail
   go_roundw
   case measure => simp [intOf]
   case rel =>
    obtain ⟨v, hv1, hv2⟩ := HVb.out rfl
    refine .inr ⟨rfl, ?_, uk, un, us, u3, m3, l3, u4, m4, l4, ?_, ?_, v, ?_, hv2⟩
    ·exact Qn (HB1.out.thn HBc.out) (by omega)
    ·show (Zz wc (w.heap.size + 1 + 1) (.int .i64 uk) (.int .i64 un) (.string us) (.slice u3 m3 l3) (.slice u4 m4 l4)).heap[_]? = _
     rw [Qt (by omega)]; exact HZc.out
    ·exact Y9 HVc.out
    exact (hv1.move (S' := fun c => (S c ∧ c < w.heap.size) ∨ w.heap.size + 3 ≤ c) (.refl _ _) (fun c _ h => by rcases h with h | h; exact .inl h; exact .inr (by omega))).move (fun c hc _ => Qt (by rcases hc with h | h; exact (by have := h.2; omega); omega)) (fun _ _ h => h)
 have HBw := Qq hbw; have HZ := Qq hZ; have HX := Qq hX; have HVv := Qq hv; have HBv := Qq hbv
 obtain ⟨c0, c1, c2, c3, c4⟩ := row5 hX
 obtain ⟨z0, z1, z2, z3, z4⟩ := row5 hZ
 obtain ⟨h0, h1, h2, h3, h4⟩ := frz5 hZ
 clear hbw hZ hX hv hbv
 have hZl := Qf HZ.out
 go_upto_region 24 with fail
 go_region_with fail
 all_goals
  go_wp2_with fail
  show bodyPost _ _ _ _ _ (Zz wr (w.heap.size + 1) (.int .i64 uk) (.int .i64 un) (.string us) (.slice u3 m3 l3) (.slice u4 m4 l4)).drew
  refine Q7 (v := .tuple #[.agg #[.int .i64 uk, .int .i64 un, .string us, .slice u3 m3 l3, .slice u4 m4 l4], .bool (uk == 4)]) (by simp [results, results182, go_sem, Qm HZ.out]) rfl ⟨_, _, _, _, _, _, _, _, _, _, rfl, fun _ => ⟨v, ?_, HBv.out⟩, (Qn HBw.out (by omega)).drew⟩
  exact HVv.out.move (fun c hc _ => by rw [show ∀ W : World, W.drew.heap = W.heap from fun _ => rfl]; exact Qt (by rcases hc with h | h; exact (by have := h.2; omega); omega)) (fun c _ h => by rcases h with h | h; exact .inl h.1; exact .inr (by omega))
theorem Ny (k : Int) (nm : Bs) (n : Int) (sx : Bs) (names binds : List Bs) (kids : List Ex) (a z : Int) (S : Nat → Prop) (ce : List Value) (vv : Value) (vals : List Val) (w : World) (hN : Fb k nm names binds kids.length) (he : Z5 S w ce (.mk k nm n sx names binds kids a z)) (hl : vals.length = kids.length) (hv0 : Sl Ql S w vv vals) (hb : ∀ v ∈ vals, Z2 v) :
  Calls prog 182 #[.agg ce.toArray, vv] w (Yf S w) := by
 by_cases h5 : k = 5
 ·subst h5; exact He _ _ _ _ _ _ _ _ _ _ _ _ _ he hv0 hb
 by_cases h9 : k = 9
 ·subst h9; exact Hi _ _ _ _ _ _ _ _ _ _ _ _ _ he hv0 hb (by have := hN.few; omega)
 by_cases h6 : k = 6
 ·subst h6; exact Mt _ _ _ _ _ _ _ _ _ _ _ _ _ he hv0 hb (hN.words rfl) hN.fewn
 by_cases h8 : k = 8
 ·subst h8
  have := hN.fld rfl
  exact Ei _ _ _ _ _ _ _ _ _ _ _ _ _ he hv0 hb (vals[0]'(by omega)) (Qx (by omega))
 by_cases h7 : k = 7
 ·subst h7
  obtain ⟨h1, h2⟩ := hN.one rfl
  obtain ⟨x1, rfl⟩ := List.length_eq_one_iff.1 h1
  rw [h2] at hl
  match vals, hl with
  | [v0, v1], _ => exact Hh _ _ _ _ _ _ _ _ _ _ _ _ _ he hv0 hb x1 rfl v0 v1 rfl
 exact Lx k _ _ _ _ _ _ _ _ _ _ _ _ _ he hv0 hb h5 h9 h6 h8 h7
def Y7 (d : Nat) (e : Ex) : Prop := ∀ (S : Nat → Prop) (ce : List Value) (nv vv : Value) (names : List Bs) (vals : List Val) (w : World), Z5 S w ce e → Sl Qp S w nv names → Sl Ql S w vv vals → names.length ≤ vals.length → vals.length + d ≤ 1000 → (∀ v ∈ vals, Z2 v) →
 Calls prog 140 #[.agg ce.toArray, nv, vv] w (Yf S w)
theorem V5 {S : Nat → Prop} {w W1 w2 : World} {R : Nat} {k n : Int} {s : ByteArray} {p3 : Option Addr} {n3 k3 : Nat} {p4 : Option Addr} {n4 k4 : Nat} {b : Bool} (hB1 : Below w.heap.size w W1) (hR : w.heap.size ≤ R) (hR1 : R < W1.heap.size) (hv : b = true → ∃ v, Qh (fun c => (S c ∧ c < w.heap.size) ∨ W1.heap.size ≤ c) w2 [.int .i64 k, .int .i64 n, .string s, .slice p3 n3 k3, .slice p4 n4 k4] v ∧ Z2 v) (hB2 : Below W1.heap.size W1 w2) :
  Yf S w (.returned (.tuple #[.agg #[.int .i64 k, .int .i64 n, .string s, .slice p3 n3 k3, .slice p4 n4 k4], .bool b])) (Zz w2 R (.int .i64 k) (.int .i64 n) (.string s) (.slice p3 n3 k3) (.slice p4 n4 k4)) := by
 refine ⟨k, n, s, p3, n3, k3, p4, n4, k4, b, rfl, fun hb => ?_, Qn (hB1.thn hB2) hR⟩
 obtain ⟨v, h1, h2⟩ := hv hb
 have hs := hB1.size
 exact ⟨v, h1.move (fun c hc _ => Qt (by rcases hc with h | h; exact (by have := h.2; omega); omega)) (fun c _ hc => by rcases hc with h | h; exact .inl h.1; exact .inr (by omega)), h2⟩
theorem Yb {S : Nat → Prop} {w w2 : World} {R : Nat} {k n : Int} {s : ByteArray} {p3 : Option Addr} {n3 k3 : Nat} {p4 : Option Addr} {n4 k4 : Nat} (hR : w.heap.size ≤ R) (hB2 : Below w.heap.size w w2) :
  Yf S w (.returned (.tuple #[.agg #[.int .i64 k, .int .i64 n, .string s, .slice p3 n3 k3, .slice p4 n4 k4], .bool false])) (Zz w2 R (.int .i64 k) (.int .i64 n) (.string s) (.slice p3 n3 k3) (.slice p4 n4 k4)) :=
 ⟨k, n, s, p3, n3, k3, p4, n4, k4, false, rfl, (fun h => by cases h), Qn hB2 hR⟩
theorem Ue {S : Nat → Prop} {w w2 : World} {R : Nat} {k n : Int} {s : ByteArray} {p3 : Option Addr} {n3 k3 : Nat} {p4 : Option Addr} {n4 k4 : Nat} {b : Bool} (hR : w.heap.size ≤ R) (hB2 : Below w.heap.size w w2) (hv : b = true → ∃ v, Qh (fun c => (S c ∧ c < w.heap.size) ∨ R < c) w2 [.int .i64 k, .int .i64 n, .string s, .slice p3 n3 k3, .slice p4 n4 k4] v ∧ Z2 v) :
  Yf S w (.returned (.tuple #[.agg #[.int .i64 k, .int .i64 n, .string s, .slice p3 n3 k3, .slice p4 n4 k4], .bool b])) (Zz w2 R (.int .i64 k) (.int .i64 n) (.string s) (.slice p3 n3 k3) (.slice p4 n4 k4)) := by
 refine ⟨k, n, s, p3, n3, k3, p4, n4, k4, b, rfl, fun hb => ?_, Qn hB2 hR⟩
 obtain ⟨v, h1, h2⟩ := hv hb
 exact ⟨v, h1.move (fun c hc _ => Qt (by rcases hc with h | h; exact (by have := h.2; omega); omega)) (fun c _ hc => by rcases hc with h | h; exact .inl h.1; exact .inr (by omega)), h2⟩
theorem Yf.sub {S : Nat → Prop} {w W1 : World} {e : Ending} {w2 : World} (h : Yf (fun c => S c ∧ c < w.heap.size) W1 e w2) : ∃ (k n : Int) (s : ByteArray) (p3 : Option Addr) (n3 k3 : Nat) (p4 : Option Addr) (n4 k4 : Nat) (b : Bool),
  e = .returned (.tuple #[.agg #[.int .i64 k, .int .i64 n, .string s, .slice p3 n3 k3, .slice p4 n4 k4], .bool b]) ∧ (b = true → ∃ v, Qh (fun c => (S c ∧ c < w.heap.size) ∨ W1.heap.size ≤ c) w2 [.int .i64 k, .int .i64 n, .string s, .slice p3 n3 k3, .slice p4 n4 k4] v ∧ Z2 v) ∧ Below W1.heap.size W1 w2 := h
structure Ha (t : Tbl) (rows : List Val) (p2 p5 : Val → Bool) (K : Val → List Int) : Prop where
 srt : Srt Jj t.columns
 few : t.columns.length ≤ 19
 some : t.columns ≠ []
 typed : ∀ x ∈ rows, Zp x ∧ Kg x (Bm t) (p2 x)
 keys : E9 t rows K
 many : rows.length ≤ 100000
 key : t.key.length ≤ 1000
 simple : Vn t.check = true
 check : ∀ x ∈ rows, EvV t.check (Gz x) (J2 (p5 x)) ∧ x.names.length ≤ x.kids.length
def cfOf (s : Sc) (l : List Rel) (p2 p5 : Nat → Val → Bool) (K : Nat → Val → List Int) (c i : Nat) : Ft :=
 let rows := (l.getD i ⟨[], []⟩).rows
 match c with
 | 0 => L2 rows
 | 1 => Xm 9 (p2 i) rows
 | 2 => Uv rows (ust rows.length (rows.map fun r => kb (K i r)) rows.length)
 | 3 => Yp s l rows (s.tables.getD i Tbl.zero).refs
 | _ => Xm 13 (p5 i) rows
theorem conOk_of (w : World) (S0 S1 : Nat → Prop) (s : Sc) (cs : List Value) (lv : Value) (l : List Rel) (p2 p5 : Nat → Val → Bool) (K : Nat → Val → List Int) (hs : Yl S0 w cs s) (hl : Sl Z8 S1 w lv l) (hkw : Xd w)
  (hkey : ∀ t ∈ s.tables, t.key.length ≤ 1000) (hok : ∀ (i : Nat) (t : Tbl) (r : Rel), s.tables[i]? = some t → l[i]? = some r → Ha t r.rows (p2 i) (p5 i) (K i)) : ConOk w s cs lv l (cfOf s l p2 p5 K) := by
 intro c hc i t r ht hr B C W ct rv hb hB hC hct hrv
 have ho := hok i t r ht hr
 have h1 : (l.getD i ⟨[], []⟩).rows = r.rows := by rw [List.getD_eq_getElem?_getD, hr]; rfl
 have h2 : s.tables.getD i Tbl.zero = t := by rw [List.getD_eq_getElem?_getD, ht]; rfl
 have hsW := hs.below hb
 obtain ⟨uv, tv, rfl, hu, hts⟩ := hs
 have hB0 : W.cell? ⟨B, 0, none⟩ = some uv := by rw [Qk _ _ _ _ _ _ hB]; rfl
 have hB1 : W.cell? ⟨B, 1, none⟩ = some tv := by rw [Qk _ _ _ _ _ _ hB]; rfl
 match c, hc with
 | 0, _ =>
  show Calls _ _ #[.agg ct.toArray, rv] W (Jd _ W (L2 (l.getD i ⟨[], []⟩).rows))
  rw [h1]
  exact con1_any _ _ _ t ct rv r.rows W hct hrv
 | 1, _ =>
  show Calls _ _ #[.agg ct.toArray, rv, .pointer (some ⟨B, 0, none⟩)] W (Jd _ W (Xm 9 (p2 i) (l.getD i ⟨[], []⟩).rows))
  rw [h1]
  obtain ⟨ps, cps, rfl, _⟩ := hu.len
  exact con2_any B _ _ ps _ cps t ct rv r.rows (p2 i) W hB0 hct hrv ho.srt ho.few ho.some ho.typed (hkw.below hb)
 | 2, _ =>
  show Calls _ _ #[.agg ct.toArray, rv] W (Jd _ W (Uv (l.getD i ⟨[], []⟩).rows (ust (l.getD i ⟨[], []⟩).rows.length ((l.getD i ⟨[], []⟩).rows.map fun r => kb (K i r)) (l.getD i ⟨[], []⟩).rows.length)))
  rw [h1]
  exact con3_any _ _ t ct rv r.rows (K i) W hct hrv ho.keys ho.many ho.key
 | 3, _ =>
  show Calls _ _ #[.agg ct.toArray, rv, .pointer (some ⟨B, 0, none⟩), .pointer (some ⟨C, 0, none⟩)] W (Jd _ W (Yp s l (l.getD i ⟨[], []⟩).rows (s.tables.getD i Tbl.zero).refs))
  rw [h1, h2]
  exact con4_any B C S0 S1 _ _ s uv tv lv l t ct rv r.rows W hB0 hB1 hC hsW (hl.below hb) hct hrv hkey
 | 4, _ =>
  show Calls _ _ #[.agg ct.toArray, rv] W (Jd _ W (Xm 13 (p5 i) (l.getD i ⟨[], []⟩).rows))
  rw [h1]
  exact con5_any _ _ t ct rv r.rows (p5 i) W hct hrv ho.simple ho.check
theorem checkOk (S0 S1 : Nat → Prop) (s : Sc) (cs : List Value) (lv : Value) (l : List Rel) (p2 p5 : Nat → Val → Bool) (K : Nat → Val → List Int) (w : World) (hs : Yl S0 w cs s) (hl : Sl Z8 S1 w lv l) (hkw : Xd w)
  (hkey : ∀ t ∈ s.tables, t.key.length ≤ 1000) (hok : ∀ (i : Nat) (t : Tbl) (r : Rel), s.tables[i]? = some t → l[i]? = some r → Ha t r.rows (p2 i) (p5 i) (K i)) :
  Calls prog 51 #[.agg cs.toArray, lv] w (O0 w s l (cfOf s l p2 p5 K)) :=
 Rh S0 S1 s cs lv l w hs hl _ (conOk_of w S0 S1 s cs lv l p2 p5 K hs hl hkw hkey hok)
theorem U3 {code : Int} {p : Val → Bool} {rows : List Val} (h : ∀ x ∈ rows, p x = true) : Xm code p rows = Ft.zero := by
 unfold Xm
 rw [List.findIdx?_eq_none_iff.2 (fun x hx => by simp [h x hx])]
theorem B9 {rows : List Val} (h : rows.length ≤ 256) : L2 rows = Ft.zero := by unfold L2; rw [if_neg (by omega)]
theorem Hm (n : Nat) (ks : List Bs) (hd : ∀ (i j : Nat) (a b : Bs), i < j → ks[i]? = some a → ks[j]? = some b → a ≠ b) : ∀ i, i ≤ ks.length → ust n ks i = (n, 0)
 | 0, _ => rfl
 | i + 1, hi => by
  show U1 (ks.take i) (ust n ks i) (ks.getD i []) = (n, 0)
  rw [Hm n ks hd i (by omega)]
  unfold U1
  have hk : ks[i]? = some ks[i] := Qx (by omega)
  have : Y0 (ks.take i) (ks.getD i []) = none := by
   unfold Y0
   rw [List.findIdx?_eq_none_iff]
   intro x hx
   obtain ⟨j, hj⟩ := List.getElem?_of_mem hx
   have hjl := (Qj hj).1
   rw [List.length_take] at hjl
   rw [List.getElem?_take_of_lt (by omega)] at hj
   have := hd j i x ks[i] (by omega) hj hk
   rw [List.getD_eq_getElem?_getD, hk]
   simpa using this
  rw [this]
theorem Bt {rows : List Val} {ks : List Bs} (hl : ks.length = rows.length) (hd : ∀ (i j : Nat) (a b : Bs), i < j → ks[i]? = some a → ks[j]? = some b → a ≠ b) : Uv rows (ust rows.length ks rows.length) = Ft.zero := by
 rw [Hm _ _ hd _ (by omega)]
 unfold Uv
 rw [if_pos rfl]
end Go.Proofs.YtppbaladeefnkaaGreatDoor

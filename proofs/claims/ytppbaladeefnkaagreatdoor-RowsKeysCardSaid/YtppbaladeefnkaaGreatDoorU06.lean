import Derived.Test.YtppbaladeefnkaaGreatDoorU05
set_option maxRecDepth 100000
set_option maxHeartbeats 400000000
namespace Go.Proofs.YtppbaladeefnkaaGreatDoor
open Go.RowKit Go.Shelf Go.Lib Tryz
def Vk (v : Val) (x : Bs) : Int := if Y8 v (Ya v x) then Ya v x else -1
theorem F5 (S : Nat → Prop) (v : Val) (cs : List Value) (x : Bs) (w : World) (h : Qh S w cs v) :
  Calls prog 73 #[.agg cs.toArray, sv x] w fun e w' => e = .returned (.int .i64 (Vk v x)) ∧ Below w.heap.size w w' := by
 obtain ⟨p3, k3, p4, k4, hcs, hn, hk, _⟩ := Qh.cells h
 simp only [vcs] at hcs
 subst hcs
 have hl : v.kids.length ≤ 1000000 := by obtain ⟨_, _, _, h⟩ := hk.len; exact h
 obtain ⟨_, _, _, hln⟩ := hn.len
 obtain ⟨r, hr⟩ := eX (Vk v x)
 rw [hr]
 by_cases h4 : v.kind = 4
 ·have hq : (v.kind != 4) = false := by rw [h4]; rfl
  have HS := Qq (hn.below (Qo w (.cells #[.int .i64 4, .int .i64 v.n, .string ⟨v.s.toArray⟩, .slice p3 v.names.length k3, .slice p4 v.kids.length k4] 44)))
  have HR := Qq hr
  have H4 := Qq h4
  rw [h4]
  clear h hn hk hr h4 hq
  obtain ⟨n, hnn⟩ := eX (v.names.length)
  rw [hnn] at HS hln ⊢
  have HN := Qq hnn
  clear hnn
  unfold sv
  go_enter func73, ntmps73
  go_wp2_with fail
  go_loop [5] (fun i => ∃ k : Nat, k ≤ n ∧ i = .int .i64 k ∧ Aside (∀ (j : Nat) (y : Bs), j < k → v.names[j]? = some y → decide (y = x) = false)) (fun i => n - (intOf i).toNat)
  case atStart => exact ⟨0, Q8 _, rfl, fun j _ hj => absurd hj (Nat.not_lt_zero _)⟩
  obtain ⟨k, hk, rfl, A⟩ := hrel
  by_cases hlt : k < n
  ·have hi1 : (0 : Int) ≤ (k : Int) := by omega
   have hi2 : (k : Int) < (n : Int) := by omega
   obtain ⟨y, hy⟩ : ∃ y, v.names[k]? = some y := ⟨_, Qx (by rw [HN.out]; exact hlt)⟩
   obtain ⟨b, off, rfl, hc, -⟩ := HS.out.str hy
   have HY := Qq hy
   clear hy
   by_cases he : y = x
   ·have hq : (y == x) = true := by rw [he]; simp
    have hfi : Ya v x = k := by unfold Ya; exact U9 HY.out (by rw [he]; simp) A.out
    have HFI := Qq hfi
    clear he hfi
    by_cases hkl : k < v.kids.length
    ·have hr0 : r = k := by
      rw [← HR.out]; unfold Vk; rw [HFI.out]
      have : Y8 v (k : Int) = true := by unfold Y8; simp [H4.out, hkl]
      rw [this]; rfl
     subst hr0
     go_wp2_with fail
     go_ret
     exact ⟨rfl, Qo _ _⟩
    have hr0 : r = -1 := by
     rw [← HR.out]; unfold Vk; rw [HFI.out]
     have : Y8 v (k : Int) = false := by unfold Y8; simp [hkl]
     rw [this]; rfl
    subst hr0
    have hkl2 : ¬ (k : Int) < (v.kids.length : Int) := by omega
    go_wp2_with fail
    go_ret
    exact ⟨rfl, Qo _ _⟩
   have hq : (y == x) = false := by rw [← Bool.not_eq_true, beq_iff_eq]; exact he
   have HE := Qq he
   clear he
   go_wp2_with fail
   go_round
   case measure => simp [intOf]; omega
   case rel =>
    refine ⟨k + 1, by omega, by go_num, (show Aside _ from fun j z hj hz => ?_)⟩
    by_cases e : j = k
    ·subst e
     have := HY.out
     rw [this] at hz
     cases hz
     simpa using HE.out
    exact A.out j z (by omega) hz
  have hltz : ¬ (k : Int) < (n : Int) := by omega
  have : k = n := by omega
  subst this
  have hfi : Ya v x = -1 := by unfold Ya; exact Xu (fun j y hy => A.out j y (by have := (Qj hy).1; have := HN.out; omega) hy)
  have hr0 : r = -1 := by
   rw [← HR.out]; unfold Vk; rw [hfi]
   have : Y8 v (-1) = false := by unfold Y8; simp
   rw [this]; rfl
  subst hr0
  clear hfi
  go_wp2_with fail
  go_ret
  exact ⟨rfl, Qo _ _⟩
 have hr0 : r = -1 := by
  rw [← hr]; unfold Vk
  have : Y8 v (Ya v x) = false := by unfold Y8; simp [h4]
  rw [this]; rfl
 subst hr0
 have hq : (v.kind != 4) = true := by rw [bne_iff_ne]; exact h4
 clear h hn hk hr h4
 unfold sv
 go_enter func73, ntmps73
 go_wp2_with fail
 go_ret
 exact ⟨rfl, Qo _ _⟩
def RGetIs (S : Nat → Prop) (w : World) (o : Option Val) (e : Ending) (w' : World) : Prop :=
 ∃ cs', e = .returned (.tuple #[.agg cs'.toArray, .bool o.isSome]) ∧ Qh S w' cs' (o.getD Val.zero) ∧ Below w.heap.size w w'
theorem Ky {v : Val} {x : Bs} (h : Yw v x = none) : Vk v x = -1 := by unfold Vk; rw [Bf h]; rfl
theorem Ju {v u : Val} {x : Bs} (h : Yw v x = some u) : ∃ i : Nat, Vk v x = i ∧ v.kids[i]? = some u := by
 obtain ⟨i, hi, hu, hb⟩ := Dy h
 exact ⟨i, by unfold Vk; rw [hb, hi]; rfl, hu⟩
theorem G9 (S : Nat → Prop) (v : Val) (cs : List Value) (x : Bs) (w : World) (h0 : Qh S w cs v) :
  Calls prog 38 #[.agg cs.toArray, sv x] w (RGetIs S w (Yw v x)) := by
 have h : Qh (fun b => S b ∧ b < w.heap.size) w cs v := h0.move (.refl _ _) (fun b hb hs => ⟨hs, hb⟩)
 clear h0
 have HF := Qq (fun W (hb : Below w.heap.size w W) => F5 _ v cs x W (h.move (.of_below hb) (fun _ _ h => h)))
 obtain ⟨p3, k3, p4, k4, hcs, hn, hk, _⟩ := Qh.cells h
 simp only [vcs] at hcs
 subst hcs
 have HK := Qq hk
 clear h hn hk
 unfold sv at HF ⊢
 cases hg : Yw v x with
 | none =>
  rw [Ky hg] at HF
  clear hg
  go_enter func38, ntmps38
  go_wp2_with fail
  refine (HF.out _ (Zv _ _ _)).mono ?_
  rintro e w1 ⟨rfl, hw⟩
  have HW := Qq hw
  have hR := (hw.block (w.heap.size + 1) (by simp)).trans (Q6 _ _ _)
  have HR := Qq hR
  have f := fun j => frozen_of_row _ _ j _ _ hR
  have y := fun j => Qk _ _ j _ _ _ hR
  have y0 := y 0; have y1 := y 1; have y2 := y 2; have y3 := y 3; have y4 := y 4
  have f0 := f 0; have f1 := f 1; have f2 := f 2; have f3 := f 3; have f4 := f 4
  simp only [List.getElem?_toArray, List.getElem?_cons_zero, List.getElem?_cons_succ] at y0 y1 y2 y3 y4
  clear hw hR f y
  go_wp2_with fail
  show bodyPost _ _ _ _ _ (Zz w1 _ _ _ _ _ _)
  refine Q7 (v := .tuple #[.agg zV, .bool false]) (by simp [results, results38, go_sem, Qm HR.out]) rfl ⟨_, rfl, Zl _ _, ?_⟩
  exact Qn ((Zv w _ _).thn HW.out) (by omega)
 | some u =>
  obtain ⟨i, hi, hku⟩ := Ju hg
  rw [hi] at HF
  obtain ⟨b, off, q3, l3, q4, l4, rfl, hbl, hvu, d0, d1, d2, d3, d4⟩ := HK.out.val hku
  have hlt : i < v.kids.length := (Qj hku).1
  have hi1 : (0 : Int) ≤ (i : Int) := by omega
  have hi2 : (i : Int) < (v.kids.length : Int) := by omega
  have hi3 : decide ((i : Int) < 0) = false := by simp
  have HV := Qq hvu
  clear hg hi hku hvu
  go_enter func38, ntmps38
  go_wp2_with fail
  refine (HF.out _ (Zv _ _ _)).mono ?_
  rintro e w1 ⟨rfl, hw⟩
  have hb1 := (Zv w _ _).thn hw
  have hR := (hw.block (w.heap.size + 1) (by simp)).trans (Q6 _ _ _)
  have hX := (hw.block w.heap.size (by simp; omega)).trans (Q5 _ _ _)
  have e0 := (hb1.cell (p := ⟨b, off + i * 5, none⟩) hbl).trans d0; have e1 := (hb1.cell (p := ⟨b, off + i * 5 + 1, none⟩) hbl).trans d1; have e2 := (hb1.cell (p := ⟨b, off + i * 5 + 2, none⟩) hbl).trans d2; have e3 := (hb1.cell (p := ⟨b, off + i * 5 + 3, none⟩) hbl).trans d3; have e4 := (hb1.cell (p := ⟨b, off + i * 5 + 4, none⟩) hbl).trans d4
  have x4 := Qk _ _ 4 _ _ _ hX
  have f := fun j => frozen_of_row _ _ j _ _ hR
  have y := fun j => Qk _ _ j _ _ _ hR
  have y0 := y 0; have y1 := y 1; have y2 := y 2; have y3 := y 3; have y4 := y 4
  have f0 := f 0; have f1 := f 1; have f2 := f 2; have f3 := f 3; have f4 := f 4
  simp only [List.getElem?_toArray, List.getElem?_cons_zero, List.getElem?_cons_succ] at x4 y0 y1 y2 y3 y4
  have HB1 := Qq hb1; have HR := Qq hR
  clear hw hb1 hX hR d0 d1 d2 d3 d4 f y
  go_wp2_with fail
  show bodyPost _ _ _ _ _ (Zz w1 _ _ _ _ _ _)
  refine Q7 (v := .tuple #[.agg #[.int .i64 u.kind, .int .i64 u.n, .string ⟨u.s.toArray⟩, .slice q3 u.names.length l3, .slice q4 u.kids.length l4], .bool true]) (by simp [results, results38, go_sem, Qm HR.out]) rfl ⟨_, rfl, ?_, Qn HB1.out (by omega)⟩
  refine Qh.move HV.out (fun b hb hlt => (Qt ?_).trans (HB1.out.block b hlt)) (fun b _ hb => hb.1)
  have := hb.2
  omega
theorem Z5.cells {S : Nat → Prop} {w : World} {cs : List Value} {x : Ex} (h : Z5 S w cs x) : ∃ k s1 n s2 p1 n1 c1 p2 n2 c2 p3 n3 c3 a z, cs = [.int .i64 k, .string s1, .int .i64 n, .string s2, .slice p1 n1 c1, .slice p2 n2 c2, .slice p3 n3 c3, .int .i64 a, .int .i64 z] := by
 cases h with
 | mk k nm n s names binds kids a z nv bv p cap b off cs hm hs hn hb =>
  obtain ⟨p1, c1, rfl, _⟩ := hn.len
  obtain ⟨p2, c2, rfl, _⟩ := hb.len
  exact ⟨_, _, _, _, _, _, _, _, _, _, _, _, _, _, _, rfl⟩
def tcs (t : Tbl) (cp : Option Addr) (cc : Nat) (kp : Option Addr) (kc : Nat) (rp : Option Addr) (rc : Nat) (k : Int) (s1 : ByteArray) (n : Int) (s2 : ByteArray) (p1 : Option Addr) (n1 c1 : Nat) (p2 : Option Addr) (n2 c2 : Nat) (p3 : Option Addr) (n3 c3 : Nat) (a z : Int) : List Value :=
 [.string ⟨t.name.toArray⟩, .slice cp t.columns.length cc, .slice kp t.key.length kc, .slice rp t.refs.length rc, .int .i64 k, .string s1, .int .i64 n, .string s2, .slice p1 n1 c1, .slice p2 n2 c2, .slice p3 n3 c3, .int .i64 a, .int .i64 z]
theorem Zk {S : Nat → Prop} {w : World} {cs : List Value} {t : Tbl} (h : Qs.R S w cs t) : ∃ cp cc kp kc rp rc k s1 n s2 p1 n1 c1 p2 n2 c2 p3 n3 c3 a z, cs = tcs t cp cc kp kc rp rc k s1 n s2 p1 n1 c1 p2 n2 c2 p3 n3 c3 a z ∧ t.name.length ≤ 1000000 ∧
  Sl Yy S w (.slice cp t.columns.length cc) t.columns ∧ Sl Qp S w (.slice kp t.key.length kc) t.key ∧ Sl Ut S w (.slice rp t.refs.length rc) t.refs ∧ Z5 S w [.int .i64 k, .string s1, .int .i64 n, .string s2, .slice p1 n1 c1, .slice p2 n2 c2, .slice p3 n3 c3, .int .i64 a, .int .i64 z] t.check := by
 obtain ⟨cv, kv, rv, ec, rfl, h1, h2, h3, h4, h5⟩ := h
 obtain ⟨cp, cc, rfl, _⟩ := h2.len
 obtain ⟨kp, kc, rfl, _⟩ := h3.len
 obtain ⟨rp, rc, rfl, _⟩ := h4.len
 obtain ⟨k, s1, n, s2, p1, n1, c1, p2, n2, c2, p3, n3, c3, a, z, rfl⟩ := h5.cells
 exact ⟨cp, cc, kp, kc, rp, rc, k, s1, n, s2, p1, n1, c1, p2, n2, c2, p3, n3, c3, a, z, rfl, h1, h2, h3, h4, h5⟩
def Bm (t : Tbl) : Ty := .mk 5 [] 0 (t.columns.map Col.name) (t.columns.map Col.type)
def RowIs (w : World) (t : Tbl) (e : Ending) (w' : World) : Prop := ∃ cs', e = .returned (.agg cs'.toArray) ∧ Y5 (fun _ => True) w' cs' (Bm t) ∧ Below w.heap.size w w'
structure RowMid (w : World) (G : Nat) (cp : Option Addr) (ccap : Nat) (xs : List Col) (k : Nat) (np : Option Addr) (ncap : Nat) (kp : Option Addr) (kcap : Nat) (wr : World) : Prop where
 below : Below w.heap.size w wr
 hG : w.heap.size + 2 ≤ G
 box : wr.heap[G]? = some (.cells #[.int .i64 5, .string ⟨#[]⟩, .int .i64 0, .slice np k ncap, .slice kp k kcap] 70 (0, 0))
 res : wr.heap[w.heap.size + 1]? = some (.cells zY 70 (0, 0))
 names : ∃ ncs, Own Qp 9 (fun b => b < G ∧ b ≠ w.heap.size + 1) (G + 1) wr (.slice np k ncap) ((xs.take k).map Col.name) ncs
 kids : ∃ kcs, Own Vs 70 (fun b => b < G ∧ b ≠ w.heap.size + 1) (G + 1) wr (.slice kp k kcap) ((xs.take k).map Col.type) kcs
 cols : Sl Yy (fun b => b < G ∧ b ≠ w.heap.size + 1) wr (.slice cp xs.length ccap) xs
theorem row_any (S0 : Nat → Prop) (t : Tbl) (cs : List Value) (w : World) (h0 : Qs.R S0 w cs t) (ho : Srt Jj t.columns) (hl : t.columns.length ≤ 19) (hne : t.columns ≠ []) :
  Calls prog 86 #[.agg cs.toArray] w (RowIs w t) := by
 have h : Qs.R (fun b => b < w.heap.size) w cs t := Qs.mono h0 (fun b hb _ => hb)
 obtain ⟨cp0, cc0, kp0, kc0, rp0, rc0, k0, s1, n0, s2, p1, n1, c1, p2, n2, c2, p3, n3, c3, a0, z0, rfl, hnl, hcols, _, _, _⟩ := Zk h
 unfold tcs
 have HC := Qq hcols; have HO := Qq ho; have HNe := Qq hne
 obtain ⟨i9, j1, j2, j3, j4⟩ := Ze (P := prog) (t := 9) (z := .string ⟨#[]⟩) (n := 1) (b := 16) (by kernel_rfl)
 obtain ⟨i46, l1, l2, l3, l4⟩ := Ze (P := prog) (t := 70) (z := .agg zY) (n := 5) (b := 80) (by kernel_rfl)
 have HJ := Qq j1; have HJ2 := Qq j2; have HJ3 := Qq j3; have HJ4 := Qq j4; have HL := Qq l1; have HL2 := Qq l2; have HL3 := Qq l3; have HL4 := Qq l4
 clear h h0 hcols ho hne j1 j2 j3 j4 l1 l2 l3 l4
 go_enter func86, ntmps86
 go_wp2_with fail
 refine (Ll _ _ t.columns _ (HC.out.below (Zv _ _ _))).mono ?_
 rintro e w1 ⟨cp, ccap, ccs, rfl, ho1, hb1⟩
 have hres1 := (hb1.block (w.heap.size + 1) (by simp)).trans (Q6 _ _ _)
 have HR1 := Qq hres1; have HB1 := Qq ((Zv w _ _).thn hb1); have HO1 := Qq ho1
 have hsz1 : w.heap.size + 2 ≤ w1.heap.size := by have := hb1.size; simpa using this
 clear hres1 hb1 ho1
 go_wp2_with fail
 refine (sortCol _ _ _ cp ccap t.columns ccs HO1.out HO.out hl HNe.out).mono ?_
 rintro e w2 ⟨rfl, hg2⟩
 have HG2 := Qq hg2.bl
 have hsz2 : w.heap.size + 2 ≤ w2.heap.size := by have := hg2.bl.size; omega
 clear hg2
 go_wp2_with fail
 obtain ⟨W3, hW3⟩ := eX (w2.alloc (.cells #[.int .i64 5, .string ⟨#[]⟩, .int .i64 0, .slice none 0 0, .slice none 0 0] 70))
 rw [hW3]
 have hM0 : RowMid w w2.heap.size cp ccap t.columns 0 none 0 none 0 W3 := by
  have hb3 := eqB hW3 (Qo _ _)
  refine ⟨HB1.out.thn (HG2.out.thn hb3), hsz2, by rw [← hW3]; exact Qw _ _, ?_, ⟨[], Own.nil _ _ _ _ _⟩, ⟨[], Own.nil _ _ _ _ _⟩, ?_⟩
  ·rw [hb3.block _ (by omega), HG2.out.block _ (by omega)]; exact HR1.out
  refine (((HO1.out.sl (by omega) (S' := fun b => b ≠ w.heap.size + 1) (fun b hb => ?_) (fun b _ hb => ?_)).below HG2.out).mono (S' := fun b => b < w2.heap.size ∧ b ≠ w.heap.size + 1) (fun b hb h => ⟨hb, h⟩)).below hb3
  ·have h2 : w.heap.size + 2 ≤ b := by simpa using hb
   omega
  have h2 : b < w.heap.size := hb
  omega
 have HM0 := Qq hM0
 clear hM0 hW3
 obtain ⟨n, hn⟩ := eX (t.columns.length)
 rw [hn] at hl ⊢
 have HN := Qq hn
 clear hn
 generalize hG : w2.heap.size = G at HM0 hsz2 ⊢
 clear hG
 go_loopw [15] (fun i wr => ∃ (k : Nat) (np : Option Addr) (ncap : Nat) (kp : Option Addr) (kcap : Nat), k ≤ n ∧ i = .int .i64 k ∧ RowMid w G cp ccap t.columns k np ncap kp kcap wr) (fun i _ => n - (intOf i).toNat)
 case atStart => exact ⟨0, none, 0, none, 0, Q8 _, rfl, HM0.out⟩
 obtain ⟨k, np, ncap, kp, kcap, hkn, rfl, hM⟩ := hrel
 have HM := Qq hM
 have fr := fun j => frozen_of_row _ _ j _ _ hM.box
 have c0 := rA0 hM.box; have c1' := rA1 hM.box; have c2' := rA2 hM.box; have c3' := rA3 hM.box; have c4 := rA4 hM.box
 have hGlt := Qf hM.box
 by_cases hlt : k < n
 ·have hi1 : (0 : Int) ≤ (k : Int) := by omega
  have hi2 : (k : Int) < (n : Int) := by omega
  obtain ⟨x, hx⟩ : ∃ x, t.columns[k]? = some x := ⟨_, Qx (by rw [HN.out]; exact hlt)⟩
  obtain ⟨cb, coff, cc, rfl, hcb, hcbS, -, hvx, hcx⟩ := hM.cols.elem hx
  obtain ⟨tc, hcc, hxl, hty⟩ := hvx
  obtain ⟨m1, m2, m3, m4, m5, m6, m7, m8, m9, rfl⟩ := hty.cells
  subst hcc
  have d0 := hcx 0 _ rfl; have d1 := hcx 1 _ rfl; have d2 := hcx 2 _ rfl; have d3 := hcx 3 _ rfl; have d4 := hcx 4 _ rfl; have d5 := hcx 5 _ rfl
  simp only [show Yy.k = 6 from rfl, Nat.add_zero] at d0 d1 d2 d3 d4 d5
  unfold sv at d0
  have HX := Qq hx; have HTy := Qq hty
  clear hx hcx hty c0 c1' c2' c3' c4 fr hM
  go_upto_region 7 with fail
  obtain ⟨W4, hW4⟩ := eX (wr.alloc (.cells #[.string ⟨x.name.toArray⟩, .int .i64 m1, .string m2, .int .i64 m3, .slice m4 m5 m6, .slice m7 m8 m9] 78))
  rw [hW4]
  have hb4 := eqB hW4 (Qo _ _)
  have hsz4 : W4.heap.size = wr.heap.size + 1 := by rw [← hW4]; simp
  have hX4 := eqH (b := wr.heap.size) hW4 (Qw _ _)
  obtain ⟨ncs, hON⟩ := HM.out.names
  obtain ⟨kcs, hOK⟩ := HM.out.kids
  have hnl : ((t.columns.take k).map Col.name).length = k := by rw [List.length_map, List.length_take, HN.out]; omega
  have hkl : ((t.columns.take k).map Col.type).length = k := by rw [List.length_map, List.length_take, HN.out]; omega
  have hB4 := (hb4.block G hGlt).trans HM.out.box
  have c3 := Qk _ _ 3 _ _ _ hB4; have c4 := Qk _ _ 4 _ _ _ hB4; have f3 := fA 3 hB4
  have q0 := Qk _ _ 0 _ _ _ hX4
  simp only [List.getElem?_toArray, List.getElem?_cons_zero, List.getElem?_cons_succ] at c3 c4 q0
  have hON4 := hON.below hb4
  have hOK4 := hOK.below hb4
  have HW4 := Qq hb4; have HX4 := Qq hX4; have HB4 := Qq hB4; have HS4 := Qq hsz4; have HON := Qq hON4; have HOK := Qq hOK4; have HNL := Qq hnl; have HKL := Qq hkl
  clear hW4 hb4 hX4 hB4 hON hOK hON4 hOK4 hnl hkl d0 d1 d2 d3 d4 d5 hsz4
  go_upto_region 8 with (at_builtin; refine Zm (r := Qp) (by decide) rfl (.tmp 20) (.tmp 23) _ rfl 9 i9 (.string ⟨#[]⟩) 16 underlying30 HJ.out HJ2.out HJ3.out HJ4.out rfl (by omega) (fun b => b < G ∧ b ≠ w.heap.size + 1) (G + 1) W4 (.slice np k ncap) ((t.columns.take k).map Col.name) ncs [.string ⟨x.name.toArray⟩] x.name rfl HON.out rfl ⟨rfl, hxl⟩ (by simp [Value.oneCell']) k HNL.out (by omega) (by have := HS4.out; omega) ?_; intro p5 cap5 css5 w5 hO5 hL5; have HO5 := Qq hO5; have HL5 := Qq hL5; have hB5 := (hL5.other G (by have := HS4.out; omega) (fun e => by have := (HON.out.row.lt G e.symm).1; omega)).trans HB4.out; have f35 := fA 3 hB5; have c35 := rA3 hB5; have HB5 := Qq hB5; clear hO5 hL5 hB5)
  obtain ⟨W6, hW6⟩ := eX (w5.setCell ⟨G, 3, none⟩ (.slice p5 (k + 1) cap5))
  rw [hW6]
  have hne6 : ∀ b, b ≠ G → W6.heap[b]? = w5.heap[b]? := by intro b hb; rw [← hW6]; exact Qg hb
  have hsz6 : W6.heap.size = w5.heap.size := by rw [← hW6]; simp [World.setCell]
  have hB6 : W6.heap[G]? = some (.cells #[.int .i64 5, .string ⟨#[]⟩, .int .i64 0, .slice p5 (k + 1) cap5, .slice kp k kcap] 70 (0, 0)) := by rw [← hW6, heap_setCell_same _ _ _ _ _ _ HB5.out]; rfl
  have hXne : ∀ g, (Value.slice np k ncap).ownBlock = some g → wr.heap.size ≠ g := fun g hg e => by
   obtain ⟨_, h⟩ := HM.out.names
   have := (h.row.lt g hg).2
   omega
  have hX6 : W6.heap[wr.heap.size]? = some (.cells #[.string ⟨x.name.toArray⟩, .int .i64 m1, .string m2, .int .i64 m3, .slice m4 m5 m6, .slice m7 m8 m9] 78 (0, 0)) := by
   rw [hne6 _ (by omega), HL5.out.other _ (by have := HS4.out; omega) (fun e => hXne _ e.symm rfl)]; exact HX4.out
  have keep : ∀ b, b < wr.heap.size → some b ≠ (Value.slice np k ncap).ownBlock → b ≠ G → W6.heap[b]? = wr.heap[b]? := fun b hb hne hbG => by
   rw [hne6 b hbG, HL5.out.other b (by have := HS4.out; omega) hne]; exact HW4.out.block b hb
  obtain ⟨_, hONr⟩ := HM.out.names
  obtain ⟨kcs', hOKr⟩ := HM.out.kids
  have hOK6 : Own Vs 70 (fun b => b < G ∧ b ≠ w.heap.size + 1) (G + 1) W6 (.slice kp k kcap) ((t.columns.take k).map Col.type) kcs' := hOKr.move (Q9 _) (fun b hb h => by
   rcases h with h | h
   ·exact keep b hb (fun e => by have := (hONr.row.lt b e.symm).1; omega) (by omega)
   exact keep b hb (fun e => Yz hOKr.row hONr.row (by decide) h e.symm) (by have := (hOKr.row.lt b h).1; omega))
  have hON6 : Own Qp 9 (fun b => b < G ∧ b ≠ w.heap.size + 1) (G + 1) W6 (.slice p5 (k + 1) cap5) ((t.columns.take k).map Col.name ++ [x.name]) css5 := HO5.out.move (Q9 _) (fun b _ h => hne6 b (by
   rcases h with h | h
   ·omega
   have := (HO5.out.row.lt b h).1; omega))
  have hTy6 : Vs.R (But (fun b => b < G ∧ b ≠ w.heap.size + 1) (.slice kp k kcap)) W6 [.int .i64 m1, .string m2, .int .i64 m3, .slice m4 m5 m6, .slice m7 m8 m9] x.type := by
   refine Y5.move HTy.out (fun b hb hlt => keep b hlt (fun e => by have := (hONr.row.lt b e.symm).1; omega) (by omega)) (fun b _ hb => ⟨hb, fun e => ?_⟩)
   have := (hOKr.row.lt b e.symm).1
   omega
  have hsz5 := HL5.out.size
  have g4 := Qk _ _ 4 _ _ _ hB6; have fz4 := fA 4 hB6
  have y1 := Qk _ _ 1 _ _ _ hX6; have y2 := Qk _ _ 2 _ _ _ hX6; have y3 := Qk _ _ 3 _ _ _ hX6; have y4 := Qk _ _ 4 _ _ _ hX6; have y5 := Qk _ _ 5 _ _ _ hX6
  simp only [List.getElem?_toArray, List.getElem?_cons_zero, List.getElem?_cons_succ] at g4 y1 y2 y3 y4 y5
  have HK6 := Qq keep; have HOK6 := Qq hOK6; have HON6 := Qq hON6; have HTy6 := Qq hTy6; have HB6 := Qq hB6; have HS6 := Qq hsz6; have HS5 := Qq hsz5
  have hbel6 : Below w.heap.size w W6 := HM.out.below.trans (by
   have h1 := HW4.out.mono HM.out.below.size
   have h2 := (HL5.out.below.mono (show w.heap.size ≤ G + 1 by omega))
   have h3 := (h1.trans h2).setCell (p := ⟨G, 3, none⟩) (show w.heap.size ≤ G by omega) (.slice p5 (k + 1) cap5)
   rwa [hW6] at h3)
  have HBel6 := Qq hbel6
  clear hW6 hne6 hsz6 hB6 hXne hX6 keep hONr hOKr hOK6 hON6 hTy6 hsz5 c3 c4 f3 q0 f35 c35 hbel6
  go_wp2_with (at_builtin; refine Zm (r := Vs) (by decide) rfl (.tmp 27) (.tmp 30) _ rfl 70 i46 (.agg zY) 80 underlying68 HL.out HL2.out HL3.out HL4.out rfl (by omega) (fun b => b < G ∧ b ≠ w.heap.size + 1) (G + 1) W6 (.slice kp k kcap) ((t.columns.take k).map Col.type) kcs' [.int .i64 m1, .string m2, .int .i64 m3, .slice m4 m5 m6, .slice m7 m8 m9] x.type rfl HOK6.out rfl HTy6.out (by simp [Value.oneCell']) k HKL.out (by omega) (by have := HS6.out; have := HS5.out; have := HS4.out; omega) ?_; intro p7 cap7 css7 w7 hO7 hL7; have HO7 := Qq hO7; have HL7 := Qq hL7; have hB7 := (hL7.other G (by have := HS6.out; have := HS5.out; have := HS4.out; omega) (fun e => by have := (HOK6.out.row.lt G e.symm).1; omega)).trans HB6.out; have f47 := fA 4 hB7; have c47 := rA4 hB7; have HB7 := Qq hB7; clear hO7 hL7 hB7)
  go_roundw
  case measure => simp [intOf]; omega
  case rel =>
   have htn : (t.columns.take (k + 1)).map Col.name = (t.columns.take k).map Col.name ++ [x.name] := by
    obtain ⟨hk', rfl⟩ := Qj HX.out
    rw [List.take_succ_eq_append_getElem hk', List.map_append]; rfl
   have htk : (t.columns.take (k + 1)).map Col.type = (t.columns.take k).map Col.type ++ [x.type] := by
    obtain ⟨hk', rfl⟩ := Qj HX.out
    rw [List.take_succ_eq_append_getElem hk', List.map_append]; rfl
   have hG2 := HM.out.hG
   obtain ⟨_, hONr⟩ := HM.out.names
   have e6 := HS6.out
   have e5 := HS5.out
   have e4 := HS4.out
   have k7 : ∀ b, b < W6.heap.size → some b ≠ (Value.slice kp k kcap).ownBlock → b ≠ G → (w7.setCell ⟨G, 4, none⟩ (.slice p7 (k + 1) cap7)).heap[b]? = W6.heap[b]? := fun b hb hne hbG => by
    rw [Qg hbG, HL7.out.other b hb hne]
   have kall : ∀ b, b < G → (w7.setCell ⟨G, 4, none⟩ (.slice p7 (k + 1) cap7)).heap[b]? = wr.heap[b]? := fun b hb => by
    rw [k7 b (by omega) (fun e => by have := (HOK6.out.row.lt b e.symm).1; omega) (by omega), HK6.out b (by omega) (fun e => by have := (hONr.row.lt b e.symm).1; omega) (by omega)]
   refine ⟨k + 1, p5, cap5, p7, cap7, by omega, by go_num, ⟨(HBel6.out.trans (HL7.out.below.mono (by omega))).setCell (p := ⟨G, 4, none⟩) (show w.heap.size ≤ G by omega) _, hG2, ?_, ?_, ⟨css5, ?_⟩, ⟨css7, ?_⟩, ?_⟩⟩
   ·rw [heap_setCell_same _ _ _ _ _ _ HB7.out]; rfl
   ·rw [kall _ (by omega)]; exact HM.out.res
   ·rw [htn]
    refine HON6.out.move (Q9 _) (fun b hb h => ?_)
    rcases h with h | h
    ·have h' : b < G := h.1
     exact k7 b hb (fun e => by have := (HOK6.out.row.lt b e.symm).1; omega) (by omega)
    have h' := (HON6.out.row.lt b h).1
    exact k7 b hb (fun e => Yz HON6.out.row HOK6.out.row (by decide) h e.symm) (by omega)
   ·rw [htk]
    refine HO7.out.move (Q9 _) (fun b _ h => Qg ?_)
    rcases h with h | h
    ·have h' : b < G := h.1
     show b ≠ G
     omega
    have h' := (HO7.out.row.lt b h).1
    show b ≠ G
    omega
   exact HM.out.cols.frame (fun b hb _ => kall b hb.1)
 have hkn' : k = n := by omega
 subst hkn'
 have r0 := Qk _ _ 0 _ _ _ hM.res
 have fz := fun j => frozen_of_row _ _ j _ _ hM.res
 have rr := fun j => Qk _ _ j _ _ _ hM.res
 have fz0 := fz 0; have fz1 := fz 1; have fz2 := fz 2; have fz3 := fz 3; have fz4 := fz 4
 have rr0 := rr 0; have rr1 := rr 1; have rr2 := rr 2; have rr3 := rr 3; have rr4 := rr 4
 simp only [List.getElem?_toArray, List.getElem?_cons_zero, List.getElem?_cons_succ] at rr0 rr1 rr2 rr3 rr4
 have hG2 := hM.hG
 clear fr fz rr hM r0
 go_wp2_with fail
 show bodyPost _ _ _ _ _ (Zz wr _ _ _ _ _ _)
 refine Q7 (v := .agg #[.int .i64 5, .string ⟨#[]⟩, .int .i64 0, .slice np k ncap, .slice kp k kcap]) (by simp [results, results86, go_sem, Qm HM.out.res]) rfl ⟨_, rfl, ?_, Qn HM.out.below (by omega)⟩
 obtain ⟨ncs, hON⟩ := HM.out.names
 obtain ⟨kcs, hOK⟩ := HM.out.kids
 rw [List.take_of_length_le (by have := HN.out; omega)] at hON hOK
 refine Ug (s := []) (by simp) ?_ ?_
 ·refine ((hON.sl (by rw [List.length_map]; have := HN.out; omega) (S' := fun b => b ≠ w.heap.size + 1) (fun b hb => ?_) (fun b _ hb => hb.2)).frame (fun b hb _ => Qt hb)).mono (fun _ _ _ => trivial)
  omega
 refine ((hOK.sl (by rw [List.length_map]; have := HN.out; omega) (S' := fun b => b ≠ w.heap.size + 1) (fun b hb => ?_) (fun b _ hb => hb.2)).frame (fun b hb _ => Qt hb)).mono (fun _ _ _ => trivial)
 omega
theorem Mm (c lo hi : Int) (w : World) : Calls prog 256 #[.int .u8 c, .int .u8 lo, .int .u8 hi] w fun e w' => e = .returned (.bool (decide (lo ≤ c) && decide (c ≤ hi))) ∧ w = w' := by
 go_enter func256, ntmps256
 go_wp2
 all_goals (go_ret; exact ⟨by simp [*] <;> omega, rfl⟩)
theorem Br (a b : UInt8) : decide (a ≤ b) = decide ((a.toNat : Int) ≤ (b.toNat : Int)) := by
 simp [UInt8.le_iff_toNat_le]
theorem Li (c : UInt8) : E8 c = (decide ((48 : Int) ≤ (c.toNat : Int)) && decide ((c.toNat : Int) ≤ 57)) := by
 unfold E8; rw [Br, Br]; rfl
theorem Kw (c : UInt8) : Jr c = (decide ((97 : Int) ≤ (c.toNat : Int)) && decide ((c.toNat : Int) ≤ 122)) := by
 unfold Jr; rw [Br, Br]; rfl
theorem Fa (c : UInt8) : Gj c = (decide ((65 : Int) ≤ (c.toNat : Int)) && decide ((c.toNat : Int) ≤ 90)) := by
 unfold Gj; rw [Br, Br]; rfl
theorem Bb (c : UInt8) (w : World) : Calls prog 245 #[.int .u8 c.toNat] w fun e w' => e = .returned (.bool (E8 c)) ∧ w = w' := by
 rw [Li]
 go_enter func245, ntmps245
 go_wp2_with (go_at_call 256; refine (Mm _ _ _ _).mono ?_; rintro e w' ⟨rfl, rfl⟩)
 go_ret
 exact ⟨rfl, rfl⟩
theorem J7 (c : UInt8) (w : World) : Calls prog 240 #[.int .u8 c.toNat] w fun e w' => e = .returned (.bool (Jr c)) ∧ w = w' := by
 rw [Kw]
 go_enter func240, ntmps240
 go_wp2_with (go_at_call 256; refine (Mm _ _ _ _).mono ?_; rintro e w' ⟨rfl, rfl⟩)
 go_ret
 exact ⟨rfl, rfl⟩
theorem Bc (c : UInt8) (w : World) : Calls prog 243 #[.int .u8 c.toNat] w fun e w' => e = .returned (.bool (Gj c)) ∧ w = w' := by
 rw [Fa]
 go_enter func243, ntmps243
 go_wp2_with (go_at_call 256; refine (Mm _ _ _ _).mono ?_; rintro e w' ⟨rfl, rfl⟩)
 go_ret
 exact ⟨rfl, rfl⟩
theorem B6 (a b : UInt8) : (a == b) = ((a.toNat : Int) == (b.toNat : Int)) := by
 rw [Bool.eq_iff_iff, beq_iff_eq, beq_iff_eq, ← UInt8.toNat_inj]; omega
theorem Kx (c : UInt8) : Lq c = ((c.toNat : Int) == 9 || (c.toNat : Int) == 10 || (c.toNat : Int) == 13 || (c.toNat : Int) == 32) := by
 unfold Lq; rw [B6, B6, B6, B6]; rfl
theorem Ba (c : UInt8) (w : World) : Calls prog 239 #[.int .u8 c.toNat] w fun e w' => e = .returned (.bool (Lq c)) ∧ w = w' := by
 rw [Kx]
 go_enter func239, ntmps239
 go_wp2
 all_goals (go_ret; exact ⟨by simp [*], rfl⟩)
theorem Ln (c : UInt8) (w : World) : Calls prog 241 #[.int .u8 c.toNat] w fun e w' => e = .returned (.bool (Js c)) ∧ w = w' := by
 have h : Js c = (Jr c || E8 c || ((c.toNat : Int) == 95)) := by unfold Js; rw [B6]; rfl
 rw [h]
 go_enter func241, ntmps241
 go_wp2_with (first | (go_at_call 240; refine (J7 _ _).mono ?_; rintro e w' ⟨rfl, rfl⟩) | (go_at_call 245; refine (Bb _ _).mono ?_; rintro e w' ⟨rfl, rfl⟩))
 all_goals (go_ret; exact ⟨by simp [*], rfl⟩)
theorem L9 (c : UInt8) (w : World) : Calls prog 244 #[.int .u8 c.toNat] w fun e w' => e = .returned (.bool (Fj c)) ∧ w = w' := by
 unfold Fj
 go_enter func244, ntmps244
 go_wp2_with (first | (go_at_call 240; refine (J7 _ _).mono ?_; rintro e w' ⟨rfl, rfl⟩) | (go_at_call 245; refine (Bb _ _).mono ?_; rintro e w' ⟨rfl, rfl⟩) | (go_at_call 243; refine (Bc _ _).mono ?_; rintro e w' ⟨rfl, rfl⟩))
 all_goals (go_ret; exact ⟨by simp [*], rfl⟩)
def svs (ls : List Bs) : List Value := ls.map sv
def Xd (w : World) : Prop := w.rangeAt 5 0 (svs kws)
theorem D7 (l : Bs) : bl ⟨l.toArray⟩ = l := rfl
theorem N2 (s : ByteArray) (n : Nat) (h : n < s.size) : (bl s)[n]? = some s[n] := by
 simp only [bl, Array.getElem?_toList]
 exact Array.getElem?_eq_getElem h
theorem bl_len (s : ByteArray) : (bl s).length = s.size := Array.length_toList
theorem Nu {p : UInt8 → Bool} {s : ByteArray} {n : Nat} (hn : n ≤ tk p (bl s)) (h : n < s.size) (hp : p s[n] = true) : n + 1 ≤ tk p (bl s) := by
 rcases Nat.lt_or_ge n (tk p (bl s)) with h' | h'
 ·omega
 have e : tk p (bl s) = n := by omega
 have := O2 (p := p) (l := bl s) (c := s[n]) (by rw [e]; exact N2 s n h)
 rw [hp] at this; cases this
theorem tk_end {p : UInt8 → Bool} {s : ByteArray} {n : Nat} (hn : n ≤ tk p (bl s)) (h : n < s.size) (hp : p s[n] = false) : tk p (bl s) = n := by
 rcases Nat.lt_or_ge n (tk p (bl s)) with h' | h'
 ·have := Eu h' (N2 s n h); rw [hp] at this; cases this
 omega
theorem tk_out {p : UInt8 → Bool} {s : ByteArray} {n : Nat} (hn : n ≤ tk p (bl s)) (h : ¬ n < s.size) : tk p (bl s) = n := by
 have := tk_le p (bl s); rw [bl_len] at this; omega
theorem Ul {k : IntKind} {a b : Int} (h : a = b) : Ending.returned (.int k a) = .returned (.int k b) := by rw [h]
theorem run_word (s : ByteArray) (w : World) (hs : s.size ≤ maxLen) :
  Calls prog 229 #[.string s, .func (.func 241) #[] #[]] w fun e w' => e = .returned (.int .i64 (tk Js (bl s))) ∧ w = w' := by
 unfold maxLen at hs
 go_enter func229, ntmps229
 go_wp2
 go_loop [5] (fun i => ∃ k : Nat, k ≤ tk Js (bl s) ∧ i = .int .i64 k) (fun i => s.size - (intOf i).toNat)
 case atStart => exact ⟨0, Q8 _, rfl⟩
 obtain ⟨n, hn, rfl⟩ := hrel
 have HN := Qq hn; clear hn
 by_cases hlt : n < s.size
 ·by_cases hp : Js s[n] = true
  ·have HM := Qq (Nu HN.out hlt hp)
   go_wp2_with (go_at_call 241; refine (Ln _ _).mono ?_; rintro e w' ⟨rfl, rfl⟩)
   go_round
   case rel => exact ⟨n + 1, HM.out, by go_num⟩
   case measure => simp [intOf]; omega
  have hp' : Js s[n] = false := by simpa using hp
  have HM := Qq (tk_end HN.out hlt hp'); clear hp
  go_wp2_with (go_at_call 241; refine (Ln _ _).mono ?_; rintro e w' ⟨rfl, rfl⟩)
  go_ret
  exact ⟨Ul (by rw [HM.out]), rfl⟩
 have HM := Qq (tk_out HN.out hlt)
 go_wp2
 go_ret
 exact ⟨Ul (by rw [HM.out]), rfl⟩
theorem run_name (s : ByteArray) (w : World) (hs : s.size ≤ maxLen) :
  Calls prog 229 #[.string s, .func (.func 244) #[] #[]] w fun e w' => e = .returned (.int .i64 (tk Fj (bl s))) ∧ w = w' := by
 unfold maxLen at hs
 go_enter func229, ntmps229
 go_wp2
 go_loop [5] (fun i => ∃ k : Nat, k ≤ tk Fj (bl s) ∧ i = .int .i64 k) (fun i => s.size - (intOf i).toNat)
 case atStart => exact ⟨0, Q8 _, rfl⟩
 obtain ⟨n, hn, rfl⟩ := hrel
 have HN := Qq hn; clear hn
 by_cases hlt : n < s.size
 ·by_cases hp : Fj s[n] = true
  ·have HM := Qq (Nu HN.out hlt hp)
   go_wp2_with (go_at_call 244; refine (L9 _ _).mono ?_; rintro e w' ⟨rfl, rfl⟩)
   go_round
   case rel => exact ⟨n + 1, HM.out, by go_num⟩
   case measure => simp [intOf]; omega
  have hp' : Fj s[n] = false := by simpa using hp
  have HM := Qq (tk_end HN.out hlt hp'); clear hp
  go_wp2_with (go_at_call 244; refine (L9 _ _).mono ?_; rintro e w' ⟨rfl, rfl⟩)
  go_ret
  exact ⟨Ul (by rw [HM.out]), rfl⟩
 have HM := Qq (tk_out HN.out hlt)
 go_wp2
 go_ret
 exact ⟨Ul (by rw [HM.out]), rfl⟩
theorem Ji (f g : Nat → Bool) : ∀ (n lo hi : Nat), (∀ t, t < hi → f t = g t) → Lib.bsGo f n lo hi = Lib.bsGo g n lo hi
 | 0, _, _, _ => rfl
 | n + 1, lo, hi, h => by
  unfold Lib.bsGo
  by_cases hl : lo < hi
  ·rw [if_pos hl, if_pos hl, h ((lo + hi) / 2) (by omega), Ji f g n _ hi h, Ji f g n lo _ (fun t ht => h t (by omega))]
  rw [if_neg hl, if_neg hl]
theorem Vd : ∀ (x y : List UInt8), Op.bytesLess x y = decide (x < y)
 | [], [] => by simp [Op.bytesLess]
 | _ :: _, [] => by simp [Op.bytesLess]
 | [], _ :: _ => by simp [Op.bytesLess]
 | a :: x, b :: y => by
  rw [Op.bytesLess, Vd x y]
  simp only [List.cons_lt_cons_iff]
  by_cases h1 : a < b <;> by_cases h2 : a = b <;> by_cases h3 : x < y <;> simp [h1, h2, h3]
theorem split_at (f : Nat → Bool) (n : Nat) (hd : ∀ i j, i < j → j < n → f j = true → f i = true) : ∃ k, k ≤ n ∧ (∀ t, t < k → f t = true) ∧ (∀ t, k ≤ t → t < n → f t = false) := by
 induction n with
 | zero => exact ⟨0, Q9 _, fun t h => by omega, fun t _ h => by omega⟩
 | succ n ih =>
  obtain ⟨k, h1, h2, h3⟩ := ih (fun i j hij hj => hd i j hij (by omega))
  cases hn : f n with
  | true => exact ⟨n + 1, Q9 _, fun t ht => by
    by_cases e : t = n
    ·rw [e]; exact hn
    exact hd t n (by omega) (by omega) hn, fun t _ _ => by omega⟩
  | false => exact ⟨k, by omega, h2, fun t ht htn => by
    by_cases e : t = n
    ·rw [e]; exact hn
    exact h3 t ht (by omega)⟩
theorem bs_ok (S : Nat → Bs) (n : Nat) (x : Bs) (hs : ∀ i j, i < j → j < n → S i < S j) (k : Nat) (hk : Lib.bsGo (fun t => Op.bytesLess (S t) x) n 0 n = k) :
  (k < n ∧ S k = x) ↔ ∃ t, t < n ∧ S t = x := by
 obtain ⟨k0, h1, h2, h3⟩ := split_at (fun t => Op.bytesLess (S t) x) n (fun i j hij hj h => by
  simp only [Vd, decide_eq_true_eq] at h ⊢
  exact List.lt_trans (hs i j hij hj) h)
 have e : Lib.bsGo (fun t => Op.bytesLess (S t) x) n 0 n = k0 := by
  rw [Ji _ (fun t => decide (t < n) && Op.bytesLess (S t) x) n 0 n (fun t ht => by simp [ht])]
  exact Lib.bsGo_spec _ k0 (fun t ht => by simp [show t < n by omega, h2 t ht]) (fun t ht => by
   by_cases htn : t < n
   ·simp [h3 t ht htn]
   simp [htn]) n 0 n (by omega) (by omega) h1
 rw [hk] at e; subst e
 constructor
 ·rintro ⟨a, b⟩; exact ⟨k, a, b⟩
 rintro ⟨t, ht, rfl⟩
 have hkt : k = t := by
  rcases Nat.lt_trichotomy k t with h | h | h
  ·have := h3 k (Q9 _) (by omega)
   simp only [Vd, decide_eq_false_iff_not] at this
   exact absurd (hs k t h ht) this
  ·exact h
  have := h2 t h
  simp only [Vd, decide_eq_true_eq] at this
  exact absurd this (List.lt_irrefl _)
 subst hkt; exact ⟨ht, rfl⟩
theorem Ng : ∀ i j, i < j → j < 26 → kws.getD i [] < kws.getD j [] := by
 have : ∀ j, j < 26 → ∀ i, i < j → kws.getD i [] < kws.getD j [] := by decide
 exact fun i j h1 h2 => this j h2 i h1
theorem isKw_iff (x : Bs) : Ds x = true ↔ ∃ t, t < 26 ∧ kws.getD t [] = x := by
 have hl : kws.length = 26 := rfl
 unfold Ds
 rw [List.contains_iff_mem]
 constructor
 ·intro h
  obtain ⟨j, hj, e⟩ := List.getElem_of_mem h
  exact ⟨j, by omega, by rw [List.getD_eq_getElem?_getD, Qx hj]; exact e⟩
 rintro ⟨t, ht, e⟩
 rw [List.getD_eq_getElem?_getD, Qx (by omega)] at e
 rw [← e]; exact Qd _
theorem ba_ext {a b : ByteArray} : a = b ↔ bl a = bl b := by
 constructor
 ·rintro rfl; rfl
 intro h
 apply ByteArray.ext
 exact Array.toList_inj.1 h
theorem Pl (s : ByteArray) (w : World) (hT : Xd w) (c : Nat) :
  Calls prog 193 #[.slice (some ⟨5, 0, none⟩) 26 c, .string s] w fun e w' => (∃ n : Int, e = .returned (.tuple #[.int .i64 n, .bool (Ds (bl s))])) ∧ ∃ q, w' = w.drewN q := by
 refine (Any2.slices_BinarySearch_string Tryz.laysBS 5 0 26 c (fun t => ⟨(kws.getD t []).toArray⟩) s w (by omega) (fun j hj => ?_)).mono ?_
 ·have hl : kws.length = 26 := rfl
  refine hT j _ ?_
  simp only [svs, List.getElem?_map, Qx (show j < kws.length by omega), Option.map_some, List.getD_eq_getElem?_getD, Option.getD_some]
  rfl
 rintro e w' ⟨rfl, hq⟩
 refine ⟨⟨((Lib.bsGo (fun t => Op.bytesLess (ByteArray.toList ⟨(kws.getD t []).toArray⟩) s.toList) 26 0 26 : Nat) : Int), ?_⟩, hq⟩
 simp only [ByteArray.toList_mk]
 rw [Lib.toList_data]
 have := bs_ok (fun t => kws.getD t []) 26 (bl s) Ng _ rfl
 congr 6
 rw [Bool.eq_iff_iff, decide_eq_true_iff, isKw_iff, ← this]
 simp only [ba_ext, D7]
theorem Gs (s : ByteArray) (w : World) (hT : Xd w) :
  Calls prog 242 #[.string s] w fun e w' => e = .returned (.bool (Ds (bl s))) ∧ ∃ q, w' = w.drewN q := by
 have HK := Qq (fun c => Pl s w hT c)
 go_enter func242, ntmps242
 go_wp2_with (go_at_call 193; refine (HK.out _).mono ?_; rintro e w' ⟨⟨n, rfl⟩, q, rfl⟩)
 go_ret
 exact ⟨rfl, _, rfl⟩
end Go.Proofs.YtppbaladeefnkaaGreatDoor

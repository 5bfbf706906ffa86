import Derived.Test.YtppbaladeefnkaaGreatDoorU01
set_option maxRecDepth 100000
set_option maxHeartbeats 400000000
namespace Go.Proofs.YtppbaladeefnkaaGreatDoor
open Go.RowKit
theorem Fm (x : ByteArray) (w : World) : Calls Tryz.prog 171 #[.string x] w fun e w' => e = .returned (.bool false) ∧ w = w' := by
 go_enter Tryz.func171, Tryz.ntmps171
 go_wp2
 go_ret
 exact ⟨by simp, rfl⟩
theorem Xq (a b : Bs) : Op.bytesLess a b = decide (Zg a b < 0) ∧ ((a == b) = decide (Zg a b = 0)) ∧ (Zg a b = -1 ∨ Zg a b = 0 ∨ Zg a b = 1) := by
 induction a generalizing b with
 | nil => cases b <;> simp [Op.bytesLess, Zg]
 | cons x s ih =>
  cases b with
  | nil => simp [Op.bytesLess, Zg]
  | cons y t =>
   obtain ⟨i1, i2, i3⟩ := ih t
   have h1 : x < y ↔ (x.toNat : Int) < y.toNat := by rw [UInt8.lt_iff_toNat_lt]; omega
   have h2 : y < x ↔ (y.toNat : Int) < x.toNat := by rw [UInt8.lt_iff_toNat_lt]; omega
   have he : x = y ↔ (x.toNat : Int) = y.toNat := ⟨fun h => by rw [h], fun h => UInt8.toNat_inj.1 (by omega)⟩
   simp only [Op.bytesLess, Zg, List.cons_beq_cons]
   by_cases a1 : x < y
   ·have e : ord x.toNat y.toNat = -1 := by unfold ord; rw [if_pos (h1.1 a1)]
    have hne : (x == y) = false := by rw [← Bool.not_eq_true, beq_iff_eq, he]; have := h1.1 a1; omega
    simp [e, thn, a1, hne]
   by_cases a2 : y < x
   ·have e : ord x.toNat y.toNat = 1 := by unfold ord; rw [if_neg (fun h => a1 (h1.2 h)), if_pos (h2.1 a2)]
    have hne : (x == y) = false := by rw [← Bool.not_eq_true, beq_iff_eq, he]; have := h2.1 a2; omega
    simp [e, thn, a1, hne]
   have n1 : ¬ ((x.toNat : Int) < y.toNat) := fun h => a1 (h1.2 h)
   have n2 : ¬ ((y.toNat : Int) < x.toNat) := fun h => a2 (h2.2 h)
   have hxy : x = y := by rw [he]; omega
   subst hxy
   simp [Vv, thn, i1, i2, i3]
theorem J6 (x : ByteArray) : x.toList = bl x := Lib.toList_data x
theorem R1 (x y : ByteArray) (w : World) : Calls Tryz.prog 133 #[.string x, .string y] w fun e w' => e = .returned (.int .i64 (Zg (bl x) (bl y))) ∧ w = w' := by
 obtain ⟨h1, h2, h3⟩ := Xq (bl x) (bl y)
 obtain ⟨g1, g2, g3⟩ := Xq (bl y) (bl x)
 have ha : Zg (bl x) (bl y) = - Zg (bl y) (bl x) := by
  have := X8 (bl x) (bl y) [] []
  have h := X8 (bl y) (bl x) [] []
  simp only [List.append_nil, lex, U7] at this h
  rw [← this, ← h]; exact Jv _ _
 rw [← J6 x, ← J6 y] at h1 h2 h3 g1 g2 g3 ha ⊢
 obtain ⟨c, hc⟩ := eX (Zg x.toList y.toList)
 rw [hc] at h1 h2 h3 ha ⊢
 have HC := Qq hc
 clear hc ha g1 g2 g3
 rcases h3 with h3 | h3 | h3 <;> subst h3
 ·have k1 : Op.bytesLess x.toList y.toList = true := h1.trans (by decide)
  have k2 : (x.toList == y.toList) = false := h2.trans (by decide)
  clear h1 h2
  go_enter Tryz.func133, Tryz.ntmps133
  go_wp2_with (go_at_call 171; refine (Fm _ _).mono ?_; rintro e w' ⟨rfl, rfl⟩)
  go_ret
  exact ⟨rfl, rfl⟩
 ·have k1 : Op.bytesLess x.toList y.toList = false := h1.trans (by decide)
  have k2 : (x.toList == y.toList) = true := h2.trans (by decide)
  clear h1 h2
  go_enter Tryz.func133, Tryz.ntmps133
  go_wp2_with (go_at_call 171; refine (Fm _ _).mono ?_; rintro e w' ⟨rfl, rfl⟩)
  go_ret
  exact ⟨rfl, rfl⟩
 have k1 : Op.bytesLess x.toList y.toList = false := h1.trans (by decide)
 have k2 : (x.toList == y.toList) = false := h2.trans (by decide)
 clear h1 h2
 go_enter Tryz.func133, Tryz.ntmps133
 go_wp2_with (go_at_call 171; refine (Fm _ _).mono ?_; rintro e w' ⟨rfl, rfl⟩)
 go_ret
 exact ⟨rfl, rfl⟩
theorem Sl.str {S : Nat → Prop} {w : World} {p : Option Addr} {n cap : Nat} {xs : List Bs} (h : Sl Qp S w (.slice p n cap) xs) {i : Nat} {x : Bs} (hx : xs[i]? = some x) :
  ∃ b off, p = some ⟨b, off, none⟩ ∧ w.cell? ⟨b, off + i, none⟩ = some (.string ⟨x.toArray⟩) ∧ x.length ≤ 1000000 := by
 obtain ⟨p', c', h1, _, h3⟩ := h
 simp only [Value.slice.injEq] at h1
 obtain ⟨rfl, _, _⟩ := h1
 obtain ⟨b, off, e, _, _, hc⟩ := h3 (by intro e; subst e; simp at hx)
 obtain ⟨cs, h4, h5, h6⟩ := hc i x hx
 refine ⟨b, off, e, ?_, h6⟩
 have := h4 0 (sv x) (by rw [h5]; rfl)
 rwa [Nat.add_zero, show Qp.k = 1 from rfl, Nat.mul_one] at this
theorem cmpN_any (S : Nat → Prop) (av bv : Value) (a b : List Bs) (w : World) (ha : Sl Qp S w av a) (hb : Sl Qp S w bv b) :
  Calls Tryz.prog 100 #[av, bv] w fun e w' => e = .returned (.int .i64 (U4 a b)) ∧ w = w' := by
 obtain ⟨pa, ca, rfl, hla⟩ := ha.len
 obtain ⟨pb, cb, rfl, hlb⟩ := hb.len
 have HA := Qq ha; have HB := Qq hb
 obtain ⟨r, hr⟩ := eX (U4 a b)
 rw [hr]
 have HR := Qq hr
 clear ha hb hr
 go_enter Tryz.func100, Tryz.ntmps100
 go_wp2_with fail
 go_loop [11] (fun i => ∃ k : Nat, k ≤ a.length ∧ k ≤ b.length ∧ i = .int .i64 k ∧ U4 (a.drop k) (b.drop k) = r) (fun i => a.length - (intOf i).toNat)
 case atStart => exact ⟨0, Q8 _, Q8 _, rfl, HR.out⟩
 obtain ⟨k, hka, hkb, rfl, hc⟩ := hrel
 by_cases hlt : k < a.length
 ·obtain ⟨x, hx⟩ : ∃ x, a[k]? = some x := ⟨_, Qx hlt⟩
  have hda : a.drop k = x :: a.drop (k + 1) := by
   rw [List.drop_eq_getElem_cons hlt]; rw [Qx hlt] at hx; cases hx; rfl
  obtain ⟨ga, oa, rfl, c1, l1⟩ := HA.out.str hx
  by_cases hlb2 : k < b.length
  ·obtain ⟨y, hy⟩ : ∃ y, b[k]? = some y := ⟨_, Qx hlb2⟩
   have hdb : b.drop k = y :: b.drop (k + 1) := by
    rw [List.drop_eq_getElem_cons hlb2]; rw [Qx hlb2] at hy; cases hy; rfl
   obtain ⟨gb, ob, rfl, c2, l2⟩ := HB.out.str hy
   rw [hda, hdb] at hc
   have HS := Qq (R1 ⟨x.toArray⟩ ⟨y.toArray⟩)
   have hxy : Zg (bl ⟨x.toArray⟩) (bl ⟨y.toArray⟩) = Zg x y := rfl
   rw [hxy] at HS
   have hc' : thn (Zg x y) (U4 (a.drop (k + 1)) (b.drop (k + 1))) = r := hc
   generalize Zg x y = c at HS hc'
   have hi1 : (0 : Int) ≤ (k : Int) := by omega
   have hi2 : (k : Int) < a.length := by omega
   have hi3 : (k : Int) < b.length := by omega
   have hq : decide (b.length ≤ k) = false := by simp; omega
   by_cases hc0 : c = 0
   ·subst hc0
    have HC := Qq hc'
    clear hc hc' hda hdb hx hy hxy
    go_wp2_with (go_at_call 133; refine (HS.out _).mono ?_; rintro e w' ⟨rfl, rfl⟩)
    go_round
    case rel => exact ⟨k + 1, by omega, by omega, by go_num, HC.out⟩
    case measure => simp [intOf]; omega
   have hq2 : (c != 0) = true := by rw [bne_iff_ne]; exact hc0
   have hcr : c = r := by rw [← hc']; unfold thn; rw [if_neg hc0]
   subst hcr
   clear hc hc' hda hdb hx hy hxy hc0
   go_wp2_with (go_at_call 133; refine (HS.out _).mono ?_; rintro e w' ⟨rfl, rfl⟩)
   go_ret
   exact ⟨rfl, rfl⟩
  have hdb : b.drop k = [] := List.drop_eq_nil_of_le (by omega)
  rw [hda, hdb] at hc
  have hr1 : r = 1 := by rw [← hc]; rfl
  subst hr1
  have hi1 : (0 : Int) ≤ (k : Int) := by omega
  have hi2 : (k : Int) < a.length := by omega
  have hq : decide (b.length ≤ k) = true := by simp; omega
  clear hc hda hdb hx
  go_wp2_with fail
  go_ret
  exact ⟨rfl, rfl⟩
 have hda : a.drop k = [] := List.drop_eq_nil_of_le (by omega)
 rw [hda] at hc
 by_cases hlb2 : a.length < b.length
 ·obtain ⟨y, t, hyt⟩ : ∃ y t, b.drop k = y :: t := by
   have : (b.drop k).length ≠ 0 := by rw [List.length_drop]; omega
   cases hd : b.drop k with
   | nil => rw [hd] at this; exact absurd rfl this
   | cons y t => exact ⟨y, t, rfl⟩
  rw [hyt] at hc
  have hr1 : r = -1 := by rw [← hc]; rfl
  subst hr1
  clear hc hda hyt
  go_wp2_with fail
  go_ret
  exact ⟨rfl, rfl⟩
 have hdb : b.drop k = [] := List.drop_eq_nil_of_le (by omega)
 rw [hdb] at hc
 have hr1 : r = 0 := by rw [← hc]; rfl
 subst hr1
 clear hc hda hdb
 go_wp2_with fail
 go_ret
 exact ⟨rfl, rfl⟩
theorem _root_.Go.RowKit.Below.thn {B : Nat} {a b c : World} (h : Below B a b) (k : Below b.heap.size b c) (hB : B ≤ a.heap.size := by exact Q9 _) : Below B a c := h.trans (k.mono (Qc hB h.size))
theorem Qo (w : World) (o : Obj) : Below w.heap.size w (w.alloc o) := (Qz _ _).alloc (Q9 _) _
theorem Zv (w : World) (o p : Obj) : Below w.heap.size w ((w.alloc o).alloc p) := (Qo w o).alloc (Qo w o).size _
def Gr (w w' : World) : Prop := ∃ q os, w' = Sort.grow (w.drewN q) os
theorem Gr.refl (w : World) : Gr w w := ⟨0, #[], by rw [Sort.grow_empty]; rfl⟩
theorem Gr.thn {a b c : World} (h : Gr a b) (k : Gr b c) : Gr a c := by
 obtain ⟨q, os, rfl⟩ := h
 obtain ⟨q', os', rfl⟩ := k
 refine ⟨q + q', os ++ os', ?_⟩
 show Sort.grow (Sort.grow ((a.drewN q).drewN q') os) os' = _
 rw [Sort.grow_grow, World.drewN_drewN]
theorem Gr.alloc {a b : World} (h : Gr a b) (o : Obj) : Gr a (b.alloc o) := h.thn ⟨0, #[o], by rw [Sort.alloc_eq_grow]; rfl⟩
theorem gal1 (w : World) (o : Obj) : Gr w (w.alloc o) := (Gr.refl w).alloc o
theorem X7 (w : World) (o p : Obj) : Gr w ((w.alloc o).alloc p) := (gal1 w o).alloc p
theorem Gr.bl {w w' : World} (h : Gr w w') : Below w.heap.size w w' := by
 obtain ⟨q, os, rfl⟩ := h
 refine ⟨rfl, rfl, rfl, by simp [Sort.grow], fun k hk => ?_⟩
 show (w.heap ++ os)[k]? = _
 rw [Array.getElem?_append_left hk]
def Ow (x : Val) : Prop := ∀ (y : Val) (S : Nat → Prop) (cx cy : List Value) (w : World), Qh S w cx x → Qh S w cy y →
 Calls Tryz.prog 57 #[.agg cx.toArray, .agg cy.toArray] w fun e w' => e = .returned (.int .i64 (Z1 x y)) ∧ Gr w w'
def vcs (x : Val) (p3 : Option Addr) (k3 : Nat) (p4 : Option Addr) (k4 : Nat) : List Value := [.int .i64 x.kind, .int .i64 x.n, .string ⟨x.s.toArray⟩, .slice p3 x.names.length k3, .slice p4 x.kids.length k4]
theorem Qh.cells {S : Nat → Prop} {w : World} {cs : List Value} {x : Val} (h : Qh S w cs x) : ∃ p3 k3 p4 k4, cs = vcs x p3 k3 p4 k4 ∧ Sl Qp S w (.slice p3 x.names.length k3) x.names ∧ Sl Ql S w (.slice p4 x.kids.length k4) x.kids ∧ x.s.length ≤ 1000000 := by
 obtain ⟨k, n, s, names, kids⟩ := x
 obtain ⟨nv, kv, rfl, hs, hn, hk⟩ := Ve.1 h
 obtain ⟨p3, k3, rfl, _⟩ := hn.len
 obtain ⟨p4, k4, rfl, _⟩ := hk.len
 exact ⟨p3, k3, p4, k4, rfl, hn, hk, hs⟩
theorem Sl.val {S : Nat → Prop} {w : World} {p : Option Addr} {n cap : Nat} {xs : List Val} (h : Sl Ql S w (.slice p n cap) xs) {i : Nat} {x : Val} (hx : xs[i]? = some x) :
  ∃ b off p3 k3 p4 k4, p = some ⟨b, off, none⟩ ∧ b < w.heap.size ∧ Qh S w (vcs x p3 k3 p4 k4) x ∧ w.cell? ⟨b, off + i * 5, none⟩ = some (.int .i64 x.kind) ∧ w.cell? ⟨b, off + i * 5 + 1, none⟩ = some (.int .i64 x.n) ∧ w.cell? ⟨b, off + i * 5 + 2, none⟩ = some (.string ⟨x.s.toArray⟩) ∧
   w.cell? ⟨b, off + i * 5 + 3, none⟩ = some (.slice p3 x.names.length k3) ∧ w.cell? ⟨b, off + i * 5 + 4, none⟩ = some (.slice p4 x.kids.length k4) := by
 obtain ⟨p', c', h1, _, h3⟩ := h
 simp only [Value.slice.injEq] at h1
 obtain ⟨rfl, _, _⟩ := h1
 obtain ⟨b, off, e, _, hb, hc⟩ := h3 (by intro e; subst e; simp at hx)
 obtain ⟨cs, h4, h5⟩ := hc i x hx
 obtain ⟨p3, k3, p4, k4, rfl, _⟩ := Qh.cells h5
 exact ⟨b, off, p3, k3, p4, k4, e, hb, h5, h4 0 _ rfl, h4 1 _ rfl, h4 2 _ rfl, h4 3 _ rfl, h4 4 _ rfl⟩
theorem cmpVs_of (S : Nat → Prop) (av bv : Value) (a b : List Val) (hC : ∀ x ∈ a, Ow x) (w : World) (ha : Sl Ql S w av a) (hb : Sl Ql S w bv b) :
  Calls Tryz.prog 101 #[av, bv, .func (.func 57) #[] #[]] w fun e w' => e = .returned (.int .i64 (Yg a b)) ∧ Gr w w' := by
 obtain ⟨pa, ca, rfl, hla⟩ := ha.len
 obtain ⟨pb, cb, rfl, hlb⟩ := hb.len
 have HA := Qq ha; have HB := Qq hb; have HC := Qq hC
 obtain ⟨r, hr⟩ := eX (Yg a b)
 rw [hr]
 have HR := Qq hr
 clear ha hb hr hC
 go_enter Tryz.func101, Tryz.ntmps101
 go_wp2_with fail
 go_loopw [13] (fun i wr => ∃ k : Nat, k ≤ a.length ∧ k ≤ b.length ∧ i = .int .i64 k ∧ Yg (a.drop k) (b.drop k) = r ∧ Gr w wr) (fun i _ => a.length - (intOf i).toNat)
 case atStart => exact ⟨0, Q8 _, Q8 _, rfl, HR.out, Gr.refl _⟩
 obtain ⟨k, hka, hkb, rfl, hc, hBl⟩ := hrel
 have HBl := Qq hBl
 clear hBl
 by_cases hlt : k < a.length
 ·obtain ⟨x, hx⟩ : ∃ x, a[k]? = some x := ⟨_, Qx hlt⟩
  have hda : a.drop k = x :: a.drop (k + 1) := by
   rw [List.drop_eq_getElem_cons hlt]; rw [Qx hlt] at hx; cases hx; rfl
  obtain ⟨ga, oa, p3, k3, p4, k4, rfl, hga, hva, d0, d1, d2, d3, d4⟩ := (HA.out.below HBl.out.bl).val hx
  by_cases hlb2 : k < b.length
  ·obtain ⟨y, hy⟩ : ∃ y, b[k]? = some y := ⟨_, Qx hlb2⟩
   have hdb : b.drop k = y :: b.drop (k + 1) := by
    rw [List.drop_eq_getElem_cons hlb2]; rw [Qx hlb2] at hy; cases hy; rfl
   obtain ⟨gb, ob, q3, l3, q4, l4, rfl, hgb, hvb, e0, e1, e2, e3, e4⟩ := (HB.out.below HBl.out.bl).val hy
   rw [hda, hdb] at hc
   have hc' : thn (Z1 x y) (Yg (a.drop (k + 1)) (b.drop (k + 1))) = r := hc
   have HX := Qq (HC.out x (Qy hx) y S)
   have HVa := Qq hva; have HVb := Qq hvb
   generalize Z1 x y = c at HX hc'
   have hi1 : (0 : Int) ≤ (k : Int) := by omega
   have hi2 : (k : Int) < a.length := by omega
   have hi3 : (k : Int) < b.length := by omega
   have hq : decide (b.length ≤ k) = false := by simp; omega
   clear hva hvb hc hda hdb hx hy
   go_wp2_with fail
   refine (HX.out (vcs x p3 k3 p4 k4) (vcs y q3 l3 q4 l4) _ (HVa.out.move (.of_below (Zv _ _ _)) (fun _ _ h => h)) (HVb.out.move (.of_below (Zv _ _ _)) (fun _ _ h => h))).mono ?_
   rintro e w' ⟨rfl, hw⟩
   have HBw := Qq (HBl.out.thn ((X7 wr _ _).thn hw))
   clear hw
   by_cases hc0 : c = 0
   ·subst hc0
    have HC2 := Qq hc'
    clear hc'
    go_wp2_with fail
    go_roundw
    case rel => exact ⟨k + 1, by omega, by omega, by go_num, HC2.out, HBw.out⟩
    case measure => simp [intOf]; omega
   have hq2 : (c != 0) = true := by rw [bne_iff_ne]; exact hc0
   have hcr : c = r := by rw [← hc']; unfold thn; rw [if_neg hc0]
   subst hcr
   clear hc' hc0
   go_wp2_with fail
   go_ret
   exact ⟨rfl, HBw.out⟩
  have hdb : b.drop k = [] := List.drop_eq_nil_of_le (by omega)
  rw [hda, hdb] at hc
  have hr1 : r = 1 := by rw [← hc]; rfl
  subst hr1
  have hi1 : (0 : Int) ≤ (k : Int) := by omega
  have hi2 : (k : Int) < a.length := by omega
  have hq : decide (b.length ≤ k) = true := by simp; omega
  clear hc hda hdb hx hva
  go_wp2_with fail
  go_ret
  exact ⟨rfl, HBl.out.thn (gal1 _ _)⟩
 have hda : a.drop k = [] := List.drop_eq_nil_of_le (by omega)
 rw [hda] at hc
 by_cases hlb2 : a.length < b.length
 ·obtain ⟨y, t, hyt⟩ : ∃ y t, b.drop k = y :: t := by
   have : (b.drop k).length ≠ 0 := by rw [List.length_drop]; omega
   cases hd : b.drop k with
   | nil => rw [hd] at this; exact absurd rfl this
   | cons y t => exact ⟨y, t, rfl⟩
  rw [hyt] at hc
  have hr1 : r = -1 := by rw [← hc]; rfl
  subst hr1
  clear hc hda hyt
  go_wp2_with fail
  go_ret
  exact ⟨rfl, HBl.out⟩
 have hdb : b.drop k = [] := List.drop_eq_nil_of_le (by omega)
 rw [hdb] at hc
 have hr1 : r = 0 := by rw [← hc]; rfl
 subst hr1
 clear hc hda hdb
 go_wp2_with fail
 go_ret
 exact ⟨rfl, HBl.out⟩
theorem cmpAt_of (k n : Int) (s : Bs) (ns : List Bs) (ks : List Val) (ih : ∀ x ∈ ks, Ow x) : Ow (.mk k n s ns ks) := by
 rintro ⟨k', n', s', ns', ks'⟩ S cx cy w hx hy
 obtain ⟨nv, kv, rfl, hs, hn, hk⟩ := Ve.1 hx
 obtain ⟨nv', kv', rfl, hs', hn', hk'⟩ := Ve.1 hy
 have hN : ∀ w', Below w.heap.size w w' → Calls Tryz.prog 100 #[nv, nv'] w' fun e w'' => e = .returned (.int .i64 (U4 ns ns')) ∧ w' = w'' :=
  fun w' hb => cmpN_any S nv nv' ns ns' w' (hn.below hb) (hn'.below hb)
 have hK : ∀ w', Below w.heap.size w w' → Calls Tryz.prog 101 #[kv, kv', .func (.func 57) #[] #[]] w' fun e w'' => e = .returned (.int .i64 (Yg ks ks')) ∧ Gr w' w'' :=
  fun w' hb => cmpVs_of S kv kv' ks ks' ih w' (hk.below hb) (hk'.below hb)
 have hS : ∀ w', Calls Tryz.prog 99 #[sv s, sv s'] w' fun e w'' => e = .returned (.int .i64 (Zg s s')) ∧ w' = w'' := fun w' => H9 _ _ w'
 have HN := Qq hN; have HK := Qq hK; have HS := Qq hS
 obtain ⟨cb, hcb⟩ := eX (Zg s s')
 obtain ⟨cn, hcn⟩ := eX (U4 ns ns')
 obtain ⟨cv, hcv⟩ := eX (Yg ks ks')
 rw [hcb] at HS; rw [hcn] at HN; rw [hcv] at HK
 have hB2 := Qq (fun o1 o2 => Zv w o1 o2)
 clear hN hK hS hx hy ih hn hn' hk hk'
 by_cases hkk : k = k'
 ·subst hkk
  by_cases h0 : k = 0
  ·subst h0
   rw [show Z1 (.mk 0 n s ns ks) (.mk 0 n' s' ns' ks') = ord n n' by simp [Z1]]
   have HI := Qq (fun w => G7 n n' w)
   generalize ord n n' = r at HI ⊢
   clear hcb hcn hcv
   go_enter Tryz.func57, Tryz.ntmps57
   go_wp2_with (go_at_call 98; refine (HI.out _).mono ?_; rintro e w' ⟨rfl, rfl⟩)
   go_ret
   exact ⟨rfl, X7 _ _ _⟩
  by_cases h2 : k = 2
  ·subst h2
   rw [show Z1 (.mk 2 n s ns ks) (.mk 2 n' s' ns' ks') = ord n n' by simp [Z1]]
   have HI := Qq (fun w => G7 n n' w)
   generalize ord n n' = r at HI ⊢
   clear hcb hcn hcv h0
   go_enter Tryz.func57, Tryz.ntmps57
   go_wp2_with (go_at_call 98; refine (HI.out _).mono ?_; rintro e w' ⟨rfl, rfl⟩)
   go_ret
   exact ⟨rfl, X7 _ _ _⟩
  by_cases h1 : k = 1
  ·subst h1
   rw [show Z1 (.mk 1 n s ns ks) (.mk 1 n' s' ns' ks') = cb by simp [Z1, hcb]]
   clear hcb hcn hcv h0 h2
   go_enter Tryz.func57, Tryz.ntmps57
   go_wp2_with (go_at_call 99; refine (HS.out _).mono ?_; rintro e w' ⟨rfl, rfl⟩)
   go_ret
   exact ⟨rfl, X7 _ _ _⟩
  by_cases h3 : k = 3
  ·subst h3
   have hv : Z1 (.mk 3 n s ns ks) (.mk 3 n' s' ns' ks') = thn cb cv := by simp [Z1, hcb, hcv]
   clear hcb hcn hcv h0 h2 h1
   by_cases hz : cb = 0
   ·subst hz
    rw [hv, V0]
    clear hv
    go_enter Tryz.func57, Tryz.ntmps57
    go_wp2_with (first | (go_at_call 99; refine (HS.out _).mono ?_; rintro e w' ⟨rfl, rfl⟩) | (go_at_call 101; refine (HK.out _ (Zv _ _ _)).mono ?_; rintro e w' ⟨rfl, hw⟩; have HW := Qq ((X7 w _ _).thn hw); clear hw))
    go_ret
    exact ⟨rfl, HW.out⟩
   have hq : (cb != 0) = true := by rw [bne_iff_ne]; exact hz
   have hv' : Z1 (.mk 3 n s ns ks) (.mk 3 n' s' ns' ks') = cb := by rw [hv]; unfold thn; rw [if_neg hz]
   rw [hv']
   clear hv hv' hz
   go_enter Tryz.func57, Tryz.ntmps57
   go_wp2_with (go_at_call 99; refine (HS.out _).mono ?_; rintro e w' ⟨rfl, rfl⟩)
   go_ret
   exact ⟨rfl, X7 _ _ _⟩
  by_cases h4 : k = 4
  ·subst h4
   have hv : Z1 (.mk 4 n s ns ks) (.mk 4 n' s' ns' ks') = thn cn cv := by simp [Z1, hcn, hcv]
   clear hcb hcn hcv h0 h2 h1 h3
   by_cases hz : cn = 0
   ·subst hz
    rw [hv, V0]
    clear hv
    go_enter Tryz.func57, Tryz.ntmps57
    go_wp2_with (first | (go_at_call 100; refine (HN.out _ (Zv _ _ _)).mono ?_; rintro e w' ⟨rfl, rfl⟩) | (go_at_call 101; refine (HK.out _ (Zv _ _ _)).mono ?_; rintro e w' ⟨rfl, hw⟩; have HW := Qq ((X7 w _ _).thn hw); clear hw))
    go_ret
    exact ⟨rfl, HW.out⟩
   have hq : (cn != 0) = true := by rw [bne_iff_ne]; exact hz
   have hv' : Z1 (.mk 4 n s ns ks) (.mk 4 n' s' ns' ks') = cn := by rw [hv]; unfold thn; rw [if_neg hz]
   rw [hv']
   clear hv hv' hz
   go_enter Tryz.func57, Tryz.ntmps57
   go_wp2_with (go_at_call 100; refine (HN.out _ (Zv _ _ _)).mono ?_; rintro e w' ⟨rfl, rfl⟩)
   go_ret
   exact ⟨rfl, X7 _ _ _⟩
  by_cases h5 : k = 5
  ·subst h5
   rw [show Z1 (.mk 5 n s ns ks) (.mk 5 n' s' ns' ks') = cv by simp [Z1, hcv]]
   clear hcb hcn hcv h0 h2 h1 h3 h4
   go_enter Tryz.func57, Tryz.ntmps57
   go_wp2_with (go_at_call 101; refine (HK.out _ (Zv _ _ _)).mono ?_; rintro e w' ⟨rfl, hw⟩; have HW := Qq ((X7 w _ _).thn hw); clear hw)
   go_ret
   exact ⟨rfl, HW.out⟩
  have hv : Z1 (.mk k n s ns ks) (.mk k n' s' ns' ks') = 0 := by simp [Z1, h0, h1, h2, h3, h4, h5]
  rw [hv]
  have q0 : (k == 0) = false := by simpa using h0
  have q1 : (k == 1) = false := by simpa using h1
  have q2 : (k == 2) = false := by simpa using h2
  have q3 : (k == 3) = false := by simpa using h3
  have q4 : (k == 4) = false := by simpa using h4
  have q5 : (k == 5) = false := by simpa using h5
  clear hv hcb hcn hcv h0 h1 h2 h3 h4 h5
  go_enter Tryz.func57, Tryz.ntmps57
  go_wp2_with fail
  go_ret
  exact ⟨rfl, X7 _ _ _⟩
 have hv : Z1 (.mk k n s ns ks) (.mk k' n' s' ns' ks') = ord k k' := by simp [Z1, hkk]
 rw [hv]
 have hq : (k != k') = true := by rw [bne_iff_ne]; exact hkk
 have HI := Qq (fun w => G7 k k' w)
 generalize ord k k' = r at HI ⊢
 clear hv hcb hcn hcv hkk
 go_enter Tryz.func57, Tryz.ntmps57
 go_wp2_with (go_at_call 98; refine (HI.out _).mono ?_; rintro e w' ⟨rfl, rfl⟩)
 go_ret
 exact ⟨rfl, X7 _ _ _⟩
theorem cmpAt : ∀ x : Val, Ow x
 | .mk k n s ns ks => cmpAt_of k n s ns ks fun x _ => cmpAt x
termination_by x => SizeOf.sizeOf x
decreasing_by
 have := List.sizeOf_lt_of_mem ‹_ ∈ ks›
 simp only [Val.mk.sizeOf_spec]
 omega
theorem Dw {α : Type} (n : Nat) (Q : Nat → α → Prop) (h : ∀ i, i < n → ∃ a, Q i a) : ∃ l : List α, l.length = n ∧ ∀ i a, l[i]? = some a → Q i a := by
 induction n with
 | zero => exact ⟨[], rfl, fun i a h => by simp at h⟩
 | succ n ih =>
  obtain ⟨l, hl, hq⟩ := ih (fun i hi => h i (by omega))
  obtain ⟨a, ha⟩ := h n (by omega)
  refine ⟨l ++ [a], by simp [hl], fun i b hb => ?_⟩
  by_cases hi : i < l.length
  ·rw [List.getElem?_append_left hi] at hb; exact hq i b hb
  rw [List.getElem?_append_right (by omega)] at hb
  have h0 : i - l.length = 0 := by
   have := (Qj hb).1
   simp at this; omega
  rw [h0] at hb
  simp at hb
  subst hb
  have : i = n := by omega
  rw [this]; exact ha
theorem Hd {k : Nat} {css : List (List Value)} (h : ∀ c ∈ css, c.length = k) : css.flatten.length = css.length * k := by
 induction css with
 | nil => simp
 | cons c css ih =>
  rw [List.flatten_cons, List.length_append, h c (by simp), ih (fun d hd => h d (by simp [hd])), List.length_cons, Nat.add_mul]
  omega
theorem Xv {k : Nat} {css : List (List Value)} (h : ∀ c ∈ css, c.length = k) {i j : Nat} {c : List Value} {u : Value} (hc : css[i]? = some c) (hu : c[j]? = some u) : css.flatten[i * k + j]? = some u := by
 induction css generalizing i with
 | nil => simp at hc
 | cons d css ih =>
  have hd := h d (by simp)
  rw [List.flatten_cons]
  cases i with
  | zero =>
   simp at hc; subst hc
   have hj : j < d.length := (Qj hu).1
   rw [Nat.zero_mul, Nat.zero_add, List.getElem?_append_left hj]; exact hu
  | succ i =>
   have := ih (fun e he => h e (by simp [he])) (i := i) (by simpa using hc)
   rw [List.getElem?_append_right (by rw [hd, Nat.add_mul]; omega), hd]
   rw [show (i + 1) * k + j - k = i * k + j by rw [Nat.add_mul]; omega]
   exact this
theorem flat_at {k : Nat} (hk : 0 < k) {css : List (List Value)} (h : ∀ c ∈ css, c.length = k) {m : Nat} {u : Value} (hu : css.flatten[m]? = some u) : ∃ c, css[m / k]? = some c ∧ c[m % k]? = some u := by
 have hm : m < css.length * k := by rw [← Hd h]; exact (Qj hu).1
 have hi : m / k < css.length := Nat.div_lt_of_lt_mul (by rwa [Nat.mul_comm])
 have hc := Qx hi
 have hl := h _ (Qd hi)
 have hj : m % k < (css[m / k]).length := by rw [hl]; exact Nat.mod_lt _ hk
 refine ⟨_, hc, ?_⟩
 have := Xv h hc (Qx hj)
 rw [Nat.div_add_mod' m k] at this
 rw [Qx hj, ← hu, this]
structure Cs {T : Type} (r : Rd T) (S : Nat → Prop) (w : World) (css : List (List Value)) (xs : List T) : Prop where
 len : css.length = xs.length
 R : ∀ (i : Nat) (c : List Value) (x : T), css[i]? = some c → xs[i]? = some x → r.R S w c x
theorem Cs.all {T : Type} {r : Rd T} {S : Nat → Prop} {w : World} {css : List (List Value)} {xs : List T} (h : Cs r S w css xs) : ∀ c ∈ css, c.length = r.k := by
 intro c hc
 obtain ⟨i, hi⟩ := List.getElem?_of_mem hc
 have hil := (Qj hi).1
 exact r.len (h.R i c _ hi (Qx (by rw [← h.len]; exact hil)))
theorem Cs.flat {T : Type} {r : Rd T} {S : Nat → Prop} {w : World} {css : List (List Value)} {xs : List T} (h : Cs r S w css xs) : css.flatten.length = xs.length * r.k := by rw [Hd h.all, h.len]
theorem Cs.move {T : Type} {r : Rd T} {S S' : Nat → Prop} {w w' : World} {css : List (List Value)} {xs : List T} (h : Cs r S w css xs) (hA : V9 S w w') (hS : ∀ b, b < w.heap.size → S b → S' b) : Cs r S' w' css xs :=
 ⟨h.len, fun i c x hc hx => r.mono (r.frame (r.mono (S' := fun b => S b ∧ S' b) (h.R i c x hc hx) (fun b hb h => ⟨h, hS b hb h⟩)) (fun b hb => hA b hb.1)) (fun _ _ h => h.2)⟩
theorem Cs.app {T : Type} {r : Rd T} {S : Nat → Prop} {w : World} {css dss : List (List Value)} {xs ys : List T} (h : Cs r S w css xs) (g : Cs r S w dss ys) : Cs r S w (css ++ dss) (xs ++ ys) := by
 refine ⟨by rw [List.length_append, List.length_append, h.len, g.len], fun i c x hc hx => ?_⟩
 by_cases hi : i < css.length
 ·rw [List.getElem?_append_left hi] at hc
  rw [List.getElem?_append_left (by rw [← h.len]; exact hi)] at hx
  exact h.R i c x hc hx
 rw [List.getElem?_append_right (by omega)] at hc
 rw [List.getElem?_append_right (by rw [← h.len]; omega), ← h.len] at hx
 exact g.R _ c x hc hx
theorem Cs.one {T : Type} {r : Rd T} {S : Nat → Prop} {w : World} {c : List Value} {x : T} (h : r.R S w c x) : Cs r S w [c] [x] := by
 refine ⟨rfl, fun i c' x' hc hx => ?_⟩
 cases i with
 | zero => simp at hc hx; subst hc; subst hx; exact h
 | succ i => simp at hc
theorem Cs.nil {T : Type} (r : Rd T) (S : Nat → Prop) (w : World) : Cs r S w [] [] := ⟨rfl, fun i c x hc _ => by simp at hc⟩
theorem Sl.css {T : Type} {r : Rd T} (hk : 0 < r.k) {S : Nat → Prop} {w : World} {v : Value} {xs : List T} (h : Sl r S w v xs) :
  ∃ p cap css, v = .slice p xs.length cap ∧ Cs r S w css xs ∧ (xs ≠ [] → ∃ b off, p = some ⟨b, off, none⟩ ∧ S b ∧ b < w.heap.size ∧ ∀ j u, css.flatten[j]? = some u → w.cell? ⟨b, off + j, none⟩ = some u) := by
 obtain ⟨p, cap, h1, h2, h3⟩ := h
 by_cases hne : xs = []
 ·subst hne; exact ⟨p, cap, [], h1, Cs.nil _ _ _, fun h => absurd rfl h⟩
 obtain ⟨b, off, e, hS, hb, hc⟩ := h3 hne
 obtain ⟨css, hl, hq⟩ := Dw xs.length (fun i cs => (∀ j u, cs[j]? = some u → w.cell? ⟨b, off + i * r.k + j, none⟩ = some u) ∧ ∀ x, xs[i]? = some x → r.R S w cs x) (fun i hi => by
  obtain ⟨cs, h4, h5⟩ := hc i _ (Qx hi)
  exact ⟨cs, h4, fun x hx => by rw [Qx hi] at hx; cases hx; exact h5⟩)
 have hCs : Cs r S w css xs := ⟨hl, fun i c x hci hx => (hq i c hci).2 x hx⟩
 refine ⟨p, cap, css, h1, hCs, fun _ => ⟨b, off, e, hS, hb, fun j u hu => ?_⟩⟩
 obtain ⟨c, hci, hcu⟩ := flat_at hk hCs.all hu
 have := (hq _ c hci).1 _ u hcu
 rwa [Nat.add_assoc, Nat.div_add_mod' j r.k] at this
theorem Sl.of_css {T : Type} {r : Rd T} {S : Nat → Prop} {w : World} {xs : List T} {b off cap : Nat} {css : List (List Value)} (hl : xs.length ≤ 1000000) (h : Cs r S w css xs) (hS : S b) (hb : b < w.heap.size)
  (hc : ∀ j u, css.flatten[j]? = some u → w.cell? ⟨b, off + j, none⟩ = some u) : Sl r S w (.slice (some ⟨b, off, none⟩) xs.length cap) xs := by
 refine ⟨_, cap, rfl, hl, fun _ => ⟨b, off, rfl, hS, hb, fun i x hx => ?_⟩⟩
 have hi : i < css.length := by rw [h.len]; exact (Qj hx).1
 refine ⟨css[i], fun j u hu => ?_, h.R i _ x (Qx hi) hx⟩
 have := hc _ u (Xv h.all (Qx hi) hu)
 rwa [← Nat.add_assoc] at this
def But (S : Nat → Prop) (v : Value) : Nat → Prop := fun b => S b ∧ some b ≠ v.ownBlock
structure Own {T : Type} (r : Rd T) (E : TypeId) (S : Nat → Prop) (B : Nat) (w : World) (v : Value) (xs : List T) (css : List (List Value)) : Prop where
 row : w.ownsRow B E r.k v xs.length css.flatten
 cs : Cs r (But S v) w css xs
theorem Own.nil {T : Type} (r : Rd T) (E : TypeId) (S : Nat → Prop) (B : Nat) (w : World) : Own r E S B w (.slice none 0 0) [] [] := ⟨by simpa using World.ownsRow_nil w B E r.k, Cs.nil _ _ _⟩
theorem Ui {w w' : World} {B : Nat} {e : TypeId} {sz n : Nat} {v : Value} {xs : List Value} (h : w.ownsRow B e sz v n xs) (hb : Below w.heap.size w w') : w'.ownsRow B e sz v n xs := by
 refine ⟨h.1, ?_⟩
 rcases h.2 with hn | ⟨g, cap, cur, rfl, hB, hg, rest⟩
 ·exact .inl hn
 refine .inr ⟨g, cap, cur, rfl, hB, ?_, rest⟩
 rw [hb.block g (Array.getElem?_eq_some_iff.1 hg).1]; exact hg
theorem Own.below {T : Type} {r : Rd T} {E : TypeId} {S : Nat → Prop} {B : Nat} {w w' : World} {v : Value} {xs : List T} {css : List (List Value)} (h : Own r E S B w v xs css) (hb : Below w.heap.size w w') : Own r E S B w' v xs css :=
 ⟨Ui h.row hb, h.cs.move (.of_below hb) (fun _ _ h => h)⟩
theorem Own.append {T : Type} {r : Rd T} {E : TypeId} {S : Nat → Prop} {B : Nat} {W w2 : World} {v v' : Value} {xs ys : List T} {css dss : List (List Value)} (h : Own r E S B W v xs css) (hd : Cs r (But S v) W dss ys)
  (hown : w2.ownsRow B E r.k v' (xs.length + ys.length) (css.flatten ++ dss.flatten)) (hgrow : W.grownBy w2 v.ownBlock) (hat : v'.ownBlock = v.ownBlock ∨ v'.ownBlock = some W.heap.size) : Own r E S B w2 v' (xs ++ ys) (css ++ dss) := by
 refine ⟨by rw [List.length_append, List.flatten_append]; exact hown, ?_⟩
 have hc := h.cs.app hd
 have h1 : Cs r (fun b => But S v b ∧ But S v' b) W (css ++ dss) (xs ++ ys) := hc.move (.refl _ _) (fun b hb h => ⟨h, h.1, by
  rcases hat with e | e
  ·rw [e]; exact h.2
  rw [e]; intro e2; have := Qb e2; omega⟩)
 exact h1.move (fun b hb hlt => hgrow.block b hlt hb.1.2) (fun _ _ h => h.2)
theorem Fk {w : World} {g : Nat} {cur : Array Value} {E : TypeId} {n : Nat} {ys : List Value} (hg : w.heap[g]? = some (.cells cur E (0, 0))) (ht : cur.toList.take n = ys) {j : Nat} {u : Value} (hu : ys[j]? = some u) : w.cell? ⟨g, j, none⟩ = some u := by
 rw [Qk w g j cur E (0, 0) hg]
 rw [← ht, List.getElem?_take] at hu
 split at hu
 ·simpa using hu
 cases hu
theorem Own.sl {T : Type} {r : Rd T} {E : TypeId} {S S' : Nat → Prop} {B : Nat} {w : World} {v : Value} {xs : List T} {css : List (List Value)} (h : Own r E S B w v xs css) (hl : xs.length ≤ 1000000)
  (h1 : ∀ b, B ≤ b → S' b) (h2 : ∀ b, b < w.heap.size → S b → S' b) : Sl r S' w v xs := by
 rcases h.row.2 with ⟨rfl, h0⟩ | ⟨g, cap, cur, rfl, hB, hg, _, _, _, ht⟩
 ·rw [List.eq_nil_of_length_eq_zero h0]; exact Sl.nil _ _ _
 refine Sl.of_css (css := css) hl (h.cs.move (.refl _ _) (fun b hb h => h2 b hb h.1)) (h1 g hB) (Array.getElem?_eq_some_iff.1 hg).1 (fun j u hu => ?_)
 rw [Nat.zero_add]; exact Fk hg ht hu
end Go.Proofs.YtppbaladeefnkaaGreatDoor
namespace Go.Proofs
open Go.Shelf
def Tryz.ixRel_ren : Go.Shelf.Ren := ⟨fun | 6 => 81 | n => n, fun | 22 => 28 | 23 => 57 | 25 => 119 | 3 => 3 | 0 => 0 | 4 => 4 | n => n, fun | n => n⟩
theorem Tryz.ixRel : Go.Proofs.SlLaysH0.n6 Tryz.prog Tryz.ixRel_ren := {
 mixed := by kernel_rfl
 f6 := ⟨Tryz.f81.name, by decide, Tryz.func81.trans (congrArg some (by kernel_rfl))⟩
 t0 := Tryz.underlying0
 a0 := Tryz.isAgg0
 z0 := Tryz.sizeOf0
 v0 := Tryz.zeroValue0
 t3 := Tryz.underlying3
 a3 := Tryz.isAgg3
 z3 := Tryz.sizeOf3
 v3 := Tryz.zeroValue3
 t4 := Tryz.underlying4
 a4 := Tryz.isAgg4
 z4 := Tryz.sizeOf4
 v4 := Tryz.zeroValue4
 t22 := Tryz.underlying28
 a22 := Tryz.isAgg28
 z22 := Tryz.sizeOf28
 v22 := Tryz.zeroValue28
 t25 := Tryz.underlying119
 a25 := Tryz.isAgg119
 z25 := Tryz.sizeOf119
 v25 := Tryz.zeroValue119 }
def Tryz.ixVal_ren : Go.Shelf.Ren := ⟨fun | 6 => 42 | n => n, fun | 22 => 40 | 23 => 44 | 25 => 87 | 3 => 3 | 0 => 0 | 4 => 4 | n => n, fun | n => n⟩
theorem Tryz.ixVal : Go.Proofs.SlLaysH0.n6 Tryz.prog Tryz.ixVal_ren := {
 mixed := by kernel_rfl
 f6 := ⟨Tryz.f42.name, by decide, Tryz.func42.trans (congrArg some (by kernel_rfl))⟩
 t0 := Tryz.underlying0
 a0 := Tryz.isAgg0
 z0 := Tryz.sizeOf0
 v0 := Tryz.zeroValue0
 t3 := Tryz.underlying3
 a3 := Tryz.isAgg3
 z3 := Tryz.sizeOf3
 v3 := Tryz.zeroValue3
 t4 := Tryz.underlying4
 a4 := Tryz.isAgg4
 z4 := Tryz.sizeOf4
 v4 := Tryz.zeroValue4
 t22 := Tryz.underlying40
 a22 := Tryz.isAgg40
 z22 := Tryz.sizeOf40
 v22 := Tryz.zeroValue40
 t25 := Tryz.underlying87
 a25 := Tryz.isAgg87
 z25 := Tryz.sizeOf87
 v25 := Tryz.zeroValue87 }
def Tryz.cfVal_ren : Go.Shelf.Ren := ⟨fun | 8 => 54 | 6 => 42 | n => n, fun | 22 => 40 | 23 => 44 | 25 => 87 | 4 => 4 | 3 => 3 | 0 => 0 | n => n, fun | n => n⟩
theorem Tryz.cfVal : Go.Proofs.SlLaysH0.n8 Tryz.prog Tryz.cfVal_ren := {
 mixed := by kernel_rfl
 f6 := ⟨Tryz.f42.name, by decide, Tryz.func42.trans (congrArg some (by kernel_rfl))⟩
 f8 := ⟨Tryz.f54.name, by decide, Tryz.func54.trans (congrArg some (by kernel_rfl))⟩
 t0 := Tryz.underlying0
 a0 := Tryz.isAgg0
 z0 := Tryz.sizeOf0
 v0 := Tryz.zeroValue0
 t3 := Tryz.underlying3
 a3 := Tryz.isAgg3
 z3 := Tryz.sizeOf3
 v3 := Tryz.zeroValue3
 t4 := Tryz.underlying4
 a4 := Tryz.isAgg4
 z4 := Tryz.sizeOf4
 v4 := Tryz.zeroValue4
 t22 := Tryz.underlying40
 a22 := Tryz.isAgg40
 z22 := Tryz.sizeOf40
 v22 := Tryz.zeroValue40
 t25 := Tryz.underlying87
 a25 := Tryz.isAgg87
 z25 := Tryz.sizeOf87
 v25 := Tryz.zeroValue87 }
def Tryz.cfExpr_ren : Go.Shelf.Ren := ⟨fun | 8 => 159 | 6 => 192 | n => n, fun | 22 => 33 | 23 => 35 | 25 => 145 | 4 => 4 | 3 => 3 | 0 => 0 | n => n, fun | n => n⟩
theorem Tryz.cfExpr : Go.Proofs.SlLaysH0.n8 Tryz.prog Tryz.cfExpr_ren := {
 mixed := by kernel_rfl
 f6 := ⟨Tryz.f192.name, by decide, Tryz.func192.trans (congrArg some (by kernel_rfl))⟩
 f8 := ⟨Tryz.f159.name, by decide, Tryz.func159.trans (congrArg some (by kernel_rfl))⟩
 t0 := Tryz.underlying0
 a0 := Tryz.isAgg0
 z0 := Tryz.sizeOf0
 v0 := Tryz.zeroValue0
 t3 := Tryz.underlying3
 a3 := Tryz.isAgg3
 z3 := Tryz.sizeOf3
 v3 := Tryz.zeroValue3
 t4 := Tryz.underlying4
 a4 := Tryz.isAgg4
 z4 := Tryz.sizeOf4
 v4 := Tryz.zeroValue4
 t22 := Tryz.underlying33
 a22 := Tryz.isAgg33
 z22 := Tryz.sizeOf33
 v22 := Tryz.zeroValue33
 t25 := Tryz.underlying145
 a25 := Tryz.isAgg145
 z25 := Tryz.sizeOf145
 v25 := Tryz.zeroValue145 }
def Tryz.clVal_ren : Go.Shelf.Ren := ⟨fun | 41 => 52 | n => n, fun | 22 => 40 | 23 => 44 | 4 => 4 | n => n, fun | n => n⟩
theorem Tryz.clVal : Go.Proofs.SlLaysE0.n41 Tryz.prog Tryz.clVal_ren := {
 mixed := by kernel_rfl
 f41 := ⟨Tryz.f52.name, by decide, Tryz.func52.trans (congrArg some (by kernel_rfl))⟩
 t4 := Tryz.underlying4
 a4 := Tryz.isAgg4
 z4 := Tryz.sizeOf4
 v4 := Tryz.zeroValue4
 t22 := Tryz.underlying40
 a22 := Tryz.isAgg40
 z22 := Tryz.sizeOf40
 v22 := Tryz.zeroValue40 }
def Tryz.clCol_ren : Go.Shelf.Ren := ⟨fun | 41 => 78 | n => n, fun | 22 => 31 | 23 => 78 | 4 => 4 | n => n, fun | n => n⟩
theorem Tryz.clCol : Go.Proofs.SlLaysE0.n41 Tryz.prog Tryz.clCol_ren := {
 mixed := by kernel_rfl
 f41 := ⟨Tryz.f78.name, by decide, Tryz.func78.trans (congrArg some (by kernel_rfl))⟩
 t4 := Tryz.underlying4
 a4 := Tryz.isAgg4
 z4 := Tryz.sizeOf4
 v4 := Tryz.zeroValue4
 t22 := Tryz.underlying31
 a22 := Tryz.isAgg31
 z22 := Tryz.sizeOf31
 v22 := Tryz.zeroValue31 }
def Tryz.clStr_ren : Go.Shelf.Ren := ⟨fun | 41 => 79 | n => n, fun | 22 => 30 | 23 => 9 | 4 => 4 | n => n, fun | n => n⟩
theorem Tryz.clStr : Go.Proofs.SlLaysE0.n41 Tryz.prog Tryz.clStr_ren := {
 mixed := by kernel_rfl
 f41 := ⟨Tryz.f79.name, by decide, Tryz.func79.trans (congrArg some (by kernel_rfl))⟩
 t4 := Tryz.underlying4
 a4 := Tryz.isAgg4
 z4 := Tryz.sizeOf4
 v4 := Tryz.zeroValue4
 t22 := Tryz.underlying30
 a22 := Tryz.isAgg30
 z22 := Tryz.sizeOf30
 v22 := Tryz.zeroValue30 }
def Tryz.clRel_ren : Go.Shelf.Ren := ⟨fun | 41 => 97 | n => n, fun | 22 => 28 | 23 => 57 | 4 => 4 | n => n, fun | n => n⟩
theorem Tryz.clRel : Go.Proofs.SlLaysE0.n41 Tryz.prog Tryz.clRel_ren := {
 mixed := by kernel_rfl
 f41 := ⟨Tryz.f97.name, by decide, Tryz.func97.trans (congrArg some (by kernel_rfl))⟩
 t4 := Tryz.underlying4
 a4 := Tryz.isAgg4
 z4 := Tryz.sizeOf4
 v4 := Tryz.zeroValue4
 t22 := Tryz.underlying28
 a22 := Tryz.isAgg28
 z22 := Tryz.sizeOf28
 v22 := Tryz.zeroValue28 }
def Tryz.clRef_ren : Go.Shelf.Ren := ⟨fun | 41 => 80 | n => n, fun | 22 => 32 | 23 => 80 | 4 => 4 | n => n, fun | n => n⟩
theorem Tryz.clRef : Go.Proofs.SlLaysE0.n41 Tryz.prog Tryz.clRef_ren := {
 mixed := by kernel_rfl
 f41 := ⟨Tryz.f80.name, by decide, Tryz.func80.trans (congrArg some (by kernel_rfl))⟩
 t4 := Tryz.underlying4
 a4 := Tryz.isAgg4
 z4 := Tryz.sizeOf4
 v4 := Tryz.zeroValue4
 t22 := Tryz.underlying32
 a22 := Tryz.isAgg32
 z22 := Tryz.sizeOf32
 v22 := Tryz.zeroValue32 }
def Tryz.clByte_ren : Go.Shelf.Ren := ⟨fun | 41 => 190 | n => n, fun | 22 => 143 | 23 => 5 | 4 => 4 | n => n, fun | n => n⟩
theorem Tryz.clByte : Go.Proofs.SlLaysE0.n41 Tryz.prog Tryz.clByte_ren := {
 mixed := by kernel_rfl
 f41 := ⟨Tryz.f190.name, by decide, Tryz.func190.trans (congrArg some (by kernel_rfl))⟩
 t4 := Tryz.underlying4
 a4 := Tryz.isAgg4
 z4 := Tryz.sizeOf4
 v4 := Tryz.zeroValue4
 t22 := Tryz.underlying143
 a22 := Tryz.isAgg143
 z22 := Tryz.sizeOf143
 v22 := Tryz.zeroValue143 }
end Go.Proofs


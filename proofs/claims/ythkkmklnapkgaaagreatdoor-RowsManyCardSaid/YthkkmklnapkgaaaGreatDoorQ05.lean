import Derived.Test.YthkkmklnapkgaaaGreatDoorQ04
import Derived.Sort.Grow
import Derived.Deep.Draws
/- values.Compare is the order of values. -/
namespace Go.Proofs.YthkkmklnapkgaaaGreatDoor
open Go.RowKit

theorem _root_.Go.RowKit.Below.thn {B : Nat} {a b c : World} (h : Below B a b) (k : Below b.heap.size b c) (hB : B ≤ a.heap.size := by exact Nat.le_refl _) : Below B a c := h.trans (k.mono (Nat.le_trans hB h.size))
theorem bal1 (w : World) (o : Obj) : Below w.heap.size w (w.alloc o) := (Below.refl _ _).alloc (Nat.le_refl _) _
theorem bal2 (w : World) (o p : Obj) : Below w.heap.size w ((w.alloc o).alloc p) := (bal1 w o).alloc (bal1 w o).size _

/-- So many draws, and new blocks behind the heap: nothing else. -/
def Gr (w w' : World) : Prop := ∃ q os, w' = Sort.grow (w.drewN q) os
theorem Gr.refl (w : World) : Gr w w := ⟨0, #[], by rw [Sort.grow_empty]; rfl⟩
theorem Gr.thn {a b c : World} (h : Gr a b) (k : Gr b c) : Gr a c := by
  obtain ⟨q, os, rfl⟩ := h
  obtain ⟨q', os', rfl⟩ := k
  refine ⟨q + q', os ++ os', ?_⟩
  show Sort.grow (Sort.grow ((a.drewN q).drewN q') os) os' = _
  rw [Sort.grow_grow, World.drewN_drewN]
theorem Gr.alloc {a b : World} (h : Gr a b) (o : Obj) : Gr a (b.alloc o) := h.thn ⟨0, #[o], by rw [Sort.alloc_eq_grow]; rfl⟩
theorem gal1 (w : World) (o : Obj) : Gr w (w.alloc o) := (Gr.refl w).alloc o
theorem gal2 (w : World) (o p : Obj) : Gr w ((w.alloc o).alloc p) := (gal1 w o).alloc p
theorem Gr.bl {w w' : World} (h : Gr w w') : Below w.heap.size w w' := by
  obtain ⟨q, os, rfl⟩ := h
  refine ⟨rfl, rfl, rfl, by simp [Sort.grow], fun k hk => ?_⟩
  show (w.heap ++ os)[k]? = _
  rw [Array.getElem?_append_left hk]

/-- values.Compare does what the order says at x. -/
def CmpAt (x : Val) : Prop := ∀ (y : Val) (S : Nat → Prop) (cx cy : List Value) (w : World), IsVal S w cx x → IsVal S w cy y →
  Calls Tryz.prog 37 #[.agg cx.toArray, .agg cy.toArray] w fun e w' => e = .returned (.int .i64 (cmpV x y)) ∧ Gr w w'

/-- The five cells of a value. -/
def vcs (x : Val) (p3 : Option Addr) (k3 : Nat) (p4 : Option Addr) (k4 : Nat) : List Value := [.int .i64 x.kind, .int .i64 x.n, .string ⟨x.s.toArray⟩, .slice p3 x.names.length k3, .slice p4 x.kids.length k4]
theorem IsVal.cells {S : Nat → Prop} {w : World} {cs : List Value} {x : Val} (h : IsVal S w cs x) : ∃ p3 k3 p4 k4, cs = vcs x p3 k3 p4 k4 ∧ Sl strRd S w (.slice p3 x.names.length k3) x.names ∧ Sl valRd S w (.slice p4 x.kids.length k4) x.kids ∧ x.s.length ≤ 1000000 := by
  obtain ⟨k, n, s, names, kids⟩ := x
  obtain ⟨nv, kv, rfl, hs, hn, hk⟩ := isVal_iff.1 h
  obtain ⟨p3, k3, rfl, _⟩ := hn.len
  obtain ⟨p4, k4, rfl, _⟩ := hk.len
  exact ⟨p3, k3, p4, k4, rfl, hn, hk, hs⟩
theorem Sl.val {S : Nat → Prop} {w : World} {p : Option Addr} {n cap : Nat} {xs : List Val} (h : Sl valRd S w (.slice p n cap) xs) {i : Nat} {x : Val} (hx : xs[i]? = some x) :
    ∃ b off p3 k3 p4 k4, p = some ⟨b, off, none⟩ ∧ b < w.heap.size ∧ IsVal S w (vcs x p3 k3 p4 k4) x ∧ w.cell? ⟨b, off + i * 5, none⟩ = some (.int .i64 x.kind) ∧ w.cell? ⟨b, off + i * 5 + 1, none⟩ = some (.int .i64 x.n) ∧ w.cell? ⟨b, off + i * 5 + 2, none⟩ = some (.string ⟨x.s.toArray⟩) ∧
      w.cell? ⟨b, off + i * 5 + 3, none⟩ = some (.slice p3 x.names.length k3) ∧ w.cell? ⟨b, off + i * 5 + 4, none⟩ = some (.slice p4 x.kids.length k4) := by
  obtain ⟨p', c', h1, _, h3⟩ := h
  simp only [Value.slice.injEq] at h1
  obtain ⟨rfl, _, _⟩ := h1
  obtain ⟨b, off, e, _, hb, hc⟩ := h3 (by intro e; subst e; simp at hx)
  obtain ⟨cs, h4, h5⟩ := hc i x hx
  obtain ⟨p3, k3, p4, k4, rfl, _⟩ := IsVal.cells h5
  exact ⟨b, off, p3, k3, p4, k4, e, hb, h5, h4 0 _ rfl, h4 1 _ rfl, h4 2 _ rfl, h4 3 _ rfl, h4 4 _ rfl⟩

set_option maxHeartbeats 2000000 in
theorem cmpVs_of (S : Nat → Prop) (av bv : Value) (a b : List Val) (hC : ∀ x ∈ a, CmpAt x) (w : World) (ha : Sl valRd S w av a) (hb : Sl valRd S w bv b) :
    Calls Tryz.prog 68 #[av, bv, .func (.func 37) #[] #[]] w fun e w' => e = .returned (.int .i64 (cmpVs a b)) ∧ Gr w w' := by
  obtain ⟨pa, ca, rfl, hla⟩ := ha.len
  obtain ⟨pb, cb, rfl, hlb⟩ := hb.len
  have HA := Lib.hid ha; have HB := Lib.hid hb; have HC := Lib.hid hC
  obtain ⟨r, hr⟩ : ∃ r, cmpVs a b = r := ⟨_, rfl⟩
  rw [hr]
  have HR := Lib.hid hr
  clear ha hb hr hC
  go_enter Tryz.func68, Tryz.ntmps68
  go_wp2_with fail
  go_loopw [13] (fun i wr => ∃ k : Nat, k ≤ a.length ∧ k ≤ b.length ∧ i = .int .i64 k ∧ cmpVs (a.drop k) (b.drop k) = r ∧ Gr w wr) (fun i _ => a.length - (intOf i).toNat)
  case atStart => exact ⟨0, Nat.zero_le _, Nat.zero_le _, rfl, HR.out, Gr.refl _⟩
  case round =>
    obtain ⟨k, hka, hkb, rfl, hc, hBl⟩ := hrel
    have HBl := Lib.hid hBl
    clear hBl
    by_cases hlt : k < a.length
    · obtain ⟨x, hx⟩ : ∃ x, a[k]? = some x := ⟨_, List.getElem?_eq_getElem hlt⟩
      have hda : a.drop k = x :: a.drop (k + 1) := by
        rw [List.drop_eq_getElem_cons hlt]; rw [List.getElem?_eq_getElem hlt] at hx; cases hx; rfl
      obtain ⟨ga, oa, p3, k3, p4, k4, rfl, hga, hva, d0, d1, d2, d3, d4⟩ := (HA.out.below HBl.out.bl).val hx
      by_cases hlb2 : k < b.length
      · obtain ⟨y, hy⟩ : ∃ y, b[k]? = some y := ⟨_, List.getElem?_eq_getElem hlb2⟩
        have hdb : b.drop k = y :: b.drop (k + 1) := by
          rw [List.drop_eq_getElem_cons hlb2]; rw [List.getElem?_eq_getElem hlb2] at hy; cases hy; rfl
        obtain ⟨gb, ob, q3, l3, q4, l4, rfl, hgb, hvb, e0, e1, e2, e3, e4⟩ := (HB.out.below HBl.out.bl).val hy
        rw [hda, hdb] at hc
        have hc' : thn (cmpV x y) (cmpVs (a.drop (k + 1)) (b.drop (k + 1))) = r := hc
        have HX := Lib.hid (HC.out x (List.mem_of_getElem? hx) y S)
        have HVa := Lib.hid hva; have HVb := Lib.hid hvb
        generalize cmpV x y = c at HX hc'
        have hi1 : (0 : Int) ≤ (k : Int) := by omega
        have hi2 : (k : Int) < a.length := by omega
        have hi3 : (k : Int) < b.length := by omega
        have hq : decide (b.length ≤ k) = false := by simp; omega
        clear hva hvb hc hda hdb hx hy
        go_wp2_with fail
        refine (HX.out (vcs x p3 k3 p4 k4) (vcs y q3 l3 q4 l4) _ (HVa.out.move (.of_below (bal2 _ _ _)) (fun _ _ h => h)) (HVb.out.move (.of_below (bal2 _ _ _)) (fun _ _ h => h))).mono ?_
        rintro e w' ⟨rfl, hw⟩
        have HBw := Lib.hid (HBl.out.thn ((gal2 wr _ _).thn hw))
        clear hw
        by_cases hc0 : c = 0
        · subst hc0
          have HC2 := Lib.hid hc'
          clear hc'
          go_wp2_with fail
          go_roundw
          case rel => exact ⟨k + 1, by omega, by omega, by go_num, HC2.out, HBw.out⟩
          case measure => simp [intOf]; omega
        · have hq2 : (c != 0) = true := by rw [bne_iff_ne]; exact hc0
          have hcr : c = r := by rw [← hc']; unfold thn; rw [if_neg hc0]
          subst hcr
          clear hc' hc0
          go_wp2_with fail
          go_ret
          exact ⟨rfl, HBw.out⟩
      · have hdb : b.drop k = [] := List.drop_eq_nil_of_le (by omega)
        rw [hda, hdb] at hc
        have hr1 : r = 1 := by rw [← hc]; rfl
        subst hr1
        have hi1 : (0 : Int) ≤ (k : Int) := by omega
        have hi2 : (k : Int) < a.length := by omega
        have hq : decide (b.length ≤ k) = true := by simp; omega
        clear hc hda hdb hx hva
        go_wp2_with fail
        go_ret
        exact ⟨rfl, HBl.out.thn (gal1 _ _)⟩
    · have hda : a.drop k = [] := List.drop_eq_nil_of_le (by omega)
      rw [hda] at hc
      by_cases hlb2 : a.length < b.length
      · obtain ⟨y, t, hyt⟩ : ∃ y t, b.drop k = y :: t := by
          have : (b.drop k).length ≠ 0 := by rw [List.length_drop]; omega
          cases hd : b.drop k with
          | nil => rw [hd] at this; exact absurd rfl this
          | cons y t => exact ⟨y, t, rfl⟩
        rw [hyt] at hc
        have hr1 : r = -1 := by rw [← hc]; rfl
        subst hr1
        clear hc hda hyt
        go_wp2_with fail
        go_ret
        exact ⟨rfl, HBl.out⟩
      · have hdb : b.drop k = [] := List.drop_eq_nil_of_le (by omega)
        rw [hdb] at hc
        have hr1 : r = 0 := by rw [← hc]; rfl
        subst hr1
        clear hc hda hdb
        go_wp2_with fail
        go_ret
        exact ⟨rfl, HBl.out⟩

set_option maxHeartbeats 4000000 in
theorem cmpAt_of (k n : Int) (s : Bs) (ns : List Bs) (ks : List Val) (ih : ∀ x ∈ ks, CmpAt x) : CmpAt (.mk k n s ns ks) := by
  rintro ⟨k', n', s', ns', ks'⟩ S cx cy w hx hy
  obtain ⟨nv, kv, rfl, hs, hn, hk⟩ := isVal_iff.1 hx
  obtain ⟨nv', kv', rfl, hs', hn', hk'⟩ := isVal_iff.1 hy
  have hN : ∀ w', Below w.heap.size w w' → Calls Tryz.prog 67 #[nv, nv'] w' fun e w'' => e = .returned (.int .i64 (cmpN ns ns')) ∧ w' = w'' :=
    fun w' hb => cmpN_any S nv nv' ns ns' w' (hn.below hb) (hn'.below hb)
  have hK : ∀ w', Below w.heap.size w w' → Calls Tryz.prog 68 #[kv, kv', .func (.func 37) #[] #[]] w' fun e w'' => e = .returned (.int .i64 (cmpVs ks ks')) ∧ Gr w' w'' :=
    fun w' hb => cmpVs_of S kv kv' ks ks' ih w' (hk.below hb) (hk'.below hb)
  have hS : ∀ w', Calls Tryz.prog 46 #[sv s, sv s'] w' fun e w'' => e = .returned (.int .i64 (cmpB s s')) ∧ w' = w'' := fun w' => cmpS_any _ _ w'
  have HN := Lib.hid hN; have HK := Lib.hid hK; have HS := Lib.hid hS
  obtain ⟨cb, hcb⟩ : ∃ c, cmpB s s' = c := ⟨_, rfl⟩
  obtain ⟨cn, hcn⟩ : ∃ c, cmpN ns ns' = c := ⟨_, rfl⟩
  obtain ⟨cv, hcv⟩ : ∃ c, cmpVs ks ks' = c := ⟨_, rfl⟩
  rw [hcb] at HS; rw [hcn] at HN; rw [hcv] at HK
  have hB2 := Lib.hid (fun o1 o2 => bal2 w o1 o2)
  clear hN hK hS hx hy ih hn hn' hk hk'
  by_cases hkk : k = k'
  · subst hkk
    by_cases h0 : k = 0
    · subst h0
      rw [show cmpV (.mk 0 n s ns ks) (.mk 0 n' s' ns' ks') = ord n n' by simp [cmpV]]
      have HI := Lib.hid (fun w => cmpI_any n n' w)
      generalize ord n n' = r at HI ⊢
      clear hcb hcn hcv
      go_enter Tryz.func37, Tryz.ntmps37
      go_wp2_with (go_at_call 66; refine (HI.out _).mono ?_; rintro e w' ⟨rfl, rfl⟩)
      go_ret
      exact ⟨rfl, gal2 _ _ _⟩
    by_cases h2 : k = 2
    · subst h2
      rw [show cmpV (.mk 2 n s ns ks) (.mk 2 n' s' ns' ks') = ord n n' by simp [cmpV]]
      have HI := Lib.hid (fun w => cmpI_any n n' w)
      generalize ord n n' = r at HI ⊢
      clear hcb hcn hcv h0
      go_enter Tryz.func37, Tryz.ntmps37
      go_wp2_with (go_at_call 66; refine (HI.out _).mono ?_; rintro e w' ⟨rfl, rfl⟩)
      go_ret
      exact ⟨rfl, gal2 _ _ _⟩
    by_cases h1 : k = 1
    · subst h1
      rw [show cmpV (.mk 1 n s ns ks) (.mk 1 n' s' ns' ks') = cb by simp [cmpV, hcb]]
      clear hcb hcn hcv h0 h2
      go_enter Tryz.func37, Tryz.ntmps37
      go_wp2_with (go_at_call 46; refine (HS.out _).mono ?_; rintro e w' ⟨rfl, rfl⟩)
      go_ret
      exact ⟨rfl, gal2 _ _ _⟩
    by_cases h3 : k = 3
    · subst h3
      have hv : cmpV (.mk 3 n s ns ks) (.mk 3 n' s' ns' ks') = thn cb cv := by simp [cmpV, hcb, hcv]
      clear hcb hcn hcv h0 h2 h1
      by_cases hz : cb = 0
      · subst hz
        rw [hv, thn_zero]
        clear hv
        go_enter Tryz.func37, Tryz.ntmps37
        go_wp2_with (first | (go_at_call 46; refine (HS.out _).mono ?_; rintro e w' ⟨rfl, rfl⟩) | (go_at_call 68; refine (HK.out _ (bal2 _ _ _)).mono ?_; rintro e w' ⟨rfl, hw⟩; have HW := Lib.hid ((gal2 w _ _).thn hw); clear hw))
        go_ret
        exact ⟨rfl, HW.out⟩
      · have hq : (cb != 0) = true := by rw [bne_iff_ne]; exact hz
        have hv' : cmpV (.mk 3 n s ns ks) (.mk 3 n' s' ns' ks') = cb := by rw [hv]; unfold thn; rw [if_neg hz]
        rw [hv']
        clear hv hv' hz
        go_enter Tryz.func37, Tryz.ntmps37
        go_wp2_with (go_at_call 46; refine (HS.out _).mono ?_; rintro e w' ⟨rfl, rfl⟩)
        go_ret
        exact ⟨rfl, gal2 _ _ _⟩
    by_cases h4 : k = 4
    · subst h4
      have hv : cmpV (.mk 4 n s ns ks) (.mk 4 n' s' ns' ks') = thn cn cv := by simp [cmpV, hcn, hcv]
      clear hcb hcn hcv h0 h2 h1 h3
      by_cases hz : cn = 0
      · subst hz
        rw [hv, thn_zero]
        clear hv
        go_enter Tryz.func37, Tryz.ntmps37
        go_wp2_with (first | (go_at_call 67; refine (HN.out _ (bal2 _ _ _)).mono ?_; rintro e w' ⟨rfl, rfl⟩) | (go_at_call 68; refine (HK.out _ (bal2 _ _ _)).mono ?_; rintro e w' ⟨rfl, hw⟩; have HW := Lib.hid ((gal2 w _ _).thn hw); clear hw))
        go_ret
        exact ⟨rfl, HW.out⟩
      · have hq : (cn != 0) = true := by rw [bne_iff_ne]; exact hz
        have hv' : cmpV (.mk 4 n s ns ks) (.mk 4 n' s' ns' ks') = cn := by rw [hv]; unfold thn; rw [if_neg hz]
        rw [hv']
        clear hv hv' hz
        go_enter Tryz.func37, Tryz.ntmps37
        go_wp2_with (go_at_call 67; refine (HN.out _ (bal2 _ _ _)).mono ?_; rintro e w' ⟨rfl, rfl⟩)
        go_ret
        exact ⟨rfl, gal2 _ _ _⟩
    by_cases h5 : k = 5
    · subst h5
      rw [show cmpV (.mk 5 n s ns ks) (.mk 5 n' s' ns' ks') = cv by simp [cmpV, hcv]]
      clear hcb hcn hcv h0 h2 h1 h3 h4
      go_enter Tryz.func37, Tryz.ntmps37
      go_wp2_with (go_at_call 68; refine (HK.out _ (bal2 _ _ _)).mono ?_; rintro e w' ⟨rfl, hw⟩; have HW := Lib.hid ((gal2 w _ _).thn hw); clear hw)
      go_ret
      exact ⟨rfl, HW.out⟩
    have hv : cmpV (.mk k n s ns ks) (.mk k n' s' ns' ks') = 0 := by simp [cmpV, h0, h1, h2, h3, h4, h5]
    rw [hv]
    have q0 : (k == 0) = false := by simpa using h0
    have q1 : (k == 1) = false := by simpa using h1
    have q2 : (k == 2) = false := by simpa using h2
    have q3 : (k == 3) = false := by simpa using h3
    have q4 : (k == 4) = false := by simpa using h4
    have q5 : (k == 5) = false := by simpa using h5
    clear hv hcb hcn hcv h0 h1 h2 h3 h4 h5
    go_enter Tryz.func37, Tryz.ntmps37
    go_wp2_with fail
    go_ret
    exact ⟨rfl, gal2 _ _ _⟩
  · have hv : cmpV (.mk k n s ns ks) (.mk k' n' s' ns' ks') = ord k k' := by simp [cmpV, hkk]
    rw [hv]
    have hq : (k != k') = true := by rw [bne_iff_ne]; exact hkk
    have HI := Lib.hid (fun w => cmpI_any k k' w)
    generalize ord k k' = r at HI ⊢
    clear hv hcb hcn hcv hkk
    go_enter Tryz.func37, Tryz.ntmps37
    go_wp2_with (go_at_call 66; refine (HI.out _).mono ?_; rintro e w' ⟨rfl, rfl⟩)
    go_ret
    exact ⟨rfl, gal2 _ _ _⟩

theorem cmpAt : ∀ x : Val, CmpAt x
  | .mk k n s ns ks => cmpAt_of k n s ns ks fun x _ => cmpAt x
termination_by x => SizeOf.sizeOf x
decreasing_by
  have := List.sizeOf_lt_of_mem ‹_ ∈ ks›
  simp only [Val.mk.sizeOf_spec]
  omega
theorem cmpVs_any (S : Nat → Prop) (av bv : Value) (a b : List Val) (w : World) (ha : Sl valRd S w av a) (hb : Sl valRd S w bv b) :
    Calls Tryz.prog 68 #[av, bv, .func (.func 37) #[] #[]] w fun e w' => e = .returned (.int .i64 (cmpVs a b)) ∧ Gr w w' :=
  cmpVs_of S av bv a b (fun x _ => cmpAt x) w ha hb
end Go.Proofs.YthkkmklnapkgaaaGreatDoor

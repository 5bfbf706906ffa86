import Derived.Test.YtppbaladeefnkaaGreatDoorU22
set_option maxRecDepth 100000
set_option maxHeartbeats 400000000
namespace Go.Proofs.YtppbaladeefnkaaGreatDoor
open Go.RowKit Go.Shelf Go.Lib Tryz
theorem Own.set5 {E : TypeId} {S : Nat → Prop} {B : Nat} {w : World} {g n cap : Nat} {xs : List Val} {css : List (List Value)} (hn : xs.length = n) (h : Own Ql E S B w (.slice (some ⟨g, 0, none⟩) n cap) xs css) {i : Nat} (hi : i < n) {a b c d e : Value} {x : Val} (hx : Qh (But S (.slice (some ⟨g, 0, none⟩) n cap)) w [a, b, c, d, e] x) :
  Own Ql E S B (((((w.setCell ⟨g, i * 5, none⟩ a).setCell ⟨g, i * 5 + 1, none⟩ b).setCell ⟨g, i * 5 + 2, none⟩ c).setCell ⟨g, i * 5 + 3, none⟩ d).setCell ⟨g, i * 5 + 4, none⟩ e) (.slice (some ⟨g, 0, none⟩) n cap) (xs.set i x) (css.set i [a, b, c, d, e]) := by
 subst hn
 have hl := h.cs.len
 have hA : ∀ b', b' ≠ g → (((((w.setCell ⟨g, i * 5, none⟩ a).setCell ⟨g, i * 5 + 1, none⟩ b).setCell ⟨g, i * 5 + 2, none⟩ c).setCell ⟨g, i * 5 + 3, none⟩ d).setCell ⟨g, i * 5 + 4, none⟩ e).heap[b']? = w.heap[b']? := fun b' hb => Ym hb
 refine ⟨by rw [List.length_set]; exact store5 h.row hl h.cs.all i hi a b c d e, ⟨by rw [List.length_set, List.length_set]; exact hl, fun j cs y hc hy => ?_⟩⟩
 by_cases hj : j = i
 ·subst hj
  rw [List.getElem?_set_self (by rw [hl]; exact hi)] at hc
  rw [List.getElem?_set_self hi] at hy
  cases hc; cases hy
  exact hx.move (fun b' hS _ => hA b' (fun e => hS.2 (by rw [e]; rfl))) (fun _ _ h => h)
 rw [List.getElem?_set_ne (Ne.symm hj)] at hc hy
 exact Qh.move (h.cs.R j cs y hc hy) (fun b' hS _ => hA b' (fun e => hS.2 (by rw [e]; rfl))) (fun _ _ h => h)
theorem Pn (S : Nat → Prop) (v x : Val) (name : Bs) (cv cx : List Value) (w : World) (hv0 : Qh S w cv v) (hx0 : Qh S w cx x) (hbv : Z2 v) (hbx : Z2 x) :
  Calls prog 197 #[.agg cv.toArray, sv name, .agg cx.toArray] w (Yf S w) := by
 have hv : Qh (fun b => S b ∧ b < w.heap.size) w cv v := hv0.move (.refl _ _) (fun b hb h => ⟨h, hb⟩)
 have hx : Qh (fun b => S b ∧ b < w.heap.size) w cx x := hx0.move (.refl _ _) (fun b hb h => ⟨h, hb⟩)
 clear hv0 hx0
 have HF := Qq (fun W (hb : Below w.heap.size w W) => F5 _ v cv name W (hv.move (.of_below hb) (fun _ _ h => h)))
 obtain ⟨p3, k3, p4, k4, hcv, hnv, hkv, hsl⟩ := Qh.cells hv
 obtain ⟨q3, l3, q4, l4, hcx, _⟩ := Qh.cells hx
 have HXV := Qq hx
 simp only [vcs] at hcv hcx
 subst hcv; subst hcx
 have hl : v.kids.length ≤ 1000000 := by obtain ⟨_, _, _, h⟩ := hkv.len; exact h
 have HNv := Qq hnv; have HKv := Qq hkv; have HBv := Qq hbv; have HBx := Qq hbx
 obtain ⟨i0, j1, j2, j3, j4⟩ := Ze (P := prog) (t := 44) (z := .agg zV) (n := 5) (b := 80) (by kernel_rfl)
 have HJ := Qq j1; have HJ2 := Qq j2; have HJ3 := Qq j3; have HJ4 := Qq j4
 clear j1 j2 j3 j4
 clear hv hx hnv hkv hbv hbx
 unfold sv at HF ⊢
 cases hg : Yw v name with
 | none =>
  rw [Ky hg] at HF
  clear hg
  go_enter func197, ntmps197
  go_wp2_with fail
  refine (HF.out _ (Xl _ _ _ _)).mono ?_
  rintro e w1 ⟨rfl, hw⟩
  have hR := (hw.block (w.heap.size + 2) (by simp)).trans (Zw _ _ _ _)
  have HW := Qq hw; have HR := Qq hR
  obtain ⟨y0, y1, y2, y3, y4⟩ := row5 hR
  obtain ⟨f0, f1, f2, f3, f4⟩ := frz5 hR
  clear hw hR
  go_wp2_with fail
  show bodyPost _ _ _ _ _ (Zz w1 (w.heap.size + 2) (.int .i64 0) (.int .i64 0) (.string ⟨#[]⟩) (.slice none 0 0) (.slice none 0 0))
  exact Q7 (v := .tuple #[.agg zV, .bool false]) (by simp [results, results197, go_sem, Qm HR.out]) rfl ⟨0, 0, ⟨#[]⟩, none, 0, 0, none, 0, 0, false, rfl, (fun h => by cases h), Qn ((Xl w _ _ _).thn HW.out) (by omega)⟩
 | some u =>
  obtain ⟨i, hi, hku⟩ := Ju hg
  rw [hi] at HF
  obtain ⟨n, hn⟩ := eX (v.kids.length)
  have hlt : i < n := by rw [← hn]; exact (Qj hku).1
  rw [hn] at HF HKv hl ⊢
  have HN := Qq hn
  have hi1 : (0 : Int) ≤ (i : Int) := by omega
  have hi2 : (i : Int) < (n : Int) := by omega
  have hi3 : decide ((i : Int) < 0) = false := by simp
  have HKu := Qq hku; have HGu := Qq hg
  clear hg hi hku hn
  go_enter func197, ntmps197
  go_wp2_with fail
  refine (HF.out _ (Xl _ _ _ _)).mono ?_
  rintro e w1 ⟨rfl, hw⟩
  have hX := (hw.block w.heap.size (by simp; omega)).trans (Zb _ _ _ _)
  have hY := (hw.block (w.heap.size + 1) (by simp)).trans (Z7 _ _ _ _)
  have hR := (hw.block (w.heap.size + 1 + 1) (by simp)).trans (Zw _ _ _ _)
  have hbw1 := (Xl w _ _ _).thn hw
  have HX := Qq hX; have HY := Qq hY; have HR := Qq hR; have HBw1 := Qq hbw1
  have hsz1 : w.heap.size + 1 + 1 < w1.heap.size := Qf hR
  have c4 := rA4 hX
  have hA : Sl Ql (But (fun b => S b ∧ b < w.heap.size) (.slice none 0 0)) w1 (.slice p4 n k4) v.kids := (HKv.out.mono (S' := But (fun b => S b ∧ b < w.heap.size) (.slice none 0 0)) (fun b _ h => ⟨h, fun e => by cases e⟩)).below hbw1
  have HA := Qq hA
  have hn1 : ([] : List Val).length + v.kids.length = n := by rw [HN.out]; simp
  have HN1 := Qq hn1
  clear hw hX hY hR hbw1 hA hn1
  go_upto_region 6 with (at_builtin; refine Yq (r := Ql) (by decide) Yi rfl (.tmp 16) (.tmp 18) _ rfl 44 i0 (.agg zV) 80 underlying40 HJ.out HJ2.out HJ3.out HJ4.out rfl (by omega) (fun b => S b ∧ b < w.heap.size) (w.heap.size + 3) w1 (.slice none 0 0) [] [] rfl (Own.nil _ _ _ _ _) (.slice p4 n k4) v.kids rfl HA.out n HN1.out (by omega) (by omega) ?_; intro pa ca cssa wa hOa hLa; have HOa := Qq hOa; have HLa := Qq hLa; clear hOa hLa)
  rw [List.nil_append] at HOa
  obtain ⟨g, cap', hpv, hgB, hgs⟩ := HOa.out.row.form (by rw [HN.out]; omega)
  simp only [Value.slice.injEq] at hpv
  obtain ⟨rfl, -, rfl⟩ := hpv
  have hX2 := kE HLa.out.below (by omega) HX.out
  have hY2 := kE HLa.out.below (by omega) HY.out
  have hR2 := kE HLa.out.below (by omega) HR.out
  have hbwa : Below w.heap.size w wa := HBw1.out.trans (HLa.out.below.mono (by omega))
  have hVx : Qh (But (fun b => S b ∧ b < w.heap.size) (.slice (some ⟨g, 0, none⟩) n ca)) wa [.int .i64 x.kind, .int .i64 x.n, .string ⟨x.s.toArray⟩, .slice q3 x.names.length l3, .slice q4 x.kids.length l4] x := Qh.move HXV.out (.of_below hbwa) (fun b hb h => ⟨h, fun e => by have := (HOa.out.row.lt b e.symm).1; omega⟩)
  have hO2 := HOa.out.set5 HN.out hlt hVx
  obtain ⟨bq, oq, t3, s3, t4, s4, he, _, _, d0, d1, d2, d3, d4⟩ := (show Sl Ql (fun _ => True) wa (.slice (some ⟨g, 0, none⟩) n ca) v.kids by have := HOa.out.sl (S' := fun _ => True) (by rw [HN.out]; omega) (fun _ _ => trivial) (fun _ _ _ => trivial); exact this).val HKu.out
  obtain ⟨rfl, rfl⟩ : g = bq ∧ 0 = oq := by simpa using he
  simp only [Nat.zero_add] at d0 d1 d2 d3 d4
  have hrow := HOa.out.row
  rw [HN.out] at hrow
  have f0 := hrow.frozenAt (i * 5); have f1 := hrow.frozenAt (i * 5 + 1); have f2 := hrow.frozenAt (i * 5 + 2); have f3 := hrow.frozenAt (i * 5 + 3); have f4 := hrow.frozenAt (i * 5 + 4)
  clear hrow
  obtain ⟨y0, y1, y2, y3, y4⟩ := row5 hY2
  have HO2 := Qq hO2; have HX2 := Qq hX2; have HR2 := Qq hR2; have HBwa := Qq hbwa
  have hsza := HLa.out.size
  clear he hO2 hX2 hY2 hR2 hbwa hVx c4
  go_upto_region 7 with fail
  obtain ⟨W6, hW6⟩ := eX ((((((wa.setCell ⟨g, i * 5, none⟩ (.int .i64 x.kind)).setCell ⟨g, i * 5 + 1, none⟩ (.int .i64 x.n)).setCell ⟨g, i * 5 + 2, none⟩ (.string ⟨x.s.toArray⟩)).setCell ⟨g, i * 5 + 3, none⟩ (.slice q3 x.names.length l3)).setCell ⟨g, i * 5 + 4, none⟩ (.slice q4 x.kids.length l4)))
  have ho6 : ∀ b, b ≠ g → W6.heap[b]? = wa.heap[b]? := fun b hb => by rw [← hW6]; exact Ym hb
  have hs6 : W6.heap.size = wa.heap.size := by rw [← hW6]; simp [World.setCell]
  have hO6 := HO2.out
  rw [hW6] at hO6 ⊢
  have hX6 := (ho6 w.heap.size (by omega)).trans HX2.out
  have hR6 := (ho6 (w.heap.size + 1 + 1) (by omega)).trans HR2.out
  have hb6 : Below w.heap.size w W6 := by
   rw [← hW6]
   exact ((((HBwa.out.setCell (p := ⟨g, i * 5, none⟩) (by show w.heap.size ≤ g; omega) _).setCell (p := ⟨g, i * 5 + 1, none⟩) (by show w.heap.size ≤ g; omega) _).setCell (p := ⟨g, i * 5 + 2, none⟩) (by show w.heap.size ≤ g; omega) _).setCell (p := ⟨g, i * 5 + 3, none⟩) (by show w.heap.size ≤ g; omega) _).setCell (p := ⟨g, i * 5 + 4, none⟩) (by show w.heap.size ≤ g; omega) _
  have HO6 := Qq hO6; have HX6 := Qq hX6; have HR6 := Qq hR6; have HB6 := Qq hb6
  obtain ⟨c0, c1, c2, c3, c4⟩ := row5 hX6
  have fx4 := fA 4 hX6
  clear hW6 ho6 hO6 hX6 hR6 hb6 d0 d1 d2 d3 d4 f0 f1 f2 f3 f4 y0 y1 y2 y3 y4
  go_upto_region 8 with fail
  obtain ⟨W7, hW7⟩ := eX (W6.setCell ⟨w.heap.size, 4, none⟩ (.slice (some ⟨g, 0, none⟩) n ca))
  rw [hW7]
  have hX7 : W7.heap[w.heap.size]? = some (.cells #[.int .i64 v.kind, .int .i64 v.n, .string ⟨v.s.toArray⟩, .slice p3 v.names.length k3, .slice (some ⟨g, 0, none⟩) n ca] 44 (0, 0)) := by rw [← hW7, heap_setCell_same _ _ _ _ _ _ HX6.out]; rfl
  have ho7 : ∀ b, b ≠ w.heap.size → W7.heap[b]? = W6.heap[b]? := fun b hb => by rw [← hW7]; exact Qg hb
  have hR7 := (ho7 (w.heap.size + 1 + 1) (by omega)).trans HR6.out
  have hb7 : Below w.heap.size w W7 := by rw [← hW7]; exact HB6.out.setCell (p := ⟨w.heap.size, 4, none⟩) (Q9 _) _
  have hO7 : Own Ql 44 (fun b => S b ∧ b < w.heap.size) (w.heap.size + 3) W7 (.slice (some ⟨g, 0, none⟩) n ca) (v.kids.set i x) _ := HO6.out.move (Q9 _) (fun b _ h => ho7 b (by
   rcases h with h | h
   ·have := h.2; omega
   have := (HO6.out.row.lt b h).1; omega))
  have HR7 := Qq hR7; have HB7 := Qq hb7; have HO7 := Qq hO7
  clear c0 c1 c2 c3 c4 fx4
  obtain ⟨e0, e1, e2, e3, e4⟩ := row5 hX7
  obtain ⟨r0, r1, r2, r3, r4⟩ := row5 hR7
  obtain ⟨f0, f1, f2, f3, f4⟩ := frz5 hR7
  clear hW7 hX7 ho7 hR7 hb7 hO7
  go_wp2_with fail
  show bodyPost _ _ _ _ _ (Zz W7 (w.heap.size + 1 + 1) (.int .i64 v.kind) (.int .i64 v.n) (.string ⟨v.s.toArray⟩) (.slice p3 v.names.length k3) (.slice (some ⟨g, 0, none⟩) n ca))
  refine Q7 (v := .tuple #[.agg #[.int .i64 v.kind, .int .i64 v.n, .string ⟨v.s.toArray⟩, .slice p3 v.names.length k3, .slice (some ⟨g, 0, none⟩) n ca], .bool true]) (by simp [results, results197, go_sem, Qm HR7.out]) rfl ⟨v.kind, v.n, ⟨v.s.toArray⟩, p3, v.names.length, k3, some ⟨g, 0, none⟩, n, ca, true, rfl, fun _ => ⟨.mk v.kind v.n v.s v.names (v.kids.set i x), ?_, ?_⟩, Qn HB7.out (by omega)⟩
  ·have hls : (v.kids.set i x).length = n := by rw [List.length_set, HN.out]
   have hk9 : Sl Ql (fun b => (S b ∧ b < w.heap.size) ∨ w.heap.size + 3 ≤ b) W7 (.slice (some ⟨g, 0, none⟩) n ca) (v.kids.set i x) := HO7.out.sl (by rw [hls]; omega) (fun b hb => .inr hb) (fun b _ h => .inl h)
   refine Zn hsl ?_ ?_
   ·exact ((HNv.out.below HB7.out).frame (fun b hb _ => Qt (by have := hb.2; omega))).mono (fun b _ hb => .inl hb.1)
   refine (hk9.frame (fun b hb _ => Qt (by omega))).mono (fun b _ hb => ?_)
   rcases hb with h | h
   ·exact .inl h.1
   exact .inr (by omega)
  refine .mk _ _ _ _ _ (fun h => HBv.out.bool h) (fun y hy => ?_)
  rcases List.mem_or_eq_of_mem_set hy with h | h
  ·exact HBv.out.kids y h
  rw [h]; exact HBx.out
theorem Pj {l : List Tbl} {x : Bs} {k : Nat} {t : Tbl} (ht : l[k]? = some t) (he : t.name = x) (hne : ∀ (j : Nat) (y : Tbl), j < k → l[j]? = some y → decide (y.name = x) = false) : Z0 l x = some t := by
 obtain ⟨hk, rfl⟩ := Qj ht
 unfold Z0
 rw [List.find?_eq_some_iff_getElem]
 exact ⟨by simpa using he, k, hk, rfl, fun j hj => by simpa using hne j _ hj (Qx (by omega))⟩
theorem M4 {l : List Tbl} {x : Bs} (hne : ∀ (j : Nat) (y : Tbl), l[j]? = some y → decide (y.name = x) = false) : Z0 l x = none := by
 unfold Z0
 rw [List.find?_eq_none]
 intro y hy
 obtain ⟨j, hj⟩ := List.getElem?_of_mem hy
 simpa using hne j y hj
def O3 (S : Nat → Prop) (w : World) (o : Option Tbl) (e : Ending) (w' : World) : Prop := ∃ cs', e = .returned (.tuple #[.agg cs'.toArray, .bool o.isSome]) ∧ Qs.R S w' cs' (o.getD Tbl.zero) ∧ Below w.heap.size w w'
theorem Jp (S : Nat → Prop) (s : Sc) (cs : List Value) (x0 : Bs) (w : World) (hs : Yl S w cs s) :
  Calls prog 9 #[.agg cs.toArray, sv x0] w (O3 S w (Z0 s.tables x0)) := by
 obtain ⟨uv, tv, rfl, hu, ht0⟩ := hs
 have ht := ht0.up
 obtain ⟨up, uc, rfl, _⟩ := hu.len
 obtain ⟨tp, tc, rfl, hl0⟩ := ht.len
 have HT := Qq ht
 clear hu ht ht0
 obtain ⟨n, hn⟩ := eX (s.tables.length)
 rw [hn] at HT hl0 ⊢
 have HN := Qq hn
 clear hn
 obtain ⟨r, hr⟩ := eX (Z0 s.tables x0)
 rw [hr]
 have HR := Qq hr
 clear hr
 unfold sv
 go_enter func9, ntmps9
 go_wp2_with fail
 generalize hW1 : (w.alloc _).alloc _ = W1
 have hb1 := eqB hW1 (Zv _ _ _)
 have hX1 := eqH (b := w.heap.size) hW1 (Q5 _ _ _)
 have hR1 := eqH (b := w.heap.size + 1) hW1 (Q6 _ _ _)
 have HB1 := Qq hb1; have HR1 := Qq hR1
 obtain ⟨c0, c1⟩ := row2 hX1
 obtain ⟨r0, r1, r2, r3, r4, r5, r6, r7, r8, r9, r10, r11, r12⟩ := row13 hR1
 obtain ⟨f0, f1, f2, f3, f4, f5, f6, f7, f8, f9, f10, f11, f12⟩ := frz13 hR1
 clear hW1 hb1 hX1 hR1
 go_loop [6] (fun i => ∃ k : Nat, k ≤ n ∧ i = .int .i64 k ∧ Aside (∀ (j : Nat) (y : Tbl), j < k → s.tables[j]? = some y → decide (y.name = x0) = false)) (fun i => n - (intOf i).toNat)
 case atStart => exact ⟨0, Q8 _, rfl, fun j _ hj => absurd hj (Nat.not_lt_zero _)⟩
 obtain ⟨k, hk, rfl, A⟩ := hrel
 by_cases hlt : k < n
 ·have hi1 : (0 : Int) ≤ (k : Int) := by omega
  have hi2 : (k : Int) < (n : Int) := by omega
  obtain ⟨y, hy⟩ : ∃ y, s.tables[k]? = some y := ⟨_, Qx (by rw [HN.out]; exact hlt)⟩
  obtain ⟨b, off, ct, rfl, hbl, hSb, _, hR, hc⟩ := (HT.out.below HB1.out).elem hy
  have hRr := hR
  obtain ⟨cp9, cc9, kp9, kc9, rp9, rc9, k9, s19, n9, s29, p19, n19, c19, p29, n29, c29, p39, n39, c39, a9, z9, hcs, _⟩ := Zk hR
  simp only [tcs] at hcs
  subst hcs
  have d0 := hc 0 _ rfl
  have d1 := hc 1 _ rfl
  have d2 := hc 2 _ rfl
  have d3 := hc 3 _ rfl
  have d4 := hc 4 _ rfl
  have d5 := hc 5 _ rfl
  have d6 := hc 6 _ rfl
  have d7 := hc 7 _ rfl
  have d8 := hc 8 _ rfl
  have d9 := hc 9 _ rfl
  have d10 := hc 10 _ rfl
  have d11 := hc 11 _ rfl
  have d12 := hc 12 _ rfl
  simp only [show Qs.k = 13 from rfl, Nat.add_zero] at d0 d1 d2 d3 d4 d5 d6 d7 d8 d9 d10 d11 d12
  have HRr := Qq hRr; have HY := Qq hy
  clear hR hRr hc hy
  by_cases he : y.name = x0
  ·have hq : (y.name == x0) = true := by rw [he]; simp
   have hr0 : r = some y := by rw [← HR.out]; exact Pj HY.out he A.out
   subst hr0
   clear he A
   go_wp2_with fail
   obtain ⟨W, hW⟩ := eX (Yr W1 (w.heap.size + 1) (.string ⟨y.name.toArray⟩) (.slice cp9 y.columns.length cc9) (.slice kp9 y.key.length kc9) (.slice rp9 y.refs.length rc9) (.int .i64 k9) (.string s19) (.int .i64 n9) (.string s29) (.slice p19 n19 c19) (.slice p29 n29 c29) (.slice p39 n39 c39) (.int .i64 a9) (.int .i64 z9))
   have q : ∀ j, W.cell? ⟨w.heap.size + 1, j, none⟩ = #[.string ⟨y.name.toArray⟩, .slice cp9 y.columns.length cc9, .slice kp9 y.key.length kc9, .slice rp9 y.refs.length rc9, .int .i64 k9, .string s19, .int .i64 n9, .string s29, .slice p19 n19 c19, .slice p29 n29 c29, .slice p39 n39 c39, .int .i64 a9, .int .i64 z9][j]? := fun j => by rw [← hW]; exact Xr HR1.out j
   have hoth : ∀ b, b ≠ w.heap.size + 1 → W.heap[b]? = W1.heap[b]? := fun b hb => by rw [← hW]; exact Xc hb
   have hbel : Below w.heap.size w W := by rw [← hW]; exact Yv HB1.out (by omega)
   show bodyPost _ _ _ _ _ (Yr W1 (w.heap.size + 1) (.string ⟨y.name.toArray⟩) (.slice cp9 y.columns.length cc9) (.slice kp9 y.key.length kc9) (.slice rp9 y.refs.length rc9) (.int .i64 k9) (.string s19) (.int .i64 n9) (.string s29) (.slice p19 n19 c19) (.slice p29 n29 c29) (.slice p39 n39 c39) (.int .i64 a9) (.int .i64 z9))
   rw [hW]
   have HBel := Qq hbel; have HOth := Qq hoth
   have q0 := q 0; have q1 := q 1; have q2 := q 2; have q3 := q 3; have q4 := q 4; have q5 := q 5; have q6 := q 6; have q7 := q 7; have q8 := q 8; have q9 := q 9; have q10 := q 10; have q11 := q 11; have q12 := q 12
   simp only [List.getElem?_toArray, List.getElem?_cons_zero, List.getElem?_cons_succ] at q0 q1 q2 q3 q4 q5 q6 q7 q8 q9 q10 q11 q12
   clear hW hbel hoth q
   refine Q7 (v := .tuple #[.agg #[.string ⟨y.name.toArray⟩, .slice cp9 y.columns.length cc9, .slice kp9 y.key.length kc9, .slice rp9 y.refs.length rc9, .int .i64 k9, .string s19, .int .i64 n9, .string s29, .slice p19 n19 c19, .slice p29 n29 c29, .slice p39 n39 c39, .int .i64 a9, .int .i64 z9], .bool true]) (by simp [results, results9, go_sem, q0, q1, q2, q3, q4, q5, q6, q7, q8, q9, q10, q11, q12]) rfl ⟨[.string ⟨y.name.toArray⟩, .slice cp9 y.columns.length cc9, .slice kp9 y.key.length kc9, .slice rp9 y.refs.length rc9, .int .i64 k9, .string s19, .int .i64 n9, .string s29, .slice p19 n19 c19, .slice p29 n29 c29, .slice p39 n39 c39, .int .i64 a9, .int .i64 z9], rfl, Qs.mono (Qs.frame HRr.out (fun b hb _ => HOth.out b (by have := hb.2; omega))) (fun b _ h => h.1), HBel.out⟩
  have hq : (y.name == x0) = false := by rw [← Bool.not_eq_true, beq_iff_eq]; exact he
  have HE := Qq he
  clear he
  go_wp2_with fail
  go_round
  case measure => simp [intOf]; omega
  case rel =>
   refine ⟨k + 1, by omega, by go_num, (show Aside _ from fun j z hj hz => ?_)⟩
   by_cases e : j = k
   ·subst e
    have := HY.out
    rw [this] at hz
    cases hz
    simpa using HE.out
   exact A.out j z (by omega) hz
 have hltz : ¬ (k : Int) < (n : Int) := by omega
 have : k = n := by omega
 subst this
 have hr0 : r = none := by rw [← HR.out]; exact M4 (fun j y hy => A.out j y (by have := (Qj hy).1; have := HN.out; omega) hy)
 subst hr0
 clear A
 go_wp2_with fail
 obtain ⟨W, hW⟩ := eX (Yr W1 (w.heap.size + 1) (.string ⟨#[]⟩) (.slice none 0 0) (.slice none 0 0) (.slice none 0 0) (.int .i64 0) (.string ⟨#[]⟩) (.int .i64 0) (.string ⟨#[]⟩) (.slice none 0 0) (.slice none 0 0) (.slice none 0 0) (.int .i64 0) (.int .i64 0))
 have q : ∀ j, W.cell? ⟨w.heap.size + 1, j, none⟩ = zT[j]? := fun j => by rw [← hW]; exact Xr HR1.out j
 have hoth : ∀ b, b ≠ w.heap.size + 1 → W.heap[b]? = W1.heap[b]? := fun b hb => by rw [← hW]; exact Xc hb
 have hbel : Below w.heap.size w W := by rw [← hW]; exact Yv HB1.out (by omega)
 show bodyPost _ _ _ _ _ (Yr W1 (w.heap.size + 1) (.string ⟨#[]⟩) (.slice none 0 0) (.slice none 0 0) (.slice none 0 0) (.int .i64 0) (.string ⟨#[]⟩) (.int .i64 0) (.string ⟨#[]⟩) (.slice none 0 0) (.slice none 0 0) (.slice none 0 0) (.int .i64 0) (.int .i64 0))
 rw [hW]
 have HBel := Qq hbel; have HOth := Qq hoth
 have q0 := q 0; have q1 := q 1; have q2 := q 2; have q3 := q 3; have q4 := q 4; have q5 := q 5; have q6 := q 6; have q7 := q 7; have q8 := q 8; have q9 := q 9; have q10 := q 10; have q11 := q 11; have q12 := q 12
 simp only [List.getElem?_toArray, List.getElem?_cons_zero, List.getElem?_cons_succ] at q0 q1 q2 q3 q4 q5 q6 q7 q8 q9 q10 q11 q12
 clear hW hbel hoth q
 refine Q7 (v := .tuple #[.agg zT, .bool false]) (by simp [results, results9, go_sem, q0, q1, q2, q3, q4, q5, q6, q7, q8, q9, q10, q11, q12]) rfl ⟨[.string ⟨#[]⟩, .slice none 0 0, .slice none 0 0, .slice none 0 0, .int .i64 0, .string ⟨#[]⟩, .int .i64 0, .string ⟨#[]⟩, .slice none 0 0, .slice none 0 0, .slice none 0 0, .int .i64 0, .int .i64 0], rfl, Jo _ _, HBel.out⟩
def RKeyIs (S : Nat → Prop) (w : World) (l : List Val) (e : Ending) (w' : World) : Prop := ∃ p cap, e = .returned (.slice p l.length cap) ∧ Sl Ql (fun b => S b ∨ w.heap.size ≤ b) w' (.slice p l.length cap) l ∧ Below w.heap.size w w'
def Hy (S : Nat → Prop) (w : World) (u : Val) (b : Bool) (t7 t8 : Value) (wx : World) : Prop :=
 ∃ G q3 m3 q4 m4, t7 = .pointer (some ⟨G, 0, none⟩) ∧ t8 = .bool b ∧ wx.heap[G]? = some (.cells #[.int .i64 u.kind, .int .i64 u.n, .string ⟨u.s.toArray⟩, .slice q3 u.names.length m3, .slice q4 u.kids.length m4] 44 (0, 0)) ∧ Qh S wx (vcs u q3 m3 q4 m4) u ∧ Below w.heap.size w wx ∧ w.heap.size ≤ G
theorem Us (S S0 : Nat → Prop) (t : Tbl) (row : Val) (ct cr : List Value) (w : World) (ht : Qs.R S w ct t) (hr0 : Qh S0 w cr row) (hkl : t.key.length ≤ 1000) :
  Calls prog 12 #[.agg ct.toArray, .agg cr.toArray] w (RKeyIs S0 w ((keyOf t.key row).getD [])) := by
 have hr : Qh (fun b => S0 b ∧ b < w.heap.size) w cr row := hr0.move (.refl _ _) (fun b hb h => ⟨h, hb⟩)
 clear hr0
 have HG := Qq (fun x W (hb : Below w.heap.size w W) => G9 _ row cr x W (hr.move (.of_below hb) (fun _ _ h => h)))
 obtain ⟨cp0, cc0, kp0, kc0, rp0, rc0, k0, s10, n0, s20, p10, n10, c10, p20, n20, c20, p30, n30, c30, a0, z0, rfl, _, _, hkey, _, _⟩ := Zk ht
 obtain ⟨r3, l3, r4, l4, hcr, _⟩ := Qh.cells hr
 simp only [vcs] at hcr
 subst hcr
 unfold tcs
 have HK := Qq hkey
 obtain ⟨i0, j1, j2, j3, j4⟩ := Ze (P := prog) (t := 44) (z := .agg zV) (n := 5) (b := 80) (by kernel_rfl)
 have HJ := Qq j1; have HJ2 := Qq j2; have HJ3 := Qq j3; have HJ4 := Qq j4
 clear j1 j2 j3 j4
 clear ht hr hkey
 obtain ⟨n, hn⟩ := eX (t.key.length)
 rw [hn] at HK hkl ⊢
 have HN := Qq hn
 clear hn
 obtain ⟨r, hr⟩ := eX (keyOf t.key row)
 rw [hr]
 have HR := Qq hr
 clear hr
 unfold sv at HG
 go_enter func12, ntmps12
 go_wp2_with fail
 generalize hW1 : (w.alloc _).alloc _ = W1
 have hb1 := eqB hW1 (Zv _ _ _)
 have hX1 : W1.heap[w.heap.size]? = some (.cells #[.string ⟨t.name.toArray⟩, .slice cp0 t.columns.length cc0, .slice kp0 t.key.length kc0, .slice rp0 t.refs.length rc0, .int .i64 k0, .string s10, .int .i64 n0, .string s20, .slice p10 n10 c10, .slice p20 n20 c20, .slice p30 n30 c30, .int .i64 a0, .int .i64 z0] 37 (0, 0)) := by rw [← hW1, HN.out]; exact Q5 _ _ _
 have hY1 := eqH (b := w.heap.size + 1) hW1 (Q6 _ _ _)
 have HB1 := Qq hb1; have HX1 := Qq hX1; have HY1 := Qq hY1
 clear hW1 hb1 hX1 hY1
 go_loopw [5, 6, 7, 8] (fun o i _ _ wr => ∃ (k : Nat) (l : List Val) (p : Option Addr) (cap : Nat), k ≤ n ∧ i = .int .i64 k ∧ o = .slice p k cap ∧ l.length = k ∧ Aside (keyOf (t.key.take k) row = some l) ∧ Below (w.heap.size + 2) W1 wr ∧
  (∃ css, Own Ql 44 (fun b => (S0 b ∧ b < w.heap.size) ∨ w.heap.size + 2 ≤ b) (w.heap.size + 2) wr (.slice p k cap) l css)) (fun _ i _ _ _ => n - (intOf i).toNat)
 case atStart => exact ⟨0, [], none, 0, Q8 _, rfl, rfl, rfl, rfl, Qz _ _, [], Own.nil _ _ _ _ _⟩
 obtain ⟨k, l, p, cap, hkn, rfl, rfl, hll, hE, hBr, css, hO⟩ := hrel
 have hsz := Qf HY1.out
 have hXr := kE hBr (by omega) HX1.out
 have hYr := kE hBr (by omega) HY1.out
 have c2 := Qk _ _ 2 _ _ _ hXr; have y0 := rA0 hYr; have y1 := rA1 hYr; have y2 := rA2 hYr; have y3 := rA3 hYr; have y4 := rA4 hYr
 simp only [List.getElem?_toArray, List.getElem?_cons_zero, List.getElem?_cons_succ, HN.out] at c2
 have hbw : Below w.heap.size w wr := HB1.out.trans (hBr.mono (by omega))
 have hsr := hBr.size
 have HBr := Qq hBr; have HBw := Qq hbw; have HO := Qq hO; have HE := Qq hE.out; have HLL := Qq hll
 clear hXr hYr hBr hbw hO hE hll
 by_cases hlt : k < n
 ·have hi1 : (0 : Int) ≤ (k : Int) := by omega
  have hi2 : (k : Int) < (n : Int) := by omega
  have hka : k < t.key.length := by rw [HN.out]; exact hlt
  obtain ⟨x, hx⟩ : ∃ x, t.key[k]? = some x := ⟨_, Qx hka⟩
  have htk : t.key.take (k + 1) = t.key.take k ++ [x] := by rw [List.take_succ_eq_append_getElem hka]; rw [Qx hka] at hx; cases hx; rfl
  obtain ⟨kb, koff, hkp, hkc, -⟩ := (HK.out.below HBw.out).str hx
  subst hkp
  have hkbl := Qv _ _ hkc
  have HX := Qq hx; have HTK := Qq htk
  clear hx htk hka
  obtain ⟨kc, hkcd⟩ := eX (kc0)
  rw [hkcd] at c2
  clear hkcd
  go_upto_region 5 with fail
  obtain ⟨u, hu⟩ := eX ((Yw row x).getD Val.zero)
  obtain ⟨b, hb⟩ := eX ((Yw row x).isSome)
  have HU := Qq hu; have HBb := Qq hb
  refine let_mvar% ?S1 := fun w' : World => w'.cell? ⟨w.heap.size, 2, none⟩ = some (.slice (some ⟨kb, koff, none⟩) n kc) ∧ w'.cell? ⟨w.heap.size + 1, 0, none⟩ = some (.int .i64 row.kind) ∧ w'.cell? ⟨w.heap.size + 1, 1, none⟩ = some (.int .i64 row.n) ∧ w'.cell? ⟨w.heap.size + 1, 2, none⟩ = some (.string ⟨row.s.toArray⟩) ∧ w'.cell? ⟨w.heap.size + 1, 3, none⟩ = some (.slice r3 row.names.length l3) ∧ w'.cell? ⟨w.heap.size + 1, 4, none⟩ = some (.slice r4 row.kids.length l4) ∧ w'.cell? ⟨kb, koff + k, none⟩ = some (.string ⟨x.toArray⟩) ∧ Below wr.heap.size wr w'; ?_
  have HS : ∀ w', Below wr.heap.size wr w' → ?S1 w' := by
   intro w' h
   have hh : ∀ {b j : Nat} {u : Value}, b < wr.heap.size → wr.cell? ⟨b, j, none⟩ = some u → w'.cell? ⟨b, j, none⟩ = some u := fun hlt hc => kD h hlt hc
   exact ⟨hh (by omega) c2, hh (by omega) y0, hh (by omega) y1, hh (by omega) y2, hh (by omega) y3, hh (by omega) y4, hh hkbl hkc, h⟩
  have HSB : ∀ w', ?S1 w' → Below wr.heap.size wr w' := fun w' h => h.2.2.2.2.2.2.2
  have HA : ∀ w' o, ?S1 w' → ?S1 (w'.alloc o) := fun w' o h => HS _ ((HSB w' h).alloc (HSB w' h).size o)
  have HP : ∀ w' a b c d e, ?S1 w' → ?S1 (Zz w' wr.heap.size a b c d e) := fun w' a b c d e h => HS _ (Qn (HSB w' h) (Q9 _))
  unfold Zz at HP
  have HC := Qq (fun W' (h' : ?S1 W') => (HG.out x W' (HBw.out.thn (HSB _ h'))).mono (R' := fun e w2 => ∃ q3 m3 q4 m4, e = .returned (.tuple #[.agg #[.int .i64 u.kind, .int .i64 u.n, .string ⟨u.s.toArray⟩, .slice q3 u.names.length m3, .slice q4 u.kids.length m4], .bool b]) ∧ Qh (fun b => S0 b ∧ b < w.heap.size) w2 (vcs u q3 m3 q4 m4) u ∧ Below W'.heap.size W' w2 ∧ ?S1 w2) (by
   rintro e w2 ⟨cs', rfl, h3, h4⟩
   rw [HU.out] at h3
   rw [HBb.out]
   obtain ⟨q3, m3, q4, m4, hcs, _⟩ := Qh.cells h3
   subst hcs
   exact ⟨q3, m3, q4, m4, rfl, h3, h4, HS _ ((HSB _ h').thn h4)⟩))
  have HS0 := Qq (HS wr.drew (Qz _ _).drew); have HSr := Qq (HS wr (Qz _ _)); have HD' := Qq (fun w' (h : ?S1 w') => HS w'.drew (HSB w' h).drew); have HSB' := Qq HSB; have HA' := Qq HA; have HP' := Qq HP
  clear HS HSB HA HP c2 y0 y1 y2 y3 y4 hkc hu hb
  go_cut [7, 8] from 9 to 31 (fun t7 t8 wx => Hy (fun b => S0 b ∧ b < w.heap.size) wr u b t7 t8 wx)
  case first =>
   go_region_held3 ?S1 (first | with_reducible exact HS0.out | with_reducible exact hS2 | with_reducible exact HD'.out _ (HA'.out _ _ HSr.out) | with_reducible exact HA'.out _ _ hS2 | with_reducible exact HP'.out _ _ _ _ _ _ hS2)
    (first
     | (go_at_call 38; refine (HC.out _ (by assumption)).mono ?_; rintro e w2 ⟨q3, m3, q4, m4, rfl, hv2, hb2, hS2⟩; (try (have r2 : w2.heap[wr.heap.size]? = some (.cells zV 44 (0, 0)) := (hb2.block wr.heap.size (by simp)).trans (Qw wr _); have g0 := fA 0 r2; have y0 := Qk _ _ 0 _ _ _ r2; have g1 := fA 1 r2; have y1 := Qk _ _ 1 _ _ _ r2; have g2 := fA 2 r2; have y2 := Qk _ _ 2 _ _ _ r2; have g3 := fA 3 r2; have y3 := Qk _ _ 3 _ _ _ r2; have g4 := fA 4 r2; have y4 := Qk _ _ 4 _ _ _ r2; simp only [List.getElem?_toArray, List.getElem?_cons_zero, List.getElem?_cons_succ] at y0 y1 y2 y3 y4; have HR2 := Qq r2; clear r2)); have HV2 := Qq hv2; have HB2 := Qq hb2; clear hv2 hb2))
   all_goals
    go_wp2_with fail
    go_meet
    first
     | (have h9 := HR2.out; clear h9; exact ⟨wr.heap.size, q3, m3, q4, m4, rfl, rfl, Y9 HR2.out, Qh.move HV2.out (fun b hb _ => Qt (by have := hb.2; omega)) (fun _ _ h => h), Qn (HSB'.out _ hS2) (Q9 _), Q9 _⟩)
     | exact ⟨w2.heap.size, q3, m3, q4, m4, rfl, rfl, Qw _ _, Qh.move HV2.out (.of_below (Qo _ _)) (fun _ _ h => h), (HSB'.out _ hS2).thn (Qo _ _), (HSB'.out _ hS2).size⟩
  obtain ⟨G, q3, m3, q4, m4, rfl, rfl, hG, hvu, hbc, hGl⟩ := hcut
  have HGc := Qq hG; have HVu := Qq hvu; have HBc := Qq hbc
  have hGs := Qf hG
  clear HC HS0 HSr HD' HSB' HA' HP'
  obtain ⟨g0, g1, g2, g3, g4⟩ := row5 hG
  clear hG hvu hbc
  cases b with
  | false =>
   have hn0 : Yw row x = none := by have := HBb.out; cases hq : Yw row x with
    | none => rfl
    | some _ => rw [hq] at this; cases this
   have hr0 : r = none := by rw [← HR.out]; exact G8 (Qy HX.out) hn0
   subst hr0
   clear hn0
   go_wp2_with fail
   go_ret
   exact ⟨none, 0, rfl, Sl.nil _ _ _, HBw.out.thn HBc.out⟩
  | true =>
   have hgu : Yw row x = some u := by
    have h1 := HBb.out; have h2 := HU.out
    cases hq : Yw row x with
    | none => rw [hq] at h1; cases h1
    | some v => rw [hq] at h2; rw [← h2]; rfl
   have HGu := Qq hgu
   clear hgu
   have hO5 := HO.out.below HBc.out
   have hV5 : Ql.R (But (fun b => (S0 b ∧ b < w.heap.size) ∨ w.heap.size + 2 ≤ b) (.slice p k cap)) wc [.int .i64 u.kind, .int .i64 u.n, .string ⟨u.s.toArray⟩, .slice q3 u.names.length m3, .slice q4 u.kids.length m4] u := Qh.move HVu.out (.refl _ _) (fun b _ hb => ⟨.inl hb, fun e => by
    have := (HO.out.row.lt b e.symm).1
    have := hb.2
    omega⟩)
   have HO5 := Qq hO5; have HV5 := Qq hV5
   have hszc := HBc.out.size
   clear hO5 hV5
   go_wp2_with (at_builtin; refine Zm (r := Ql) (by decide) rfl (.tmp 28) (.tmp 30) _ rfl 44 i0 (.agg zV) 80 underlying40 HJ.out HJ2.out HJ3.out HJ4.out rfl (by omega) (fun b => (S0 b ∧ b < w.heap.size) ∨ w.heap.size + 2 ≤ b) (w.heap.size + 2) wc (.slice p k cap) l css [.int .i64 u.kind, .int .i64 u.n, .string ⟨u.s.toArray⟩, .slice q3 u.names.length m3, .slice q4 u.kids.length m4] u rfl HO5.out rfl HV5.out (by simp [Value.oneCell']) k HLL.out (by omega) (by omega) ?_; intro p7 cap7 css7 w7 hO7 hL7; have HO7 := Qq hO7; have HL7 := Qq hL7; clear hO7 hL7)
   go_roundw
   case measure => simp [intOf]; omega
   case rel =>
    refine ⟨k + 1, l ++ [u], p7, cap7, by omega, by go_num, rfl, by have := HLL.out; simp [this], (show Aside _ from ?_), (HBr.out.trans (HBc.out.mono (by omega))).trans HL7.out.below, css7, HO7.out⟩
    have : keyOf (t.key.take (k + 1)) row = some (l ++ [u]) := by rw [HTK.out, Fi, HE.out, HGu.out]
    exact this
 have hkn' : k = n := by omega
 subst hkn'
 have hr1 : r = some l := by
  rw [← HR.out, ← HE.out, List.take_of_length_le (by rw [HN.out]; exact Q9 _)]
 have HR1 := Qq hr1
 clear hr1
 go_wp2_with fail
 go_ret
 unfold RKeyIs
 rw [HR1.out, Option.getD_some, HLL.out]
 exact ⟨p, cap, rfl, HO.out.sl (by have := HLL.out; omega) (fun b hb => .inr (by omega)) (fun b _ hb => by
  rcases hb with h | h
  ·exact .inl h.1
  exact .inr (by omega)), HBw.out⟩
def Y4 (S : Nat → Prop) (w : World) (v : Value) (xs : List Int) : Prop :=
 ∃ p cap, v = .slice p xs.length cap ∧ xs.length ≤ 9223372036854775807 ∧ (xs ≠ [] → ∃ b off, p = some ⟨b, off, none⟩ ∧ S b ∧ b < w.heap.size ∧ ∀ i x, xs[i]? = some x → w.cell? ⟨b, off + i, none⟩ = some (.int .i64 x))
theorem Y4.len {S : Nat → Prop} {w : World} {v : Value} {xs : List Int} (h : Y4 S w v xs) : ∃ p cap, v = .slice p xs.length cap ∧ xs.length ≤ 9223372036854775807 := by
 obtain ⟨p, cap, h1, h2, _⟩ := h; exact ⟨p, cap, h1, h2⟩
theorem Y4.below {S : Nat → Prop} {w w' : World} {v : Value} {xs : List Int} (h : Y4 S w v xs) (hb : Below w.heap.size w w') : Y4 S w' v xs := by
 obtain ⟨p, cap, h1, h2, h3⟩ := h
 refine ⟨p, cap, h1, h2, fun hne => ?_⟩
 obtain ⟨b, off, e, hS, hlt, hc⟩ := h3 hne
 exact ⟨b, off, e, hS, Qa hlt hb.size, fun i x hx => (hb.cell (p := ⟨b, off + i, none⟩) hlt).trans (hc i x hx)⟩
theorem Zr (S : Nat → Prop) (v : Value) (l : List Int) (i : Nat) (m : Int) (w : World) (hs : Y4 S w v l) (hi : Vw l) (hm : 1 ≤ m) (hm2 : m ≤ 1000000000) :
  Calls prog 26 #[v, .int .i64 i, .int .i64 m] w fun e w' => e = .returned (.int .i64 (Zo l i m)) ∧ w = w' := by
 have hd0 : decide ((i : Int) < 0) = false := by simp
 obtain ⟨p, cap, rfl, hl, hc⟩ := hs
 by_cases h : i < l.length
 ·obtain ⟨n, hn⟩ : ∃ n, l[i]? = some n := ⟨_, Qx h⟩
  obtain ⟨b, off, rfl, _, hb, hc⟩ := hc (fun e => by rw [e] at h; exact absurd h (Nat.not_lt_zero i))
  have c0 := hc i n hn
  have HA := Qq (fun W => Gk n m W (hi n (Qy hn)).1 (hi n (Qy hn)).2 hm (by omega))
  have hr : Zo l i m = Xy n m := by unfold Zo; rw [hn]
  rw [hr]
  generalize Xy n m = r at HA ⊢
  have h1 : (i : Int) < (l.length : Int) := by omega
  have h2 : decide ((l.length : Int) ≤ (i : Int)) = false := by simp; omega
  clear hi hn hc hr
  go_enter func26, ntmps26
  go_wp2_with (go_at_call 19; refine (HA.out _).mono ?_; rintro e w' ⟨rfl, rfl⟩)
  go_ret
  exact ⟨rfl, rfl⟩
 have hr : Zo l i m = 0 := by unfold Zo; rw [List.getElem?_eq_none (by omega)]
 rw [hr]
 have h2 : decide ((l.length : Int) ≤ (i : Int)) = true := by simp; omega
 clear hi hr hc
 go_enter func26, ntmps26
 go_wp2_with fail
 go_ret
 exact ⟨rfl, rfl⟩
theorem Yn {S : World → Prop} {W : World} (hS : ∀ w', Below W.heap.size W w' → S w') (hB : ∀ w', S w' → Below W.heap.size W w') : Hid (S W.drew) ∧ Hid (S W) ∧ Hid (∀ w', S w' → S w'.drew) ∧ Hid (∀ w', S w' → Below W.heap.size W w') ∧ Hid (∀ w' o, S w' → S (w'.alloc o)) ∧ Hid (∀ w', Below W.heap.size W w' → S w') :=
 ⟨Qq (hS _ (Qz _ _).drew), Qq (hS _ (Qz _ _)), Qq (fun w' h => hS _ (hB w' h).drew), Qq hB, Qq (fun w' o h => hS _ ((hB w' h).alloc (hB w' h).size o)), Qq hS⟩
end Go.Proofs.YtppbaladeefnkaaGreatDoor

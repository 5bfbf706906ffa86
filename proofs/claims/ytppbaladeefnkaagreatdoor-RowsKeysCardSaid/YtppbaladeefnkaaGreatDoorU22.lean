import Derived.Test.YtppbaladeefnkaaGreatDoorU20
set_option maxRecDepth 100000
set_option maxHeartbeats 400000000
namespace Go.Proofs.YtppbaladeefnkaaGreatDoor
open Go.RowKit Go.Shelf Go.Lib Tryz
def Zs : Rd Rel where
 k := 2
 R S w cs x := ∃ v, cs = [sv x.table, v] ∧ x.table.length ≤ 1000000 ∧ Sl Ql S w v x.rows ∧ CapV v x.rows.length
 len h := by obtain ⟨v, rfl, _⟩ := h; rfl
 frame h hA := by obtain ⟨v, rfl, h1, h2, h3⟩ := h; exact ⟨v, rfl, h1, h2.frame hA, h3⟩
 mono h hS := by obtain ⟨v, rfl, h1, h2, h3⟩ := h; exact ⟨v, rfl, h1, h2.mono hS, h3⟩
theorem Gg {S : Nat → Prop} {w : World} {cs : List Value} {x : Rel} (h : Zs.R S w cs x) : Z8.R S w cs x := by obtain ⟨v, rfl, h1, h2, _⟩ := h; exact ⟨v, rfl, h1, h2⟩
theorem Sl.rel {S : Nat → Prop} {w : World} {v : Value} {l : List Rel} (h : Sl Zs S w v l) : Sl Z8 S w v l := by
 obtain ⟨p, cap, h1, h2, h3⟩ := h
 refine ⟨p, cap, h1, h2, fun hne => ?_⟩
 obtain ⟨b, off, e, hS, hb, hc⟩ := h3 hne
 refine ⟨b, off, e, hS, hb, fun i x hx => ?_⟩
 obtain ⟨cs, hcs, hr⟩ := hc i x hx
 exact ⟨cs, hcs, Gg hr⟩
theorem Cs.rel {S : Nat → Prop} {w : World} {css : List (List Value)} {l : List Rel} (h : Cs Zs S w css l) : Cs Z8 S w css l := ⟨h.len, fun i c x hc hx => Gg (h.R i c x hc hx)⟩
theorem Own.rel {E : TypeId} {S : Nat → Prop} {B : Nat} {w : World} {v : Value} {l : List Rel} {css : List (List Value)} (h : Own Zs E S B w v l css) : Own Z8 E S B w v l css := ⟨h.row, h.cs.rel⟩
theorem relc_one : ∀ S w cs x, Zs.R S w cs x → ∀ u ∈ cs, u.oneCell' = true := fun S w cs x h => Oj S w cs x (Gg h)
theorem L1 {S : Nat → Prop} {E : TypeId} {B : Nat} {w : World} {g n cap : Nat} {l : List Rel} {css : List (List Value)} {i : Nat} {x : Rel} {rv' : Value} {zs : List Val} (hn : l.length = n) (h : Own Zs E S B w (.slice (some ⟨g, 0, none⟩) n cap) l css) (hi : l[i]? = some x)
  (hs : Sl Ql (But S (.slice (some ⟨g, 0, none⟩) n cap)) w rv' zs) (hc' : CapV rv' zs.length) :
  ∃ css', Own Zs E S B (w.setCell ⟨g, i * 2 + 1, none⟩ rv') (.slice (some ⟨g, 0, none⟩) n cap) (l.set i ⟨x.table, zs⟩) css' := by
 subst hn
 have hil := (Qj hi).1
 obtain ⟨c, hc⟩ : ∃ c, css[i]? = some c := ⟨_, Qx (by rw [h.cs.len]; exact hil)⟩
 obtain ⟨rv, rfl, htl, _⟩ := h.cs.R i c x hc hi
 have hA : V9 (But S (.slice (some ⟨g, 0, none⟩) l.length cap)) w (w.setCell ⟨g, i * 2 + 1, none⟩ rv') := fun b hS _ => Qg (fun e => hS.2 (by rw [e]; rfl))
 refine ⟨css.set i [sv x.table, rv'], ⟨?_, ⟨by rw [List.length_set, List.length_set]; exact h.cs.len, fun j d y hd hy => ?_⟩⟩⟩
 ·rw [List.length_set, ← Bh css i _ rv rv' h.cs.all hc]
  exact (h.row.stored (i * 2 + 1) rv').1
 by_cases e : j = i
 ·subst e
  rw [List.getElem?_set_self hil] at hy
  rw [List.getElem?_set_self (by rw [h.cs.len]; exact hil)] at hd
  cases hd; cases hy
  exact ⟨rv', rfl, htl, hs.frame hA, hc'⟩
 rw [List.getElem?_set_ne (Ne.symm e)] at hd hy
 exact Zs.frame (h.cs.R j d y hd hy) hA
theorem Own.weak {T : Type} {r : Rd T} {E : TypeId} {S S' : Nat → Prop} {B B' : Nat} {w : World} {v : Value} {xs : List T} {css : List (List Value)} (h : Own r E S B w v xs css) (hB : B' ≤ B) (hS : ∀ b, b < w.heap.size → S b → S' b) : Own r E S' B' w v xs css := by
 refine ⟨⟨h.row.1, ?_⟩, h.cs.move (.refl _ _) (fun b hb hs => ⟨hS b hb hs.1, hs.2⟩)⟩
 rcases h.row.2 with hn | ⟨g, cap, cur, rfl, hg, rest⟩
 ·exact .inl hn
 exact .inr ⟨g, cap, cur, rfl, by omega, rest⟩
def Rv (S : Nat → Prop) (w : World) (l : List Rel) (e : Ending) (w' : World) : Prop := ∃ p cap css, e = .returned (.slice p l.length cap) ∧ Own Zs 57 (fun b => S b ∨ w.heap.size ≤ b) w.heap.size w' (.slice p l.length cap) l css ∧ Below w.heap.size w w'
theorem Hs (S : Nat → Prop) (lv : Value) (l : List Rel) (w : World) (hl0 : Sl Zs S w lv l) (hl1 : l.length ≤ 1000) :
  Calls prog 59 #[lv] w fun e w' => ∃ p cap css, e = .returned (.slice p l.length cap) ∧ Own Zs 57 (fun b => S b ∧ b < w.heap.size) w.heap.size w' (.slice p l.length cap) l css ∧ Below w.heap.size w w' := by
 have hl : Sl Zs (But (fun b => S b ∧ b < w.heap.size) (.slice none 0 0)) w lv l := hl0.mono (fun b hb h => ⟨⟨h, hb⟩, fun e => by cases e⟩)
 have HL := Qq hl
 obtain ⟨p, cap, rfl, _⟩ := hl.len
 clear hl0 hl
 obtain ⟨i0, j1, j2, j3, j4⟩ := Ze (P := prog) (t := 57) (z := .agg #[.string ⟨#[]⟩, .slice none 0 0]) (n := 2) (b := 40) (by kernel_rfl)
 have HJ := Qq j1; have HJ2 := Qq j2; have HJ3 := Qq j3; have HJ4 := Qq j4
 clear j1 j2 j3 j4
 obtain ⟨n, hn⟩ := eX (l.length)
 rw [hn] at HL hl1 ⊢
 have hn1 : ([] : List Rel).length + l.length = n := by rw [hn]; simp
 have HN1 := Qq hn1
 clear hn hn1
 go_enter func59, ntmps59
 go_wp2_with (at_builtin; refine Yq (r := Zs) (by decide) relc_one rfl (.tmp 4) (.tmp 5) _ rfl 57 i0 (.agg #[.string ⟨#[]⟩, .slice none 0 0]) 40 underlying28 HJ.out HJ2.out HJ3.out HJ4.out rfl (by omega) (fun b => S b ∧ b < w.heap.size) w.heap.size w (.slice none 0 0) [] [] rfl (Own.nil _ _ _ _ _) (.slice p n cap) l rfl HL.out n HN1.out (by omega) (by omega) ?_; intro p4 c4 css4 w4 hO4 hL4; have HO4 := Qq hO4; have HL4 := Qq hL4; clear hO4 hL4)
 go_ret
 exact ⟨p4, c4, css4, rfl, HO4.out, HL4.out.below⟩
theorem Ko {l : List Rel} {x : Bs} {v : Val} (h : Xe l x = none) : J0 l x v = l := by unfold J0; rw [h]
theorem Dk {l : List Rel} {x : Bs} {v : Val} {i : Nat} {r : Rel} (h : Xe l x = some i) (hr : l[i]? = some r) : J0 l x v = l.set i ⟨r.table, Uw r.rows v⟩ := by unfold J0; rw [h]; simp [List.getD_eq_getElem?_getD, hr]
theorem Jk (l : List Rel) (x : Bs) (v : Val) : (J0 l x v).length = l.length := by unfold J0; split <;> simp
theorem Di (S : Nat → Prop) (lv : Value) (l : List Rel) (x : Bs) (v : Val) (cv : List Value) (w : World) (hl0 : Sl Zs S w lv l) (hv0 : Qh S w cv v) (hl1 : l.length ≤ 1000) (hr1 : ∀ r ∈ l, r.rows.length ≤ 1000) :
  Calls prog 23 #[lv, sv x, .agg cv.toArray] w (Rv S w (J0 l x v)) := by
 have hl := hl0.up
 have hv : Qh (fun b => S b ∧ b < w.heap.size) w cv v := hv0.move (.refl _ _) (fun b hb h => ⟨h, hb⟩)
 have HCo := Qq (fun W (hb : Below w.heap.size w W) => Hs _ lv l W (hl.below hb) hl1)
 obtain ⟨p0, cap0, rfl, _⟩ := hl.len
 obtain ⟨p3, k3, p4, k4, hcv, _⟩ := Qh.cells hv
 have HV := Qq hv
 simp only [vcs] at hcv
 subst hcv
 clear hl0 hv0 hl hv
 unfold sv
 go_enter func23, ntmps23
 go_wp2_with fail
 refine (HCo.out _ (Qo _ _)).mono ?_
 rintro e w1 ⟨p, cap, css, rfl, hO, hb1⟩
 have hX1 := (hb1.block w.heap.size (by simp)).trans (Qw _ _)
 have hO1 : Own Zs 57 (fun b => S b ∧ b < w.heap.size) (w.heap.size + 1) w1 (.slice p l.length cap) l css := hO.weak (by simp) (fun b _ h => h.1)
 have HB1 := Qq ((Qo w _).thn hb1); have HX1 := Qq hX1; have HO1 := Qq hO1
 have hsz1 : w.heap.size < w1.heap.size := Qf hX1
 have HF := Qq (J4 (fun b => S b ∨ w.heap.size ≤ b) (.slice p l.length cap) l x w1 (hO1.rel.sl (S' := fun b => S b ∨ w.heap.size ≤ b) (by omega) (fun b hb => .inr (by omega)) (fun b _ h => .inl h.1)))
 unfold sv at HF
 clear hb1 hX1 hO hO1 HCo
 rcases U6 l x with ⟨hr, hi⟩ | ⟨i, r, hr, hi, hx⟩
 ·have hR := Ko (v := v) hr
  rw [hi] at HF
  have HRR := Qq hR
  clear hr hi hR
  go_wp2_with (go_at_call 37; refine HF.out.mono ?_; rintro e w' ⟨rfl, rfl⟩)
  go_ret
  unfold Rv
  rw [HRR.out]
  exact ⟨p, cap, css, rfl, HO1.out.weak (by omega) (fun b _ h => .inl h.1), HB1.out⟩
 have hR := Dk (v := v) hr hx
 rw [hi] at HF
 have hlen : (J0 l x v).length = l.length := Jk l x v
 have HRR := Qq hR; have HLen := Qq hlen
 have hil := (Qj hx).1
 have hr2 := hr1 r (Qy hx)
 obtain ⟨g, cap', hpv, hgB, hgs⟩ := HO1.out.row.form (by omega)
 simp only [Value.slice.injEq] at hpv
 obtain ⟨rfl, -, rfl⟩ := hpv
 obtain ⟨c, hc⟩ : ∃ c, css[i]? = some c := ⟨_, Qx (by rw [HO1.out.cs.len]; exact hil)⟩
 obtain ⟨rv, rfl, htl, hrv, hcap⟩ := HO1.out.cs.R i c r hc hx
 have l1 := HO1.out.row.cellAt (i * 2 + 1) (by show _ < l.length * 2; omega)
 rw [show css.flatten[i * 2 + 1]? = some rv from Xv (k := 2) HO1.out.cs.all hc (j := 1) rfl] at l1
 have f1 := HO1.out.row.frozenAt (i * 2 + 1)
 obtain ⟨q, qc, rfl, _⟩ := hrv.len
 have hi1 : (0 : Int) ≤ (i : Int) := by omega
 have hi2 : (i : Int) < (l.length : Int) := by omega
 have hi3 : decide (0 ≤ (i : Int)) = true := by simp
 obtain ⟨x0, x1, x2, x3, x4⟩ := row5 HX1.out
 have HRV := Qq (hrv.mono (S' := fun b => S b ∧ b < w.heap.size) (fun b _ h => h.1)); have HCap := Qq hcap; have HX := Qq hx
 have HPut := Qq (fun W (hb : Below w1.heap.size w1 W) => put_any (fun b => S b ∧ b < w.heap.size) (.slice q r.rows.length qc) r.rows v [.int .i64 v.kind, .int .i64 v.n, .string ⟨v.s.toArray⟩, .slice p3 v.names.length k3, .slice p4 v.kids.length k4] W ((HRV.out).below hb) HCap.out (HV.out.move (.of_below (HB1.out.thn hb)) (fun _ _ h => h)) hr2)
 clear hr hi hR hlen hx hc hrv hcap
 go_upto_region 4 with (go_at_call 37; refine HF.out.mono ?_; rintro e w' ⟨rfl, rfl⟩)
 go_region_with (go_at_call 60; refine (HPut.out _ (Qz _ _).drew).mono ?_; rintro e w5 ⟨p5, c5, rfl, hc5, hs5, hb5⟩; have hB5 := ((Qz _ w1).drew).thn hb5; have HS5 := Qq hs5; have HC5 := Qq hc5; have HB5 := Qq hB5; have f5 := (hB5.frozen (p := ⟨g, i * 2 + 1, none⟩) hgs).trans f1; have l5 := (hB5.cell (p := ⟨g, i * 2 + 1, none⟩) hgs).trans l1; clear hs5 hc5 hb5 hB5)
 all_goals
  go_wp2_with fail
  go_ret
  obtain ⟨css', hO6⟩ := L1 (zs := Uw r.rows v) rfl ((HO1.out.weak (S' := fun b => S b ∨ w.heap.size ≤ b) (B' := w.heap.size) (by omega) (fun b _ h => .inl h.1)).below HB5.out) HX.out (rv' := .slice p5 (Uw r.rows v).length c5) (HS5.out.mono (S' := But (fun b => S b ∨ w.heap.size ≤ b) (.slice (some ⟨g, 0, none⟩) l.length cap)) (fun b _ h => by
   rcases h with h | h
   ·exact ⟨.inl h.1, fun e => by have e' : b = g := Qb e; have := h.2; omega⟩
   have h' : w1.heap.size ≤ b := by simpa using h
   exact ⟨.inr (by omega), fun e => by have e' : b = g := Qb e; omega⟩)) ⟨_, _, rfl, HC5.out⟩
  unfold Rv
  rw [HLen.out, HRR.out]
  exact ⟨_, _, css', rfl, hO6, (HB1.out.thn HB5.out).setCell (p := ⟨g, i * 2 + 1, none⟩) (by show w.heap.size ≤ g; omega) _⟩
theorem eqL_drop {A B : Type} (p : A → B → Bool) {a : List A} {b : List B} {k : Nat} {x : A} {y : B} (hx : a[k]? = some x) (hy : b[k]? = some y) : eqL p (a.drop k) (b.drop k) = (p x y && eqL p (a.drop (k + 1)) (b.drop (k + 1))) := by
 obtain ⟨hk, rfl⟩ := Qj hx
 obtain ⟨hk', rfl⟩ := Qj hy
 rw [List.drop_eq_getElem_cons hk, List.drop_eq_getElem_cons hk']; rfl
theorem Km (S S' : Nat → Prop) (av bv : Value) (a b : List Val) (w : World) (ha : Sl Ql S w av a) (hb : Sl Ql S' w bv b) :
  Calls prog 13 #[av, bv] w fun e w' => e = .returned (.bool (eqL eqv a b)) ∧ Gr w w' := by
 obtain ⟨pa, ca, rfl, hla⟩ := ha.len
 obtain ⟨pb, cb, rfl, hlb⟩ := hb.len
 have HA := Qq ha; have HB := Qq hb
 have mixed : prog.follows .mixedOrders = true := by kernel_rfl
 obtain ⟨r, hr⟩ := eX (eqL eqv a b)
 rw [hr]
 have HR := Qq hr
 clear ha hb hr
 by_cases hlen : a.length = b.length
 ·obtain ⟨n, hn⟩ := eX (a.length)
  have hm : b.length = n := by omega
  have HN := Qq hn; have HM := Qq hm
  rw [hn] at HA hla ⊢
  rw [hm] at HB hlb ⊢
  have hq : ((n : Int) != (n : Int)) = false := by simp
  clear hn hm hlen
  go_enter func13, ntmps13
  go_wp2_with fail
  go_loopw [5] (fun i wr => ∃ k : Nat, k ≤ n ∧ i = .int .i64 k ∧ Aside (eqL eqv (a.drop k) (b.drop k) = r) ∧ Aside (Gr w wr)) (fun i _ => n - (intOf i).toNat)
  case atStart => exact ⟨0, Q8 _, rfl, HR.out, Gr.refl _⟩
  obtain ⟨k, hk, rfl, A, hG⟩ := hrel
  have HG := Qq (show Gr w wr from hG); have HE := Qq (show eqL eqv (a.drop k) (b.drop k) = r from A)
  clear hG A
  by_cases hlt : k < n
  ·have hi1 : (0 : Int) ≤ (k : Int) := by omega
   have hi2 : (k : Int) < (n : Int) := by omega
   obtain ⟨x, hx⟩ : ∃ x, a[k]? = some x := ⟨_, Qx (by rw [HN.out]; exact hlt)⟩
   obtain ⟨y, hy⟩ : ∃ y, b[k]? = some y := ⟨_, Qx (by rw [HM.out]; exact hlt)⟩
   obtain ⟨ga, oa, p3, k3, p4, k4, rfl, hga, hva, d0, d1, d2, d3, d4⟩ := (HA.out.below HG.out.bl).val hx
   obtain ⟨gb, ob, q3, l3, q4, l4, rfl, hgb, hvb, e0, e1, e2, e3, e4⟩ := (HB.out.below HG.out.bl).val hy
   have hcg := Vr hva hvb
   have D0 := Zj hga d0; have D1 := Zj hga d1; have D2 := Zj hga d2; have D3 := Zj hga d3; have D4 := Zj hga d4
   have E0 := Zj hgb e0; have E1 := Zj hgb e1; have E2 := Zj hgb e2; have E3 := Zj hgb e3; have E4 := Zj hgb e4
   have hce := Eh x y
   have hst := eqL_drop eqv hx hy
   rw [HE.out] at hst
   generalize Z1 x y = c at hcg hce
   have HCE := Qq hce; have HST := Qq hst
   clear hx hy hva hvb d0 d1 d2 d3 d4 e0 e1 e2 e3 e4 hce hst
   by_cases hq : (c == 0) = true
   ·have hq2 : (c != 0) = false := by simpa using hq
    have hst2 : eqL eqv (a.drop (k + 1)) (b.drop (k + 1)) = r := by rw [HST.out, ← HCE.out, hq, Bool.true_and]
    have HST2 := Qq hst2
    clear hst2 hq
    go_wp2_with fail
    go_quiet_grown (first | (go_at_call 17; refine Calls.grown_of (hcg _ _)))
    go_wp2_with fail
    go_roundw
    case measure => simp [intOf]; omega
    case rel => exact ⟨k + 1, by omega, by go_num, HST2.out, HG.out.thn (Zf _ _ _)⟩
   have hq2 : (c != 0) = true := by simpa using hq
   have hr0 : r = false := by rw [HST.out, ← HCE.out, Bool.not_eq_true _ |>.mp hq, Bool.false_and]
   subst hr0
   clear hq
   go_wp2_with fail
   go_quiet_grown (first | (go_at_call 17; refine Calls.grown_of (hcg _ _)))
   go_wp2_with fail
   go_ret
   exact ⟨rfl, HG.out.thn (Zf _ _ _)⟩
  have hltz : ¬ (k : Int) < (n : Int) := by omega
  have : k = n := by omega
  subst this
  have hr0 : r = true := by
   rw [← HE.out, List.drop_eq_nil_of_le (by rw [HN.out]; exact Q9 _), List.drop_eq_nil_of_le (by rw [HM.out]; exact Q9 _)]; rfl
  subst hr0
  go_wp2_with fail
  go_ret
  exact ⟨rfl, HG.out⟩
 have hr0 : r = false := by rw [← HR.out]; exact Ud eqv a b hlen
 subst hr0
 have hq : ((a.length : Int) != (b.length : Int)) = true := by rw [bne_iff_ne]; omega
 clear hlen
 go_enter func13, ntmps13
 go_wp2_with fail
 go_ret
 exact ⟨rfl, Gr.refl _⟩
theorem Lh {s : Sc} {k : Nat} {x : Tbl} (hx : s.tables[k]? = some x) : (Yd s).take (k + 1) = (Yd s).take k ++ [⟨x.name, []⟩] := by
 unfold Yd
 rw [← List.map_take, ← List.map_take]
 obtain ⟨hk, rfl⟩ := Qj hx
 rw [List.take_succ_eq_append_getElem hk, List.map_append]; rfl
theorem Nz (S : Nat → Prop) (s : Sc) (cs : List Value) (w : World) (hs : Yl S w cs s) (hl0 : s.tables.length ≤ 1000) :
  Calls prog 30 #[.agg cs.toArray] w (Rv (fun _ => False) w (Yd s)) := by
 obtain ⟨uv, tv, rfl, hu, ht0⟩ := hs
 have ht : Sl Qs (fun b => b < w.heap.size) w tv s.tables := ht0.mono (fun b hb _ => hb)
 obtain ⟨up, uc, rfl, _⟩ := hu.len
 obtain ⟨tp, tc, rfl, _⟩ := ht.len
 have HT := Qq ht
 clear hu ht ht0
 obtain ⟨i0, j1, j2, j3, j4⟩ := Ze (P := prog) (t := 57) (z := .agg #[.string ⟨#[]⟩, .slice none 0 0]) (n := 2) (b := 40) (by kernel_rfl)
 have HJ := Qq j1; have HJ2 := Qq j2; have HJ3 := Qq j3; have HJ4 := Qq j4
 clear j1 j2 j3 j4
 unfold Rv
 have hle : (Yd s).length = s.tables.length := by unfold Yd; simp
 rw [hle]
 obtain ⟨n, hn⟩ := eX (s.tables.length)
 rw [hn] at HT hl0 ⊢
 have HN := Qq hn; have HLe := Qq hle
 clear hn hle
 go_enter func30, ntmps30
 go_wp2_with fail
 generalize hW1 : w.alloc _ = W1
 have hb1 := eqB hW1 (Qo _ _)
 have hX1 := eqH (b := w.heap.size) hW1 (Qw _ _)
 have HB1 := Qq hb1; have HX1 := Qq hX1
 clear hW1 hb1 hX1
 go_loopw [3, 4] (fun o i wr => ∃ (k : Nat) (p : Option Addr) (cap : Nat), k ≤ n ∧ i = .int .i64 k ∧ o = .slice p k cap ∧ Below (w.heap.size + 1) W1 wr ∧ (∃ css, Own Zs 57 (fun _ => False) (w.heap.size + 1) wr (.slice p k cap) ((Yd s).take k) css)) (fun _ i _ => n - (intOf i).toNat)
 case atStart => exact ⟨0, none, 0, Q8 _, rfl, rfl, Qz _ _, [], Own.nil _ _ _ _ _⟩
 obtain ⟨k, p, cap, hkn, rfl, rfl, hBr, css, hO⟩ := hrel
 have hsz := Qf HX1.out
 have hXr := kE hBr (by omega) HX1.out
 have hbw : Below w.heap.size w wr := HB1.out.trans (hBr.mono (by omega))
 have hsr := hBr.size
 have HBr := Qq hBr; have HBw := Qq hbw; have HO := Qq hO
 obtain ⟨c0, c1⟩ := row2 hXr
 clear hXr hBr hbw hO
 have hll : ((Yd s).take k).length = k := by rw [List.length_take, HLe.out, HN.out]; omega
 have HLL := Qq hll
 clear hll
 by_cases hlt : k < n
 ·have hi1 : (0 : Int) ≤ (k : Int) := by omega
  have hi2 : (k : Int) < (n : Int) := by omega
  obtain ⟨x, hx⟩ : ∃ x, s.tables[k]? = some x := ⟨_, Qx (by rw [HN.out]; exact hlt)⟩
  obtain ⟨b, off, cs, rfl, hbl, _, _, hR, hc⟩ := (HT.out.below HBw.out).elem hx
  obtain ⟨cp9, cc9, kp9, kc9, rp9, rc9, k9, s19, n9, s29, p19, n19, c19, p29, n29, c29, p39, n39, c39, a9, z9, hcs, hxl, _⟩ := Zk hR
  simp only [tcs] at hcs
  subst hcs
  have d0 := hc 0 _ rfl
  rw [show Qs.k = 13 from rfl, Nat.add_zero] at d0
  have hR1 : Zs.R (But (fun _ => False) (.slice p k cap)) wr [.string ⟨x.name.toArray⟩, .slice none 0 0] ⟨x.name, []⟩ := ⟨_, rfl, hxl, Sl.nil _ _ _, ⟨_, _, rfl, Q9 _⟩⟩
  have HR1 := Qq hR1
  have htk := Lh hx
  have HTK := Qq htk
  clear hx hc hR hR1 htk
  go_wp2_with (at_builtin; refine Zm (r := Zs) (by decide) rfl (.tmp 12) (.tmp 20) _ rfl 57 i0 (.agg #[.string ⟨#[]⟩, .slice none 0 0]) 40 underlying28 HJ.out HJ2.out HJ3.out HJ4.out rfl (by omega) (fun _ => False) (w.heap.size + 1) wr (.slice p k cap) ((Yd s).take k) css [.string ⟨x.name.toArray⟩, .slice none 0 0] ⟨x.name, []⟩ rfl HO.out rfl HR1.out (by simp [Value.oneCell']) k HLL.out (by omega) (by omega) ?_; intro p7 cap7 css7 w7 hO7 hL7; have HO7 := Qq hO7; have HL7 := Qq hL7; clear hO7 hL7)
  go_roundw
  case measure => simp [intOf]; omega
  case rel =>
   refine ⟨k + 1, p7, cap7, by omega, by go_num, rfl, HBr.out.trans HL7.out.below, css7, ?_⟩
   rw [HTK.out]; exact HO7.out
 have hkn' : k = n := by omega
 subst hkn'
 go_wp2_with fail
 go_ret
 have htk : (Yd s).take k = Yd s := List.take_of_length_le (by rw [HLe.out, HN.out]; exact Q9 _)
 have hO2 := HO.out
 rw [htk] at hO2
 exact ⟨p, cap, css, rfl, hO2.weak (by omega) (fun b _ h => h.elim), HBw.out⟩
def Ls (w : World) (e : Ending) (w' : World) : Prop := (∃ b : Bool, e = .returned (.bool b)) ∧ Below w.heap.size w w'
theorem Gp (S0 S1 : Nat → Prop) (s : Sc) (cs : List Value) (lv : Value) (l : List Rel) (w : World) (hs : Yl S0 w cs s) (hl0 : Sl Z8 S1 w lv l) (hlen : l.length = s.tables.length) :
  Calls prog 109 #[.agg cs.toArray, lv] w (Ls w) := by
 obtain ⟨uv, tv, rfl, hu, ht⟩ := hs
 obtain ⟨up, uc, rfl, _⟩ := hu.len
 obtain ⟨tp, tc, rfl, hl1⟩ := ht.len
 obtain ⟨lp, lc, rfl, _⟩ := hl0.len
 have HT := Qq ht; have HL := Qq hl0
 have mixed : prog.follows .mixedOrders = true := by kernel_rfl
 obtain ⟨n, hn⟩ := eX (s.tables.length)
 rw [hn] at HT hl1 ⊢
 have hm : l.length = n := by omega
 rw [hm] at HL ⊢
 have HN := Qq hn; have HM := Qq hm
 clear hu ht hl0 hn hm hlen
 have hq0 : ((n : Int) != (n : Int)) = false := by simp
 go_enter func109, ntmps109
 go_wp2_with fail
 clear hq0
 generalize hW1 : w.alloc _ = W1
 have hb1 := eqB hW1 (Qo _ _)
 have hX1 := eqH (b := w.heap.size) hW1 (Qw _ _)
 have HB1 := Qq hb1; have HX1 := Qq hX1
 clear hW1 hb1 hX1
 go_loopw [5, 6] (fun i _ wr => ∃ k : Nat, k ≤ n ∧ i = .int .i64 k ∧ Aside (Below W1.heap.size W1 wr)) (fun i _ _ => n - (intOf i).toNat)
 case atStart => exact ⟨0, Q8 _, rfl, Qz _ _⟩
 obtain ⟨k, hk, rfl, hBr⟩ := hrel
 have HBr := Qq (show Below W1.heap.size W1 wr from hBr)
 have HBw := Qq (HB1.out.thn HBr.out)
 have hXr := kB HBr.out HX1.out
 have hXl := Qf hXr
 obtain ⟨c0, c1⟩ := row2 hXr
 clear hBr hXr c0
 by_cases hlt : k < n
 ·have hi1 : (0 : Int) ≤ (k : Int) := by omega
  have hi2 : (k : Int) < (n : Int) := by omega
  obtain ⟨r, hr⟩ : ∃ r, l[k]? = some r := ⟨_, Qx (by rw [HM.out]; exact hlt)⟩
  obtain ⟨t, ht⟩ : ∃ t, s.tables[k]? = some t := ⟨_, Qx (by rw [HN.out]; exact hlt)⟩
  obtain ⟨rb, roff, rcs, rfl, hrb, _, _, ⟨rv, rfl, _, hrv⟩, hrc⟩ := (HL.out.below HBw.out).elem hr
  obtain ⟨tb, toff, tcs', rfl, htb, _, _, hR, htc⟩ := (HT.out.below HBw.out).elem ht
  obtain ⟨cp9, cc9, kp9, kc9, rp9, rc9, k9, s19, n9, s29, p19, n19, c19, p29, n29, c29, p39, n39, c39, a9, z9, hcs, _⟩ := Zk hR
  simp only [tcs] at hcs
  subst hcs
  have d0 := htc 0 _ rfl
  have e0 := hrc 0 _ rfl; have e1 := hrc 1 _ rfl
  rw [show Qs.k = 13 from rfl, Nat.add_zero] at d0
  rw [show Z8.k = 2 from rfl] at e0 e1
  rw [Nat.add_zero] at e0
  unfold sv at e0
  obtain ⟨q, m, qc, hrvq, hml⟩ : ∃ q m qc, rv = .slice q m qc ∧ r.rows.length = m := by obtain ⟨q, qc, h, _⟩ := hrv.len; exact ⟨q, _, qc, h, rfl⟩
  subst hrvq
  have HRV := Qq hrv; have HML := Qq hml
  have hml2 : m ≤ 1000000 := by obtain ⟨_, _, _, h⟩ := hrv.len; omega
  clear hr ht hR htc hrc hrv hml
  by_cases he : r.table = t.name
  ·have hq1 : (r.table == t.name) = true := by rw [he]; simp
   have hq2 : (r.table != t.name) = false := by rw [he]; simp
   clear he
   go_wp2_with fail
   go_quiet (fail)
   go_wp2_with fail
   obtain ⟨wo, hwo⟩ := eX (wr.drewN nq)
   have hbo : Below wr.heap.size wr wo := by rw [← hwo]; exact Zy _ _
   rw [hwo]
   have HBo := Qq hbo
   have E1 := Qq ((hbo.cell (p := ⟨rb, roff + k * 2 + 1, none⟩) hrb).trans e1)
   have HRo := Qq (HRV.out.below hbo)
   have hrbo : rb < wo.heap.size := by have := hbo.size; omega
   clear hwo hbo e0 e1 d0 c1 hq1 hq2
   go_loopw [6] (fun i wi => ∃ j : Nat, j ≤ m ∧ i = .int .i64 ((j : Int) + 1) ∧ Aside (Below wo.heap.size wo wi)) (fun i _ => m - (intOf i).toNat)
   case atStart => exact ⟨0, Q8 _, by simp, Qz _ _⟩
   obtain ⟨j, hj, rfl, hBi⟩ := hrel
   have HBi := Qq (show Below wo.heap.size wo wr from hBi)
   have e1 := (HBi.out.cell (p := ⟨rb, roff + k * 2 + 1, none⟩) hrbo).trans E1.out
   clear hBi
   by_cases hlt2 : j + 1 < m
   ·obtain ⟨x, hx⟩ : ∃ x, r.rows[j]? = some x := ⟨_, Qx (by rw [HML.out]; omega)⟩
    obtain ⟨y, hy⟩ : ∃ y, r.rows[j + 1]? = some y := ⟨_, Qx (by rw [HML.out]; omega)⟩
    obtain ⟨xb, xoff, p3, k3, p4, k4, rfl, hxb, hvx, d0, d1, d2, d3, d4⟩ := (HRo.out.below HBi.out).val hx
    obtain ⟨yb, yoff, q3, l3, q4, l4, he, hyb, hvy, f0, f1, f2, f3, f4⟩ := (HRo.out.below HBi.out).val hy
    obtain ⟨rfl, rfl, -⟩ : xb = yb ∧ xoff = yoff ∧ True := by simpa using he
    have hcg := Vr hvx hvy
    have hrbi : rb < wr.heap.size := Qv _ _ e1
    have D0 := Zj hxb d0; have D1 := Zj hxb d1; have D2 := Zj hxb d2; have D3 := Zj hxb d3; have D4 := Zj hxb d4
    have F0 := Zj hxb f0; have F1 := Zj hxb f1; have F2 := Zj hxb f2; have F3 := Zj hxb f3; have F4 := Zj hxb f4
    have E2 := Zj hrbi e1
    have hj1 : IntKind.i64.wrap (j : Int) = (j : Int) := by rw [IntKind.wrap_i64]; omega
    have hj2 : (j : Int) < (m : Int) := by omega
    have hj3 : (0 : Int) < (j : Int) + 1 := by omega
    have hj4 : (0 : Int) ≤ (j : Int) + 1 := by omega
    have hj5 : (j : Int) + 1 < (m : Int) := by omega
    have hj6 : (0 : Int) ≤ (j : Int) := by omega
    have hj7 : ((j : Int) + 1).toNat = j + 1 := by omega
    generalize Z1 x y = c at hcg
    have HJ1 := Qq hj1; have HJ7 := Qq hj7
    clear hx hy he hvx hvy hyb d0 d1 d2 d3 d4 f0 f1 f2 f3 f4
    by_cases hneg : c < 0
    ·have hq : decide (0 ≤ c) = false := by simpa using hneg
     go_wp2_with fail
     go_quiet_grown (first | (go_at_call 17; refine Calls.grown_of (hcg _ _)))
     clear hj1 hj7
     go_wp2_with fail
     go_roundw
     case measure => simp [intOf]; omega
     case rel => exact ⟨j + 1, by omega, by go_num, HBi.out.thn (Zf _ _ _).bl⟩
    have hq : decide (0 ≤ c) = true := by simp; omega
    go_wp2_with fail
    go_quiet_grown (first | (go_at_call 17; refine Calls.grown_of (hcg _ _)))
    clear hj1 hj7
    go_wp2_with fail
    go_ret
    exact ⟨⟨_, rfl⟩, ((HBw.out.thn HBo.out).thn HBi.out).thn (Zf _ _ _).bl⟩
   have hj5 : ¬ (j : Int) + 1 < (m : Int) := by omega
   go_wp2_with fail
   go_roundw
   case measure => simp [intOf]; omega
   case rel => exact ⟨k + 1, by omega, by go_num, (HBr.out.thn HBo.out).thn HBi.out⟩
  have hq1 : (r.table == t.name) = false := by rw [← Bool.not_eq_true, beq_iff_eq]; exact he
  have hq2 : (r.table != t.name) = true := by rw [bne_iff_ne]; exact he
  clear he
  go_wp2_with fail
  go_quiet (fail)
  go_wp2_with fail
  go_ret
  exact ⟨⟨_, rfl⟩, HBw.out.thn (Zy _ _)⟩
 have hkn' : k = n := by omega
 subst hkn'
 go_wp2_with fail
 go_ret
 exact ⟨⟨_, rfl⟩, HBw.out⟩
inductive Z2 : Val → Prop
 | mk (k n : Int) (s : Bs) (names : List Bs) (kids : List Val) (hb : k = 2 → n = 0 ∨ n = 1) (hk : ∀ x ∈ kids, Z2 x) : Z2 (.mk k n s names kids)
theorem Z2.kids {v : Val} (h : Z2 v) : ∀ x ∈ v.kids, Z2 x := by cases h; assumption
theorem Z2.bool {v : Val} (h : Z2 v) (hk : v.kind = 2) : v.n = 0 ∨ v.n = 1 := by cases h with | mk k n s names kids hb _ => exact hb hk
theorem Z2.zero : Z2 Val.zero := .mk 0 0 [] [] [] (fun h => by cases h) (fun x h => by simp at h)
theorem Zp.boolOk {v : Val} (h : Zp v) : Z2 v := by
 induction h with
 | int n => exact .mk _ _ _ _ _ (fun h => by cases h) (fun x h => by simp at h)
 | text s => exact .mk _ _ _ _ _ (fun h => by cases h) (fun x h => by simp at h)
 | bool n hn => exact .mk _ _ _ _ _ (fun _ => hn) (fun x h => by simp at h)
 | make s kids _ _ _ ih => exact .mk _ _ _ _ _ (fun h => by cases h) ih
 | record names kids _ _ _ _ ih => exact .mk _ _ _ _ _ (fun h => by cases h) ih
 | list kids _ ih => exact .mk _ _ _ _ _ (fun h => by cases h) ih
def Yf (S : Nat → Prop) (w : World) (e : Ending) (w' : World) : Prop := ∃ (k n : Int) (s : ByteArray) (p3 : Option Addr) (n3 k3 : Nat) (p4 : Option Addr) (n4 k4 : Nat) (b : Bool),
 e = .returned (.tuple #[.agg #[.int .i64 k, .int .i64 n, .string s, .slice p3 n3 k3, .slice p4 n4 k4], .bool b]) ∧ (b = true → ∃ v, Qh (fun c => S c ∨ w.heap.size ≤ c) w' [.int .i64 k, .int .i64 n, .string s, .slice p3 n3 k3, .slice p4 n4 k4] v ∧ Z2 v) ∧ Below w.heap.size w w'
theorem Yf.weak {S S' : Nat → Prop} {w w1 w2 : World} {e : Ending} (h : Yf S' w1 e w2) (hb : Below w.heap.size w w1) (hS : ∀ c, S' c → S c ∨ w.heap.size ≤ c) : Yf S w e w2 := by
 obtain ⟨k, n, s, p3, n3, k3, p4, n4, k4, b, he, hv, hb'⟩ := h
 refine ⟨k, n, s, p3, n3, k3, p4, n4, k4, b, he, fun hbt => ?_, hb.thn hb'⟩
 obtain ⟨v, h1, h2⟩ := hv hbt
 refine ⟨v, h1.move (.refl _ _) (fun c _ hc => ?_), h2⟩
 rcases hc with hc | hc
 ·exact hS c hc
 exact .inr (by have := hb.size; omega)
theorem Na (b : Bool) (w : World) : Calls prog 178 #[.bool b] w fun e w' => e = .returned (.tuple #[.agg #[.int .i64 2, .int .i64 (if b then 1 else 0), .string ⟨#[]⟩, .slice none 0 0, .slice none 0 0], .bool true]) ∧ Below w.heap.size w w' := by
 cases b with
 | true =>
  go_enter func178, ntmps178
  go_wp2_with fail
  exact Q7 (v := .tuple #[.agg #[.int .i64 2, .int .i64 1, .string ⟨#[]⟩, .slice none 0 0, .slice none 0 0], .bool true]) (by simp [results, results178, go_sem]) rfl ⟨rfl, Qo _ _⟩
 | false =>
  go_enter func178, ntmps178
  go_wp2_with fail
  exact Q7 (v := .tuple #[.agg #[.int .i64 2, .int .i64 0, .string ⟨#[]⟩, .slice none 0 0, .slice none 0 0], .bool true]) (by simp [results, results178, go_sem]) rfl ⟨rfl, Qo _ _⟩
theorem Df (n : Int) (w : World) : Calls prog 177 #[.int .i64 n] w fun e w' => e = .returned (.tuple #[.agg #[.int .i64 0, .int .i64 n, .string ⟨#[]⟩, .slice none 0 0, .slice none 0 0], .bool true]) ∧ Below w.heap.size w w' := by
 go_enter func177, ntmps177
 go_wp2_with fail
 exact Q7 (v := .tuple #[.agg #[.int .i64 0, .int .i64 n, .string ⟨#[]⟩, .slice none 0 0, .slice none 0 0], .bool true]) (by simp [results, results177, go_sem]) rfl ⟨rfl, Qo _ _⟩
theorem M9 (S : Nat → Prop) (w : World) (n : Int) : Qh S w [.int .i64 2, .int .i64 n, .string ⟨#[]⟩, .slice none 0 0, .slice none 0 0] (.mk 2 n [] [] []) := Zn (s := []) (by simp) (Sl.nil _ _ _) (Sl.nil _ _ _)
theorem Fg (n : Int) : Z2 (.mk 0 n [] [] []) := .mk _ _ _ _ _ (fun h => by cases h) (fun x h => by simp at h)
theorem Sl.ex {S : Nat → Prop} {w : World} {p : Option Addr} {n cap : Nat} {xs : List Ex} (h : Sl Yo S w (.slice p n cap) xs) {i : Nat} {x : Ex} (hx : xs[i]? = some x) :
  ∃ b off ek es1 en es2 ep1 en1 ec1 ep2 en2 ec2 ep3 en3 ec3 ea ez, p = some ⟨b, off, none⟩ ∧ b < w.heap.size ∧ Z5 S w [.int .i64 ek, .string es1, .int .i64 en, .string es2, .slice ep1 en1 ec1, .slice ep2 en2 ec2, .slice ep3 en3 ec3, .int .i64 ea, .int .i64 ez] x ∧ w.cell? ⟨b, off + i * 9, none⟩ = some (.int .i64 ek) ∧ w.cell? ⟨b, off + i * 9 + 1, none⟩ = some (.string es1) ∧ w.cell? ⟨b, off + i * 9 + 2, none⟩ = some (.int .i64 en) ∧ w.cell? ⟨b, off + i * 9 + 3, none⟩ = some (.string es2) ∧ w.cell? ⟨b, off + i * 9 + 4, none⟩ = some (.slice ep1 en1 ec1) ∧ w.cell? ⟨b, off + i * 9 + 5, none⟩ = some (.slice ep2 en2 ec2) ∧ w.cell? ⟨b, off + i * 9 + 6, none⟩ = some (.slice ep3 en3 ec3) ∧ w.cell? ⟨b, off + i * 9 + 7, none⟩ = some (.int .i64 ea) ∧ w.cell? ⟨b, off + i * 9 + 8, none⟩ = some (.int .i64 ez) := by
 obtain ⟨b, off, cs, rfl, hb, _, _, hr, hc⟩ := h.elem hx
 obtain ⟨ek, es1, en, es2, ep1, en1, ec1, ep2, en2, ec2, ep3, en3, ec3, ea, ez, hcs⟩ := Z5.cells (show Z5 S w cs x from hr)
 subst hcs
 simp only [show Yo.k = 9 from rfl] at hc
 exact ⟨b, off, ek, es1, en, es2, ep1, en1, ec1, ep2, en2, ec2, ep3, en3, ec3, ea, ez, rfl, hb, hr, hc 0 _ rfl, hc 1 _ rfl, hc 2 _ rfl, hc 3 _ rfl, hc 4 _ rfl, hc 5 _ rfl, hc 6 _ rfl, hc 7 _ rfl, hc 8 _ rfl⟩
def Kp (x : Ex) : Prop := ∀ (S : Nat → Prop) (ce : List Value) (w : World), Z5 S w ce x → Calls prog 139 #[.agg ce.toArray] w (Ls w)
theorem Nb (k : Int) (nm : Bs) (n : Int) (s : Bs) (names binds : List Bs) (kids : List Ex) (a z : Int) (ih : ∀ x ∈ kids, Kp x) : Kp (.mk k nm n s names binds kids a z) := by
 intro S ce w h
 obtain ⟨nv, bv, kv, rfl, _, _, hn, hb, hk⟩ := Zd.1 h
 obtain ⟨p1, c1, rfl, _⟩ := hn.len
 obtain ⟨p2, c2, rfl, _⟩ := hb.len
 obtain ⟨p3, c3, rfl, hml⟩ := hk.len
 have HK := Qq hk; have HI := Qq ih
 clear h hn hb hk ih
 obtain ⟨m, hm⟩ := eX (kids.length)
 rw [hm] at HK hml ⊢
 have HM := Qq hm
 clear hm
 unfold sv
 by_cases hbad : k = 4 ∨ k = 10 ∨ k = 15 ∨ k = 16
 ·rcases hbad with rfl | rfl | rfl | rfl
  all_goals
   go_enter func139, ntmps139
   go_wp2_with fail
   go_ret
   exact ⟨⟨_, rfl⟩, Qo _ _⟩
 have q4 : (k == 4) = false := by rw [← Bool.not_eq_true, beq_iff_eq]; omega
 have q10 : (k == 10) = false := by rw [← Bool.not_eq_true, beq_iff_eq]; omega
 have q15 : (k == 15) = false := by rw [← Bool.not_eq_true, beq_iff_eq]; omega
 have q16 : (k == 16) = false := by rw [← Bool.not_eq_true, beq_iff_eq]; omega
 clear hbad
 go_enter func139, ntmps139
 go_wp2_with fail
 generalize hW0 : w.alloc _ = W0
 have hb0 := eqB hW0 (Qo _ _)
 have hX0 := eqH (b := w.heap.size) hW0 (Qw _ _)
 have HB0 := Qq hb0; have HX0 := Qq hX0
 clear hW0 hb0 hX0 q4 q10 q15 q16
 go_loopw [3, 4] (fun i _ wr => ∃ k : Nat, k ≤ m ∧ i = .int .i64 k ∧ Aside (Below W0.heap.size W0 wr)) (fun i _ _ => m - (intOf i).toNat)
 case atStart => exact ⟨0, Q8 _, rfl, Qz _ _⟩
 obtain ⟨j, hj, rfl, hBr⟩ := hrel
 have HBr := Qq (show Below W0.heap.size W0 wr from hBr)
 have hXr := kB HBr.out HX0.out
 have c6 := rA6 hXr
 clear hBr hXr
 by_cases hlt : j < m
 ·have hi1 : (0 : Int) ≤ (j : Int) := by omega
  have hi2 : (j : Int) < (m : Int) := by omega
  obtain ⟨x, hx⟩ : ∃ x, kids[j]? = some x := ⟨_, Qx (by rw [HM.out]; exact hlt)⟩
  obtain ⟨b, off, ek, es1, en, es2, ep1, en1, ec1, ep2, en2, ec2, ep3, en3, ec3, ea, ez, rfl, hbl, hvx, d0, d1, d2, d3, d4, d5, d6, d7, d8⟩ := (HK.out.below (HB0.out.thn HBr.out)).ex hx
  have HVx := Qq hvx; have HIx := Qq (HI.out x (Qy hx))
  clear hvx hx
  go_wp2_with (go_at_call 139; refine (HIx.out _ _ _ HVx.out).mono ?_; rintro e w5 ⟨⟨bb, rfl⟩, hb5⟩; have HB5 := Qq hb5; clear hb5)
  ·go_ret
   exact ⟨⟨_, rfl⟩, (HB0.out.thn HBr.out).thn HB5.out⟩
  go_roundw
  case measure => simp [intOf]; omega
  case rel => exact ⟨j + 1, by omega, by go_num, HBr.out.thn HB5.out⟩
 have hjm : j = m := by omega
 subst hjm
 go_wp2_with fail
 go_ret
 exact ⟨⟨_, rfl⟩, HB0.out.thn HBr.out⟩
theorem Dd : ∀ x : Ex, Kp x
 | .mk k nm n s names binds kids a z => Nb k nm n s names binds kids a z fun x _ => Dd x
termination_by x => SizeOf.sizeOf x
decreasing_by
 have := List.sizeOf_lt_of_mem ‹_ ∈ kids›
 simp only [Ex.mk.sizeOf_spec]
 omega
theorem Qi {W : World} {b : Nat} {o : Obj} (h : W.heap[b]? = some o) (o' : Obj) : (W.alloc o').heap[b]? = some o := ((Qo W o').block b (Qf h)).trans h
theorem Z6 {W : World} {n : Nat} (h : W.heap.size = n) (o : Obj) : (W.alloc o).heap[n]? = some o := by subst h; exact Qw W o
theorem My {T : Type} (r : Rd T) (S : Nat → Prop) (w : World) (p : Option Addr) (c : Nat) : Sl r S w (.slice p 0 c) [] := ⟨p, c, rfl, by simp, fun h => absurd rfl h⟩
theorem Ek (S : Nat → Prop) (w : World) (p1 p2 p3 : Option Addr) (c1 c2 c3 : Nat) : Z5 S w [.int .i64 2, .string ⟨#[]⟩, .int .i64 1, .string ⟨#[]⟩, .slice p1 0 c1, .slice p2 0 c2, .slice p3 0 c3, .int .i64 0, .int .i64 0] Gen.yes :=
 Zt (nm := []) (s := []) (by simp) (by simp) (My _ _ _ _ _) (My _ _ _ _ _) (My _ _ _ _ _)
theorem X9 {S : Nat → Prop} {w : World} (nm : Bs) (k : Int) (tn : Bs) (h1 : nm.length ≤ 1000000) (h2 : tn.length ≤ 1000000) : Yy.R S w [.string ⟨nm.toArray⟩, .int .i64 k, .string ⟨tn.toArray⟩, .int .i64 0, .slice none 0 0, .slice none 0 0] ⟨nm, .mk k tn 0 [] []⟩ :=
 ⟨_, rfl, h1, Ug h2 (Sl.nil _ _ _) (Sl.nil _ _ _)⟩
theorem Hx {S : Nat → Prop} {w : World} (nm : Bs) (b : Bool) (k : Int) (h1 : nm.length ≤ 1000000) : Bz.R S w [.string ⟨nm.toArray⟩, .bool b, .int .i64 k, .string ⟨#[]⟩, .int .i64 0, .slice none 0 0, .slice none 0 0] ⟨nm, b, .mk k [] 0 [] []⟩ :=
 ⟨_, rfl, h1, Ug (s := []) (by simp) (Sl.nil _ _ _) (Sl.nil _ _ _)⟩
theorem Uk {S : Nat → Prop} {w : World} (a : Bs) (ha : a.length ≤ 1000000) : Cs Qp S w [[.string ⟨a.toArray⟩]] [a] := Cs.one (r := Qp) (x := a) (show Qp.R S w [.string ⟨a.toArray⟩] a from ⟨rfl, ha⟩)
def V8 (w : World) (x : Ex) (e : Ending) (w' : World) : Prop := ∃ cs, e = .returned (.agg cs.toArray) ∧ Z5 (fun b => w.heap.size ≤ b) w' cs x ∧ Below w.heap.size w w'
def NewSc (w : World) (x : Sc) (e : Ending) (w' : World) : Prop := ∃ cs, e = .returned (.agg cs.toArray) ∧ Yl (fun b => w.heap.size ≤ b) w' cs x ∧ Below w.heap.size w w'
theorem Zq {w W : World} (h : Below w.heap.size w W) (o : Obj) : Below w.heap.size w (W.alloc o) := h.alloc h.size o
namespace Inc
end Inc
def UpV (l : List Val) : Prop := l.Pairwise (fun a b => Z1 a b < 0)
theorem hasV_iff {l : List Val} {x : Val} : Bj l x = true ↔ key x ∈ l.map key := by
 unfold Bj
 rw [List.any_eq_true, List.mem_map]
 constructor
 ·rintro ⟨y, hy, h⟩; exact ⟨y, hy, Oy.1 h⟩
 rintro ⟨y, hy, h⟩; exact ⟨y, hy, Oy.2 h⟩
theorem Jc {α : Type} (p : α → Bool) : ∀ (l : List α) (x : α), x ∈ l.take (l.takeWhile p).length → p x = true
 | [], x, h => by simp at h
 | a :: l, x, h => by
  rw [List.takeWhile_cons] at h
  split at h
  ·rename_i hp
   rw [List.length_cons, List.take_succ_cons] at h
   rcases List.mem_cons.1 h with rfl | h
   ·exact hp
   exact Jc p l x h
  simp at h
theorem Fs {α : Type} (p : α → Bool) : ∀ (l : List α) (y : α) (r : List α), l.drop (l.takeWhile p).length = y :: r → p y = false
 | [], y, r, h => by simp at h
 | a :: l, y, r, h => by
  rw [List.takeWhile_cons] at h
  split at h
  ·rw [List.length_cons, List.drop_succ_cons] at h
   exact Fs p l y r h
  rename_i hp
  simp at h
  rw [← h.1]; simpa using hp
theorem putV_up {l : List Val} (h : UpV l) (x : Val) : UpV (Uw l x) := by
 by_cases hh : Bj l x = true
 ·unfold Uw; rw [if_pos hh]; exact h
 rw [Pa _ _ (by simpa using hh)]
 have hne : ∀ y ∈ l, Z1 y x ≠ 0 := fun y hy h0 => hh (hasV_iff.2 (List.mem_map.2 ⟨y, hy, Dq.1 h0⟩))
 have h1 : ∀ y ∈ l.take (Xf l x), Z1 y x < 0 := fun y hy => by
  have := Jc _ _ _ hy
  have h2 := of_decide_eq_true this
  have := hne y (List.mem_of_mem_take hy)
  omega
 have hpw := h
 unfold UpV at hpw ⊢
 rw [← List.take_append_drop (Xf l x) l, List.pairwise_append] at hpw
 have hl : ∀ a b : Val, Z1 a b < 0 → ∀ c, Z1 b c < 0 → Z1 a c < 0 := fun a b h c h' => by rw [K8] at *; exact B1 h h'
 have h2 : ∀ y ∈ l.drop (Xf l x), Z1 x y < 0 := by
  intro y hy
  cases hd : l.drop (Xf l x) with
  | nil => rw [hd] at hy; cases hy
  | cons z r =>
   have hz := Fs _ _ _ _ hd
   have hz' : 0 < Z1 z x := by
    have := of_decide_eq_false hz
    omega
   have hxz : Z1 x z < 0 := by
    rw [K8, Jv, ← K8]; omega
   rw [hd] at hy
   rcases List.mem_cons.1 hy with rfl | hy
   ·exact hxz
   have := hpw.2.1
   rw [hd] at this
   exact hl _ _ hxz _ ((List.pairwise_cons.1 this).1 y hy)
 rw [List.pairwise_append]
 refine ⟨hpw.1, List.pairwise_cons.2 ⟨h2, hpw.2.1⟩, fun a ha b hb => ?_⟩
 rcases List.mem_cons.1 hb with rfl | hb
 ·exact h1 a ha
 exact hpw.2.2 a ha b hb
end Go.Proofs.YtppbaladeefnkaaGreatDoor

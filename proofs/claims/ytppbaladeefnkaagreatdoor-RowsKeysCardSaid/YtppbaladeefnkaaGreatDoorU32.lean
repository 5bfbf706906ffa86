import Derived.Test.YtppbaladeefnkaaGreatDoorU31
import Derived.Test.YtppbaladeefnkaaGreatDoorU28
set_option maxRecDepth 100000
set_option maxHeartbeats 400000000
namespace Go.Proofs.YtppbaladeefnkaaGreatDoor
open Go.RowKit Go.Shelf Go.Lib Tryz
def Ty.kind : Ty → Int | .mk k _ _ _ _ => k
def Ty.name : Ty → Bs | .mk _ s _ _ _ => s
def Uu (t : Ty) : Prop := t.kind = 0 ∨ t.kind = 1 ∨ t.kind = 2
def F9 (u : Sm) (v : Val) : Bool := match atP (fun c => decide (c.name = v.s)) u.ctors with
 | none => false
 | some c => if c.has then (match v.kids with
  | [x] => x.kind == c.arg.kind
  | _ => false) else decide (v.kids.length = 0)
def sumB (us : List Sm) (v : Val) (nm : Bs) : Bool := (v.kind == 3) && (match atP (fun u => decide (u.name = nm)) us with
 | none => false
 | some u => F9 u v)
theorem Bl (us : List Sm) (v : Val) (t : Ty) (h : Uu t) : Jx us v t (v.kind == t.kind) := by
 obtain ⟨k, s, n, names, kids⟩ := t
 exact rhasLeaf us v k h s n names kids
theorem Gr.drn {a b : World} (h : Gr a b) (n : Nat) : Gr a (b.drewN n) := h.thn ⟨n, #[], by rw [Sort.grow_empty]⟩
def RMadeAt (us : List Sm) (u : Sm) (v : Val) (b : Bool) : Prop := ∀ (S S' S'' : Nat → Prop) (cu cv : List Value) (uv : Value) (w : World), Sl Jg S'' w uv us → Jg.R S' w cu u → Qh S w cv v →
 Calls prog 176 #[uv, .agg cu.toArray, .agg cv.toArray] w fun e w' => e = .returned (.bool b) ∧ Gr w w'
theorem Rw (us : List Sm) (u : Sm) (v : Val) (hl : ∀ c ∈ u.ctors, Uu c.arg) : RMadeAt us u v (F9 u v) := by
 intro S S' S'' cu cv uv w hu hsm hv
 obtain ⟨up, uc, rfl, _⟩ := hu.len
 obtain ⟨ctv, rfl, hnl, hct⟩ := hsm
 obtain ⟨cp, cc, rfl, hcl⟩ := hct.len
 obtain ⟨p3, k3, p4, k4, hcv, _, hvk, hvs⟩ := Qh.cells hv
 simp only [vcs] at hcv
 subst hcv
 have mixed : prog.follows .mixedOrders = true := by kernel_rfl
 obtain ⟨n, hn⟩ := eX (u.ctors.length)
 rw [hn] at hct hcl ⊢
 obtain ⟨r, hr⟩ := eX (F9 u v)
 rw [hr]
 have HR := Qq hr; have HN := Qq hn; have HU := Qq hu; have HC := Qq hct; have HV := Qq hvk; have HL := Qq hl
 clear hu hv hct hvk hl hr hn
 unfold sv
 go_enter func176, ntmps176
 go_wp2_with fail
 generalize hW1 : (w.alloc _).alloc _ = W1
 have hg1 : Gr w W1 := by rw [← hW1]; exact X7 _ _ _
 have hS1 := eqH (b := w.heap.size) hW1 (Q5 _ _ _)
 have hV1 := eqH (b := w.heap.size + 1) hW1 (Q6 _ _ _)
 have HG1 := Qq hg1; have HS1 := Qq hS1; have HV1 := Qq hV1
 have hlt := Qf hV1
 clear hW1 hg1 hS1 hV1
 go_loopw [7] (fun i wr => ∃ k : Nat, k ≤ n ∧ i = .int .i64 k ∧ Aside (∀ (j : Nat) (y : Ct), j < k → u.ctors[j]? = some y → decide (y.name = v.s) = false) ∧ Aside (Gr W1 wr)) (fun i _ => n - (intOf i).toNat)
 case atStart => exact ⟨0, Q8 _, rfl, fun j _ hj => absurd hj (Nat.not_lt_zero _), Gr.refl _⟩
 obtain ⟨k, hk, rfl, A, hGr⟩ := hrel
 have HGr := Qq (show Gr W1 wr from hGr)
 have HBw := Qq (HG1.out.thn HGr.out).bl
 have hSr := kB HGr.out.bl HS1.out
 have hVr := kE HGr.out.bl hlt HV1.out
 have HSr := Qq hSr; have HVr := Qq hVr
 obtain ⟨a0, a1⟩ := row2 hSr
 clear hGr hSr hVr
 by_cases hlt2 : k < n
 ·have hi1 : (0 : Int) ≤ (k : Int) := by omega
  have hi2 : (k : Int) < (n : Int) := by omega
  obtain ⟨c, hc⟩ : ∃ c, u.ctors[k]? = some c := ⟨_, Qx (by rw [HN.out]; exact hlt2)⟩
  obtain ⟨cb, coff, ccs, rfl, hcb, _, _, ⟨tc, rfl, hcn, hcty⟩, hcc⟩ := (HC.out.below HBw.out).elem hc
  obtain ⟨tk, ts, tn, t3, n3, l3, t4, n4, l4, rfl⟩ := hcty.cells
  have d0 := hcc 0 _ rfl; have d1 := hcc 1 _ rfl; have d2 := hcc 2 _ rfl; have d3 := hcc 3 _ rfl; have d4 := hcc 4 _ rfl; have d5 := hcc 5 _ rfl; have d6 := hcc 6 _ rfl
  rw [show Bz.k = 7 from rfl] at d0 d1 d2 d3 d4 d5 d6
  rw [Nat.add_zero] at d0
  unfold sv at d0
  have b2 := rA2 HVr.out; have b4 := rA4 HVr.out
  have HTy := Qq hcty; have HLf := Qq (HL.out c (Qy hc)); have HCc := Qq hc
  clear hc hcc hcty
  by_cases he : c.name = v.s
  ·have hq : (c.name != v.s) = false := by rw [he]; simp
   have hq' : (c.name == v.s) = true := by rw [he]; simp
   have hatp : atP (fun c => decide (c.name = v.s)) u.ctors = some c := Ey HCc.out (by simpa using he) A.out
   have hrr : (if c.has then (match v.kids with
    | [x] => x.kind == c.arg.kind
    | _ => false) else decide (v.kids.length = 0)) = r := by rw [← HR.out]; unfold F9; rw [hatp]
   have HRR := Qq hrr
   clear hatp hrr A he
   go_upto_region 4 with fail
   go_quiet (fail)
   obtain ⟨wq, hwq⟩ := eX (wr.drewN nq)
   have hgq : Gr wr wq := by rw [← hwq]; exact (Gr.refl _).drn _
   rw [hwq]
   have HGq := Qq hgq
   have hh : ∀ {b j : Nat} {x : Value}, wr.cell? ⟨b, j, none⟩ = some x → wq.cell? ⟨b, j, none⟩ = some x := fun hx => kC hgq.bl hx
   have a1 := hh a1; have b4 := hh b4; have d1 := hh d1; have d2 := hh d2; have d3 := hh d3; have d4 := hh d4; have d5 := hh d5; have d6 := hh d6
   have hcb := Qa hcb hgq.bl.size
   clear hh hwq hgq hq a0 d0 b2
   cases hhas : c.has with
   | false =>
    rw [hhas] at d1
    have hrr := HRR.out
    rw [hhas] at hrr
    simp only [Bool.false_eq_true, if_false] at hrr
    by_cases h0 : v.kids.length = 0
    ·obtain rfl : true = r := by rw [← hrr]; simp [h0]
     have hq0 : ((v.kids.length : Int) == 0) = true := by rw [beq_iff_eq]; omega
     clear hrr h0 d2 d3 d4 d5 d6
     go_wp2_with fail
     go_ret
     exact ⟨rfl, (HG1.out.thn HGr.out).thn HGq.out⟩
    obtain rfl : false = r := by rw [← hrr]; simp [h0]
    have hq0 : ((v.kids.length : Int) == 0) = false := by rw [← Bool.not_eq_true, beq_iff_eq]; omega
    clear hrr h0 d2 d3 d4 d5 d6
    go_wp2_with fail
    go_ret
    exact ⟨rfl, (HG1.out.thn HGr.out).thn HGq.out⟩
   | true =>
    rw [hhas] at d1
    have hrr := HRR.out
    rw [hhas] at hrr
    simp only [if_true] at hrr
    by_cases h1 : v.kids.length = 1
    ·obtain ⟨x, hx⟩ := List.length_eq_one_iff.1 h1
     rw [hx] at hrr
     have hx0 : v.kids[0]? = some x := by rw [hx]; rfl
     have hwq : Below w.heap.size w wq := HBw.out.thn HGq.out.bl
     rw [h1] at HV HVr b4
     obtain ⟨ga, oa, x3, m3, x4, m4, rfl, hga, hva, e0, e1, e2, e3, e4⟩ := (HV.out.below hwq).val hx0
     simp only [Nat.zero_mul, Nat.add_zero] at e0 e1 e2 e3 e4
     have hX := Bl us x c.arg HLf.out
     have hrr' : (x.kind == c.arg.kind) = r := hrr
     rw [hrr'] at hX
     have HX := Qq hX; have HUu := Qq (HU.out.below hwq); have HVa := Qq hva; have HTq := Qq (HTy.out.move (.of_below HGq.out.bl) (fun _ _ h => h))
     have hcg : ∀ n os, Calls prog 137 #[.slice up us.length uc, .agg (vcs x x3 m3 x4 m4).toArray, .agg #[.int .i64 tk, .string ts, .int .i64 tn, .slice t3 n3 l3, .slice t4 n4 l4]] (Sort.grow (wq.drewN n) os) fun e w' => e = .returned (.bool r) ∧ Gr (Sort.grow (wq.drewN n) os) w' := fun n os => HX.out _ _ _ _ _ _ _ (HUu.out.below (Zf _ _ _).bl) (HVa.out.move (.of_below (Zf _ _ _).bl) (fun _ _ h => h)) (HTq.out.move (.of_below (Zf _ _ _).bl) (fun _ _ h => h))
     unfold vcs at hcg
     have hb0' : w.heap.size < wq.heap.size := Qv _ _ a1
     have hb1' : w.heap.size + 1 < wq.heap.size := Qv _ _ b4
     have E0 := Zj hga e0; have E1 := Zj hga e1; have E2 := Zj hga e2; have E3 := Zj hga e3; have E4 := Zj hga e4
     have D2 := Zj hcb d2; have D3 := Zj hcb d3; have D4 := Zj hcb d4; have D5 := Zj hcb d5; have D6 := Zj hcb d6
     have A1 := Zj hb0' a1; have B4 := Zj hb1' b4
     have hq0 : ((1 : Int) == 1) = true := rfl
     clear hrr hrr' h1 hx hx0 hva hX d2 d3 d4 d5 d6 e0 e1 e2 e3 e4 hwq
     go_wp2_with fail
     go_quiet_grown (first | (go_at_call 137; refine Calls.grown_of (hcg _ _)))
     go_wp2_with fail
     go_ret
     exact ⟨rfl, ((HG1.out.thn HGr.out).thn HGq.out).thn (Zf _ _ _)⟩
    obtain rfl : false = r := by
     rw [← hrr]
     match hvk : v.kids with
     | [] => rfl
     | [x] => rw [hvk] at h1; simp at h1
     | _ :: _ :: _ => rfl
    have hq0 : ((v.kids.length : Int) == 1) = false := by rw [← Bool.not_eq_true, beq_iff_eq]; omega
    clear hrr h1 d2 d3 d4 d5 d6
    go_wp2_with fail
    go_quiet (fail)
    go_wp2_with fail
    go_ret
    exact ⟨rfl, ((HG1.out.thn HGr.out).thn HGq.out).drn _⟩
  have hq : (c.name != v.s) = true := by rw [bne_iff_ne]; exact he
  have hq' : (c.name == v.s) = false := by rw [← Bool.not_eq_true, beq_iff_eq]; exact he
  have HE := Qq he
  clear he
  go_upto_region 4 with fail
  go_quiet (fail)
  go_wp2_with fail
  go_roundw
  case measure => simp [intOf]; omega
  case rel =>
   refine ⟨k + 1, by omega, by go_num, (show Aside _ from fun j y hj hy => ?_), HGr.out.drn _⟩
   by_cases e : j = k
   ·subst e
    have := HCc.out
    rw [this] at hy
    cases hy
    simpa using HE.out
   exact A.out j y (by omega) hy
 have hkn : k = n := by omega
 subst hkn
 have hatp : atP (fun c => decide (c.name = v.s)) u.ctors = none := Gl (fun j y hy => A.out j y (by have := (Qj hy).1; have := HN.out; omega) hy)
 obtain rfl : false = r := by rw [← HR.out]; unfold F9; rw [hatp]
 clear hatp A
 go_wp2_with fail
 go_ret
 exact ⟨rfl, HG1.out.thn HGr.out⟩
theorem rhasSum (us : List Sm) (v : Val) (s : Bs) (tn : Int) (names : List Bs) (kids : List Ty) (hl : ∀ u ∈ us, ∀ c ∈ u.ctors, Uu c.arg) : Jx us v (.mk 3 s tn names kids) (sumB us v s) := by
 intro S S' S'' cv ct uv w hu hv ht
 obtain ⟨up, uc, rfl, hul⟩ := hu.len
 obtain ⟨p3, k3, p4, k4, hcv, hvn, hvk, hvs⟩ := Qh.cells hv
 have HVV := Qq hv
 simp only [vcs] at hcv
 subst hcv
 obtain ⟨q3, l3, q4, l4, rfl, _⟩ := ht.cells'
 have mixed : prog.follows .mixedOrders = true := by kernel_rfl
 obtain ⟨r, hr⟩ := eX (sumB us v s)
 rw [hr]
 obtain ⟨n, hn⟩ := eX (us.length)
 rw [hn] at hu hul ⊢
 have HR := Qq hr; have HN := Qq hn; have HU := Qq hu; have HL := Qq hl
 clear hu hv ht hvn hvk hl hr hn
 by_cases h3 : v.kind = 3
 ·have hq : (v.kind != 3) = false := by rw [h3]; rfl
  have hr2 : (match atP (fun u => decide (u.name = s)) us with
   | none => false
   | some u => F9 u v) = r := by rw [← HR.out]; unfold sumB; rw [h3]; rfl
  have HR2 := Qq hr2
  clear h3 hr2
  go_enter func137, ntmps137
  go_wp2_with fail
  clear hq
  generalize hW1 : (w.alloc _).alloc _ = W1
  have hg1 : Gr w W1 := by rw [← hW1]; exact X7 _ _ _
  have hV1 := eqH (b := w.heap.size) hW1 (Q5 _ _ _)
  have hT1 := eqH (b := w.heap.size + 1) hW1 (Q6 _ _ _)
  have HG1 := Qq hg1; have HT1 := Qq hT1; have HV1 := Qq hV1
  have hlt := Qf hT1
  clear hW1 hg1 hT1 hV1
  go_loopw [9] (fun i wr => ∃ k : Nat, k ≤ n ∧ i = .int .i64 k ∧ Aside (∀ (j : Nat) (y : Sm), j < k → us[j]? = some y → decide (y.name = s) = false) ∧ Aside (Gr W1 wr)) (fun i _ => n - (intOf i).toNat)
  case atStart => exact ⟨0, Q8 _, rfl, fun j _ hj => absurd hj (Nat.not_lt_zero _), Gr.refl _⟩
  obtain ⟨k, hk, rfl, A, hGr⟩ := hrel
  have HGr := Qq (show Gr W1 wr from hGr)
  have HBw := Qq (HG1.out.thn HGr.out).bl
  have hTr := kE HGr.out.bl hlt HT1.out
  have hVr := kB HGr.out.bl HV1.out
  have b1 := Qk _ _ 1 _ _ _ hTr; have a0 := rA0 hVr; have a1 := rA1 hVr; have a2 := rA2 hVr; have a3 := rA3 hVr; have a4 := rA4 hVr
  simp only [List.getElem?_toArray, List.getElem?_cons_zero, List.getElem?_cons_succ] at b1
  clear hGr hTr hVr
  by_cases hlt2 : k < n
  ·have hi1 : (0 : Int) ≤ (k : Int) := by omega
   have hi2 : (k : Int) < (n : Int) := by omega
   obtain ⟨u, hu⟩ : ∃ u, us[k]? = some u := ⟨_, Qx (by rw [HN.out]; exact hlt2)⟩
   have hUr := HU.out.below HBw.out
   have HUr := Qq hUr
   obtain ⟨ub, uoff, ucs, rfl, hub, _, _, hsm, hcc⟩ := hUr.elem hu
   obtain ⟨ctv, hucs, hnl, hct⟩ := hsm
   subst hucs
   obtain ⟨cp, cc, rfl, hcl⟩ := hct.len
   have d0 := hcc 0 _ rfl; have d1 := hcc 1 _ rfl
   rw [show Jg.k = 2 from rfl] at d0 d1
   rw [Nat.add_zero] at d0
   unfold sv at d0
   have HSm := Qq (show Jg.R S'' wr [sv u.name, .slice cp u.ctors.length cc] u from ⟨_, rfl, hnl, hct⟩); have HLf := Qq (HL.out u (Qy hu)); have HUc := Qq hu
   clear hu hcc hct hUr
   by_cases he : u.name = s
   ·have hq : (u.name == s) = true := by rw [he]; simp
    have hatp : atP (fun u => decide (u.name = s)) us = some u := Ey HUc.out (by simpa using he) A.out
    have hrr : F9 u v = r := by rw [← HR2.out, hatp]
    have hM := Rw us u v HLf.out
    rw [hrr] at hM
    have HM := Qq hM
    clear hatp hrr A he hM
    go_upto_region 30 with fail
    go_quiet (fail)
    obtain ⟨wq, hwq⟩ := eX (wr.drewN nq)
    have hgq : Gr wr wq := by rw [← hwq]; exact (Gr.refl _).drn _
    rw [hwq]
    have HGq := Qq hgq
    have hh : ∀ {b j : Nat} {x : Value}, wr.cell? ⟨b, j, none⟩ = some x → wq.cell? ⟨b, j, none⟩ = some x := fun hx => kC hgq.bl hx
    have d0 := hh d0; have d1 := hh d1; have a0 := hh a0; have a1 := hh a1; have a2 := hh a2; have a3 := hh a3; have a4 := hh a4
    have hub := Qa hub hgq.bl.size
    have hb0' : w.heap.size < wq.heap.size := Qv _ _ a0
    have D0 := Zj hub d0; have D1 := Zj hub d1
    have A0 := Zj hb0' a0; have A1 := Zj hb0' a1; have A2 := Zj hb0' a2; have A3 := Zj hb0' a3; have A4 := Zj hb0' a4
    have hcg : ∀ n' os, Calls prog 176 #[.slice (some ⟨ub, uoff, none⟩) n uc, .agg #[.string ⟨u.name.toArray⟩, .slice cp u.ctors.length cc], .agg #[.int .i64 v.kind, .int .i64 v.n, .string ⟨v.s.toArray⟩, .slice p3 v.names.length k3, .slice p4 v.kids.length k4]] (Sort.grow (wq.drewN n') os) fun e w' => e = .returned (.bool r) ∧ Gr (Sort.grow (wq.drewN n') os) w' := fun n' os => HM.out _ _ _ _ _ _ _ (HUr.out.below (HGq.out.thn (Zf _ _ _)).bl) (Jg.frame HSm.out (.of_below (HGq.out.thn (Zf _ _ _)).bl)) (HVV.out.move (.of_below ((HG1.out.thn (HGr.out.thn HGq.out)).thn (Zf _ _ _)).bl) (fun _ _ h => h))
    clear hh hwq hgq hq a0 a1 a2 a3 a4 d0 d1 b1
    go_wp2_with fail
    go_quiet_grown (first | (go_at_call 176; refine Calls.grown_of (hcg _ _)))
    go_wp2_with fail
    go_ret
    exact ⟨rfl, ((HG1.out.thn HGr.out).thn HGq.out).thn (Zf _ _ _)⟩
   have hq : (u.name == s) = false := by rw [← Bool.not_eq_true, beq_iff_eq]; exact he
   have HE := Qq he
   clear he
   go_upto_region 30 with fail
   go_quiet (fail)
   go_wp2_with fail
   go_roundw
   case measure => simp [intOf]; omega
   case rel =>
    refine ⟨k + 1, by omega, by go_num, (show Aside _ from fun j y hj hy => ?_), HGr.out.drn _⟩
    by_cases e : j = k
    ·subst e
     have := HUc.out
     rw [this] at hy
     cases hy
     simpa using HE.out
    exact A.out j y (by omega) hy
  have hkn : k = n := by omega
  subst hkn
  have hatp : atP (fun u => decide (u.name = s)) us = none := Gl (fun j y hy => A.out j y (by have := (Qj hy).1; have := HN.out; omega) hy)
  obtain rfl : false = r := by rw [← HR2.out, hatp]
  clear hatp A
  go_wp2_with fail
  go_ret
  exact ⟨rfl, HG1.out.thn HGr.out⟩
 have hq : (v.kind != 3) = true := by simpa using h3
 have hq2 : (v.kind == 3) = false := by simpa using h3
 obtain rfl : false = r := by rw [← HR.out]; unfold sumB; rw [hq2]; rfl
 clear hq2 h3
 go_enter func137, ntmps137
 go_wp2_with fail
 go_ret
 exact ⟨rfl, X7 _ _ _⟩
def Vb (us : List Sm) : Prop := ∀ u ∈ us, ∀ c ∈ u.ctors, Uu c.arg ∧ D9 c.name
def Jq (w : World) (e : Ending) (w' : World) : Prop := ∃ v p3 k3 p4 k4, e = .returned (.agg (vcs v p3 k3 p4 k4).toArray) ∧ Zp v ∧ v.kids.length ≤ 1 ∧ Qh (fun b => w.heap.size ≤ b) w' (vcs v p3 k3 p4 k4) v ∧ Below w.heap.size w w'
theorem Uy {w w' : World} {k n : Int} {s : Bs} (hg : Zp (.mk k n s [] [])) (hs : s.length ≤ 1000000) (hb : Below w.heap.size w w') : Jq w (.returned (.agg #[.int .i64 k, .int .i64 n, .string ⟨s.toArray⟩, .slice none 0 0, .slice none 0 0])) w' :=
 ⟨.mk k n s [] [], none, 0, none, 0, rfl, hg, Q8 _, Zn hs (Sl.nil _ _ _) (Sl.nil _ _ _), hb⟩
theorem Kb (n : Int) (m : Int) (hn : 0 ≤ n) (hm : 0 < m) : 0 ≤ n.tmod m ∧ n.tmod m < m := by
 rw [Int.tmod_eq_emod_of_nonneg hn]; exact ⟨Int.emod_nonneg _ (by omega), Int.emod_lt_of_pos _ hm⟩
theorem N3 (s : Sc) (nm : Bs) (tn : Int) (names : List Bs) (kids : List Ty) (n : Int) (hn0 : 0 ≤ n) (S0 S1 : Nat → Prop) (cs ct : List Value) (w : World) (hs : Yl S0 w cs s) (ht : Y5 S1 w ct (.mk 0 nm tn names kids)) :
  Calls prog 71 #[.agg cs.toArray, .agg ct.toArray, .int .i64 n] w (Jq w) := by
 obtain ⟨uv, tv, rfl, hu, ht0⟩ := hs
 obtain ⟨up, uc, rfl, _⟩ := hu.len
 obtain ⟨tp, tc, rfl, _⟩ := ht0.len
 obtain ⟨q3, l3, q4, l4, rfl, _⟩ := ht.cells'
 obtain ⟨m8, hm8⟩ := eX (n.tmod 8)
 have hbd := Kb n 8 hn0 (by omega)
 rw [hm8] at hbd
 obtain ⟨hbd1, hbd2⟩ := hbd
 clear hu ht0 ht
 go_enter func71, ntmps71
 go_upto_region 4 with fail
 generalize hW1 : (((w.alloc _).alloc _).alloc _).alloc _ = W1
 have hb1 := eqB hW1 (Zq (Zq (Zq (Qo w _) _) _) _)
 have hS1 := eqH (b := w.heap.size) hW1 (Qi (Qi (Qi (Z6 rfl _) _) _) _)
 have hT1 := eqH (b := w.heap.size + 1) hW1 (Qi (Qi (Z6 (by simp) _) _) _)
 have hZ1 := eqH (b := w.heap.size + 1 + 1) hW1 (Qi (Z6 (by simp) _) _)
 have hD1 := eqH (b := w.heap.size + 1 + 1 + 1) hW1 (Z6 (by simp) _)
 have HB1 := Qq hb1; have HS1 := Qq hS1; have HT1 := Qq hT1; have HZ1 := Qq hZ1; have HD1 := Qq hD1
 clear hW1 hb1 hS1 hT1 hD1
 obtain ⟨y0, y1, y2, y3, y4⟩ := row5 hZ1
 obtain ⟨f0, f1, f2, f3, f4⟩ := frz5 hZ1
 clear hZ1
 go_wp2_with fail
 show bodyPost _ _ _ _ _ (Zz W1 (w.heap.size + 1 + 1) (.int .i64 0) (.int .i64 (m8 - 2)) (.string ⟨#[]⟩) (.slice none 0 0) (.slice none 0 0))
 exact Q7 (v := .agg #[.int .i64 0, .int .i64 (m8 - 2), .string ⟨#[]⟩, .slice none 0 0, .slice none 0 0]) (by simp [results, results71, go_sem, Qm HZ1.out]) rfl (Uy (s := []) (.int _) (by simp) (Qn HB1.out (by omega)))
theorem Ld (s : Sc) (nm : Bs) (tn : Int) (names : List Bs) (kids : List Ty) (n : Int) (hn0 : 0 ≤ n) (S0 S1 : Nat → Prop) (cs ct : List Value) (w : World) (hs : Yl S0 w cs s) (ht : Y5 S1 w ct (.mk 2 nm tn names kids)) :
  Calls prog 71 #[.agg cs.toArray, .agg ct.toArray, .int .i64 n] w (Jq w) := by
 obtain ⟨uv, tv, rfl, hu, ht0⟩ := hs
 obtain ⟨up, uc, rfl, _⟩ := hu.len
 obtain ⟨tp, tc, rfl, _⟩ := ht0.len
 obtain ⟨q3, l3, q4, l4, rfl, _⟩ := ht.cells'
 obtain ⟨m8, hm8⟩ := eX (n.tmod 2)
 have hbd := Kb n 2 hn0 (by omega)
 rw [hm8] at hbd
 obtain ⟨hbd1, hbd2⟩ := hbd
 clear hu ht0 ht
 go_enter func71, ntmps71
 go_upto_region 8 with fail
 generalize hW1 : (((w.alloc _).alloc _).alloc _).alloc _ = W1
 have hb1 := eqB hW1 (Zq (Zq (Zq (Qo w _) _) _) _)
 have hS1 := eqH (b := w.heap.size) hW1 (Qi (Qi (Qi (Z6 rfl _) _) _) _)
 have hT1 := eqH (b := w.heap.size + 1) hW1 (Qi (Qi (Z6 (by simp) _) _) _)
 have hZ1 := eqH (b := w.heap.size + 1 + 1) hW1 (Qi (Z6 (by simp) _) _)
 have hD1 := eqH (b := w.heap.size + 1 + 1 + 1) hW1 (Z6 (by simp) _)
 have HB1 := Qq hb1; have HS1 := Qq hS1; have HT1 := Qq hT1; have HZ1 := Qq hZ1; have HD1 := Qq hD1
 clear hW1 hb1 hS1 hT1 hD1
 obtain ⟨y0, y1, y2, y3, y4⟩ := row5 hZ1
 obtain ⟨f0, f1, f2, f3, f4⟩ := frz5 hZ1
 clear hZ1
 go_wp2_with fail
 show bodyPost _ _ _ _ _ (Zz W1 (w.heap.size + 1 + 1) (.int .i64 2) (.int .i64 m8) (.string ⟨#[]⟩) (.slice none 0 0) (.slice none 0 0))
 exact Q7 (v := .agg #[.int .i64 2, .int .i64 m8, .string ⟨#[]⟩, .slice none 0 0, .slice none 0 0]) (by simp [results, results71, go_sem, Qm HZ1.out]) rfl (Uy (s := []) (.bool _ (by omega)) (by simp) (Qn HB1.out (by omega)))
theorem L5 (s : Sc) (nm : Bs) (tn : Int) (names : List Bs) (kids : List Ty) (n : Int) (hn0 : 0 ≤ n) (S0 S1 : Nat → Prop) (cs ct : List Value) (w : World) (hs : Yl S0 w cs s) (ht : Y5 S1 w ct (.mk 1 nm tn names kids)) :
  Calls prog 71 #[.agg cs.toArray, .agg ct.toArray, .int .i64 n] w (Jq w) := by
 obtain ⟨uv, tv, rfl, hu, ht0⟩ := hs
 obtain ⟨up, uc, rfl, _⟩ := hu.len
 obtain ⟨tp, tc, rfl, _⟩ := ht0.len
 obtain ⟨q3, l3, q4, l4, rfl, _⟩ := ht.cells'
 obtain ⟨m8, hm8⟩ := eX (n.tmod 5)
 have hbd := Kb n 5 hn0 (by omega)
 rw [hm8] at hbd
 obtain ⟨hbd1, hbd2⟩ := hbd
 clear hu ht0 ht
 go_enter func71, ntmps71
 go_upto_region 6 with fail
 generalize hW1 : (((w.alloc _).alloc _).alloc _).alloc _ = W1
 have hb1 := eqB hW1 (Zq (Zq (Zq (Qo w _) _) _) _)
 have hS1 := eqH (b := w.heap.size) hW1 (Qi (Qi (Qi (Z6 rfl _) _) _) _)
 have hT1 := eqH (b := w.heap.size + 1) hW1 (Qi (Qi (Z6 (by simp) _) _) _)
 have hZ1 := eqH (b := w.heap.size + 1 + 1) hW1 (Qi (Z6 (by simp) _) _)
 have hD1 := eqH (b := w.heap.size + 1 + 1 + 1) hW1 (Z6 (by simp) _)
 have HB1 := Qq hb1; have HS1 := Qq hS1; have HT1 := Qq hT1; have HZ1 := Qq hZ1; have HD1 := Qq hD1
 clear hW1 hb1 hS1 hT1
 obtain ⟨y0, y1, y2, y3, y4⟩ := row5 hZ1
 obtain ⟨f0, f1, f2, f3, f4⟩ := frz5 hZ1
 clear hZ1
 obtain ⟨j, rfl⟩ : ∃ j : Nat, m8 = (j : Int) := ⟨m8.toNat, by omega⟩
 obtain ⟨x, hx, hxl⟩ : ∃ x : Bs, W1.cell? ⟨w.heap.size + 1 + 1 + 1, 0 + j, none⟩ = some (.string ⟨x.toArray⟩) ∧ x.length ≤ 1000000 := by
  have hj : j < 5 := by omega
  rw [Qk _ _ _ _ _ _ hD1]
  match j, hj with
  | 0, _ => exact ⟨[], rfl, by simp⟩
  | 1, _ => exact ⟨[97], rfl, by simp⟩
  | 2, _ => exact ⟨[98], rfl, by simp⟩
  | 3, _ => exact ⟨[97, 98], rfl, by simp⟩
  | 4, _ => exact ⟨[195, 169], rfl, by simp⟩
 rw [Nat.zero_add] at hx
 clear hD1
 go_wp2_with fail
 show bodyPost _ _ _ _ _ (Zz W1 (w.heap.size + 1 + 1) (.int .i64 1) (.int .i64 0) (.string ⟨x.toArray⟩) (.slice none 0 0) (.slice none 0 0))
 exact Q7 (v := .agg #[.int .i64 1, .int .i64 0, .string ⟨x.toArray⟩, .slice none 0 0, .slice none 0 0]) (by simp [results, results71, go_sem, Qm HZ1.out]) rfl (Uy (.text x) hxl (Qn HB1.out (by omega)))
theorem Dg (s : Sc) (t : Ty) (hl : Uu t) (n : Int) (hn0 : 0 ≤ n) (S0 S1 : Nat → Prop) (cs ct : List Value) (w : World) (hs : Yl S0 w cs s) (ht : Y5 S1 w ct t) :
  Calls prog 71 #[.agg cs.toArray, .agg ct.toArray, .int .i64 n] w (Jq w) := by
 obtain ⟨k, nm, tn, names, kids⟩ := t
 rcases hl with h | h | h
 all_goals cases (show k = _ from h)
 ·exact N3 s nm tn names kids n hn0 S0 S1 cs ct w hs ht
 ·exact L5 s nm tn names kids n hn0 S0 S1 cs ct w hs ht
 exact Ld s nm tn names kids n hn0 S0 S1 cs ct w hs ht
theorem E7 (S : Nat → Prop) (v : Value) (l : List Int) (w : World) (hs : Y4 S w v l) (hi : Vw l) (hk : Zo l 0 13 = 0) :
  Calls prog 35 #[v, .int .i64 0] w (V8 w (Gen.check 0)) := by
 have HP := Qq (fun W (hb : Below w.heap.size w W) => Zr S v l 0 13 W (hs.below hb) hi (by omega) (by omega))
 rw [hk] at HP
 obtain ⟨p, cap, rfl, _⟩ := hs.len
 clear hs hi hk
 go_enter func35, ntmps35
 go_upto_region 8 with fail
 generalize hW8 : (((((((w.alloc _).alloc _).alloc _).alloc _).alloc _).alloc _).alloc _).alloc _ = W8
 have hb8 := eqB hW8 (Zq (Zq (Zq (Zq (Zq (Zq (Zq (Qo w _) _) _) _) _) _) _) _)
 have hz8 : W8.heap.size = w.heap.size + 8 := by rw [← hW8]; simp
 have r8 := eqH (b := w.heap.size) hW8 (Qi (Qi (Qi (Qi (Qi (Qi (Qi (Z6 rfl _) _) _) _) _) _) _) _)
 have hyes := eqH (b := w.heap.size + 1 + 1 + 1 + 1 + 1 + 1 + 1) hW8 (Z6 (by simp) _)
 have hRl : w.heap.size < W8.heap.size := by omega
 have hRn : w.heap.size ≠ W8.heap.size := by omega
 have HZ8 := Qq hz8
 clear hz8
 have HB8 := Qq hb8; have HR8 := Qq r8
 clear hW8 hb8 r8
 obtain ⟨yes0, yes1, yes2, yes3, yes4, yes5, yes6, yes7, yes8⟩ := row9 hyes
 clear hyes
 go_upto_region 12 with (go_at_call 26; refine (HP.out _ HB8.out).mono ?_; rintro e w' ⟨rfl, rfl⟩)
 obtain ⟨y0, y1, y2, y3, y4, y5, y6, y7, y8⟩ := row9 HR8.out
 obtain ⟨f0, f1, f2, f3, f4, f5, f6, f7, f8⟩ := frz9 HR8.out
 go_wp2_with fail
 show bodyPost _ _ _ _ _ (put9 W8 w.heap.size (.int .i64 2) (.string ⟨#[]⟩) (.int .i64 1) (.string ⟨#[]⟩) (.slice none 0 0) (.slice none 0 0) (.slice none 0 0) (.int .i64 0) (.int .i64 0))
 exact Q7 (v := .agg #[.int .i64 2, .string ⟨#[]⟩, .int .i64 1, .string ⟨#[]⟩, .slice none 0 0, .slice none 0 0, .slice none 0 0, .int .i64 0, .int .i64 0]) (by simp [results, results35, go_sem, Y2 HR8.out]) rfl (Vq (Zx 2 [] 1 [] (by simp) (by simp)) HB8.out rfl)
theorem Bu (S : Nat → Prop) (v : Value) (l : List Int) (w : World) (hs : Y4 S w v l) (hi : Vw l) (hk : Zo l 0 13 = 1) :
  Calls prog 35 #[v, .int .i64 0] w (V8 w (Gen.check 1)) := by
 have HP := Qq (fun W (hb : Below w.heap.size w W) => Zr S v l 0 13 W (hs.below hb) hi (by omega) (by omega))
 rw [hk] at HP
 obtain ⟨p, cap, rfl, _⟩ := hs.len
 clear hs hi hk
 go_enter func35, ntmps35
 go_upto_region 8 with fail
 generalize hW8 : (((((((w.alloc _).alloc _).alloc _).alloc _).alloc _).alloc _).alloc _).alloc _ = W8
 have hb8 := eqB hW8 (Zq (Zq (Zq (Zq (Zq (Zq (Zq (Qo w _) _) _) _) _) _) _) _)
 have hz8 : W8.heap.size = w.heap.size + 8 := by rw [← hW8]; simp
 have r8 := eqH (b := w.heap.size) hW8 (Qi (Qi (Qi (Qi (Qi (Qi (Qi (Z6 rfl _) _) _) _) _) _) _) _)
 have hyes := eqH (b := w.heap.size + 1 + 1 + 1 + 1 + 1 + 1 + 1) hW8 (Z6 (by simp) _)
 have hRl : w.heap.size < W8.heap.size := by omega
 have hRn : w.heap.size ≠ W8.heap.size := by omega
 have HZ8 := Qq hz8
 clear hz8
 have HB8 := Qq hb8; have HR8 := Qq r8
 clear hW8 hb8 r8
 obtain ⟨yes0, yes1, yes2, yes3, yes4, yes5, yes6, yes7, yes8⟩ := row9 hyes
 clear hyes
 go_upto_region 12 with (go_at_call 26; refine (HP.out _ HB8.out).mono ?_; rintro e w' ⟨rfl, rfl⟩)
 obtain ⟨y0, y1, y2, y3, y4, y5, y6, y7, y8⟩ := row9 HR8.out
 obtain ⟨f0, f1, f2, f3, f4, f5, f6, f7, f8⟩ := frz9 HR8.out
 go_wp2_with fail
 show bodyPost _ _ _ _ _ (put9 W8 w.heap.size (.int .i64 2) (.string ⟨#[]⟩) (.int .i64 1) (.string ⟨#[]⟩) (.slice none 0 0) (.slice none 0 0) (.slice none 0 0) (.int .i64 0) (.int .i64 0))
 exact Q7 (v := .agg #[.int .i64 2, .string ⟨#[]⟩, .int .i64 1, .string ⟨#[]⟩, .slice none 0 0, .slice none 0 0, .slice none 0 0, .int .i64 0, .int .i64 0]) (by simp [results, results35, go_sem, Y2 HR8.out]) rfl (Vq (Zx 2 [] 1 [] (by simp) (by simp)) HB8.out rfl)
theorem Ed (S : Nat → Prop) (v : Value) (l : List Int) (w : World) (hs : Y4 S w v l) (hi : Vw l) (hk : Zo l 0 13 = 2) :
  Calls prog 35 #[v, .int .i64 0] w (V8 w (Gen.check 2)) := by
 have HP := Qq (fun W (hb : Below w.heap.size w W) => Zr S v l 0 13 W (hs.below hb) hi (by omega) (by omega))
 rw [hk] at HP
 obtain ⟨p, cap, rfl, _⟩ := hs.len
 clear hs hi hk
 go_enter func35, ntmps35
 go_upto_region 8 with fail
 generalize hW8 : (((((((w.alloc _).alloc _).alloc _).alloc _).alloc _).alloc _).alloc _).alloc _ = W8
 have hb8 := eqB hW8 (Zq (Zq (Zq (Zq (Zq (Zq (Zq (Qo w _) _) _) _) _) _) _) _)
 have hz8 : W8.heap.size = w.heap.size + 8 := by rw [← hW8]; simp
 have r8 := eqH (b := w.heap.size) hW8 (Qi (Qi (Qi (Qi (Qi (Qi (Qi (Z6 rfl _) _) _) _) _) _) _) _)
 have hyes := eqH (b := w.heap.size + 1 + 1 + 1 + 1 + 1 + 1 + 1) hW8 (Z6 (by simp) _)
 have hRl : w.heap.size < W8.heap.size := by omega
 have hRn : w.heap.size ≠ W8.heap.size := by omega
 have HZ8 := Qq hz8
 clear hz8
 have HB8 := Qq hb8; have HR8 := Qq r8
 clear hW8 hb8 r8
 obtain ⟨yes0, yes1, yes2, yes3, yes4, yes5, yes6, yes7, yes8⟩ := row9 hyes
 clear hyes
 go_upto_region 12 with (go_at_call 26; refine (HP.out _ HB8.out).mono ?_; rintro e w' ⟨rfl, rfl⟩)
 obtain ⟨y0, y1, y2, y3, y4, y5, y6, y7, y8⟩ := row9 HR8.out
 obtain ⟨f0, f1, f2, f3, f4, f5, f6, f7, f8⟩ := frz9 HR8.out
 go_wp2_with fail
 show bodyPost _ _ _ _ _ (put9 W8 w.heap.size (.int .i64 2) (.string ⟨#[]⟩) (.int .i64 1) (.string ⟨#[]⟩) (.slice none 0 0) (.slice none 0 0) (.slice none 0 0) (.int .i64 0) (.int .i64 0))
 exact Q7 (v := .agg #[.int .i64 2, .string ⟨#[]⟩, .int .i64 1, .string ⟨#[]⟩, .slice none 0 0, .slice none 0 0, .slice none 0 0, .int .i64 0, .int .i64 0]) (by simp [results, results35, go_sem, Y2 HR8.out]) rfl (Vq (Zx 2 [] 1 [] (by simp) (by simp)) HB8.out rfl)
theorem Sq (S : Nat → Prop) (v : Value) (l : List Int) (w : World) (hs : Y4 S w v l) (hi : Vw l) (hk : Zo l 0 13 = 9) :
  Calls prog 35 #[v, .int .i64 0] w (V8 w (Gen.check 9)) := by
 have HP := Qq (fun W (hb : Below w.heap.size w W) => Zr S v l 0 13 W (hs.below hb) hi (by omega) (by omega))
 rw [hk] at HP
 obtain ⟨p, cap, rfl, _⟩ := hs.len
 clear hs hi hk
 go_enter func35, ntmps35
 go_upto_region 8 with fail
 generalize hW8 : (((((((w.alloc _).alloc _).alloc _).alloc _).alloc _).alloc _).alloc _).alloc _ = W8
 have hb8 := eqB hW8 (Zq (Zq (Zq (Zq (Zq (Zq (Zq (Qo w _) _) _) _) _) _) _) _)
 have hz8 : W8.heap.size = w.heap.size + 8 := by rw [← hW8]; simp
 have r8 := eqH (b := w.heap.size) hW8 (Qi (Qi (Qi (Qi (Qi (Qi (Qi (Z6 rfl _) _) _) _) _) _) _) _)
 have hc := eqH (b := w.heap.size + 1 + 1 + 1) hW8 (Qi (Qi (Qi (Qi (Z6 (by simp) _) _) _) _) _)
 have hRl : w.heap.size < W8.heap.size := by omega
 have hRn : w.heap.size ≠ W8.heap.size := by omega
 have HZ8 := Qq hz8
 clear hz8
 have HB8 := Qq hb8; have HR8 := Qq r8
 clear hW8 hb8 r8
 obtain ⟨c0, c1, c2, c3, c4, c5, c6, c7, c8⟩ := row9 hc
 clear hc
 go_upto_region 28 with (go_at_call 26; refine (HP.out _ HB8.out).mono ?_; rintro e w' ⟨rfl, rfl⟩)
 go_wp2_with (first
   | (go_at_call 70; refine (Xj w.heap.size [61, 61] _ _ [.int .i64 ek1, .string es1, .int .i64 en1, .string et1, .slice e11 f11 g11, .slice e21 f21 g21, .slice e31 f31 g31, .int .i64 ea1, .int .i64 ez1] [.int .i64 1, .string ⟨#[]⟩, .int .i64 0, .string ⟨#[]⟩, .slice none 0 0, .slice none 0 0, .slice none 0 0, .int .i64 0, .int .i64 0] _ (by simp) H1_1.out (Zx 1 [] 0 [] (by simp) (by simp)) (by have h := (HB1.out : Below W8.heap.size W8 _).size; omega)).mono ?_; rintro e w2 ⟨ek2, es2, en2, et2, e12, f12, g12, e22, f22, g22, e32, f32, g32, ea2, ez2, rfl, hx2, hb2⟩; have hB2 : Below W8.heap.size W8 w2 := (HB1.out).thn hb2; have hZ2 := kE hB2 (show w.heap.size < W8.heap.size by omega) HR8.out; have f0 := fA 0 hZ2; have y0 := Qk _ _ 0 _ _ _ hZ2; have f1 := fA 1 hZ2; have y1 := Qk _ _ 1 _ _ _ hZ2; have f2 := fA 2 hZ2; have y2 := Qk _ _ 2 _ _ _ hZ2; have f3 := fA 3 hZ2; have y3 := Qk _ _ 3 _ _ _ hZ2; have f4 := fA 4 hZ2; have y4 := Qk _ _ 4 _ _ _ hZ2; have f5 := fA 5 hZ2; have y5 := Qk _ _ 5 _ _ _ hZ2; have f6 := fA 6 hZ2; have y6 := Qk _ _ 6 _ _ _ hZ2; have f7 := fA 7 hZ2; have y7 := Qk _ _ 7 _ _ _ hZ2; have f8 := fA 8 hZ2; have y8 := Qk _ _ 8 _ _ _ hZ2; simp only [List.getElem?_toArray, List.getElem?_cons_zero, List.getElem?_cons_succ] at y0 y1 y2 y3 y4 y5 y6 y7 y8; clear hZ2; have H1_2 := Qq (H1_1.out.move (.of_below hb2) (fun _ _ h => h)); have H2_2 := Qq hx2; have HB2 := Qq hB2; clear hx2 hb2 hB2)
   | (go_at_call 70; refine (Xj w.heap.size [43, 43] _ _ [.int .i64 3, .string ⟨#[99]⟩, .int .i64 0, .string ⟨#[]⟩, .slice none 0 0, .slice none 0 0, .slice none 0 0, .int .i64 0, .int .i64 0] [.int .i64 3, .string ⟨#[99]⟩, .int .i64 0, .string ⟨#[]⟩, .slice none 0 0, .slice none 0 0, .slice none 0 0, .int .i64 0, .int .i64 0] _ (by simp) (Zx 3 [99] 0 [] (by simp) (by simp)) (Zx 3 [99] 0 [] (by simp) (by simp)) (by have h := ((Qz _ _) : Below W8.heap.size W8 _).size; omega)).mono ?_; rintro e w1 ⟨ek1, es1, en1, et1, e11, f11, g11, e21, f21, g21, e31, f31, g31, ea1, ez1, rfl, hx1, hb1⟩; have hB1 : Below W8.heap.size W8 w1 := ((Qz _ _)).thn hb1; have H1_1 := Qq hx1; have HB1 := Qq hB1; clear hx1 hb1 hB1))
 have hR := kE HB2.out (by omega) HR8.out
 show bodyPost _ _ _ _ _ (put9 w2 w.heap.size (.int .i64 ek2) (.string es2) (.int .i64 en2) (.string et2) (.slice e12 f12 g12) (.slice e22 f22 g22) (.slice e32 f32 g32) (.int .i64 ea2) (.int .i64 ez2))
 exact Q7 (v := .agg #[.int .i64 ek2, .string es2, .int .i64 en2, .string et2, .slice e12 f12 g12, .slice e22 f22 g22, .slice e32 f32 g32, .int .i64 ea2, .int .i64 ez2]) (by simp [results, results35, go_sem, Y2 hR]) rfl (Vq H2_2.out (HB8.out.thn HB2.out) rfl)
theorem Mh (S : Nat → Prop) (v : Value) (l : List Int) (w : World) (hs : Y4 S w v l) (hi : Vw l) (hk : Zo l 0 13 = 12) :
  Calls prog 35 #[v, .int .i64 0] w (V8 w (Gen.check 12)) := by
 have HP := Qq (fun W (hb : Below w.heap.size w W) => Zr S v l 0 13 W (hs.below hb) hi (by omega) (by omega))
 rw [hk] at HP
 obtain ⟨p, cap, rfl, _⟩ := hs.len
 clear hs hi hk
 go_enter func35, ntmps35
 go_upto_region 8 with fail
 generalize hW8 : (((((((w.alloc _).alloc _).alloc _).alloc _).alloc _).alloc _).alloc _).alloc _ = W8
 have hb8 := eqB hW8 (Zq (Zq (Zq (Zq (Zq (Zq (Zq (Qo w _) _) _) _) _) _) _) _)
 have hz8 : W8.heap.size = w.heap.size + 8 := by rw [← hW8]; simp
 have r8 := eqH (b := w.heap.size) hW8 (Qi (Qi (Qi (Qi (Qi (Qi (Qi (Z6 rfl _) _) _) _) _) _) _) _)
 have hRl : w.heap.size < W8.heap.size := by omega
 have hRn : w.heap.size ≠ W8.heap.size := by omega
 have HZ8 := Qq hz8
 clear hz8
 have HB8 := Qq hb8; have HR8 := Qq r8
 clear hW8 hb8 r8
 go_upto_region 33 with (go_at_call 26; refine (HP.out _ HB8.out).mono ?_; rintro e w' ⟨rfl, rfl⟩)
 have hTok1 := Qq True.intro
 go_wp2_with (have hk := hTok1.out; clear hTok1 hk; generalize hWW9 : World.alloc W8 _ = W9; have hbW9 := eqB hWW9 (Qo _ _); have hKW9 := eqH (b := W8.heap.size) hWW9 (Qw _ _); have hRW9 := kE hbW9 hRl HR8.out; have f0 := fA 0 hRW9; have y0 := Qk _ _ 0 _ _ _ hRW9; have f1 := fA 1 hRW9; have y1 := Qk _ _ 1 _ _ _ hRW9; have f2 := fA 2 hRW9; have y2 := Qk _ _ 2 _ _ _ hRW9; have f3 := fA 3 hRW9; have y3 := Qk _ _ 3 _ _ _ hRW9; have f4 := fA 4 hRW9; have y4 := Qk _ _ 4 _ _ _ hRW9; have f5 := fA 5 hRW9; have y5 := Qk _ _ 5 _ _ _ hRW9; have f6 := fA 6 hRW9; have y6 := Qk _ _ 6 _ _ _ hRW9; have f7 := fA 7 hRW9; have y7 := Qk _ _ 7 _ _ _ hRW9; have f8 := fA 8 hRW9; have y8 := Qk _ _ 8 _ _ _ hRW9; simp only [List.getElem?_toArray, List.getElem?_cons_zero, List.getElem?_cons_succ] at y0 y1 y2 y3 y4 y5 y6 y7 y8; have HKW9 := Qq hKW9; have HBW9 := Qq hbW9; have HRW9 := Qq hRW9; clear hWW9 hKW9 hbW9 hRW9)
 show bodyPost _ _ _ _ _ (put9 W9 w.heap.size (.int .i64 4) (.string ⟨#[97, 110, 121]⟩) (.int .i64 0) (.string ⟨#[]⟩) (.slice none 0 0) (.slice none 0 0) (.slice (some ⟨W8.heap.size, 0, none⟩) 1 1) (.int .i64 0) (.int .i64 0))
 exact Q7 (v := .agg #[.int .i64 4, .string ⟨#[97, 110, 121]⟩, .int .i64 0, .string ⟨#[]⟩, .slice none 0 0, .slice none 0 0, .slice (some ⟨W8.heap.size, 0, none⟩) 1 1, .int .i64 0, .int .i64 0]) (by simp [results, results35, go_sem, Y2 HRW9.out]) rfl (Vq (Zt (nm := [97, 110, 121]) (s := []) (by simp) (by simp) (Sl.nil _ _ _) (Sl.nil _ _ _) (Z4 (xs := [Ex.mk 9 [] 0 [] [] [] [] 0 0]) HKW9.out hRl (Cs.one (r := Yo) (x := Ex.mk 9 [] 0 [] [] [] [] 0 0) (c := [.int .i64 9, .string ⟨#[]⟩, .int .i64 0, .string ⟨#[]⟩, .slice none 0 0, .slice none 0 0, .slice none 0 0, .int .i64 0, .int .i64 0]) (show Z5 _ _ _ _ from Zx 9 [] 0 [] (by simp) (by simp))) rfl rfl (by simp))) (HB8.out.thn HBW9.out) rfl)
theorem M8 (S : Nat → Prop) (v : Value) (l : List Int) (w : World) (hs : Y4 S w v l) (hi : Vw l) (hk : Zo l 0 13 = 11) :
  Calls prog 35 #[v, .int .i64 0] w (V8 w (Gen.check 11)) := by
 have HP := Qq (fun W (hb : Below w.heap.size w W) => Zr S v l 0 13 W (hs.below hb) hi (by omega) (by omega))
 rw [hk] at HP
 obtain ⟨p, cap, rfl, _⟩ := hs.len
 clear hs hi hk
 go_enter func35, ntmps35
 go_upto_region 8 with fail
 generalize hW8 : (((((((w.alloc _).alloc _).alloc _).alloc _).alloc _).alloc _).alloc _).alloc _ = W8
 have hb8 := eqB hW8 (Zq (Zq (Zq (Zq (Zq (Zq (Zq (Qo w _) _) _) _) _) _) _) _)
 have hz8 : W8.heap.size = w.heap.size + 8 := by rw [← hW8]; simp
 have r8 := eqH (b := w.heap.size) hW8 (Qi (Qi (Qi (Qi (Qi (Qi (Qi (Z6 rfl _) _) _) _) _) _) _) _)
 have ha := eqH (b := w.heap.size + 1) hW8 (Qi (Qi (Qi (Qi (Qi (Qi (Z6 (by simp) _) _) _) _) _) _) _)
 have hb := eqH (b := w.heap.size + 1 + 1) hW8 (Qi (Qi (Qi (Qi (Qi (Z6 (by simp) _) _) _) _) _) _)
 have hone := eqH (b := w.heap.size + 1 + 1 + 1 + 1 + 1 + 1) hW8 (Qi (Z6 (by simp) _) _)
 have hRl : w.heap.size < W8.heap.size := by omega
 have hRn : w.heap.size ≠ W8.heap.size := by omega
 have HZ8 := Qq hz8
 clear hz8
 have HB8 := Qq hb8; have HR8 := Qq r8
 clear hW8 hb8 r8
 obtain ⟨a0, a1, a2, a3, a4, a5, a6, a7, a8⟩ := row9 ha
 clear ha
 obtain ⟨b0, b1, b2, b3, b4, b5, b6, b7, b8⟩ := row9 hb
 clear hb
 obtain ⟨one0, one1, one2, one3, one4, one5, one6, one7, one8⟩ := row9 hone
 clear hone
 go_upto_region 32 with (go_at_call 26; refine (HP.out _ HB8.out).mono ?_; rintro e w' ⟨rfl, rfl⟩)
 have hTok1 := Qq True.intro; have hTok2 := Qq True.intro
 go_wp2_with (first
   | (have hk := hTok1.out; clear hTok1 hk; generalize hWW9 : World.alloc W8 _ = W9; have hbW9 := eqB hWW9 (Qo _ _); have hKW9 := eqH (b := W8.heap.size) hWW9 (Qw _ _); have a0 := kC hbW9 a0; have a1 := kC hbW9 a1; have a2 := kC hbW9 a2; have a3 := kC hbW9 a3; have a4 := kC hbW9 a4; have a5 := kC hbW9 a5; have a6 := kC hbW9 a6; have a7 := kC hbW9 a7; have a8 := kC hbW9 a8; have one0 := kC hbW9 one0; have one1 := kC hbW9 one1; have one2 := kC hbW9 one2; have one3 := kC hbW9 one3; have one4 := kC hbW9 one4; have one5 := kC hbW9 one5; have one6 := kC hbW9 one6; have one7 := kC hbW9 one7; have one8 := kC hbW9 one8; have HKW9 := Qq hKW9; have HBW9 := Qq hbW9; clear hWW9 hKW9 hbW9)
   | (have hk := hTok2.out; clear hTok2 hk; generalize hWW10 : World.alloc W9 _ = W10; have hbW10 := eqB hWW10 (Qo _ _); have hKW10 := eqH (b := W9.heap.size) hWW10 (Qw _ _); have HKW10 := Qq hKW10; have HBW10 := Qq hbW10; clear hWW10 hKW10 hbW10)
   | (go_at_call 70; refine (Xj w.heap.size [33, 61] _ _ [.int .i64 9, .string ⟨#[]⟩, .int .i64 0, .string ⟨#[]⟩, .slice none 0 0, .slice none 0 0, .slice (some ⟨W8.heap.size, 0, none⟩) 2 2, .int .i64 0, .int .i64 0] [.int .i64 9, .string ⟨#[]⟩, .int .i64 0, .string ⟨#[]⟩, .slice none 0 0, .slice none 0 0, .slice (some ⟨W9.heap.size, 0, none⟩) 2 2, .int .i64 0, .int .i64 0] _ (by simp) (Zt (nm := []) (s := []) (by simp) (by simp) (Sl.nil _ _ _) (Sl.nil _ _ _) (Z4 (xs := [Gen.a, Gen.b]) (kB HBW10.out HKW9.out) hRl ((Cs.one (r := Yo) (Zx 3 [97] 0 [] (by simp) (by simp))).app (Cs.one (r := Yo) (Zx 3 [98] 0 [] (by simp) (by simp)))) rfl rfl (by simp))) (Zt (nm := []) (s := []) (by simp) (by simp) (Sl.nil _ _ _) (Sl.nil _ _ _) (Z4 (xs := [Gen.one, Gen.a]) HKW10.out (Qa hRl HBW9.out.size) ((Cs.one (r := Yo) (Zx 0 [] 1 [] (by simp) (by simp))).app (Cs.one (r := Yo) (Zx 3 [97] 0 [] (by simp) (by simp)))) rfl rfl (by simp))) (Qa hRl (HBW9.out.thn HBW10.out).size)).mono ?_; rintro e w1 ⟨ek1, es1, en1, et1, e11, f11, g11, e21, f21, g21, e31, f31, g31, ea1, ez1, rfl, hx1, hb1⟩; have hR1 := kE (HBW9.out.thn (HBW10.out.thn hb1)) hRl HR8.out; have f0 := fA 0 hR1; have y0 := Qk _ _ 0 _ _ _ hR1; have f1 := fA 1 hR1; have y1 := Qk _ _ 1 _ _ _ hR1; have f2 := fA 2 hR1; have y2 := Qk _ _ 2 _ _ _ hR1; have f3 := fA 3 hR1; have y3 := Qk _ _ 3 _ _ _ hR1; have f4 := fA 4 hR1; have y4 := Qk _ _ 4 _ _ _ hR1; have f5 := fA 5 hR1; have y5 := Qk _ _ 5 _ _ _ hR1; have f6 := fA 6 hR1; have y6 := Qk _ _ 6 _ _ _ hR1; have f7 := fA 7 hR1; have y7 := Qk _ _ 7 _ _ _ hR1; have f8 := fA 8 hR1; have y8 := Qk _ _ 8 _ _ _ hR1; simp only [List.getElem?_toArray, List.getElem?_cons_zero, List.getElem?_cons_succ] at y0 y1 y2 y3 y4 y5 y6 y7 y8; have HR1 := Qq hR1; clear hR1; have H1 := Qq hx1; have HB1 := Qq hb1; clear hx1 hb1))
 show bodyPost _ _ _ _ _ (put9 w1 w.heap.size (.int .i64 ek1) (.string es1) (.int .i64 en1) (.string et1) (.slice e11 f11 g11) (.slice e21 f21 g21) (.slice e31 f31 g31) (.int .i64 ea1) (.int .i64 ez1))
 exact Q7 (v := .agg #[.int .i64 ek1, .string es1, .int .i64 en1, .string et1, .slice e11 f11 g11, .slice e21 f21 g21, .slice e31 f31 g31, .int .i64 ea1, .int .i64 ez1]) (by simp [results, results35, go_sem, Y2 HR1.out]) rfl (Vq H1.out (HB8.out.thn (HBW9.out.thn (HBW10.out.thn HB1.out))) rfl)
theorem Lb {A : Type} (p : A → A → Bool) (hp : ∀ x, p x x = true) : ∀ l : List A, eqL p l l = true
 | [] => rfl
 | x :: l => by unfold eqL; rw [hp x, Lb p hp l]; rfl
theorem Ol (x : Val) : Z1 x x = 0 := Dq.2 rfl
end Go.Proofs.YtppbaladeefnkaaGreatDoor

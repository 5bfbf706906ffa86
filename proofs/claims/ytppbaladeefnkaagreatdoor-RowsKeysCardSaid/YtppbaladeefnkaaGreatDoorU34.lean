import Derived.Test.YtppbaladeefnkaaGreatDoorU32
set_option maxRecDepth 100000
set_option maxHeartbeats 400000000
namespace Go.Proofs.YtppbaladeefnkaaGreatDoor
open Go.RowKit Go.Shelf Go.Lib Tryz
def put7 (W : World) (R : Nat) (a0 a1 a2 a3 a4 a5 a6 : Value) : World := (((((((W.setCell ⟨R, 0, none⟩ a0).setCell ⟨R, 1, none⟩ a1).setCell ⟨R, 2, none⟩ a2).setCell ⟨R, 3, none⟩ a3).setCell ⟨R, 4, none⟩ a4).setCell ⟨R, 5, none⟩ a5).setCell ⟨R, 6, none⟩ a6)
theorem Mq {B R : Nat} {w W : World} {a0 a1 a2 a3 a4 a5 a6 : Value} (h : Below B w W) (hR : B ≤ R) : Below B w (put7 W R a0 a1 a2 a3 a4 a5 a6) :=
 ((((((h.setCell (p := ⟨R, 0, none⟩) hR _).setCell (p := ⟨R, 1, none⟩) hR _).setCell (p := ⟨R, 2, none⟩) hR _).setCell (p := ⟨R, 3, none⟩) hR _).setCell (p := ⟨R, 4, none⟩) hR _).setCell (p := ⟨R, 5, none⟩) hR _).setCell (p := ⟨R, 6, none⟩) hR _
theorem Db {w w' : World} {nm : Bs} {kids : List Val} {p : Option Addr} {c : Nat} (hc : D9 nm) (hl : kids.length ≤ 1) (hk : ∀ x ∈ kids, Zp x) (hs : nm.length ≤ 1000000) (hv : Sl Ql (fun b => w.heap.size ≤ b) w' (.slice p kids.length c) kids) (hb : Below w.heap.size w w') : Jq w (.returned (.agg #[.int .i64 3, .int .i64 0, .string ⟨nm.toArray⟩, .slice none 0 0, .slice p kids.length c])) w' :=
 ⟨.mk 3 0 nm [] kids, none, 0, p, c, rfl, .make nm kids hc hl hk, hl, Zn hs (Sl.nil _ _ _) hv, hb⟩
theorem Lt (s : Sc) (hsg : Vb s.sums) (nm : Bs) (tn : Int) (names : List Bs) (kids : List Ty) (n : Int) (hn0 : 0 ≤ n) (hn1 : n ≤ 1000000) (S0 S1 : Nat → Prop) (cs ct : List Value) (w : World) (hs : Yl S0 w cs s) (ht : Y5 S1 w ct (.mk 3 nm tn names kids)) :
  Calls prog 71 #[.agg cs.toArray, .agg ct.toArray, .int .i64 n] w (Jq w) := by
 have HSc := Qq hs
 obtain ⟨uv, tv, rfl, hu, ht0⟩ := hs
 obtain ⟨up, uc, rfl, _⟩ := hu.len
 obtain ⟨tp, tc, rfl, _⟩ := ht0.len
 obtain ⟨q3, l3, q4, l4, rfl, _⟩ := ht.cells'
 obtain ⟨m, hm⟩ := eX (s.sums.length)
 rw [hm] at hu HSc ⊢
 have hml : m ≤ 1000000 := by obtain ⟨_, _, _, h⟩ := hu.len; omega
 have HU := Qq hu; have HM := Qq hm; have HG := Qq hsg
 have hn7 : 0 ≤ n.tdiv 7 ∧ n.tdiv 7 ≤ 1000000 := by
  rw [Int.tdiv_eq_ediv_of_nonneg hn0]; omega
 obtain ⟨q7, hq7⟩ := eX (n.tdiv 7)
 rw [hq7] at hn7
 obtain ⟨hn7a, hn7b⟩ := hn7
 clear hu ht0 ht hm hsg
 go_enter func71, ntmps71
 go_wp2_with fail
 generalize hW1 : (((w.alloc _).alloc _).alloc _).alloc _ = W1
 have hb1 := eqB hW1 (Zq (Zq (Zq (Qo w _) _) _) _)
 have hS1 := eqH (b := w.heap.size) hW1 (Qi (Qi (Qi (Z6 rfl _) _) _) _)
 have hT1 := eqH (b := w.heap.size + 1) hW1 (Qi (Qi (Z6 (by simp) _) _) _)
 have hZ1 := eqH (b := w.heap.size + 1 + 1) hW1 (Qi (Z6 (by simp) _) _)
 have hD1 := eqH (b := w.heap.size + 1 + 1 + 1) hW1 (Z6 (by simp) _)
 have HB1 := Qq hb1; have HS1 := Qq hS1; have HT1 := Qq hT1; have HZ1 := Qq hZ1; have HD1 := Qq hD1
 clear hW1 hb1 hS1 hT1 hD1 hZ1
 go_loopw [8, 9, 10] (fun t8 _ _ wr => ∃ k : Nat, k ≤ m ∧ t8 = .int .i64 k ∧ Aside (Below W1.heap.size W1 wr)) (fun t8 _ _ _ => m - (intOf t8).toNat)
 case atStart => exact ⟨0, Q8 _, rfl, Qz _ _⟩
 obtain ⟨k, hk, rfl, hBr⟩ := hrel
 have HBr := Qq (show Below W1.heap.size W1 wr from hBr)
 have HWr := Qq (HB1.out.thn HBr.out)
 clear hBr
 have hlt := Qf HZ1.out
 have hSr := kB HBr.out HS1.out
 have hTr := kB HBr.out HT1.out
 have hZr := kE HBr.out hlt HZ1.out
 have HZr := Qq hZr; have HSr := Qq hSr; have HTr := Qq hTr
 have c0 := rA0 hSr; have b1 := rA1 hTr
 clear hSr hTr hZr
 by_cases hlt2 : k < m
 ·have hi1 : (0 : Int) ≤ (k : Int) := by omega
  have hi2 : (k : Int) < (m : Int) := by omega
  obtain ⟨u, hu⟩ : ∃ u, s.sums[k]? = some u := ⟨_, Qx (by rw [HM.out]; exact hlt2)⟩
  obtain ⟨ub, uoff, ucs, hup, hub, _, _, hsm, hcc⟩ := (HU.out.below HWr.out).elem hu
  subst hup
  obtain ⟨ctv, hucs, hnl, hct⟩ := hsm
  subst hucs
  obtain ⟨cp, cc, hctv, hcl⟩ := hct.len
  obtain ⟨p, hp⟩ := eX (u.ctors.length)
  rw [hp] at hctv hcl
  subst hctv
  have d0 := hcc 0 _ rfl; have d1 := hcc 1 _ rfl
  rw [show Jg.k = 2 from rfl] at d0 d1
  rw [Nat.add_zero] at d0
  unfold sv at d0
  have HCt := Qq hct; have HP := Qq hp; have HGu := Qq (HG.out u (Qy hu))
  clear hu hcc hct hp
  by_cases he : u.name = nm
  ·have hq : (u.name == nm) = true := by rw [he]; simp
   clear he
   by_cases hp0 : p = 0
   ·have hg : ¬ (0 : Int) < (p : Int) := by omega
    go_upto_region 12 with fail
    go_quiet (fail)
    go_wp2_with fail
    go_roundw
    case measure => simp [intOf]; omega
    case rel => exact ⟨k + 1, by omega, by go_num, HBr.out.thn (Zy _ _)⟩
   have hg : (0 : Int) < (p : Int) := by omega
   obtain ⟨m8, hm8⟩ := eX (n.tmod (p : Int))
   have hbd := Kb n p hn0 hg
   rw [hm8] at hbd
   obtain ⟨hbd1, hbd2⟩ := hbd
   obtain ⟨j, rfl⟩ : ∃ j : Nat, m8 = (j : Int) := ⟨m8.toNat, by omega⟩
   have hjp : j < p := by omega
   obtain ⟨c, hc⟩ : ∃ c, u.ctors[j]? = some c := ⟨_, Qx (by rw [HP.out]; exact hjp)⟩
   obtain ⟨cb, coff, ccs, hcp, hcb, _, _, ⟨tcx, hccs, hcn, hcty⟩, hcc2⟩ := HCt.out.elem hc
   subst hcp; subst hccs
   obtain ⟨tk, ts, tn2, t3, n3, k3, t4, n4, k4, rfl⟩ := hcty.cells
   have e0 := hcc2 0 _ rfl; have e1 := hcc2 1 _ rfl; have e2 := hcc2 2 _ rfl; have e3 := hcc2 3 _ rfl; have e4 := hcc2 4 _ rfl; have e5 := hcc2 5 _ rfl; have e6 := hcc2 6 _ rfl
   rw [show Bz.k = 7 from rfl] at e0 e1 e2 e3 e4 e5 e6
   rw [Nat.add_zero] at e0
   unfold sv at e0
   have HTy := Qq hcty; have HGc := Qq (HGu.out c (Qy hc))
   clear hc hcc2 hcty
   go_upto_region 12 with fail
   go_quiet (fail)
   obtain ⟨wq, hwq⟩ := eX (wr.drewN nq)
   have hbq : Below wr.heap.size wr wq := by rw [← hwq]; exact Zy _ _
   rw [hwq]
   have HBq := Qq hbq
   have hh : ∀ {b j : Nat} {x : Value}, wr.cell? ⟨b, j, none⟩ = some x → wq.cell? ⟨b, j, none⟩ = some x := fun hx => kC hbq hx
   have c0 := hh c0; have d1 := hh d1; have e0 := hh e0; have e1 := hh e1; have e2 := hh e2; have e3 := hh e3; have e4 := hh e4; have e5 := hh e5; have e6 := hh e6
   clear hh hwq hbq hq d0 b1
   go_upto_region 13 with fail
   refine let_mvar% ?Lq1 := fun w' : World => w'.cell? ⟨w.heap.size, 0, none⟩ = some (.slice (some ⟨ub, uoff, none⟩) m uc) ∧ w'.cell? ⟨ub, uoff + k * 2 + 1, none⟩ = some (.slice (some ⟨cb, coff, none⟩) p cc) ∧ w'.cell? ⟨cb, coff + j * 7, none⟩ = some (.string ⟨c.name.toArray⟩) ∧ w'.cell? ⟨cb, coff + j * 7 + 1, none⟩ = some (.bool c.has) ∧ w'.cell? ⟨cb, coff + j * 7 + 2, none⟩ = some (.int .i64 tk) ∧ w'.cell? ⟨cb, coff + j * 7 + 3, none⟩ = some (.string ts) ∧ w'.cell? ⟨cb, coff + j * 7 + 4, none⟩ = some (.int .i64 tn2) ∧ w'.cell? ⟨cb, coff + j * 7 + 5, none⟩ = some (.slice t3 n3 k3) ∧ w'.cell? ⟨cb, coff + j * 7 + 6, none⟩ = some (.slice t4 n4 k4) ∧ Below wq.heap.size wq w'; ?_
   have HS : ∀ w', Below wq.heap.size wq w' → ?Lq1 w' := by
    intro w' h
    have hh : ∀ {b j : Nat} {u : Value}, wq.cell? ⟨b, j, none⟩ = some u → w'.cell? ⟨b, j, none⟩ = some u := fun hc => kC h hc
    exact ⟨hh c0, hh d1, hh e0, hh e1, hh e2, hh e3, hh e4, hh e5, hh e6, h⟩
   obtain ⟨HS0, HSr, HD', HSB', HA', HSq⟩ := Yn HS (fun w' h => h.2.2.2.2.2.2.2.2.2)
   have HP := fun w' x0 x1 x2 x3 x4 x5 x6 h => HSq.out (put7 w' wq.heap.size x0 x1 x2 x3 x4 x5 x6) (Mq (HSB'.out w' h) (Q9 _))
   unfold put7 at HP
   have HP' := Qq HP
   clear HS HP c0 d1 e0 e1 e2 e3 e4 e5 e6
   go_cut [9] from 33 to 89 (fun t9 wx => ∃ G, t9 = .pointer (some ⟨G, 0, none⟩) ∧ wx.heap[G]? = some (.cells #[.string ⟨c.name.toArray⟩, .bool c.has, .int .i64 tk, .string ts, .int .i64 tn2, .slice t3 n3 k3, .slice t4 n4 k4] 72 (0, 0)) ∧ Below wq.heap.size wq wx ∧ wq.heap.size ≤ G)
   case first =>
    go_region_held3 ?Lq1 (first | with_reducible exact HS0.out | with_reducible exact HD'.out _ (HA'.out _ _ HSr.out) | with_reducible exact HA'.out _ _ HSr.out | with_reducible exact HP'.out _ _ _ _ _ _ _ _ (HD'.out _ (HA'.out _ _ HSr.out))) (fail)
    all_goals
     go_wp2_with fail
     go_meet
     exact ⟨wq.heap.size, rfl, Qw _ _, (Qo _ _).drew, Q9 _⟩
   obtain ⟨G, rfl, hG, hbc, hGl⟩ := hcut
   have HBc := Qq (HBr.out.thn (HBq.out.thn hbc)); have HWc := Qq (HWr.out.thn (HBq.out.thn hbc))
   have HTc := Qq (HTy.out.move (.of_below (HBq.out.thn hbc)) (fun _ _ h => h))
   have hGs := Qf hG
   have HG := Qq hG
   clear HS0 HSr HD' HSB' HA' HP' HSq hbc
   have g0 := rA0 hG; have g1 := rA1 hG; have g2 := rA2 hG; have g3 := rA3 hG; have g4 := rA4 hG; have g5 := rA5 hG; have g6 := rA6 hG
   clear hG
   have hlz : w.heap.size + 1 + 1 < wc.heap.size := by have := HBc.out.size; omega
   cases hhas : c.has with
   | false =>
    rw [hhas] at g1
    go_upto_region 17 with fail
    generalize hV : wc.alloc _ = V1
    have hbV := eqB hV (Qo _ _)
    have hv := eqH (b := wc.heap.size) hV (Qw _ _)
    have hZV := kE (HBc.out.thn hbV) hlt HZ1.out
    obtain ⟨v0, v1, v2, v3, v4⟩ := row5 hv
    obtain ⟨y0, y1, y2, y3, y4⟩ := row5 hZV
    obtain ⟨f0, f1, f2, f3, f4⟩ := frz5 hZV
    have HZV := Qq hZV; have HBV := Qq (HWc.out.thn hbV)
    clear hV hv hZV hbV g0 g1 g2 g3 g4 g5 g6
    go_wp2_with fail
    show bodyPost _ _ _ _ _ (Zz V1 (w.heap.size + 1 + 1) (.int .i64 3) (.int .i64 0) (.string ⟨c.name.toArray⟩) (.slice none 0 0) (.slice none 0 0))
    exact Q7 (v := .agg #[.int .i64 3, .int .i64 0, .string ⟨c.name.toArray⟩, .slice none 0 0, .slice none 0 0]) (by simp [results, results71, go_sem, Qm HZV.out]) rfl (Db (kids := []) HGc.out.2 (Q8 _) (fun x h => by simp at h) hcn (Sl.nil _ _ _) (Qn HBV.out (by omega)))
   | true =>
    rw [hhas] at g1
    have hSc := kB HBc.out HS1.out
    obtain ⟨s0, s1⟩ := row2 hSc
    have HSB2 := Qq hSc
    clear hSc
    go_upto_region 15 with fail
    generalize hV : wc.alloc _ = V1
    have hbV := eqB hV (Qo _ _)
    have hv := eqH (b := wc.heap.size) hV (Qw _ _)
    have HBV := Qq (HBc.out.thn hbV); have HWV := Qq (HWc.out.thn hbV); have HV1 := Qq hv
    have HVl := Qq (Dg s c.arg HGc.out.1 q7 hn7a S0 _ _ [.int .i64 tk, .string ts, .int .i64 tn2, .slice t3 n3 k3, .slice t4 n4 k4] V1 (HSc.out.below HWV.out) (HTc.out.move (.of_below hbV) (fun _ _ h => h)))
    have hcV : ∀ {b j : Nat} {x : Value}, wc.cell? ⟨b, j, none⟩ = some x → V1.cell? ⟨b, j, none⟩ = some x := fun hx => kC hbV hx
    have g1 := hcV g1; have g2 := hcV g2; have g3 := hcV g3; have g4 := hcV g4; have g5 := hcV g5; have g6 := hcV g6; have s0 := hcV s0; have s1 := hcV s1
    clear hV hv hbV hcV g0
    go_upto_region 17 with (go_at_call 71; refine HVl.out.mono ?_; rintro e w7 ⟨v, r3, o3, r4, o4, rfl, hg7, _, hv7, hb7⟩; unfold vcs; have hw7 : wc.heap.size < w7.heap.size := Qa (Qf HV1.out) hb7.size; have hv1 := kB hb7 HV1.out; have v4 := Qk _ _ 4 _ _ _ hv1; have fv4 := fA 4 hv1; simp only [List.getElem?_toArray, List.getElem?_cons_zero, List.getElem?_cons_succ] at v4; have HV7 := Qq hv1; have HX7 := Qq hv7; have HG7 := Qq hg7; have HB7 := Qq hb7; clear hv1 hv7 hg7 hb7)
    generalize hW9 : World.alloc _ _ = W9
    have hbs : Below wc.heap.size w7 (w7.setCell ⟨wc.heap.size, 4, none⟩ (.slice (some ⟨w7.heap.size, 0, none⟩) 1 1)) := (Qz _ _).setCell (p := ⟨wc.heap.size, 4, none⟩) (Q9 _) _
    have hzs : (w7.setCell ⟨wc.heap.size, 4, none⟩ (.slice (some ⟨w7.heap.size, 0, none⟩) 1 1)).heap.size = w7.heap.size := by simp
    have hwv := HB7.out.size
    have hV1s := Qf HV1.out
    have hb79 : Below wc.heap.size w7 W9 := by rw [← hW9]; exact hbs.alloc (by rw [hzs]; omega) _
    have hv9 : W9.heap[wc.heap.size]? = some (.cells #[.int .i64 3, .int .i64 0, .string ⟨c.name.toArray⟩, .slice none 0 0, .slice (some ⟨w7.heap.size, 0, none⟩) 1 1] 44 (0, 0)) := by
     rw [← hW9]
     exact Qi (heap_setCell_same _ _ 4 _ _ _ HV7.out) _
    have hk9 : W9.heap[w7.heap.size]? = some (.cells #[.int .i64 v.kind, .int .i64 v.n, .string ⟨v.s.toArray⟩, .slice r3 v.names.length o3, .slice r4 v.kids.length o4] 44 (0, 0)) := by
     rw [← hW9]
     exact Z6 hzs _
    have hb9 : Below w.heap.size w W9 := (HWV.out.thn HB7.out).trans (hb79.mono (by omega))
    have hz9 : W9.heap[w.heap.size + 1 + 1]? = some (.cells zV 44 (0, 0)) := kE hb79 hlz (((HBV.out.thn HB7.out).block _ hlt).trans HZ1.out)
    have hx9 : Qh (fun b => V1.heap.size ≤ b ∧ b < w7.heap.size) W9 (vcs v r3 o3 r4 o4) v := (HX7.out.move (S' := fun b => V1.heap.size ≤ b ∧ b < w7.heap.size) (.refl _ _) (fun b hb h => ⟨h, hb⟩)).move (fun b hb hlb => by
     rw [← hW9, Below.heap_alloc _ _ _ (by rw [hzs]; exact hlb), Qg (show b ≠ wc.heap.size from by have h1 : V1.heap.size ≤ b := hb.1; omega)]) (fun _ _ h => h)
    obtain ⟨v0, v1, v2, v3, v4⟩ := row5 hv9
    obtain ⟨y0, y1, y2, y3, y4⟩ := row5 hz9
    obtain ⟨f0, f1, f2, f3, f4⟩ := frz5 hz9
    have HX9 := Qq hx9; have HK9 := Qq hk9; have HB9 := Qq hb9; have HZ9 := Qq hz9
    clear hW9 hv9 hk9 hb9 hz9 hx9 hb79 fv4 hbs hzs
    have hw7s : w.heap.size + 1 + 1 < w7.heap.size := by omega
    go_wp2_with fail
    show bodyPost _ _ _ _ _ (Zz W9 (w.heap.size + 1 + 1) (.int .i64 3) (.int .i64 0) (.string ⟨c.name.toArray⟩) (.slice none 0 0) (.slice (some ⟨w7.heap.size, 0, none⟩) 1 1))
    refine Q7 (v := .agg #[.int .i64 3, .int .i64 0, .string ⟨c.name.toArray⟩, .slice none 0 0, .slice (some ⟨w7.heap.size, 0, none⟩) 1 1]) (by simp [results, results71, go_sem, Qm HZ9.out]) rfl (Db (kids := [v]) HGc.out.2 (by simp) (fun x h => by simp only [List.mem_cons, List.not_mem_nil, or_false] at h; subst h; exact HG7.out) hcn ?_ (Qn HB9.out (by omega)))
    exact Z4 (xs := [v]) ((Qt (by omega)).trans HK9.out) (by show w.heap.size ≤ w7.heap.size; omega) (Cs.one (r := Ql) ((HX9.out.move (fun b hb _ => Qt (by have := hb.1; omega)) (fun b _ h => by show w.heap.size ≤ b; have := h.1; omega)))) rfl rfl (by simp)
  have hq : (u.name == nm) = false := by rw [← Bool.not_eq_true, beq_iff_eq]; exact he
  clear he
  go_upto_region 12 with fail
  go_quiet (fail)
  go_wp2_with fail
  go_roundw
  case measure => simp [intOf]; omega
  case rel => exact ⟨k + 1, by omega, by go_num, HBr.out.thn (Zy _ _)⟩
 have hq : ¬ (k : Int) < (m : Int) := by omega
 obtain ⟨y0, y1, y2, y3, y4⟩ := row5 HZr.out
 obtain ⟨f0, f1, f2, f3, f4⟩ := frz5 HZr.out
 go_wp2_with fail
 show bodyPost _ _ _ _ _ (Zz wr (w.heap.size + 1 + 1) (.int .i64 0) (.int .i64 0) (.string ⟨#[]⟩) (.slice none 0 0) (.slice none 0 0))
 exact Q7 (v := .agg zV) (by simp [results, results71, go_sem, Qm HZr.out]) rfl (Uy (s := []) (.int 0) (by simp) (Qn HWr.out (by omega)))
theorem Rp (S : Nat → Prop) (v : Value) (l : List Int) (w : World) (hs : Y4 S w v l) (hi : Vw l) (hk : Zo l 0 13 = 8) :
  Calls prog 35 #[v, .int .i64 0] w (V8 w (Gen.check 8)) := by
 have HP := Qq (fun W (hb : Below w.heap.size w W) => Zr S v l 0 13 W (hs.below hb) hi (by omega) (by omega))
 rw [hk] at HP
 obtain ⟨p, cap, rfl, _⟩ := hs.len
 clear hs hi hk
 go_enter func35, ntmps35
 go_upto_region 8 with fail
 generalize hW8 : (((((((w.alloc _).alloc _).alloc _).alloc _).alloc _).alloc _).alloc _).alloc _ = W8
 have hb8 := eqB hW8 (Zq (Zq (Zq (Zq (Zq (Zq (Zq (Qo w _) _) _) _) _) _) _) _)
 have hz8 : W8.heap.size = w.heap.size + 8 := by rw [← hW8]; simp
 have r8 := eqH (b := w.heap.size) hW8 (Qi (Qi (Qi (Qi (Qi (Qi (Qi (Z6 rfl _) _) _) _) _) _) _) _)
 have hS2 := ((((Zu.row (show W8.heap[w.heap.size + 1]? = some (.cells #[.int .i64 3, .string ⟨#[97]⟩, .int .i64 0, .string ⟨#[]⟩, .slice none 0 0, .slice none 0 0, .slice none 0 0, .int .i64 0, .int .i64 0] 35 (0, 0)) from by rw [← hW8]; exact Qi (Qi (Qi (Qi (Qi (Qi (Z6 (by simp) _) _) _) _) _) _) _)).app (Zu.row (show W8.heap[w.heap.size + 1 + 1]? = some (.cells #[.int .i64 3, .string ⟨#[98]⟩, .int .i64 0, .string ⟨#[]⟩, .slice none 0 0, .slice none 0 0, .slice none 0 0, .int .i64 0, .int .i64 0] 35 (0, 0)) from by rw [← hW8]; exact Qi (Qi (Qi (Qi (Qi (Z6 (by simp) _) _) _) _) _) _))).app (Zu.row (show W8.heap[w.heap.size + 1 + 1 + 1 + 1 + 1 + 1]? = some (.cells #[.int .i64 0, .string ⟨#[]⟩, .int .i64 1, .string ⟨#[]⟩, .slice none 0 0, .slice none 0 0, .slice none 0 0, .int .i64 0, .int .i64 0] 35 (0, 0)) from by rw [← hW8]; exact Qi (Z6 (by simp) _) _))).app (Zu.row (show W8.heap[w.heap.size + 1 + 1 + 1 + 1]? = some (.cells zQ 35 (0, 0)) from by rw [← hW8]; exact Qi (Qi (Qi (Z6 (by simp) _) _) _) _)))
 have hG := (Xs (Xs (Xs (Y1 (show w.heap.size < w.heap.size + 1 by omega) (.int .i64 3) (.string ⟨#[97]⟩) (.int .i64 0) (.string ⟨#[]⟩) (.slice none 0 0) (.slice none 0 0) (.slice none 0 0) (.int .i64 0) (.int .i64 0)) (Y1 (show w.heap.size < w.heap.size + 1 + 1 by omega) (.int .i64 3) (.string ⟨#[98]⟩) (.int .i64 0) (.string ⟨#[]⟩) (.slice none 0 0) (.slice none 0 0) (.slice none 0 0) (.int .i64 0) (.int .i64 0))) (Y1 (show w.heap.size < w.heap.size + 1 + 1 + 1 + 1 + 1 + 1 by omega) (.int .i64 0) (.string ⟨#[]⟩) (.int .i64 1) (.string ⟨#[]⟩) (.slice none 0 0) (.slice none 0 0) (.slice none 0 0) (.int .i64 0) (.int .i64 0))) (Y1 (show w.heap.size < w.heap.size + 1 + 1 + 1 + 1 by omega) (.int .i64 3) (.string ⟨#[100]⟩) (.int .i64 0) (.string ⟨#[]⟩) (.slice none 0 0) (.slice none 0 0) (.slice none 0 0) (.int .i64 0) (.int .i64 0)))
 have HB8 := Qq hb8; have HR := Qq r8
 clear hW8 hb8 r8 hz8
 go_upto_region 26 with (go_at_call 26; refine (HP.out _ HB8.out).mono ?_; rintro e w' ⟨rfl, rfl⟩)
 refine let_mvar% ?Lq1 := fun w' : World => w'.cell? ⟨w.heap.size + 1, 0, none⟩ = some (.int .i64 3) ∧ w'.cell? ⟨w.heap.size + 1, 1, none⟩ = some (.string ⟨#[97]⟩) ∧ w'.cell? ⟨w.heap.size + 1, 2, none⟩ = some (.int .i64 0) ∧ w'.cell? ⟨w.heap.size + 1, 3, none⟩ = some (.string ⟨#[]⟩) ∧ w'.cell? ⟨w.heap.size + 1, 4, none⟩ = some (.slice none 0 0) ∧ w'.cell? ⟨w.heap.size + 1, 5, none⟩ = some (.slice none 0 0) ∧ w'.cell? ⟨w.heap.size + 1, 6, none⟩ = some (.slice none 0 0) ∧ w'.cell? ⟨w.heap.size + 1, 7, none⟩ = some (.int .i64 0) ∧ w'.cell? ⟨w.heap.size + 1, 8, none⟩ = some (.int .i64 0) ∧ w'.cell? ⟨w.heap.size + 1 + 1, 0, none⟩ = some (.int .i64 3) ∧ w'.cell? ⟨w.heap.size + 1 + 1, 1, none⟩ = some (.string ⟨#[98]⟩) ∧ w'.cell? ⟨w.heap.size + 1 + 1, 2, none⟩ = some (.int .i64 0) ∧ w'.cell? ⟨w.heap.size + 1 + 1, 3, none⟩ = some (.string ⟨#[]⟩) ∧ w'.cell? ⟨w.heap.size + 1 + 1, 4, none⟩ = some (.slice none 0 0) ∧ w'.cell? ⟨w.heap.size + 1 + 1, 5, none⟩ = some (.slice none 0 0) ∧ w'.cell? ⟨w.heap.size + 1 + 1, 6, none⟩ = some (.slice none 0 0) ∧ w'.cell? ⟨w.heap.size + 1 + 1, 7, none⟩ = some (.int .i64 0) ∧ w'.cell? ⟨w.heap.size + 1 + 1, 8, none⟩ = some (.int .i64 0) ∧ w'.cell? ⟨w.heap.size + 1 + 1 + 1 + 1 + 1 + 1, 0, none⟩ = some (.int .i64 0) ∧ w'.cell? ⟨w.heap.size + 1 + 1 + 1 + 1 + 1 + 1, 1, none⟩ = some (.string ⟨#[]⟩) ∧ w'.cell? ⟨w.heap.size + 1 + 1 + 1 + 1 + 1 + 1, 2, none⟩ = some (.int .i64 1) ∧ w'.cell? ⟨w.heap.size + 1 + 1 + 1 + 1 + 1 + 1, 3, none⟩ = some (.string ⟨#[]⟩) ∧ w'.cell? ⟨w.heap.size + 1 + 1 + 1 + 1 + 1 + 1, 4, none⟩ = some (.slice none 0 0) ∧ w'.cell? ⟨w.heap.size + 1 + 1 + 1 + 1 + 1 + 1, 5, none⟩ = some (.slice none 0 0) ∧ w'.cell? ⟨w.heap.size + 1 + 1 + 1 + 1 + 1 + 1, 6, none⟩ = some (.slice none 0 0) ∧ w'.cell? ⟨w.heap.size + 1 + 1 + 1 + 1 + 1 + 1, 7, none⟩ = some (.int .i64 0) ∧ w'.cell? ⟨w.heap.size + 1 + 1 + 1 + 1 + 1 + 1, 8, none⟩ = some (.int .i64 0) ∧ w'.cell? ⟨w.heap.size + 1 + 1 + 1 + 1, 0, none⟩ = some (.int .i64 3) ∧ w'.cell? ⟨w.heap.size + 1 + 1 + 1 + 1, 1, none⟩ = some (.string ⟨#[100]⟩) ∧ w'.cell? ⟨w.heap.size + 1 + 1 + 1 + 1, 2, none⟩ = some (.int .i64 0) ∧ w'.cell? ⟨w.heap.size + 1 + 1 + 1 + 1, 3, none⟩ = some (.string ⟨#[]⟩) ∧ w'.cell? ⟨w.heap.size + 1 + 1 + 1 + 1, 4, none⟩ = some (.slice none 0 0) ∧ w'.cell? ⟨w.heap.size + 1 + 1 + 1 + 1, 5, none⟩ = some (.slice none 0 0) ∧ w'.cell? ⟨w.heap.size + 1 + 1 + 1 + 1, 6, none⟩ = some (.slice none 0 0) ∧ w'.cell? ⟨w.heap.size + 1 + 1 + 1 + 1, 7, none⟩ = some (.int .i64 0) ∧ w'.cell? ⟨w.heap.size + 1 + 1 + 1 + 1, 8, none⟩ = some (.int .i64 0); ?_
 have HS := Qq (fun w' (h : Zu (Vl (w.heap.size + 1) (.int .i64 3) (.string ⟨#[97]⟩) (.int .i64 0) (.string ⟨#[]⟩) (.slice none 0 0) (.slice none 0 0) (.slice none 0 0) (.int .i64 0) (.int .i64 0) ++ Vl (w.heap.size + 1 + 1) (.int .i64 3) (.string ⟨#[98]⟩) (.int .i64 0) (.string ⟨#[]⟩) (.slice none 0 0) (.slice none 0 0) (.slice none 0 0) (.int .i64 0) (.int .i64 0) ++ Vl (w.heap.size + 1 + 1 + 1 + 1 + 1 + 1) (.int .i64 0) (.string ⟨#[]⟩) (.int .i64 1) (.string ⟨#[]⟩) (.slice none 0 0) (.slice none 0 0) (.slice none 0 0) (.int .i64 0) (.int .i64 0) ++ Vl (w.heap.size + 1 + 1 + 1 + 1) (.int .i64 3) (.string ⟨#[100]⟩) (.int .i64 0) (.string ⟨#[]⟩) (.slice none 0 0) (.slice none 0 0) (.slice none 0 0) (.int .i64 0) (.int .i64 0)) w') => (show ?Lq1 w' from Zu.spread h))
 have HG := Qq hG
 have HPt := Qq (fun w' z0 z1 z2 z3 z4 z5 z6 z7 z8 (h : Zu _ w') => HS.out _ (h.put9 HG.out z0 z1 z2 z3 z4 z5 z6 z7 z8))
 unfold put9 at HPt
 have HBc := HB8
 clear hG
 have hTok1 := Qq True.intro; have hTok2 := Qq True.intro; have hTok3 := Qq True.intro; have hTokD := Qq True.intro; have hTokK := Qq True.intro; have hTokL := Qq True.intro
 go_region_held3 ?Lq1 (first | with_reducible exact HS.out _ hS2 | with_reducible exact HS.out _ hS2.drew | with_reducible exact HS.out _ (hS2.alloc _) | with_reducible exact HS.out _ (hS2.alloc _).drew | with_reducible exact HS.out _ ((hS2.alloc _).alloc _) | with_reducible exact HS.out _ ((hS2.alloc _).alloc _).drew | with_reducible exact HS.out _ (((hS2.alloc _).alloc _).alloc _) | with_reducible exact HPt.out _ _ _ _ _ _ _ _ _ _ hS2)
  (first
   | (have hn := HX3.out; clear hn; (repeat (first
      | (have hk := hTokD.out; clear hTokD hk; generalize hWD : World.alloc _ (Obj.cells zQ 35 _) = WD; have hbD := Xz hWD; have hkD := Vm hWD; have hlD := Jy hWD HR.out; have hS3 := hS2.later hbD; clear hS2; have hS2 := hS3; clear hS3; have HR0 := Qq (Zi hbD HR.out); clear HR; have HR := HR0; clear HR0; have HC0 := Qq (HBc.out.thn hbD); clear HBc; have HBc := HC0; clear HC0; (try (have h0 := Qq (Zi hbD HKK.out); clear HKK; have HKK := h0; clear h0)); (try (have h0 := Qq (HX1.out.move (.of_below hbD) (fun _ _ h => h)); clear HX1; have HX1 := h0; clear h0)); (try (have h0 := Qq (HX2.out.move (.of_below hbD) (fun _ _ h => h)); clear HX2; have HX2 := h0; clear h0)); (try (have h0 := Qq (HX3.out.move (.of_below hbD) (fun _ _ h => h)); clear HX3; have HX3 := h0; clear h0)); (try (have h0 := Qq (HXN.out.move (.of_below hbD) (fun _ _ h => h)); clear HXN; have HXN := h0; clear h0)); have HKD := Qq hkD; have HLD := Qq hlD; clear hWD hbD hkD hlD; have hN := (show Z5 (fun b => w.heap.size < b) WD [.int .i64 14, .string ⟨#[110, 111, 116]⟩, .int .i64 0, .string ⟨#[]⟩, .slice none 0 0, .slice none 0 0, .slice (some ⟨_, 0, none⟩) 1 1, .int .i64 0, .int .i64 0] (Gen.op [110, 111, 116] [Gen.d]) from (Zt (nm := [110, 111, 116]) (s := []) (by simp) (by simp) (Sl.nil _ _ _) (Sl.nil _ _ _) (Z4 (xs := [Gen.d]) HKD.out HLD.out (Cs.one (r := Yo) (Zx 3 [100] 0 [] (by simp) (by simp))) rfl rfl (by simp)))); have HXN := Qq hN; clear hN)
      | (have hn := HX3.out; clear hn; have hk := hTokK.out; clear hTokK hk; generalize hWK : World.alloc _ (Obj.cells #[.int .i64 ek1, .string es1, .int .i64 en1, .string et1, .slice e11 f11 g11, .slice e21 f21 g21, .slice e31 f31 g31, .int .i64 ea1, .int .i64 ez1, .int .i64 ek3, .string es3, .int .i64 en3, .string et3, .slice e13 f13 g13, .slice e23 f23 g23, .slice e33 f33 g33, .int .i64 ea3, .int .i64 ez3] 35 _) = WK; have hbK := Xz hWK; have hkK := Vm hWK; have hlK := Jy hWK HR.out; have hS3 := hS2.later hbK; clear hS2; have hS2 := hS3; clear hS3; have HR0 := Qq (Zi hbK HR.out); clear HR; have HR := HR0; clear HR0; have HC0 := Qq (HBc.out.thn hbK); clear HBc; have HBc := HC0; clear HC0; (try (have h0 := Qq (Zi hbK HKD.out); clear HKD; have HKD := h0; clear h0)); (try (have h0 := Qq (HX1.out.move (.of_below hbK) (fun _ _ h => h)); clear HX1; have HX1 := h0; clear h0)); (try (have h0 := Qq (HX2.out.move (.of_below hbK) (fun _ _ h => h)); clear HX2; have HX2 := h0; clear h0)); (try (have h0 := Qq (HX3.out.move (.of_below hbK) (fun _ _ h => h)); clear HX3; have HX3 := h0; clear h0)); (try (have h0 := Qq (HXN.out.move (.of_below hbK) (fun _ _ h => h)); clear HXN; have HXN := h0; clear h0)); have HKK := Qq hkK; have HLK := Qq hlK; clear hWK hbK hkK hlK)
      | fail)); have hn := HKK.out; clear hn; have hk := hTokL.out; clear hTokL hk; obtain ⟨⟨f0, f1, f2, f3, f4, f5, f6, f7, f8⟩, y0, y1, y2, y3, y4, y5, y6, y7, y8⟩ := Rc HR.out; go_simp)
   | (have hk := hTok1.out; go_at_call 70; (repeat (first
      | (have hk := hTokD.out; clear hTokD hk; generalize hWD : World.alloc _ (Obj.cells zQ 35 _) = WD; have hbD := Xz hWD; have hkD := Vm hWD; have hlD := Jy hWD HR.out; have hS3 := hS2.later hbD; clear hS2; have hS2 := hS3; clear hS3; have HR0 := Qq (Zi hbD HR.out); clear HR; have HR := HR0; clear HR0; have HC0 := Qq (HBc.out.thn hbD); clear HBc; have HBc := HC0; clear HC0; (try (have h0 := Qq (Zi hbD HKK.out); clear HKK; have HKK := h0; clear h0)); (try (have h0 := Qq (HX1.out.move (.of_below hbD) (fun _ _ h => h)); clear HX1; have HX1 := h0; clear h0)); (try (have h0 := Qq (HX2.out.move (.of_below hbD) (fun _ _ h => h)); clear HX2; have HX2 := h0; clear h0)); (try (have h0 := Qq (HX3.out.move (.of_below hbD) (fun _ _ h => h)); clear HX3; have HX3 := h0; clear h0)); (try (have h0 := Qq (HXN.out.move (.of_below hbD) (fun _ _ h => h)); clear HXN; have HXN := h0; clear h0)); have HKD := Qq hkD; have HLD := Qq hlD; clear hWD hbD hkD hlD; have hN := (show Z5 (fun b => w.heap.size < b) WD [.int .i64 14, .string ⟨#[110, 111, 116]⟩, .int .i64 0, .string ⟨#[]⟩, .slice none 0 0, .slice none 0 0, .slice (some ⟨_, 0, none⟩) 1 1, .int .i64 0, .int .i64 0] (Gen.op [110, 111, 116] [Gen.d]) from (Zt (nm := [110, 111, 116]) (s := []) (by simp) (by simp) (Sl.nil _ _ _) (Sl.nil _ _ _) (Z4 (xs := [Gen.d]) HKD.out HLD.out (Cs.one (r := Yo) (Zx 3 [100] 0 [] (by simp) (by simp))) rfl rfl (by simp)))); have HXN := Qq hN; clear hN)
      | fail)); refine (Xj w.heap.size [45] _ _ _ _ _ (by simp) (by exact (Zx 3 [97] 0 [] (by simp) (by simp))) (by exact (Zx 3 [98] 0 [] (by simp) (by simp))) (by exact Qf HR.out)).mono ?_; rintro e W1 ⟨ek1, es1, en1, et1, e11, f11, g11, e21, f21, g21, e31, f31, g31, ea1, ez1, rfl, hx1, hb1⟩; clear hTok1 hk; (try (have hb0 := X5 hb1; clear hb1; have hb1 := hb0; clear hb0)); have hS3 := hS2.later hb1; clear hS2; have hS2 := hS3; clear hS3; have HR0 := Qq (Zi hb1 HR.out); clear HR; have HR := HR0; clear HR0; have HC0 := Qq (HBc.out.thn hb1); clear HBc; have HBc := HC0; clear HC0; (try (have h0 := Qq (Zi hb1 HKD.out); clear HKD; have HKD := h0; clear h0)); (try (have h0 := Qq (Zi hb1 HKK.out); clear HKK; have HKK := h0; clear h0)); (try (have h0 := Qq (HX2.out.move (.of_below hb1) (fun _ _ h => h)); clear HX2; have HX2 := h0; clear h0)); (try (have h0 := Qq (HX3.out.move (.of_below hb1) (fun _ _ h => h)); clear HX3; have HX3 := h0; clear h0)); (try (have h0 := Qq (HXN.out.move (.of_below hb1) (fun _ _ h => h)); clear HXN; have HXN := h0; clear h0)); have HX1 := Qq hx1; clear hx1 hb1)
   | (have hn := HX1.out; clear hn; have hk := hTok2.out; go_at_call 70; (repeat (first
      | (have hk := hTokD.out; clear hTokD hk; generalize hWD : World.alloc _ (Obj.cells zQ 35 _) = WD; have hbD := Xz hWD; have hkD := Vm hWD; have hlD := Jy hWD HR.out; have hS3 := hS2.later hbD; clear hS2; have hS2 := hS3; clear hS3; have HR0 := Qq (Zi hbD HR.out); clear HR; have HR := HR0; clear HR0; have HC0 := Qq (HBc.out.thn hbD); clear HBc; have HBc := HC0; clear HC0; (try (have h0 := Qq (Zi hbD HKK.out); clear HKK; have HKK := h0; clear h0)); (try (have h0 := Qq (HX1.out.move (.of_below hbD) (fun _ _ h => h)); clear HX1; have HX1 := h0; clear h0)); (try (have h0 := Qq (HX2.out.move (.of_below hbD) (fun _ _ h => h)); clear HX2; have HX2 := h0; clear h0)); (try (have h0 := Qq (HX3.out.move (.of_below hbD) (fun _ _ h => h)); clear HX3; have HX3 := h0; clear h0)); (try (have h0 := Qq (HXN.out.move (.of_below hbD) (fun _ _ h => h)); clear HXN; have HXN := h0; clear h0)); have HKD := Qq hkD; have HLD := Qq hlD; clear hWD hbD hkD hlD; have hN := (show Z5 (fun b => w.heap.size < b) WD [.int .i64 14, .string ⟨#[110, 111, 116]⟩, .int .i64 0, .string ⟨#[]⟩, .slice none 0 0, .slice none 0 0, .slice (some ⟨_, 0, none⟩) 1 1, .int .i64 0, .int .i64 0] (Gen.op [110, 111, 116] [Gen.d]) from (Zt (nm := [110, 111, 116]) (s := []) (by simp) (by simp) (Sl.nil _ _ _) (Sl.nil _ _ _) (Z4 (xs := [Gen.d]) HKD.out HLD.out (Cs.one (r := Yo) (Zx 3 [100] 0 [] (by simp) (by simp))) rfl rfl (by simp)))); have HXN := Qq hN; clear hN)
      | fail)); refine (Xj w.heap.size [60] _ _ _ _ _ (by simp) (by exact (Zx 3 [97] 0 [] (by simp) (by simp))) (by exact (Zx 0 [] 1 [] (by simp) (by simp))) (by exact Qf HR.out)).mono ?_; rintro e W2 ⟨ek2, es2, en2, et2, e12, f12, g12, e22, f22, g22, e32, f32, g32, ea2, ez2, rfl, hx2, hb2⟩; clear hTok2 hk; (try (have hb0 := X5 hb2; clear hb2; have hb2 := hb0; clear hb0)); have hS3 := hS2.later hb2; clear hS2; have hS2 := hS3; clear hS3; have HR0 := Qq (Zi hb2 HR.out); clear HR; have HR := HR0; clear HR0; have HC0 := Qq (HBc.out.thn hb2); clear HBc; have HBc := HC0; clear HC0; (try (have h0 := Qq (Zi hb2 HKD.out); clear HKD; have HKD := h0; clear h0)); (try (have h0 := Qq (Zi hb2 HKK.out); clear HKK; have HKK := h0; clear h0)); (try (have h0 := Qq (HX1.out.move (.of_below hb2) (fun _ _ h => h)); clear HX1; have HX1 := h0; clear h0)); (try (have h0 := Qq (HX3.out.move (.of_below hb2) (fun _ _ h => h)); clear HX3; have HX3 := h0; clear h0)); (try (have h0 := Qq (HXN.out.move (.of_below hb2) (fun _ _ h => h)); clear HXN; have HXN := h0; clear h0)); have HX2 := Qq hx2; clear hx2 hb2)
   | (have hn := HX2.out; clear hn; have hk := hTok3.out; go_at_call 70; (repeat (first
      | (have hk := hTokD.out; clear hTokD hk; generalize hWD : World.alloc _ (Obj.cells zQ 35 _) = WD; have hbD := Xz hWD; have hkD := Vm hWD; have hlD := Jy hWD HR.out; have hS3 := hS2.later hbD; clear hS2; have hS2 := hS3; clear hS3; have HR0 := Qq (Zi hbD HR.out); clear HR; have HR := HR0; clear HR0; have HC0 := Qq (HBc.out.thn hbD); clear HBc; have HBc := HC0; clear HC0; (try (have h0 := Qq (Zi hbD HKK.out); clear HKK; have HKK := h0; clear h0)); (try (have h0 := Qq (HX1.out.move (.of_below hbD) (fun _ _ h => h)); clear HX1; have HX1 := h0; clear h0)); (try (have h0 := Qq (HX2.out.move (.of_below hbD) (fun _ _ h => h)); clear HX2; have HX2 := h0; clear h0)); (try (have h0 := Qq (HX3.out.move (.of_below hbD) (fun _ _ h => h)); clear HX3; have HX3 := h0; clear h0)); (try (have h0 := Qq (HXN.out.move (.of_below hbD) (fun _ _ h => h)); clear HXN; have HXN := h0; clear h0)); have HKD := Qq hkD; have HLD := Qq hlD; clear hWD hbD hkD hlD; have hN := (show Z5 (fun b => w.heap.size < b) WD [.int .i64 14, .string ⟨#[110, 111, 116]⟩, .int .i64 0, .string ⟨#[]⟩, .slice none 0 0, .slice none 0 0, .slice (some ⟨_, 0, none⟩) 1 1, .int .i64 0, .int .i64 0] (Gen.op [110, 111, 116] [Gen.d]) from (Zt (nm := [110, 111, 116]) (s := []) (by simp) (by simp) (Sl.nil _ _ _) (Sl.nil _ _ _) (Z4 (xs := [Gen.d]) HKD.out HLD.out (Cs.one (r := Yo) (Zx 3 [100] 0 [] (by simp) (by simp))) rfl rfl (by simp)))); have HXN := Qq hN; clear hN)
      | fail)); refine (Xj w.heap.size [97, 110, 100] _ _ _ _ _ (by simp) (by exact HX2.out) (by exact HXN.out) (by exact Qf HR.out)).mono ?_; rintro e W3 ⟨ek3, es3, en3, et3, e13, f13, g13, e23, f23, g23, e33, f33, g33, ea3, ez3, rfl, hx3, hb3⟩; clear hTok3 hk; (try (have hb0 := X5 hb3; clear hb3; have hb3 := hb0; clear hb0)); have hS3 := hS2.later hb3; clear hS2; have hS2 := hS3; clear hS3; have HR0 := Qq (Zi hb3 HR.out); clear HR; have HR := HR0; clear HR0; have HC0 := Qq (HBc.out.thn hb3); clear HBc; have HBc := HC0; clear HC0; (try (have h0 := Qq (Zi hb3 HKD.out); clear HKD; have HKD := h0; clear h0)); (try (have h0 := Qq (Zi hb3 HKK.out); clear HKK; have HKK := h0; clear h0)); (try (have h0 := Qq (HX1.out.move (.of_below hb3) (fun _ _ h => h)); clear HX1; have HX1 := h0; clear h0)); (try (have h0 := Qq (HX2.out.move (.of_below hb3) (fun _ _ h => h)); clear HX2; have HX2 := h0; clear h0)); (try (have h0 := Qq (HXN.out.move (.of_below hb3) (fun _ _ h => h)); clear HXN; have HXN := h0; clear h0)); have HX3 := Qq hx3; clear hx3 hb3)
   | fail)
 all_goals
  go_wp2_with fail
  show bodyPost _ _ _ _ _ (put9 _ w.heap.size (.int .i64 11) (.string ⟨#[97]⟩) (.int .i64 0) (.string ⟨#[]⟩) (.slice none 0 0) (.slice none 0 0) (.slice (some ⟨_, 0, none⟩) 2 2) (.int .i64 0) (.int .i64 0))
  exact Q7 (v := .agg #[.int .i64 11, .string ⟨#[97]⟩, .int .i64 0, .string ⟨#[]⟩, .slice none 0 0, .slice none 0 0, .slice (some ⟨_, 0, none⟩) 2 2, .int .i64 0, .int .i64 0]) (by simp [results, results35, go_sem, Y2 HR.out]) rfl (Vq (Zt (nm := [97]) (s := []) (by simp) (by simp) (Sl.nil _ _ _) (Sl.nil _ _ _) (Z4 (xs := [Gen.op [45] [Gen.a, Gen.b], Gen.op [97, 110, 100] [Gen.op [60] [Gen.a, Gen.one], Gen.op [110, 111, 116] [Gen.d]]]) HKK.out HLK.out ((Cs.one (r := Yo) HX1.out).app (Cs.one (r := Yo) HX3.out)) rfl rfl (by simp))) HBc.out rfl)
end Go.Proofs.YtppbaladeefnkaaGreatDoor

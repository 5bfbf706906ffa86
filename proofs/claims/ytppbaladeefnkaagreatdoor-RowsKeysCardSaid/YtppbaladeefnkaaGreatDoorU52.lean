/- RowsKeys returns true for every input, and each argument reads afterwards as it read before. Condition: when the call begins, the listed package variables hold what the program's own text lays there (tied to that text). -/
import Derived.Test.YtppbaladeefnkaaGreatDoorU51
import Derived.Test.YtppbaladeefnkaaGreatDoorU42
import Derived.Test.YtppbaladeefnkaaGreatDoorRows
import Derived.Test.YtppbaladeefnkaaGreatDoorCards
import Derived.Test.YtppbaladeefnkaaGreatDoorTie
set_option maxRecDepth 100000
set_option maxHeartbeats 400000000
namespace Go.Proofs.YtppbaladeefnkaaGreatDoor
open Go.RowKit Go.Shelf Go.Lib _root_.Go.Proofs.Tryz
def K9 (B : Nat) (w : World) (v : Value) (m : Nat) : Prop := ∃ ks css, ks.length = m ∧ Own H6 40 (fun _ => True) B w v ks css
theorem K9.grow {B : Nat} {w w' : World} {v : Value} {m : Nat} (h : K9 B w v m) (hb : Below w.heap.size w w') : K9 B w' v m := by
 obtain ⟨ks, css, h1, h2⟩ := h
 exact ⟨ks, css, h1, h2.below hb⟩
theorem tbl_key {s : Sc} (h : ∀ t ∈ s.tables, t.key.length ≤ 1000) (x : Bs) : ((Z0 s.tables x).getD Tbl.zero).key.length ≤ 1000 := by
 cases e : Z0 s.tables x with
 | none => exact Q8 _
 | some t => exact h t (List.mem_of_find?_eq_some e)
theorem H7 (HCk : Kf) (S1 S2 S3 : Nat → Prop) (lv nv mv : Value) (ls ns ms : List Int) (x : Int) (w : World) (hl0 : Y4 S1 w lv ls) (hn0 : Y4 S2 w nv ns) (hm0 : Y4 S3 w mv ms) (hi1 : Vw ls) (hi2 : Vw ns) (hi3 : Vw ms) (hkw : Xd w) (hx1 : -9223372036854775808 ≤ x) (hx2 : x ≤ 9223372036854775807) :
  Calls prog 3 #[lv, nv, mv, .int .i64 x] w fun e w' => e = .returned (.bool true) ∧ Below w.heap.size w w' := by
 obtain ⟨s, hsd⟩ := eX (Gen.schema (Zo ls 0 13).toNat (Zo ls 1 3 == 0) (decide (0 < Zo ls 2 3)) (Zo ls 3 2 == 0))
 have hG : O9 s := by rw [← hsd]; exact Ee _ _ _ _
 have hne : 0 < s.tables.length := by rw [← hsd]; simp [Gen.schema]
 have HSch := Qq ((L8 S1 lv ls (Zo ls 0 13).toNat _ _ _ w hl0 hi1 (fun W hW => Lc S1 lv ls W (hl0.below hW) hi1) rfl rfl rfl).mono (R' := fun e w' => ∃ up m1 uc tp m2 tc, e = .returned (.agg #[.slice up m1 uc, .slice tp m2 tc]) ∧ Yl (fun _ => True) w' [.slice up m1 uc, .slice tp m2 tc] s ∧ Below w.heap.size w w') (by
  rintro e w' ⟨cs, rfl, h1, h2⟩
  rw [hsd] at h1
  obtain ⟨uv, tv, rfl, hu, ht⟩ := h1
  obtain ⟨up, uc, rfl, _⟩ := hu.len
  obtain ⟨tp, tc, rfl, _⟩ := ht.len
  exact ⟨_, _, _, _, _, _, rfl, ⟨_, _, rfl, hu.mono (fun _ _ _ => trivial), ht.mono (fun _ _ _ => trivial)⟩, h2⟩))
 have HGen := Qq hG; have HNe := Qq hne; have HKw := Qq hkw; have HNs := Qq hn0; have HMs := Qq hm0; have HI2 := Qq hi2; have HI3 := Qq hi3
 have HKey := Qq (fun x => tbl_key (s := s) (fun t ht => (hG.ok t ht).key) x)
 obtain ⟨d, hd⟩ := eX (x.tdiv 7)
 have hd1 : -9223372036854775808 ≤ d ∧ d ≤ 9223372036854775807 := by
  rw [← hd]
  rcases Int.le_total 0 x with h | h
  ·rw [Int.tdiv_eq_ediv_of_nonneg h]; omega
  obtain ⟨y, hy⟩ : ∃ y, x = -y := ⟨-x, by omega⟩
  rw [hy, Int.neg_tdiv, Int.tdiv_eq_ediv_of_nonneg (by omega)]; omega
 have HB5' := Qq (fun W => Dj x 5 W hx1 hx2 (by omega) (by omega))
 have HB3' := Qq (fun W => Dj x 3 W hx1 hx2 (by omega) (by omega))
 have HBd' := Qq (fun W => Dj d 3 W hd1.1 hd1.2 (by omega) (by omega))
 obtain ⟨b5, hb5⟩ := eX (Gf x 5)
 obtain ⟨b3, hb3⟩ := eX (Gf x 3)
 obtain ⟨bd, hbd⟩ := eX (Gf d 3)
 rw [hb5] at HB5'; rw [hb3] at HB3'; rw [hbd] at HBd'
 obtain ⟨lp, lc, rfl, _⟩ := hl0.len
 obtain ⟨np, nc, rfl, _⟩ := hn0.len
 obtain ⟨mp, mc, rfl, _⟩ := hm0.len
 clear hsd hG hne hkw hn0 hm0 hl0 hi1 hi2 hi3 hb5 hb3 hbd
 obtain ⟨i0, j1, j2, j3, j4⟩ := Ze (P := prog) (t := 44) (z := .agg zV) (n := 5) (b := 80) (by kernel_rfl)
 have HJ := Qq j1; have HJ2 := Qq j2; have HJ3 := Qq j3; have HJ4 := Qq j4
 clear j1 j2 j3 j4
 obtain ⟨i9, j1, j2, j3, j4⟩ := Ze (P := prog) (t := 40) (z := .slice none 0 0) (n := 1) (b := 24) (by kernel_rfl)
 have HV := Qq j1; have HV2 := Qq j2; have HV3 := Qq j3; have HV4 := Qq j4
 clear j1 j2 j3 j4
 go_enter func3, ntmps3
 go_upto_region 2 with (go_at_call 7; refine HSch.out.mono ?_; rintro e w1 ⟨up, m1, uc, tp, m2, tc, rfl, hsc1, hb1⟩; have HSc1 := Qq hsc1; have HB1 := Qq hb1; clear hsc1 hb1)
 generalize hW2 : w1.alloc _ = W2
 have hb2 := eqB hW2 (Qo _ _)
 have hX2 := eqH (b := w1.heap.size) hW2 (Qw _ _)
 have HSc2 := Qq (HSc1.out.below hb2); have HB2 := Qq (HB1.out.thn hb2); have HX2 := Qq hX2
 obtain ⟨c0, c1⟩ := row2 hX2
 have hlt2 := Qf hX2
 clear hW2 hb2 hX2 HSc1
 have HDy := Qq (M2 HCk s HGen.out HNe.out _ S2 S3 _ (.slice np ns.length nc) (.slice mp ms.length mc) ns ms W2 HSc2.out (HNs.out.below HB2.out) (HMs.out.below HB2.out) HI2.out HI3.out)
 go_upto_region 3 with (go_at_call 8; refine HDy.out.mono ?_; rintro e w3 ⟨a, ap, ac, rfl, ha3, hal, hS3, hb3⟩; have HA3 := Qq ha3; have HAl := Qq hal; have HS3 := Qq hS3; have HB3 := Qq hb3; clear ha3 hal hS3 hb3)
 go_upto_region 5 with fail
 generalize hW4 : w3.alloc _ = W4
 have hb4 := eqB hW4 (Qo _ _)
 have hN4 := eqH (b := w3.heap.size) hW4 (Qw _ _)
 have hNm4 : Sl Qp (fun _ => True) W4 (.slice (some ⟨w3.heap.size, 0, none⟩) 4 4) [[116], [117], [118], [119]] := Z4 hN4 trivial ((Gd _ _ [116] [117] (by simp) (by simp)).app (Gd _ _ [118] [119] (by simp) (by simp))) rfl rfl (by simp)
 have HNm4 := Qq hNm4; have HB34 := Qq (HB3.out.thn hb4); have HS4 := Qq ((HS3.out.below hb4).mono (S' := fun _ => True) (fun _ _ _ => trivial))
 have HB4 := Qq (HB2.out.thn (HB3.out.thn hb4)); have HSc4 := Qq (HSc2.out.below (HB3.out.thn hb4)); have HX4 := Qq (kE (HB3.out.thn hb4) hlt2 HX2.out); have HKw4 := Qq (HKw.out.below (HB2.out.thn (HB3.out.thn hb4)))
 have hlt4 := Qf HX4.out
 clear hW4 hb4 hN4 hNm4 c0 c1 HDy HS3 hlt2
 obtain ⟨an, han⟩ := eX (a.length)
 rw [han] at HS4 ⊢
 clear han
 go_loopw [12, 13, 14, 15, 16, 17, 18, 19, 20, 21, 22, 23] (fun t12 _ _ _ _ _ _ _ _ _ _ _ wr => ∃ k : Nat, k ≤ 4 ∧ t12 = .int .i64 k ∧ Aside (Below W4.heap.size W4 wr)) (fun t12 _ _ _ _ _ _ _ _ _ _ _ _ => 4 - (intOf t12).toNat)
 case atStart => exact ⟨0, Q8 _, rfl, Qz _ _⟩
 obtain ⟨i, hi4, rfl, hBi⟩ := hrel
 have HBi := Qq (show Below W4.heap.size W4 wr from hBi)
 have HWi := Qq (HB4.out.thn hBi)
 clear hBi
 by_cases hi : i < 4
 ·have g1 : (i : Int) < 4 := by omega
  have g2 : (0 : Int) ≤ (i : Int) := by omega
  obtain ⟨nm, hnm⟩ : ∃ y, ([[116], [117], [118], [119]] : List Bs)[i]? = some y := ⟨_, Qx (by simpa using hi)⟩
  obtain ⟨nb, noff, hnp, hnc, hnml⟩ := HNm4.out.str hnm
  simp only [Option.some.injEq, Addr.mk.injEq, and_true] at hnp
  obtain ⟨hnb, hnoff⟩ := hnp
  rw [← hnb, ← hnoff, Nat.zero_add] at hnc
  have hXr := kE HBi.out hlt4 HX4.out
  have e1 := kC HBi.out hnc
  obtain ⟨c0, c1⟩ := row2 hXr
  have HNc := Qq hnc
  clear hnm hnb hnoff hnc hXr
  obtain ⟨T, hT⟩ := eX ((Z0 s.tables nm).getD Tbl.zero)
  obtain ⟨b, hb⟩ := eX ((Z0 s.tables nm).isSome)
  obtain ⟨rows, hrows⟩ := eX (Ye a nm)
  have hTk : T.key.length ≤ 1000 := by rw [← hT]; exact HKey.out nm
  have hrl : rows.length ≤ 8 := by
   rw [← hrows]
   unfold Ye
   cases e : Xe a nm with
   | none => simp
   | some j =>
    unfold Xe at e
    have hl := (List.findIdx?_eq_some_iff_getElem.1 e).1
    show (a.getD j ⟨[], []⟩).rows.length ≤ 8
    rw [List.getD_eq_getElem?_getD, Qx hl, Option.getD_some]
    exact (HA3.out _ (Qd hl)).2
  have HTab := Qq (fun W (hW : Below W4.heap.size W4 W) => Jp (fun b => b < W4.heap.size) s _ nm W ((show Yl (fun b => b < W4.heap.size) W4 [.slice up m1 uc, .slice tp m2 tc] s from by
   obtain ⟨uv, tv, h1, h2, h3⟩ := HSc4.out
   exact ⟨uv, tv, h1, h2.mono (fun b hb _ => hb), h3.mono (fun b hb _ => hb)⟩).below hW))
  unfold O3 at HTab
  rw [hT, hb] at HTab
  have HRo := Qq (fun W (hW : Below W4.heap.size W4 W) => Kt (fun b => b < W4.heap.size) (.slice ap an ac) a nm W ((HS4.out.mono (fun b hb _ => hb)).below hW))
  rw [hrows] at HRo
  have HTk := Qq hTk
  obtain ⟨nr, hnr⟩ := eX (rows.length)
  have hnr8 : nr ≤ 8 := by omega
  clear hT hb hrows hTk hrl
  unfold sv at HTab HRo
  go_upto_region 7 with fail
  refine let_mvar% ?Lq3 := fun w' : World => w'.cell? ⟨w1.heap.size, 0, none⟩ = some (.slice up m1 uc) ∧ w'.cell? ⟨w1.heap.size, 1, none⟩ = some (.slice tp m2 tc) ∧ w'.cell? ⟨w3.heap.size, i, none⟩ = some (.string ⟨nm.toArray⟩) ∧ Below wr.heap.size wr w'; ?_
  have HS : ∀ w', Below wr.heap.size wr w' → ?Lq3 w' := by
   intro w' h
   have hh : ∀ {b j : Nat} {u : Value}, wr.cell? ⟨b, j, none⟩ = some u → w'.cell? ⟨b, j, none⟩ = some u := fun hc => kC h hc
   exact ⟨hh c0, hh c1, hh e1, h⟩
  obtain ⟨HS0, HSr, HD', HSB', HA', HSq⟩ := Yn HS (fun w' h => h.2.2.2)
  have HP := fun w' x0 x1 x2 x3 x4 x5 x6 x7 x8 x9 x10 x11 x12 h => HSq.out (Yr w' wr.heap.size x0 x1 x2 x3 x4 x5 x6 x7 x8 x9 x10 x11 x12) (Yv (HSB'.out w' h) (Q9 _))
  unfold Yr at HP
  have HP' := Qq HP
  clear HS HP c0 c1 e1
  have HTc := Qq (fun W' (h' : Below wr.heap.size wr W') => (HTab.out W' (HBi.out.thn h')).mono (R' := fun e w2 => ∃ cp9 cc9 kp9 kc9 rp9 rc9 k9 s19 n9 s29 p19 n19 c19 p29 n29 c29 p39 n39 c39 a9 z9, e = .returned (.tuple #[.agg #[.string ⟨T.name.toArray⟩, .slice cp9 T.columns.length cc9, .slice kp9 T.key.length kc9, .slice rp9 T.refs.length rc9, .int .i64 k9, .string s19, .int .i64 n9, .string s29, .slice p19 n19 c19, .slice p29 n29 c29, .slice p39 n39 c39, .int .i64 a9, .int .i64 z9], .bool b]) ∧ Qs.R (fun b => b < W4.heap.size) w2 [.string ⟨T.name.toArray⟩, .slice cp9 T.columns.length cc9, .slice kp9 T.key.length kc9, .slice rp9 T.refs.length rc9, .int .i64 k9, .string s19, .int .i64 n9, .string s29, .slice p19 n19 c19, .slice p29 n29 c29, .slice p39 n39 c39, .int .i64 a9, .int .i64 z9] T ∧ Below W'.heap.size W' w2 ∧ Below wr.heap.size wr w2) (by
   rintro e w2 ⟨cs', rfl, g1, g2⟩
   obtain ⟨cp9, cc9, kp9, kc9, rp9, rc9, k9, s19, n9, s29, p19, n19, c19, p29, n29, c29, p39, n39, c39, a9, z9, hcs, _⟩ := Zk g1
   simp only [tcs] at hcs
   subst hcs
   exact ⟨cp9, cc9, kp9, kc9, rp9, rc9, k9, s19, n9, s29, p19, n19, c19, p29, n29, c29, p39, n39, c39, a9, z9, rfl, g1, g2, h'.thn g2⟩))
  clear HTab
  go_cut [13, 14] from 31 to 130 (fun t13 t14 wx => TabMid (fun b => b < W4.heap.size) wr T b t13 t14 wx)
  case first =>
   go_region_held3 ?Lq3 (first | with_reducible exact HS0.out | with_reducible exact hS2 | with_reducible exact HD'.out _ (HA'.out _ _ HSr.out) | with_reducible exact HA'.out _ _ hS2 | with_reducible exact HP'.out _ _ _ _ _ _ _ _ _ _ _ _ _ _ hS2)
    (first
     | (go_at_call 9; refine (HTc.out _ (HSB'.out _ (by assumption))).mono ?_; rintro e w2 ⟨cp9, cc9, kp9, kc9, rp9, rc9, k9, s19, n9, s29, p19, n19, c19, p29, n29, c29, p39, n39, c39, a9, z9, rfl, ht2, hb2, hq2⟩; have hS2 := HSq.out _ hq2; (try (have r2 : w2.heap[wr.heap.size]? = some (.cells zT 37 (0, 0)) := (hb2.block wr.heap.size (by simp)).trans (Qw wr _); have g0 := fA 0 r2; have y0 := Qk _ _ 0 _ _ _ r2; have g1 := fA 1 r2; have y1 := Qk _ _ 1 _ _ _ r2; have g2 := fA 2 r2; have y2 := Qk _ _ 2 _ _ _ r2; have g3 := fA 3 r2; have y3 := Qk _ _ 3 _ _ _ r2; have g4 := fA 4 r2; have y4 := Qk _ _ 4 _ _ _ r2; have g5 := fA 5 r2; have y5 := Qk _ _ 5 _ _ _ r2; have g6 := fA 6 r2; have y6 := Qk _ _ 6 _ _ _ r2; have g7 := fA 7 r2; have y7 := Qk _ _ 7 _ _ _ r2; have g8 := fA 8 r2; have y8 := Qk _ _ 8 _ _ _ r2; have g9 := fA 9 r2; have y9 := Qk _ _ 9 _ _ _ r2; have g10 := fA 10 r2; have y10 := Qk _ _ 10 _ _ _ r2; have g11 := fA 11 r2; have y11 := Qk _ _ 11 _ _ _ r2; have g12 := fA 12 r2; have y12 := Qk _ _ 12 _ _ _ r2; simp only [List.getElem?_toArray, List.getElem?_cons_zero, List.getElem?_cons_succ] at y0 y1 y2 y3 y4 y5 y6 y7 y8 y9 y10 y11 y12; have HR2 := Qq r2; clear r2)); have HT2 := Qq ht2; have HB2 := Qq hb2; clear ht2 hb2))
   all_goals
    go_wp2_with fail
    go_meet
    first
     | (have h9 := HR2.out; clear h9; exact ⟨wr.heap.size, cp9, cc9, kp9, kc9, rp9, rc9, k9, s19, n9, s29, p19, n19, c19, p29, n29, c29, p39, n39, c39, a9, z9, rfl, rfl, Jl HR2.out, Qs.frame HT2.out (fun b hb _ => Xc (by have hb' : b < W4.heap.size := hb; have := HBi.out.size; omega)), Yv (HSB'.out _ hS2) (Q9 _), Q9 _⟩)
     | exact ⟨w2.heap.size, cp9, cc9, kp9, kc9, rp9, rc9, k9, s19, n9, s29, p19, n19, c19, p29, n29, c29, p39, n39, c39, a9, z9, rfl, rfl, Qw _ _, Qs.frame HT2.out (.of_below (Qo _ _)), (HSB'.out _ hS2).thn (Qo _ _), (HSB'.out _ hS2).size⟩
  obtain ⟨G2, cp9, cc9, kp9, kc9, rp9, rc9, k9, s19, n9, s29, p19, n19, c19, p29, n29, c29, p39, n39, c39, a9, z9, rfl, rfl, hG2, hT2, hbc, hGl2⟩ := hcut
  obtain ⟨w7, rfl⟩ : ∃ w7, w7 = wc := ⟨_, rfl⟩
  have HG2 := Qq hG2; have HT2 := Qq hT2; have HB7 := Qq (HBi.out.thn hbc)
  have hG7 := Qf hG2
  clear hG2 hT2 hbc HTc
  clear HS0 HSr HD' HSB' HA' HP' HSq
  have e1 := kC HB7.out HNc.out
  go_upto_region 9 with (go_at_call 10; refine (HRo.out _ HB7.out).mono ?_; rintro e w' ⟨rp, rc, rfl, hrs, rfl⟩; have HRs := Qq hrs; clear hrs)
  rw [hnr] at HRs
  have HNr := Qq hnr
  clear e1 hnr HRo
  go_upto_region 10 with (first
    | (have hn := hT2.out; go_at_call 11; refine (HBd'.out _).mono ?_; rintro e w' ⟨rfl, rfl⟩)
    | (have hn := hT1.out; go_at_call 11; refine (HB3'.out _).mono ?_; rintro e w' ⟨rfl, rfl⟩; have hT2 := Qq True.intro)
    | (go_at_call 11; refine (HB5'.out _).mono ?_; rintro e w' ⟨rfl, rfl⟩; have hT1 := Qq True.intro))
  generalize hW_ : World.alloc (World.alloc (World.alloc w7 _) _) _ = W9
  have hbW9 := eqB hW_ (Zq (Zq (Qo w7 _) _) _)
  have hzW9 : W9.heap.size = w7.heap.size + 3 := by rw [← hW_]; simp
  have k1 := eqH (b := w7.heap.size) hW_ (Qi (Qi (Z6 rfl _) _) _)
  have k2 := eqH (b := w7.heap.size + 1) hW_ (Qi (Z6 (by simp) _) _)
  have k3 := eqH (b := w7.heap.size + 1 + 1) hW_ (Z6 (by simp) _)
  clear hW_
  have hks9 : K9 w7.heap.size W9 (.slice (some ⟨w7.heap.size + 1 + 1, 0, none⟩) 3 3) (3 + 0) := by
   refine ⟨[[], [Ys b5], [Ys b3, Ys bd]], _, rfl, Eb (r := H6) (n := 3) k3 (by omega) (((Cs.one (r := H6) (x := []) (c := [.slice none 0 0]) ⟨_, rfl, Sl.nil _ _ _⟩).app (Cs.one (r := H6) (x := [Ys b5]) (c := [.slice (some ⟨w7.heap.size, 0, none⟩) 1 1]) ⟨_, rfl, ?_⟩)).app (Cs.one (r := H6) (x := [Ys b3, Ys bd]) (c := [.slice (some ⟨w7.heap.size + 1, 0, none⟩) 2 2]) ⟨_, rfl, ?_⟩)) rfl rfl (by simp)⟩
   ·exact Z4 (r := Ql) k1 ⟨trivial, by omega⟩ (Cs.one (r := Ql) (Vg _ _ b5)) rfl rfl (by simp)
   exact Z4 (r := Ql) k2 ⟨trivial, by omega⟩ ((Cs.one (r := Ql) (Vg _ _ b3)).app (Cs.one (r := Ql) (Vg _ _ bd))) rfl rfl (by simp)
  have HKs9 := Qq hks9; have HB9 := Qq hbW9
  clear k1 k2 k3 hks9 hbW9 hzW9
  go_wp2_with fail
  go_loopw [16, 17, 18] (fun t16 t17 _ wr => ∃ (k : Nat) (p : Option Addr) (cap : Nat), k ≤ nr ∧ t16 = .slice p (3 + k) cap ∧ t17 = .int .i64 k ∧ Aside (K9 w7.heap.size wr (.slice p (3 + k) cap) (3 + k) ∧ Below w7.heap.size w7 wr)) (fun _ t17 _ _ => nr - (intOf t17).toNat)
  case atStart => exact ⟨0, _, _, Q8 _, rfl, rfl, ⟨HKs9.out, HB9.out⟩⟩
  obtain ⟨k, kp, kc, hk, rfl, rfl, hA⟩ := hrel
  have HKr := Qq hA.out.1; have HBr := Qq hA.out.2
  clear hA
  have HB4r := Qq (HB7.out.thn HBr.out)
  by_cases hlt : k < nr
  ·have q1 : (0 : Int) ≤ (k : Int) := by omega
   have q2 : (k : Int) < (nr : Int) := by omega
   obtain ⟨y, hy⟩ : ∃ y, rows[k]? = some y := ⟨_, Qx (by rw [HNr.out]; exact hlt)⟩
   obtain ⟨rb, roff, xp3, xk3, xp4, xk4, hrp, hrb, hvy, a0, a1, a2, a3, a4⟩ := (HRs.out.below HBr.out).val hy
   subst hrp
   have hG2r := kE HBr.out hG7 HG2.out
   obtain ⟨g0, g1, g2, g3, g4, g5, g6, g7, g8, g9, g10, g11, g12⟩ := row13 hG2r
   have HVy := Qq hvy; have HGr := Qq hG2r
   have HAs := Qq (fun W (h : Below wr.heap.size wr W) => (show W.cell? ⟨rb, roff + k * 5, none⟩ = some (.int .i64 y.kind) ∧ W.cell? ⟨rb, roff + k * 5 + 1, none⟩ = some (.int .i64 y.n) ∧ W.cell? ⟨rb, roff + k * 5 + 2, none⟩ = some (.string ⟨y.s.toArray⟩) ∧ W.cell? ⟨rb, roff + k * 5 + 3, none⟩ = some (.slice xp3 y.names.length xk3) ∧ W.cell? ⟨rb, roff + k * 5 + 4, none⟩ = some (.slice xp4 y.kids.length xk4) from ⟨kD h hrb a0, kD h hrb a1, kD h hrb a2, kD h hrb a3, kD h hrb a4⟩))
   clear hy hvy hG2r
   go_upto_region 13 with fail
   obtain ⟨kl, hkl⟩ := eX ((keyOf T.key y).getD [])
   have HKl := Qq hkl
   clear hkl
   have HKc := Qq (fun W' (hW : Below wr.heap.size wr W') => (Us (fun b => b < W4.heap.size) (fun b => b < W4.heap.size) T y [.string ⟨T.name.toArray⟩, .slice cp9 T.columns.length cc9, .slice kp9 T.key.length kc9, .slice rp9 T.refs.length rc9, .int .i64 k9, .string s19, .int .i64 n9, .string s29, .slice p19 n19 c19, .slice p29 n29 c29, .slice p39 n39 c39, .int .i64 a9, .int .i64 z9] [.int .i64 y.kind, .int .i64 y.n, .string ⟨y.s.toArray⟩, .slice xp3 y.names.length xk3, .slice xp4 y.kids.length xk4] W' (Qs.frame HT2.out (.of_below (HBr.out.thn hW))) (HVy.out.move (.of_below hW) (fun _ _ h => h)) HTk.out).mono (R' := fun e w2 => ∃ p c, e = .returned (.slice p kl.length c) ∧ Sl Ql (fun b => (fun b => b < W4.heap.size) b ∨ wr.heap.size ≤ b) w2 (.slice p kl.length c) kl ∧ Below wr.heap.size wr w2) (by
    rintro e w2 ⟨p, c, rfl, h3, h4⟩
    rw [HKl.out] at h3 ⊢
    have hsz := hW.size
    exact ⟨p, c, rfl, h3.mono (fun b _ h => h.imp id (fun h => by omega)), hW.thn h4⟩))
   go_cut [18] from 63 to 87 (fun t18 wx => KeyMid (fun b => b < W4.heap.size) wr kl t18 wx)
   case first =>
    go_region_with (go_at_call 12; refine (HKc.out _ (Qz _ _).drew).mono ?_; rintro e w2 ⟨p, c18, rfl, hk2, hb2⟩; have HK2 := Qq hk2; have HB2' := Qq hb2; clear hk2 hb2)
    all_goals
     go_wp2_with fail
     go_meet
     exact ⟨p, c18, rfl, HK2.out, HB2'.out⟩
   obtain ⟨p18, c18, rfl, hks, hbc⟩ := hcut
   obtain ⟨w8, rfl⟩ : ∃ w8, w8 = wc := ⟨_, rfl⟩
   obtain ⟨kn, hkn⟩ := eX (kl.length)
   rw [hkn] at hks ⊢
   have HKs := Qq hks; have HBc := Qq hbc; have HKn := Qq hkn
   have hG8 := kB hbc HGr.out
   clear g0 g1 g2 g3 g4 g5 g6 g7 g8 g9 g10 g11 g12 a0 a1 a2 a3 a4 hks hbc hkn HKc
   obtain ⟨a0, a1, a2, a3, a4⟩ := HAs.out w8 HBc.out
   obtain ⟨g0, g1, g2, g3, g4, g5, g6, g7, g8, g9, g10, g11, g12⟩ := row13 hG8
   clear hG8
   have HKw := Qq (fun W' (hW : Below w8.heap.size w8 W') => (Fx (fun b => b < W4.heap.size) (fun b => b < W4.heap.size) T y [.string ⟨T.name.toArray⟩, .slice cp9 T.columns.length cc9, .slice kp9 T.key.length kc9, .slice rp9 T.refs.length rc9, .int .i64 k9, .string s19, .int .i64 n9, .string s29, .slice p19 n19 c19, .slice p29 n29 c29, .slice p39 n39 c39, .int .i64 a9, .int .i64 z9] [.int .i64 y.kind, .int .i64 y.n, .string ⟨y.s.toArray⟩, .slice xp3 y.names.length xk3, .slice xp4 y.kids.length xk4] W' (Qs.frame HT2.out (.of_below (HBr.out.thn (HBc.out.thn hW)))) (HVy.out.move (.of_below (HBc.out.thn hW)) (fun _ _ h => h)) HTk.out).mono (R' := fun e w2 => ∃ p c, e = .returned (.slice p kn c) ∧ Sl Ql (fun _ => True) w2 (.slice p kn c) kl ∧ Below w8.heap.size w8 w2) (by
    rintro e w2 ⟨p, n', c, rfl, hn', h3, h4⟩
    rw [HKl.out] at hn' h3
    rw [HKn.out] at hn'
    subst hn'
    exact ⟨p, c, rfl, h3.mono (fun _ _ _ => trivial), hW.thn h4⟩))
   have HSame := Qq (fun W' p c (h : Sl Ql (fun _ => True) W' (.slice p kn c) kl) (hW : Below w8.heap.size w8 W') => (Km _ _ (.slice p kn c) (.slice p18 kn c18) kl kl W' h (HKs.out.below hW)).mono (R' := fun e w2 => e = .returned (.bool true) ∧ Below w8.heap.size w8 w2) (by
    rintro e w2 ⟨rfl, hg⟩
    rw [Lb eqv (fun x => by simp [eqv])]
    exact ⟨rfl, hW.thn hg.bl⟩))
   go_upto_region 14 with fail
   go_cut [83] from 63 to 87 (fun t83 wx => t83 = .bool false ∧ Below w8.heap.size w8 wx)
   case first =>
    go_region_with (first
     | (go_at_call 13; refine (HSame.out _ _ _ HK6.out HB6.out).mono ?_; rintro e w3' ⟨rfl, hb7⟩; have HBs := Qq hb7; clear hb7)
     | (go_at_call 14; refine (HKw.out _ (Qz _ _).drew).mono ?_; rintro e w2 ⟨p6, c6, rfl, hk6, hb6⟩; have HK6 := Qq hk6; have HB6 := Qq hb6; clear hk6 hb6))
    all_goals
     go_wp2_with fail
     go_meet
     exact ⟨rfl, HBs.out⟩
   obtain ⟨rfl, hbc2⟩ := hcut
   obtain ⟨w10, rfl⟩ : ∃ w10, w10 = wc := ⟨_, rfl⟩
   have HB10 := Qq (HBc.out.thn hbc2)
   obtain ⟨ks, css, hkl2, hO⟩ := HKr.out
   have HOk := Qq (hO.below HB10.out); have HLk := Qq hkl2
   have HRk := Qq (show H6.R (But (fun _ => True) (.slice kp (3 + k) kc)) w10 [.slice p18 kn c18] kl from ⟨_, rfl, (HKs.out.below hbc2).mono (fun b _ h => ⟨trivial, fun e => by
    obtain ⟨h1, h2⟩ := hO.row.lt b e.symm
    rcases h with h | h
    ·have h' : b < W4.heap.size := h
     have := HB7.out.size
     omega
    omega⟩)⟩)
   have hz10 : w7.heap.size ≤ w10.heap.size := (HBr.out.thn HB10.out).size
   clear hbc2 g0 g1 g2 g3 g4 g5 g6 g7 g8 g9 g10 g11 g12 a0 a1 a2 a3 a4 hkl2 hO HKw HSame
   go_wp2_with (at_builtin; refine Zm (r := H6) (by decide) rfl (.tmp 84) (.tmp 86) _ rfl 40 i9 (.slice none 0 0) 24 underlying45 HV.out HV2.out HV3.out HV4.out rfl (by omega) (fun _ => True) w7.heap.size w10 (.slice kp (3 + k) kc) ks css [.slice p18 kn c18] kl rfl HOk.out rfl HRk.out (by simp [Value.oneCell']) (3 + k) HLk.out (by omega) hz10 ?_; intro p11 c11 css11 w11 hO11 hL11; have HO11 := Qq hO11; have HL11 := Qq hL11; clear hO11 hL11)
   go_roundw
   case measure => simp [intOf]; omega
   case rel => exact ⟨k + 1, p11, c11, by omega, rfl, by go_num, ⟨_, css11, by rw [List.length_append, HLk.out]; rfl, HO11.out⟩, (HBr.out.thn HB10.out).trans HL11.out.below⟩
  have hkn : k = nr := by omega
  subst hkn
  have q2 : ¬ (k : Int) < (k : Int) := by omega
  obtain ⟨wz, rfl⟩ : ∃ wz, wz = wr := ⟨_, rfl⟩
  obtain ⟨ks, css, hkl, hO⟩ := HKr.out
  have hSk : Sl H6 (fun _ => True) wz (.slice kp (3 + k) kc) ks := by
   have := hO.sl (S' := fun _ => True) (by omega) (fun _ _ => trivial) (fun _ _ _ => trivial)
   exact this
  obtain ⟨m, hm⟩ := eX (3 + k)
  rw [hm] at hSk hkl ⊢
  have HSk := Qq hSk; have HLk := Qq hkl
  have hm9 : m ≤ 1000 := by omega
  clear hSk hkl hO hm HKr
  go_wp2_with fail
  go_loopw [19, 20, 21, 22, 23] (fun t19 _ _ _ _ wr => ∃ k : Nat, k ≤ m ∧ t19 = .int .i64 k ∧ Aside (Below wz.heap.size wz wr)) (fun t19 _ _ _ _ _ => m - (intOf t19).toNat)
  case atStart => exact ⟨0, Q8 _, rfl, Qz _ _⟩
  obtain ⟨q, hqm, rfl, hBz⟩ := hrel
  have HBz := Qq (show Below wz.heap.size wz wr from hBz)
  have HB4z := Qq (HB4r.out.thn HBz.out)
  clear hBz
  by_cases hlt2 : q < m
  ·have q1 : (0 : Int) ≤ (q : Int) := by omega
   have q3 : (q : Int) < (m : Int) := by omega
   obtain ⟨kl, hk⟩ : ∃ kl, ks[q]? = some kl := ⟨_, Qx (by rw [HLk.out]; exact hlt2)⟩
   obtain ⟨kb, koff, kcs, hkp, hkb, _, _, ⟨kv, hkcs, hkv⟩, hkc⟩ := (HSk.out.below HBz.out).elem hk
   subst hkp; subst hkcs
   obtain ⟨kp2, kc2, rfl, _⟩ := hkv.len
   obtain ⟨kn, hkn⟩ := eX (kl.length)
   have e2 := hkc 0 _ rfl
   rw [show H6.k = 1 from rfl, Nat.mul_one, Nat.add_zero] at e2
   rw [hkn] at hkv e2
   have HKv := Qq hkv; have HE2 := Qq e2
   obtain ⟨u, hu⟩ := eX ((Vx s a nm kl).getD Val.zero)
   obtain ⟨bk, hbk⟩ := eX ((Vx s a nm kl).isSome)
   have HU := Qq hu; have HBk := Qq hbk
   have hXr := kE HB4z.out hlt4 HX4.out
   have e1 := kC HB4z.out HNc.out
   obtain ⟨c0, c1⟩ := row2 hXr
   clear hk hkv hkc hkn hu hbk hXr
   go_upto_region 20 with fail
   refine let_mvar% ?Lq2 := fun w' : World => w'.cell? ⟨w1.heap.size, 0, none⟩ = some (.slice up m1 uc) ∧ w'.cell? ⟨w1.heap.size, 1, none⟩ = some (.slice tp m2 tc) ∧ w'.cell? ⟨w3.heap.size, i, none⟩ = some (.string ⟨nm.toArray⟩) ∧ w'.cell? ⟨kb, koff + q, none⟩ = some (.slice kp2 kn kc2) ∧ Below wr.heap.size wr w'; ?_
   have HS : ∀ w', Below wr.heap.size wr w' → ?Lq2 w' := by
    intro w' h
    have hh : ∀ {b j : Nat} {u : Value}, wr.cell? ⟨b, j, none⟩ = some u → w'.cell? ⟨b, j, none⟩ = some u := fun hc => kC h hc
    exact ⟨hh c0, hh c1, hh e1, hh e2, h⟩
   obtain ⟨HS0, HSr, HD', HSB', HA', HSq⟩ := Yn HS (fun w' h => h.2.2.2.2)
   have HP := fun w' x0 x1 x2 x3 x4 h => HSq.out (Zz w' wr.heap.size x0 x1 x2 x3 x4) (Qn (HSB'.out w' h) (Q9 _))
   unfold Zz at HP
   have HP' := Qq HP
   clear HS HP c0 c1 e1 e2
   have HLc := Qq (fun W' (h' : Below wr.heap.size wr W') => (Do (fun _ => True) (fun b => b < W4.heap.size) _ s [.slice up m1 uc, .slice tp m2 tc] (.slice ap an ac) a nm (.slice kp2 kn kc2) kl W' (HSc4.out.below (HB4z.out.thn h')) ((HS4.out.mono (fun b hb _ => hb)).below (HB4z.out.thn h')) (HKv.out.below ((Qz _ _).thn h')) (fun t ht => (HGen.out.ok t ht).key)).mono (R' := fun e w2 => ∃ u3 m3 u4 m4, e = .returned (.tuple #[.agg #[.int .i64 u.kind, .int .i64 u.n, .string ⟨u.s.toArray⟩, .slice u3 u.names.length m3, .slice u4 u.kids.length m4], .bool bk]) ∧ Qh (fun b => b < W4.heap.size) w2 (vcs u u3 m3 u4 m4) u ∧ Below W'.heap.size W' w2 ∧ Below wr.heap.size wr w2) (by
    rintro e w2 ⟨cs', rfl, h3, h4⟩
    rw [HU.out] at h3
    rw [HBk.out]
    obtain ⟨u3, m3, u4, m4, hcs, _⟩ := Qh.cells h3
    subst hcs
    exact ⟨u3, m3, u4, m4, rfl, h3, h4, h'.thn h4⟩))
   unfold sv vcs at HLc
   go_cut [20, 21] from 88 to 130 (fun t20 t21 wx => Hy (fun b => b < W4.heap.size) wr u bk t20 t21 wx)
   case first =>
    go_region_held3 ?Lq2 (first | with_reducible exact HS0.out | with_reducible exact hS2 | with_reducible exact HD'.out _ (HA'.out _ _ HSr.out) | with_reducible exact HA'.out _ _ hS2 | with_reducible exact HP'.out _ _ _ _ _ _ hS2)
     (first
      | (go_at_call 15; refine (HLc.out _ (HSB'.out _ (by assumption))).mono ?_; rintro e w2 ⟨u3, m3, u4, m4, rfl, hv2, hb2, hq2⟩; have hS2 := HSq.out _ hq2; (try (have r2 : w2.heap[wr.heap.size]? = some (.cells zV 44 (0, 0)) := (hb2.block wr.heap.size (by simp)).trans (Qw wr _); have g0 := fA 0 r2; have y0 := Qk _ _ 0 _ _ _ r2; have g1 := fA 1 r2; have y1 := Qk _ _ 1 _ _ _ r2; have g2 := fA 2 r2; have y2 := Qk _ _ 2 _ _ _ r2; have g3 := fA 3 r2; have y3 := Qk _ _ 3 _ _ _ r2; have g4 := fA 4 r2; have y4 := Qk _ _ 4 _ _ _ r2; simp only [List.getElem?_toArray, List.getElem?_cons_zero, List.getElem?_cons_succ] at y0 y1 y2 y3 y4; have HR2 := Qq r2; clear r2)); have HV2' := Qq hv2; have HB2' := Qq hb2; clear hv2 hb2))
    all_goals
     go_wp2_with fail
     go_meet
     first
      | (have h9 := HR2.out; clear h9; exact ⟨wr.heap.size, u3, m3, u4, m4, rfl, rfl, Y9 HR2.out, Qh.move HV2'.out (fun b hb _ => Qt (by have hb' : b < W4.heap.size := hb; have := HB4z.out.size; omega)) (fun _ _ h => h), Qn (HSB'.out _ hS2) (Q9 _), Q9 _⟩)
      | exact ⟨w2.heap.size, u3, m3, u4, m4, rfl, rfl, Qw _ _, Qh.move HV2'.out (.of_below (Qo _ _)) (fun _ _ h => h), (HSB'.out _ hS2).thn (Qo _ _), (HSB'.out _ hS2).size⟩
   obtain ⟨Ga, a3, b3', a4, b4', rfl, rfl, hGa, hva, hba, hGal⟩ := hcut
   obtain ⟨w20, rfl⟩ : ∃ w20, w20 = wc := ⟨_, rfl⟩
   have HGa := Qq hGa; have HVa := Qq hva; have HBa := Qq hba; have HB4a := Qq (HB4z.out.thn hba)
   have hXr := kE HB4a.out hlt4 HX4.out
   have e1 := kC HB4a.out HNc.out
   have e2 := kC hba HE2.out
   obtain ⟨c0, c1⟩ := row2 hXr
   clear hGa hva hba hXr HLc
   clear HS0 HSr HD' HSB' HA' HP' HSq
   go_upto_region 21 with fail
   refine let_mvar% ?Lq1 := fun w' : World => w'.cell? ⟨w1.heap.size, 0, none⟩ = some (.slice up m1 uc) ∧ w'.cell? ⟨w1.heap.size, 1, none⟩ = some (.slice tp m2 tc) ∧ w'.cell? ⟨w3.heap.size, i, none⟩ = some (.string ⟨nm.toArray⟩) ∧ w'.cell? ⟨kb, koff + q, none⟩ = some (.slice kp2 kn kc2) ∧ Below w20.heap.size w20 w'; ?_
   have HS : ∀ w', Below w20.heap.size w20 w' → ?Lq1 w' := by
    intro w' h
    have hh : ∀ {b j : Nat} {u : Value}, w20.cell? ⟨b, j, none⟩ = some u → w'.cell? ⟨b, j, none⟩ = some u := fun hc => kC h hc
    exact ⟨hh c0, hh c1, hh e1, hh e2, h⟩
   obtain ⟨HS0, HSr, HD', HSB', HA', HSq⟩ := Yn HS (fun w' h => h.2.2.2.2)
   have HP := fun w' x0 x1 x2 x3 x4 h => HSq.out (Zz w' w20.heap.size x0 x1 x2 x3 x4) (Qn (HSB'.out w' h) (Q9 _))
   unfold Zz at HP
   have HP' := Qq HP
   clear HS HP c0 c1 e1 e2
   have HLc := Qq (fun W' (h' : Below w20.heap.size w20 W') => (Dm (fun _ => True) (fun b => b < W4.heap.size) _ s [.slice up m1 uc, .slice tp m2 tc] (.slice ap an ac) a nm (.slice kp2 kn kc2) kl W' (HSc4.out.below (HB4a.out.thn h')) ((HS4.out.mono (fun b hb _ => hb)).below (HB4a.out.thn h')) (HKv.out.below (HBa.out.thn h')) (fun t ht => (HGen.out.ok t ht).key)).mono (R' := fun e w2 => ∃ u3 m3 u4 m4, e = .returned (.tuple #[.agg #[.int .i64 u.kind, .int .i64 u.n, .string ⟨u.s.toArray⟩, .slice u3 u.names.length m3, .slice u4 u.kids.length m4], .bool bk]) ∧ Qh (fun b => b < W4.heap.size) w2 (vcs u u3 m3 u4 m4) u ∧ Below W'.heap.size W' w2 ∧ Below w20.heap.size w20 w2) (by
    rintro e w2 ⟨cs', rfl, h3, h4⟩
    rw [HU.out] at h3
    rw [HBk.out]
    obtain ⟨u3, m3, u4, m4, hcs, _⟩ := Qh.cells h3
    subst hcs
    exact ⟨u3, m3, u4, m4, rfl, h3, h4, h'.thn h4⟩))
   unfold sv vcs at HLc
   go_cut [22, 23] from 88 to 130 (fun t22 t23 wx => Hy (fun b => b < W4.heap.size) w20 u bk t22 t23 wx)
   case first =>
    go_region_held3 ?Lq1 (first | with_reducible exact HS0.out | with_reducible exact hS2 | with_reducible exact HD'.out _ (HA'.out _ _ HSr.out) | with_reducible exact HA'.out _ _ hS2 | with_reducible exact HP'.out _ _ _ _ _ _ hS2)
     (first
      | (go_at_call 16; refine (HLc.out _ (HSB'.out _ (by assumption))).mono ?_; rintro e w2 ⟨u3, m3, u4, m4, rfl, hv2, hb2, hq2⟩; have hS2 := HSq.out _ hq2; (try (have r2 : w2.heap[w20.heap.size]? = some (.cells zV 44 (0, 0)) := (hb2.block w20.heap.size (by simp)).trans (Qw w20 _); have g0 := fA 0 r2; have y0 := Qk _ _ 0 _ _ _ r2; have g1 := fA 1 r2; have y1 := Qk _ _ 1 _ _ _ r2; have g2 := fA 2 r2; have y2 := Qk _ _ 2 _ _ _ r2; have g3 := fA 3 r2; have y3 := Qk _ _ 3 _ _ _ r2; have g4 := fA 4 r2; have y4 := Qk _ _ 4 _ _ _ r2; simp only [List.getElem?_toArray, List.getElem?_cons_zero, List.getElem?_cons_succ] at y0 y1 y2 y3 y4; have HR2 := Qq r2; clear r2)); have HV2' := Qq hv2; have HB2' := Qq hb2; clear hv2 hb2))
    all_goals
     go_wp2_with fail
     go_meet
     first
      | (have h9 := HR2.out; clear h9; exact ⟨w20.heap.size, u3, m3, u4, m4, rfl, rfl, Y9 HR2.out, Qh.move HV2'.out (fun b hb _ => Qt (by have hb' : b < W4.heap.size := hb; have := HB4a.out.size; omega)) (fun _ _ h => h), Qn (HSB'.out _ hS2) (Q9 _), Q9 _⟩)
      | exact ⟨w2.heap.size, u3, m3, u4, m4, rfl, rfl, Qw _ _, Qh.move HV2'.out (.of_below (Qo _ _)) (fun _ _ h => h), (HSB'.out _ hS2).thn (Qo _ _), (HSB'.out _ hS2).size⟩
   obtain ⟨Gb, x3, z3, x4, z4, rfl, rfl, hGb, hvb, hbb, hGbl⟩ := hcut
   obtain ⟨w21, rfl⟩ : ∃ w21, w21 = wc := ⟨_, rfl⟩
   have hGa := kB hbb HGa.out
   have hva := HVa.out.move (.of_below hbb) (fun _ _ h => h)
   obtain ⟨a0, a1, a2, a3, a4⟩ := row5 hGa
   obtain ⟨y0, y1, y2, y3, y4⟩ := row5 hGb
   have HCmp := Qq ((Kk _ _ u u _ _ w21 hva hvb).mono (R' := fun e w2 => e = .returned (.int .i64 0) ∧ Below w21.heap.size w21 w2) (by
    rintro e w2 ⟨rfl, hg⟩
    rw [Ol]
    exact ⟨rfl, hg.bl⟩))
   unfold vcs at HCmp
   have HBb := Qq (HBz.out.thn (HBa.out.thn hbb))
   clear hGa hGb hva hvb hbb HLc
   clear HS0 HSr HD' HSB' HA' HP' HSq
   have hbq : (bk != bk) = false := by simp
   go_wp2_with (go_at_call 17; refine HCmp.out.mono ?_; rintro e w22 ⟨rfl, hb22⟩; have HB22 := Qq hb22; clear hb22)
   go_roundw
   case measure => simp [intOf]; omega
   case rel => exact ⟨q + 1, by omega, by go_num, HBb.out.thn HB22.out⟩
  have hqe : q = m := by omega
  subst hqe
  have q3 : ¬ (q : Int) < (q : Int) := by omega
  go_wp2_with fail
  go_roundw
  case measure => simp [intOf]; omega
  case rel => exact ⟨i + 1, by omega, by go_num, HB4z.out⟩
 have hi5 : i = 4 := by omega
 subst hi5
 have g1 : ¬ ((4 : Nat) : Int) < 4 := by omega
 have HK24 := Qq (fun W b (hb : W.heap[b]? = some (.cells #[.string ⟨#[107]⟩] 9 (0, 0))) => (Fx (fun _ => True) (fun _ => True) ⟨[], [], [[107]], [], .mk 0 [] 0 [] [] [] [] 0 0⟩ Val.zero [.string ⟨#[]⟩, .slice none 0 0, .slice (some ⟨b, 0, none⟩) 1 1, .slice none 0 0, .int .i64 0, .string ⟨#[]⟩, .int .i64 0, .string ⟨#[]⟩, .slice none 0 0, .slice none 0 0, .slice none 0 0, .int .i64 0, .int .i64 0] [.int .i64 0, .int .i64 0, .string ⟨#[]⟩, .slice none 0 0, .slice none 0 0] W (by
  refine ⟨_, _, _, _, rfl, by simp, Sl.nil _ _ _, ?_, Sl.nil _ _ _, Zt (nm := []) (s := []) (by simp) (by simp) (Sl.nil _ _ _) (Sl.nil _ _ _) (Sl.nil _ _ _)⟩
  exact Z4 hb trivial (Uk [107] (by simp)) rfl rfl (by simp)) (Zl _ _) (by simp)).mono (R' := fun e w2 => ∃ p c, e = .returned (.slice p 0 c) ∧ Below W.heap.size W w2) (by
  rintro e w2 ⟨p, n', c, rfl, hn', _, h4⟩
  have h0 : n' = 0 := hn'
  subst h0
  exact ⟨p, c, rfl, h4⟩))
 have HLv := Qq (fun W (h : Below W4.heap.size W4 W) => Oh W (HKw4.out.below h))
 go_wp2_with (first
  | (go_at_call 18; refine (HLv.out _ (HBi.out.thn ((Qo _ _).thn HB24.out))).mono ?_; rintro e w25 ⟨rfl, hb25⟩; have HB25 := Qq hb25; clear hb25)
  | (go_at_call 14; refine (HK24.out _ _ (Qw _ _)).mono ?_; rintro e w24 ⟨p24, c24, rfl, hb24⟩; have HB24 := Qq hb24; clear hb24))
 go_ret
 exact ⟨rfl, HWi.out.thn ((Qo _ _).thn (HB24.out.thn HB25.out))⟩
open Go.ChangeShapes Go.WideShapes Go.ChangeAt Go.RowKit
open Go.ChangeMaps (open_string shut_string)
theorem own : ownKnob Tryz.prog.godebug = none := by kernel_rfl
theorem H8 : laidOutB Tryz.prog = true := by kernel_rfl
theorem Bx {P : Program} {w : World} {nm : String} {ls : List Bs} {g : Nat} {t e : TypeId} (h : Lib.VarReads P w nm (.agg (ls.map fun l => .lit (.string l))))
  (hg : P.globalNamed nm = some g) (ht : (P.globals[g]?).map (·.type) = some t) (hu : P.underlying t = some (.array ls.length e)) (he : P.underlying e = some .string) (hc : P.cellsOf e = 1) :
  w.rangeAt g 0 (svs ls) := by
 obtain ⟨g', t', cs, fuel, p, hg', ht', hv, hd⟩ := h
 obtain rfl := Qb (hg.symm.trans hg')
 obtain rfl := Qb (ht.symm.trans ht')
 intro j v hj
 rw [Nat.zero_add, World.var?_cell hg hv j]
 obtain ⟨l, hl, rfl⟩ : ∃ l, ls[j]? = some l ∧ v = sv l := by
  simp only [svs, List.getElem?_map, Option.map_eq_some_iff] at hj
  obtain ⟨l, h1, h2⟩ := hj
  exact ⟨l, h1, h2.symm⟩
 have hjl : j < ls.length := (Qj hl).1
 obtain ⟨f', d, q, hd1, hd2⟩ := Lib.array_elem hu hd j hjl
 rw [hc, Nat.mul_one] at hd2
 obtain ⟨s, hs, hx, _⟩ := DataW.trod_string he hd2
 simp only [List.getElem?_map, hl, Option.map_some, Option.some.injEq] at hd1
 simp only [Prod.mk.injEq] at hx
 obtain ⟨rfl, _⟩ := hx
 simp only [DataW.lit.injEq, Lit.string.injEq] at hd1
 subst hd1
 have h0 : ((cs.toList.drop j).take 1)[0]? = some (.string s) := by rw [hs]; rfl
 rw [List.getElem?_take_of_lt (by omega), List.getElem?_drop, Nat.add_zero, Array.getElem?_toList] at h0
 rw [h0]
 rfl
theorem gKws : Tryz.prog.globalNamed "schemalens/lexer.keywords" = some 5 := by kernel_rfl
theorem tKws : (Tryz.prog.globals[5]?).map (·.type) = some 250 := by kernel_rfl
set_option maxRecDepth 100000
theorem Mv {w : World} (h : laidMetH Tryz.prog Rows.rowsKeysRow.laid w) : Xd w := by
 rw [MakeChecks.laidMetH_plain _ _ _ (by kernel_rfl)] at h
 have h1 : Lib.VarReads Tryz.prog w "schemalens/lexer.keywords" Rows.laid_schemalens_lexer_keywords := Lib.laidMet.reads h (.tail _ (.tail _ (.tail _ (.tail _ (.tail _ (.tail _ (.head _)))))))
 exact Bx (ls := kws) h1 gKws tKws Tryz.underlying250 Tryz.underlying9 (by kernel_rfl)
theorem Uf {H : Type} {enc : TypeId × Value → H} {W : World} {base : Nat} {v : Value} {d : DataW H} {p : List MemPlace} (hv : Value.okWide Tryz.prog W .any base 22 v)
  (h : DataW.Trod enc Tryz.prog W 0 (fun _ => true) true 22 v d p) : ∃ zs, Y4 (fun _ => True) W v zs ∧ Vw zs := by
 obtain ⟨a, len, cap, rfl⟩ := okWide_slice Tryz.underlying22 hv
 obtain ⟨fuel, hf⟩ := h
 rcases open_ints Tryz.underlying22 Tryz.underlying3 (by kernel_rfl) hf with ⟨hcs, _⟩ | ⟨x, l, c, zs, hcs, _, hl, hm, hz, _, hcell, hwz⟩
 ·simp [Value.cells] at hcs
  obtain ⟨rfl, rfl, rfl⟩ := hcs
  exact ⟨[], ⟨none, 0, rfl, by simp, fun h => absurd rfl h⟩, fun z hz => by cases hz⟩
 simp [Value.cells] at hcs
 obtain ⟨rfl, rfl, rfl⟩ := hcs
 simp only [if_true] at hz
 have hlen : (zs.take len).length = len := by simp; omega
 refine ⟨zs.take len, ⟨_, cap, by rw [hlen], by rw [hlen]; unfold maxLen at hm; omega, fun hne => ?_⟩, fun z hzm => ?_⟩
 ·have hpos : 0 < len := by
   rw [← hlen]
   exact List.length_pos_iff.2 hne
  obtain ⟨b, off, spot⟩ := x
  have hspot : spot = none := by simpa [Addr.add] using World.cell?_spot (hcell 0 (by omega))
  subst hspot
  have hat : ∀ i z, (zs.take len)[i]? = some z → W.cell? ⟨b, off + i, none⟩ = some (.int .i64 z) := fun i z hi => by
   have hil : i < len := by have := (Qj hi).1; omega
   rw [List.getElem?_take_of_lt hil] at hi
   have := hcell i (by omega)
   rw [List.getD_eq_getElem?_getD, hi] at this
   rwa [show ((⟨b, off, none⟩ : Addr).add i) = ⟨b, off + i, none⟩ by unfold Addr.add; split <;> simp_all, Option.getD_some] at this
  obtain ⟨z0, hz0⟩ : ∃ z, (zs.take len)[0]? = some z := ⟨_, Qx (by rw [hlen]; exact hpos)⟩
  exact ⟨b, off, rfl, trivial, Qv _ _ (hat 0 z0 hz0), hat⟩
 have := hwz z (List.mem_of_mem_take hzm)
 simpa [Lit.wf, IntKind.min, IntKind.max, IntKind.signed, IntKind.bits] using this
theorem Of : Kf := fun S0 S1 s cs lv l w h1 h2 h3 h4 h5 h6 => Mz S0 S1 s cs lv l w h1 h2 h3 h4 h5 h6
theorem Dt (os : Os) (started : os.Started) (H : Type) (enc : TypeId × Value → H) :
  ReturnsInHanded {} Tryz.checked os 3 .any (fun w args => (Rows.rowsKeysSpec.pre enc Tryz.prog Tryz.f3 Rows.rowsKeysRow.domain false w args ∧ laidMetH Tryz.prog Rows.rowsKeysRow.laid w) ∧ sizedMet enc Tryz.prog Tryz.f3 (OpenSpec.ofChange Rows.rowsKeysSpec) false w args)
   (Rows.rowsKeysSpec.post enc Tryz.prog Tryz.f3 false true false false) := by
 refine returnsInHanded_of_change_and (C := Tryz.checked) (X := fun w _ => laidMetH Tryz.prog Rows.rowsKeysRow.laid w) (fun _ _ _ hh h => h.of_heap hh) own started (by kernel_rfl) Tryz.func3
  (ChangeSpec.witness_shaped (enc := enc) (C := Tryz.checked) (os := os) (X := fun w _ => laidMetH Tryz.prog Rows.rowsKeysRow.laid w) false (World.laidAll Tryz.prog os Rows.rowsKeysRow.laid) #[.slice none 0 0, .slice none 0 0, .slice none 0 0, .int .i64 0] 8 (World.laidAll_os _ _ _)
   (World.shaped_of_ZipB (by kernel_rfl) (by kernel_rfl)) (by kernel_rfl) (by kernel_rfl) (by kernel_rfl)
   (by rw [MakeChecks.laidMetH_plain _ _ _ (by kernel_rfl)]; exact laidMet_laidAll _ (by kernel_rfl) (by kernel_rfl))) ?_
 intro W base args ds gs before hval0 hW _ _ hL _
 have hval : ∀ (j : Nat) t v, Tryz.f3.params[j]? = some t → args[j]? = some v → Value.okWide Tryz.prog W .any base t v := hval0
 have hW' := hW
 obtain ⟨p, q, hA0, hV, rfl, _, _⟩ := hW
 have hA : DataW.TrodAll enc Tryz.prog W 0 (fun _ => true) true Tryz.f3.params.toList args.toList ds p := hA0
 rw [Tryz.params3] at hA hval
 obtain ⟨v0, vs0, d0, ds0, p0, q0, hargs, rfl, rfl, h0, r0⟩ := trodAll_cons hA
 obtain ⟨v1, vs1, d1, ds1, p1, q1, rfl, rfl, rfl, h1, r1⟩ := trodAll_cons r0
 obtain ⟨v2, vs2, d2, ds2, p2, q2, rfl, rfl, rfl, h2, r2⟩ := trodAll_cons r1
 obtain ⟨v3, vs3, d3, ds3, p3, q3, rfl, rfl, rfl, h3, r3⟩ := trodAll_cons r2
 obtain ⟨rfl, rfl, rfl⟩ := trodAll_nil r3
 obtain rfl : args = #[v0, v1, v2, v3] := by cases args; simp_all
 obtain ⟨rfl, rfl⟩ := trodVars_none hV
 have k0 := h0
 have lt0 : ∀ x ∈ p0, x.block < W.heap.size := by obtain ⟨m, hm⟩ := k0; exact DataW.trod_lt m _ _ _ hm
 obtain ⟨z0, hz0, hl0⟩ := Uf (hval 0 22 v0 rfl rfl) h0
 have k1 := h1
 have lt1 : ∀ x ∈ p1, x.block < W.heap.size := by obtain ⟨m, hm⟩ := k1; exact DataW.trod_lt m _ _ _ hm
 obtain ⟨z1, hz1, hl1⟩ := Uf (hval 1 22 v1 rfl rfl) h1
 have k2 := h2
 have lt2 : ∀ x ∈ p2, x.block < W.heap.size := by obtain ⟨m, hm⟩ := k2; exact DataW.trod_lt m _ _ _ hm
 obtain ⟨z2, hz2, hl2⟩ := Uf (hval 2 22 v2 rfl rfl) h2
 obtain ⟨a3, rfl, rfl, rfl, w3⟩ := open_int Tryz.underlying3 (hval 3 3 v3 rfl rfl) h3
 clear hA0 hval0
 have b3 : -9223372036854775808 ≤ a3 ∧ a3 ≤ 9223372036854775807 := by simpa [Lit.wf, IntKind.min, IntKind.max, IntKind.signed, IntKind.bits] using w3
 refine (H7 Of _ _ _ v0 v1 v2 z0 z1 z2 a3 W hz0 hz1 hz2 hl0 hl1 hl2 (Mv hL) b3.1 b3.2).mono fun e W' ⟨he, bel⟩ => ?_
 subst he
 exact ⟨_, rfl, _, _, _, [], _, [], hW', trodAll_mk1 (shut_bool Tryz.underlying4 _), (trodAll_cons_mk (Below.trod H8 (by kernel_rfl) (of_decide_eq_true (by kernel_rfl)) k0 bel lt0) (trodAll_cons_mk (Below.trod H8 (by kernel_rfl) (of_decide_eq_true (by kernel_rfl)) k1 bel lt1) (trodAll_cons_mk (Below.trod H8 (by kernel_rfl) (of_decide_eq_true (by kernel_rfl)) k2 bel lt2) (trodAll_cons_mk (shut_int Tryz.underlying3 w3) trodAll_mk0)))), rfl, bel.frame _, fun h => by cases h⟩
theorem Eg : Rows.RowsKeysSaid :=
 OpenClaim.holds_of_wide 3 Tryz.f3 rfl rfl rfl rfl rfl rfl rfl ⟨rfl, rfl, rfl, rfl, rfl⟩ rfl rfl rfl rfl rfl (by kernel_rfl) Tryz.func3 (by kernel_rfl)
  (of_decide_eq_true (by kernel_rfl)) (by unfold Func.isWrapper; first | (rw [if_pos (by decide +kernel)]; kernel_rfl) | (rw [if_neg (by decide +kernel)]; exact ⟨rfl, rfl⟩))
  (fun os started H enc _ => Dt os started H enc)
theorem rowsKeys_proved : Rows.RowsKeysCardSaid :=
 Claim7.holds_tied_plain_at .later [] [.data, .data, .data, .data, .sentinel, .sentinel, .widerDeep, .data, .pinned] true (true, "331b13e1f6b770af449e390ba836dd9aec1731ef3a39a80905472fcda2023072") true Eg (fun _ h => by cases h) (by kernel_rfl) (fun _ h => by cases h) rowsKeys_row_tie rfl ⟨rfl, rfl⟩ (by kernel_rfl) rfl
  (fun f fn hf hfn => by
   obtain rfl : f = 3 := Qb ((show Tryz.prog.funcNamed "schemalens/schemalenslaw17.RowsKeys" = some 3 by kernel_rfl).symm.trans hf) |>.symm
   obtain rfl : fn = Tryz.f3 := (Qb (Tryz.func3.symm.trans hfn)).symm
   exact ⟨by kernel_rfl, fun j t ht => by
    rw [Tryz.params3] at ht
    have hm : t ∈ [22, 22, 22, 3] := by simpa using Array.mem_of_getElem? ht
    have hall : ([22, 22, 22, 3].all fun u => !Tryz.prog.wantsStandIn u) = true := by kernel_rfl
    exact (show Tryz.prog.wantsStandIn t = false by simpa using List.all_eq_true.1 hall t hm)⟩)
  (by kernel_rfl)
end Go.Proofs.YtppbaladeefnkaaGreatDoor

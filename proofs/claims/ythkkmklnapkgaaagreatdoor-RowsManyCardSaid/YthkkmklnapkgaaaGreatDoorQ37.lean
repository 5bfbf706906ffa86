import Derived.Test.YthkkmklnapkgaaaGreatDoorQ33
import Derived.Test.YthkkmklnapkgaaaGreatDoorQ36
import Derived.RegionTactic
import Derived.OwnWalk
/- values.Sort and values.Distinct of values that are in increasing order already. -/
namespace Go.Proofs.YthkkmklnapkgaaaGreatDoor
open Go.RowKit Go.Shelf Go.Lib

set_option maxRecDepth 100000 in
set_option maxHeartbeats 4000000 in
theorem stableVal (S : Nat → Prop) (q : Option Addr) (cap : Nat) (xs : List Val) (w : World) (hV : Sl valRd S w (.slice q xs.length cap) xs) (ho : Srt cmpV xs) :
    Calls Tryz.prog 71 #[.slice q xs.length cap, .int .i64 xs.length, .func (.func 40) #[] #[]] w fun e w' => e = .returned (.tuple #[]) ∧ Gr w w' := by
  have hl : xs.length ≤ 1000000 := by obtain ⟨_, _, _, h⟩ := hV.len; exact h
  have HI := Lib.hid (fun a b w' h1 h2 (hg : Gr w w') => insVal S q cap xs w' (hV.below hg.bl) ho a b h1 h2)
  have HS := Lib.hid (fun a m b w' h1 h2 h3 (hg : Gr w w') => symVal S q cap xs ho (b - a) a m b w' (Nat.le_refl _) h1 h2 h3 (hV.below hg.bl))
  clear hV ho
  generalize xs.length = n at HI HS hl ⊢
  go_enter Tryz.func71, Tryz.ntmps71
  go_wp2_with fail
  go_loopw [7, 8] (fun a b wr => ∃ A B : Nat, a = .int .i64 A ∧ b = .int .i64 B ∧ Aside (B = A + 20) ∧ A ≤ n ∧ Gr w wr) (fun a _ _ => n - (intOf a).toNat)
  case atStart => exact ⟨0, 20, rfl, rfl, rfl, Nat.zero_le _, Gr.refl _⟩
  case round =>
    obtain ⟨A, B, rfl, rfl, hAB, hAn, hG⟩ := hrel
    have HAB := Lib.hid hAB.out; have HG := Lib.hid hG
    clear hAB hG
    have b0 : (A : Int) ≤ (n : Int) := by omega
    have b1 : (n : Int) ≤ 1000000 := by omega
    have b2 : (B : Int) ≤ 1000020 := by have := HAB.out; omega
    by_cases hlt : B ≤ n
    · have c1 : (B : Int) ≤ (n : Int) := by omega
      go_wp2_with (go_at_call 109; refine (HI.out _ _ _ (by have := HAB.out; omega) hlt HG.out).mono ?_; rintro e w' ⟨rfl, hw⟩)
      go_roundw
      case measure => have := HAB.out; simp [intOf]; omega
      case rel => exact ⟨B, B + 20, rfl, by go_num, rfl, hlt, HG.out.thn hw⟩
    · have c1 : ¬ (B : Int) ≤ (n : Int) := by omega
      go_wp2_with (go_at_call 109; refine (HI.out _ _ _ hAn (Nat.le_refl _) HG.out).mono ?_; rintro e w1 ⟨rfl, hw⟩)
      have HG1 := Lib.hid (HG.out.thn hw)
      clear hw
      go_loopw [6] (fun s wr => ∃ z : Nat, s = .int .i64 z ∧ 20 ≤ z ∧ z ≤ 2000000 ∧ Gr w wr) (fun s _ => n - (intOf s).toNat)
      case atStart => exact ⟨20, rfl, Nat.le_refl _, by omega, HG1.out⟩
      case round =>
        obtain ⟨z, rfl, hz1, hz2, hG⟩ := hrel
        generalize h6 : wr = w6 at *
        have HG2 := Lib.hid hG
        clear hG
        have d0 : (20 : Int) ≤ (z : Int) := by omega
        have d1 : (z : Int) ≤ 2000000 := by omega
        by_cases hzn : z < n
        · have d2 : (z : Int) < (n : Int) := by omega
          go_wp2_with fail
          go_loopw [7, 8] (fun a b wr => ∃ A B : Nat, a = .int .i64 A ∧ b = .int .i64 B ∧ Aside (B = A + 2 * z) ∧ A ≤ n ∧ Gr w wr) (fun a _ _ => n - (intOf a).toNat)
          case atStart => exact ⟨0, 2 * z, rfl, by go_num, by show _ = _; omega, Nat.zero_le _, HG2.out⟩
          case round =>
            obtain ⟨A2, B2, rfl, rfl, hAB2, hAn2, hG⟩ := hrel
            have HAB2 := Lib.hid hAB2.out; have HG3 := Lib.hid hG
            clear hAB2 hG
            have e0 : (A2 : Int) ≤ (n : Int) := by omega
            have e1 : (B2 : Int) ≤ 5000000 := by have := HAB2.out; omega
            obtain ⟨M, hM⟩ : ∃ M, M = A2 + z := ⟨_, rfl⟩
            have hMz : (A2 : Int) + (z : Int) = (M : Int) := by omega
            have HM := Lib.hid hM
            clear hM
            by_cases hlt2 : B2 ≤ n
            · have e2 : (B2 : Int) ≤ (n : Int) := by omega
              go_wp2_with (go_at_call 110; refine (HS.out _ _ _ _ (by have := HM.out; omega) (by have := HM.out; have := HAB2.out; omega) hlt2 HG3.out).mono ?_; rintro e w' ⟨rfl, hw⟩)
              go_roundw
              case measure => have := HAB2.out; simp [intOf]; omega
              case rel => exact ⟨B2, B2 + 2 * z, rfl, by go_num, rfl, hlt2, HG3.out.thn hw⟩
            · have e2 : ¬ (B2 : Int) ≤ (n : Int) := by omega
              by_cases hMn : M < n
              · have e3 : (M : Int) < (n : Int) := by omega
                go_wp2_with (go_at_call 110; refine (HS.out _ _ _ _ (by have := HM.out; omega) hMn (Nat.le_refl _) HG3.out).mono ?_; rintro e w' ⟨rfl, hw⟩)
                go_roundw
                case measure => simp [intOf]; omega
                case rel => exact ⟨z * 2, by go_num, by omega, by omega, HG3.out.thn hw⟩
              · have e3 : ¬ (M : Int) < (n : Int) := by omega
                go_wp2_with fail
                go_roundw
                case measure => simp [intOf]; omega
                case rel => exact ⟨z * 2, by go_num, by omega, by omega, HG3.out⟩
        · have d2 : ¬ (z : Int) < (n : Int) := by omega
          go_wp2_with fail
          go_end0
          exact ⟨rfl, HG2.out⟩

theorem sortStableVal (S : Nat → Prop) (q : Option Addr) (cap : Nat) (xs : List Val) (w : World) (hV : Sl valRd S w (.slice q xs.length cap) xs) (ho : Srt cmpV xs) :
    Calls Tryz.prog 39 #[.slice q xs.length cap, .func (.func 40) #[] #[]] w fun e w' => e = .returned (.tuple #[]) ∧ Gr w w' := by
  have HI := Lib.hid (stableVal S q cap xs w hV ho)
  clear hV ho
  generalize xs.length = n at HI ⊢
  go_enter Tryz.func39, Tryz.ntmps39
  go_wp2_with (go_at_call 71; refine HI.out.mono ?_; rintro e w' ⟨rfl, hw⟩)
  go_end0
  exact ⟨rfl, hw⟩

/-- A list of values in new memory. -/
def ValsIs (w : World) (xs : List Val) (e : Ending) (w' : World) : Prop := ∃ p cap, e = .returned (.slice p xs.length cap) ∧ Sl valRd (fun b => w.heap.size ≤ b) w' (.slice p xs.length cap) xs ∧ Below w.heap.size w w'

theorem field4 (a b c d e : Value) (w : World) : (Instr.field 34 (.agg #[a, b, c, d, e]) 4).run Tryz.prog w = .ok e w := by
  simp [Instr.field, go_sem, part, asAgg]

set_option maxRecDepth 100000 in
theorem sort_any (S : Nat → Prop) (v : Value) (xs : List Val) (w : World) (hV : Sl valRd S w v xs) (ho : Srt cmpV xs) :
    Calls Tryz.prog 15 #[v] w (ValsIs w xs) := by
  obtain ⟨p, cap, rfl, hl⟩ := hV.len
  have HC := Lib.hid (cloneAt (.mk 0 0 [] [] xs) S [.int .i64 0, .int .i64 0, .string ⟨#[]⟩, .slice none 0 0, .slice p xs.length cap] w (isVal_mk (s := []) (by simp) (Sl.nil _ _ _) hV))
  have HS := Lib.hid (fun q c W (h : Sl valRd (fun b => w.heap.size ≤ b) W (.slice q xs.length c) xs) => sortStableVal _ q c xs W h ho)
  clear hV ho
  generalize hn : xs.length = n at HC HS ⊢
  have HN := Lib.hid hn
  clear hn
  go_enter Tryz.func15, Tryz.ntmps15
  go_upto_region 1 with fail
  go_wp2_with fail
  refine HC.out.mono ?_
  rintro e w1 ⟨cs', rfl, hv1, hb1⟩
  obtain ⟨p3, k3, p4, k4, hcs, _, hk, _⟩ := IsVal.cells hv1
  simp only [vcs, Val.kind, Val.n, Val.s, Val.names, Val.kids] at hcs hk
  rw [HN.out] at hcs
  subst hcs
  have hk' : Sl valRd (fun b => w.heap.size ≤ b) w1 (.slice p4 n k4) xs := by rw [← HN.out]; exact hk
  have HK := Lib.hid hk'; have HB1 := Lib.hid hb1
  have hfd := fun W => field4 (.int .i64 0) (.int .i64 0) (.string ⟨#[]⟩) (.slice p3 0 k3) (.slice p4 n k4) W
  clear hv1 hk hk' hb1
  go_wp2_with (go_at_call 39; refine (HS.out p4 k4 _ HK.out).mono ?_; rintro e w2 ⟨rfl, hg⟩)
  go_ret
  exact ⟨p4, k4, by rw [HN.out]; rfl, by rw [HN.out]; exact HK.out.below hg.bl, HB1.out.thn hg.bl⟩

theorem distinct1_gr (S : Nat → Prop) (a b : Val) (ca cb : List Value) (w : World) (ha : IsVal S w ca a) (hb : IsVal S w cb b) :
    Calls Tryz.prog 36 #[.agg ca.toArray, .agg cb.toArray] w fun e w' => e = .returned (.bool (eqv a b)) ∧ Gr w w' := by
  rw [← eqv_beq]
  have HC := Lib.hid (fun W (h : Below w.heap.size w W) => cmp_any S a b ca cb W (ha.move (.of_below h) (fun _ _ h => h)) (hb.move (.of_below h) (fun _ _ h => h)))
  obtain ⟨p3, k3, p4, k4, hca, _⟩ := IsVal.cells ha
  obtain ⟨q3, l3, q4, l4, hcb, _⟩ := IsVal.cells hb
  simp only [vcs] at hca hcb
  subst hca; subst hcb
  clear ha hb
  generalize cmpV a b = c at HC ⊢
  go_enter Tryz.func36, Tryz.ntmps36
  go_wp2_with (go_at_call 37; refine (HC.out _ (bal2 _ _ _)).mono ?_; rintro e w' ⟨rfl, hw⟩; have HW := Lib.hid ((gal2 w _ _).thn hw); clear hw)
  go_ret
  exact ⟨rfl, HW.out⟩
theorem distG (W : World) (x y : Val) (cx cy : List Value) (S : Nat → Prop) (hx : IsVal S W cx x) (hy : IsVal S W cy y) : ∀ n os, Calls Tryz.prog 36 #[.agg cx.toArray, .agg cy.toArray] (Sort.grow (W.drewN n) os) fun e w' => e = .returned (.bool (eqv x y)) ∧ ∃ q os', w' = Sort.grow ((Sort.grow (W.drewN n) os).drewN q) os' :=
  fun n os => distinct1_gr _ x y cx cy _ (hx.move (.of_below (gr_grow W n os).bl) (fun _ _ h => h)) (hy.move (.of_below (gr_grow W n os).bl) (fun _ _ h => h))

set_option maxRecDepth 100000 in
set_option maxHeartbeats 2000000 in
theorem compactVal (S : Nat → Prop) (v : Value) (xs : List Val) (w : World) (hV0 : Sl valRd S w v xs) (ho : ∀ (j : Nat) (x y : Val), xs[j]? = some x → xs[j + 1]? = some y → eqv y x = false) :
    Calls Tryz.prog 35 #[v, .func (.func 36) #[] #[]] w fun e w' => e = .returned v ∧ Gr w w' := by
  obtain ⟨q, cap, rfl, hl⟩ := hV0.len
  have HV := Lib.hid hV0; have HO := Lib.hid ho
  clear hV0 ho
  obtain ⟨n, hn⟩ : ∃ n, xs.length = n := ⟨_, rfl⟩
  rw [hn] at HV hl ⊢
  have HN := Lib.hid hn
  clear hn
  have mixed : (Tryz.prog).follows .mixedOrders = true := by kernel_rfl
  by_cases h2 : n < 2
  · have b1 : (n : Int) < 2 := by omega
    clear h2
    go_enter Tryz.func35, Tryz.ntmps35
    go_wp2_with fail
    go_ret
    exact ⟨rfl, Gr.refl _⟩
  have b1 : ¬ (n : Int) < 2 := by omega
  go_enter Tryz.func35, Tryz.ntmps35
  go_wp2_with fail
  go_loopw [5] (fun i wr => ∃ k : Nat, 1 ≤ k ∧ k ≤ n ∧ i = .int .i64 k ∧ Gr w wr) (fun i _ => n - (intOf i).toNat)
  case atStart => exact ⟨1, Nat.le_refl _, by omega, rfl, Gr.refl _⟩
  case round =>
    obtain ⟨k, hk1, hkn, rfl, hG⟩ := hrel
    have HGr := Lib.hid hG
    clear hG
    by_cases hlt : k < n
    · obtain ⟨j, rfl⟩ : ∃ j, k = j + 1 := ⟨k - 1, by omega⟩
      obtain ⟨x, hx⟩ : ∃ x, xs[j]? = some x := ⟨_, List.getElem?_eq_getElem (by rw [HN.out]; omega)⟩
      obtain ⟨y, hy⟩ : ∃ y, xs[j + 1]? = some y := ⟨_, List.getElem?_eq_getElem (by rw [HN.out]; omega)⟩
      have hc0 := HO.out j x y hx hy
      obtain ⟨xb, xoff, p3, k3, p4, k4, rfl, hxb, hvx, d0, d1, d2, d3, d4⟩ := (HV.out.below HGr.out.bl).val hx
      obtain ⟨yb, yoff, q3, l3, q4, l4, he, hyb, hvy, e0, e1, e2, e3, e4⟩ := (HV.out.below HGr.out.bl).val hy
      obtain ⟨rfl, rfl, -⟩ : xb = yb ∧ xoff = yoff ∧ True := by simpa using he
      have hcg := distG wr y x _ _ _ hvy hvx
      rw [hc0] at hcg
      have D0 := cellG hxb d0; have D1 := cellG hxb d1; have D2 := cellG hxb d2; have D3 := cellG hxb d3; have D4 := cellG hxb d4
      have E0 := cellG hxb e0; have E1 := cellG hxb e1; have E2 := cellG hxb e2; have E3 := cellG hxb e3; have E4 := cellG hxb e4
      have hj1 : IntKind.i64.wrap (j : Int) = (j : Int) := by rw [IntKind.wrap_i64]; omega
      have hj2 : (j : Int) < (n : Int) := by omega
      have hj4 : (0 : Int) ≤ (j : Int) + 1 := by omega
      have hj5 : (j : Int) + 1 < (n : Int) := by omega
      have hj6 : (0 : Int) ≤ (j : Int) := by omega
      have hj7 : ((j : Int) + 1).toNat = j + 1 := by omega
      unfold vcs at hcg
      clear hx hy he hvx hvy hyb d0 d1 d2 d3 d4 e0 e1 e2 e3 e4 hc0
      go_wp2_with fail
      go_quiet_grown (first | (go_at_call 36; refine Calls.grown_of (hcg _ _)))
      go_wp2_with fail
      go_roundw
      case measure => simp [intOf]; omega
      case rel => exact ⟨j + 1 + 1, by omega, by omega, by go_num, HGr.out.thn (gr_grow _ _ _)⟩
    · have hkn' : ¬ (k : Int) < (n : Int) := by omega
      go_wp2_with fail
      go_ret
      exact ⟨rfl, HGr.out⟩

theorem srt_of_inc {xs : List Val} (h : incV xs = true) : Srt cmpV xs := by
  rw [incV_iff] at h
  have key : ∀ (d i : Nat) (x y : Val), xs[i]? = some x → xs[i + d + 1]? = some y → cmpV x y < 0 := by
    intro d
    induction d with
    | zero => intro i x y hx hy; exact h i x y hx hy
    | succ d ih =>
      intro i x y hx hy
      have hl := (List.getElem?_eq_some_iff.1 hy).1
      obtain ⟨z, hz⟩ : ∃ z, xs[i + d + 1]? = some z := ⟨_, List.getElem?_eq_getElem (by omega)⟩
      have h1 := ih i x z hx hz
      have h2 := h (i + d + 1) z y hz (by rw [show i + d + 1 + 1 = i + (d + 1) + 1 by omega]; exact hy)
      rw [cmpV_lex] at h1 h2 ⊢
      exact lex_trans h1 h2
  intro i j x y hij hx hy
  have := key (j - i - 1) i x y hx (by rw [show i + (j - i - 1) + 1 = j by omega]; exact hy)
  rw [cmpV_lex] at this ⊢
  rw [lex_anti]
  omega
theorem ne_of_inc {xs : List Val} (h : incV xs = true) (j : Nat) (x y : Val) (hx : xs[j]? = some x) (hy : xs[j + 1]? = some y) : eqv y x = false := by
  rw [incV_iff] at h
  have h1 := h j x y hx hy
  rw [← Bool.not_eq_true, eqv_iff]
  intro e
  have : cmpV x y = 0 := cmpV_zero.2 e.symm
  omega

theorem distinct_any (S : Nat → Prop) (v : Value) (xs : List Val) (w : World) (hV : Sl valRd S w v xs) (hi : incV xs = true) :
    Calls Tryz.prog 14 #[v] w (ValsIs w xs) := by
  obtain ⟨p, cap, rfl, _⟩ := hV.len
  have HS := Lib.hid (sort_any S _ xs w hV (srt_of_inc hi))
  have HC := Lib.hid (fun q c W (h : Sl valRd (fun b => w.heap.size ≤ b) W (.slice q xs.length c) xs) => compactVal _ _ xs W h (ne_of_inc hi))
  clear hV hi
  go_enter Tryz.func14, Tryz.ntmps14
  go_wp2_with fail
  refine HS.out.mono ?_
  rintro e w1 ⟨q, c, rfl, hq, hb1⟩
  have HQ := Lib.hid hq; have HB1 := Lib.hid hb1; have HC2 := Lib.hid (HC.out q c _ hq)
  clear hq hb1 HC HS
  go_wp2_with fail
  refine HC2.out.mono ?_
  rintro e w2 ⟨rfl, hg⟩
  go_wp2_with fail
  go_ret
  exact ⟨q, c, rfl, HQ.out.below hg.bl, HB1.out.thn hg.bl⟩
end Go.Proofs.YthkkmklnapkgaaaGreatDoor

/- append of a slice that is read, empty or not, to a row of the call's own, at a step of a region that draws its order; rows.Normal. -/
namespace Go.Proofs.YthkkmklnapkgaaaGreatDoor
open Go.RowKit Go.Shelf Go.Lib

section
variable {P : Program} {T : Type}
theorem run_nilcat {r : Rd T} (t ty E : TypeId) (i : TypeInfo) (ht : P.underlying t = some (.slice E)) (hi : P.info? E = some i) (S : Nat → Prop) (B : Nat) (w : World) (v : Value) (xs : List T) (css : List (List Value)) (hO : Own r E S B w v xs css) (c : Nat) :
    (Builtin.append_ #[t, t] ty #[v, .slice none 0 c]).run P w = .ok v w := by
  rcases hO.row.2 with ⟨rfl, _⟩ | ⟨g, cap, cur, rfl, _, _, hnc, _⟩
  · simp [Builtin.append_, run_underlying ht, sizeOf, typeInfo, hi, Builtin.lenOf, Builtin.firstCells]
  · simp [Builtin.append_, run_underlying ht, sizeOf, typeInfo, hi, Builtin.lenOf, Builtin.firstCells, hnc, storeCells]
theorem run_cat {r : Rd T} (hk : 0 < r.k) (t ty E : TypeId) (i : TypeInfo) (z : Value) (bytes : Nat) (ht : P.underlying t = some (.slice E)) (hi : P.info? E = some i) (hz : i.zero = some z) (hsize : i.size = r.k) (hby : i.bytes = bytes) (hzs : z.cells.size = r.k) (hb1 : bytes ≤ 1000)
    (S : Nat → Prop) (B : Nat) (w : World) (v : Value) (xs : List T) (css : List (List Value)) (ys : List T) (q : Option Addr) (m c : Nat) (hO : Own r E S B w v xs css) (hY : Sl r (But S v) w (.slice q m c) ys)
    (h1 : ∀ S w cs x, r.R S w cs x → ∀ u ∈ cs, u.oneCell' = true) (hl : xs.length + ys.length ≤ 1000000) (hB : B ≤ w.heap.size) :
    ∃ p cap css' w1, (Builtin.append_ #[t, t] ty #[v, .slice q m c]).run P w = .ok (.slice p (xs.length + ys.length) cap) w1 ∧ Own r E S B w1 (.slice p (xs.length + ys.length) cap) (xs ++ ys) css' ∧ w.grownBy w1 v.ownBlock ∧ ((Value.slice p (xs.length + ys.length) cap).ownBlock = v.ownBlock ∨ (Value.slice p (xs.length + ys.length) cap).ownBlock = some w.heap.size) := by
  obtain ⟨q', c', dss, hv, hD, hc⟩ := hY.css hk
  simp only [Value.slice.injEq] at hv
  obtain ⟨rfl, rfl, rfl⟩ := hv
  have main : ∀ ad : Addr, q = some ad → (∀ j u, dss.flatten[j]? = some u → w.cell? (ad.add j) = some u) → ∃ p cap css' w1, (Builtin.append_ #[t, t] ty #[v, .slice q ys.length c]).run P w = .ok (.slice p (xs.length + ys.length) cap) w1 ∧ Own r E S B w1 (.slice p (xs.length + ys.length) cap) (xs ++ ys) css' ∧ w.grownBy w1 v.ownBlock ∧ ((Value.slice p (xs.length + ys.length) cap).ownBlock = v.ownBlock ∨ (Value.slice p (xs.length + ys.length) cap).ownBlock = some w.heap.size) := by
    rintro ad rfl hcell
    obtain ⟨v1, w1, hrun, hown, hgrow, _, hat⟩ := run_append_own_at (P := P) w B t ty E i z r.k bytes ht hi hz hsize hby hzs hk v xs.length css.flatten hO.row ad ys.length c dss.flatten hD.flat hcell (fun u hu => by
      obtain ⟨cc, hcm, huc⟩ := List.mem_flatten.1 hu
      obtain ⟨i', hi'⟩ := List.getElem?_of_mem hcm
      have hil := (List.getElem?_eq_some_iff.1 hi').1
      exact h1 _ w cc _ (hD.R i' cc _ hi' (List.getElem?_eq_getElem (by rw [← hD.len]; exact hil))) u huc) (by unfold maxLen; omega) (by
      have := Nat.mul_le_mul (show xs.length + ys.length ≤ 1000000 by omega) hb1
      omega) hB
    have hO2 := hO.append hD (v' := v1) (w2 := w1) hown hgrow hat
    obtain ⟨p, cap, rfl⟩ := hO2.form
    rw [List.length_append] at hO2 hrun hat
    exact ⟨p, cap, _, w1, hrun, hO2, hgrow, hat⟩
  by_cases hne : ys = []
  · subst hne
    have hd0 : dss = [] := List.eq_nil_of_length_eq_zero hD.len
    subst hd0
    rcases q with _ | ad
    · obtain ⟨p, cap, rfl⟩ := hO.form
      exact ⟨p, cap, css, w, run_nilcat t ty E i ht hi S B w _ xs css hO c, by simpa using hO, World.grownBy.refl w _, .inl rfl⟩
    · exact main ad rfl (fun j u hu => by simp at hu)
  · obtain ⟨b, off, rfl, _, _, hcell⟩ := hc hne
    exact main _ rfl (fun j u hu => by
      rw [show (⟨b, off, none⟩ : Addr).add j = ⟨b, off + j, none⟩ by unfold Addr.add; split <;> simp_all]
      exact hcell j u hu)
theorem step_cat {r : Rd T} (hk : 0 < r.k) {ops : Array Oper} {o : Oper} {a : Act} {K : Act → World → Prop} {Q : Exit → Act → World → Prop} {X : Prop} (hgd : o.guard = none) (s x : Operand) (t : TypeId)
    (ho : o.op = .call { callee := .builtin .append, args := #[s, x], argTypes := #[t, t] }) (E : TypeId) (i : TypeInfo) (z : Value) (bytes : Nat) (ht : P.underlying t = some (.slice E)) (hi : P.info? E = some i) (hz : i.zero = some z)
    (hsize : i.size = r.k) (hby : i.bytes = bytes) (hzs : z.cells.size = r.k) (hb1 : bytes ≤ 1000) (S : Nat → Prop) (B : Nat) (w : World) (v : Value) (xs : List T) (css : List (List Value)) (ys : List T) (q : Option Addr) (m c : Nat) (hs : a.eval s = v)
    (hO : Own r E S B w v xs css) (hx : a.eval x = .slice q m c) (hY : Sl r (But S v) w (.slice q m c) ys) (h1 : ∀ S w cs x, r.R S w cs x → ∀ u ∈ cs, u.oneCell' = true) (hl : xs.length + ys.length ≤ 1000000) (hB : B ≤ w.heap.size)
    (h : ∀ p cap css' w1, Own r E S B w1 (.slice p (xs.length + ys.length) cap) (xs ++ ys) css' → w.grownBy w1 v.ownBlock → ((Value.slice p (xs.length + ys.length) cap).ownBlock = v.ownBlock ∨ (Value.slice p (xs.length + ys.length) cap).ownBlock = some w.heap.size) → K (a.put o.dst (.slice p (xs.length + ys.length) cap)) w1) :
    if Region.wanted o (yielded ops a.tmps) = true then Oper.wp P o a w K Q else X := by
  have hw : Region.wanted o (yielded ops a.tmps) = true := by simp [Region.wanted, hgd]
  rw [if_pos hw]
  obtain ⟨p, cap, css', w1, hrun, h2, h3, h4⟩ := run_cat (P := P) hk t o.type E i z bytes ht hi hz hsize hby hzs hb1 S B w v xs css ys q m c hO hY h1 hl hB
  unfold Oper.wp execOp
  simp only [ho, resolve, invoke, builtin, Sem.run_bind, Sem.run_pure, Result.andThen_ok, List.map_toArray, List.map_cons, List.map_nil, hs, hx, hrun]
  exact h p cap css' w1 h2 h3 h4
end
end Go.Proofs.YthkkmklnapkgaaaGreatDoor

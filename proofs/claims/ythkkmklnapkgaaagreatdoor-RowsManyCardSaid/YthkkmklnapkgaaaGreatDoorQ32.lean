import Derived.Test.YthkkmklnapkgaaaGreatDoorQ11
import Derived.Shelf.SlSortCmp.QuietGrown
/- The stable sort of values that are in order already: it only reads. -/
namespace Go.Proofs.YthkkmklnapkgaaaGreatDoor
open Go.RowKit Go.Shelf Go.Lib

/-- A cell of an old block in a grown world, for all draws and blocks. -/
theorem cellG {w : World} {b o : Nat} {v : Value} (hb : b < w.heap.size) (h : w.cell? ⟨b, o, none⟩ = some v) : ∀ n os, (Sort.grow (w.drewN n) os).cell? ⟨b, o, none⟩ = some v := fun n os => cell_grown hb h n os
theorem gr_grow (w : World) (n : Nat) (os : Array Obj) : Gr w (Sort.grow (w.drewN n) os) := ⟨n, os, rfl⟩

/-- The comparison that values.Sort hands over, at two elements of a row, in every world grown from w. -/
theorem sortG (W : World) (x y : Val) (cx cy : List Value) (S : Nat → Prop) (hx : IsVal S W cx x) (hy : IsVal S W cy y) : ∀ n os, Calls Tryz.prog 40 #[.agg cx.toArray, .agg cy.toArray] (Sort.grow (W.drewN n) os) fun e w' => e = .returned (.int .i64 (cmpV x y)) ∧ ∃ q os', w' = Sort.grow ((Sort.grow (W.drewN n) os).drewN q) os' :=
  fun n os => sort1_any _ x y cx cy _ (hx.move (.of_below (gr_grow W n os).bl) (fun _ _ h => h)) (hy.move (.of_below (gr_grow W n os).bl) (fun _ _ h => h))

set_option maxRecDepth 100000 in
set_option maxHeartbeats 2000000 in
theorem insVal (S : Nat → Prop) (q : Option Addr) (cap : Nat) (xs : List Val) (w : World) (hV0 : Sl valRd S w (.slice q xs.length cap) xs) (ho : Srt cmpV xs) (a b : Nat) (hab : a ≤ b) (hb : b ≤ xs.length) :
    Calls Tryz.prog 109 #[.slice q xs.length cap, .int .i64 a, .int .i64 b, .func (.func 40) #[] #[]] w fun e w' => e = .returned (.tuple #[]) ∧ Gr w w' := by
  have hl : xs.length ≤ 1000000 := by obtain ⟨_, _, _, h⟩ := hV0.len; exact h
  have HV := Lib.hid hV0; have HO := Lib.hid ho
  clear hV0 ho
  obtain ⟨n, hn⟩ : ∃ n, xs.length = n := ⟨_, rfl⟩
  rw [hn] at HV hl hb ⊢
  have HN := Lib.hid hn
  clear hn
  have eg := enters_of Tryz.func40 (by kernel_rfl) rfl
  have mixed : (Tryz.prog).follows .mixedOrders = true := by kernel_rfl
  go_enter Tryz.func109, Tryz.ntmps109
  go_wp2_with fail
  go_loopw [8] (fun i wr => ∃ k : Nat, a < k ∧ k ≤ b + 1 ∧ i = .int .i64 k ∧ Gr w wr) (fun i _ => b + 1 - (intOf i).toNat)
  case atStart => exact ⟨a + 1, by omega, by omega, by go_num, Gr.refl _⟩
  case round =>
    obtain ⟨k, hak, hkb, rfl, hG⟩ := hrel
    generalize h6 : wr = w6 at *
    have HG := Lib.hid hG
    clear hG
    by_cases hlt : k < b
    · have hi2 : (k : Int) < (b : Int) := by omega
      go_wp2_with fail
      go_loopw [9] (fun j wr => j = .int .i64 k ∧ Gr w wr) (fun _ _ => 0)
      case atStart => exact ⟨rfl, HG.out⟩
      case round =>
        obtain ⟨rfl, hG⟩ := hrel
        have HGr := Lib.hid hG
        clear hG
        obtain ⟨j, rfl⟩ : ∃ j, k = j + 1 := ⟨k - 1, by omega⟩
        obtain ⟨x, hx⟩ : ∃ x, xs[j]? = some x := ⟨_, List.getElem?_eq_getElem (by rw [HN.out]; omega)⟩
        obtain ⟨y, hy⟩ : ∃ y, xs[j + 1]? = some y := ⟨_, List.getElem?_eq_getElem (by rw [HN.out]; omega)⟩
        have hc0 := HO.out j (j + 1) x y (by omega) hx hy
        obtain ⟨xb, xoff, p3, k3, p4, k4, rfl, hxb, hvx, d0, d1, d2, d3, d4⟩ := (HV.out.below HGr.out.bl).val hx
        obtain ⟨yb, yoff, q3, l3, q4, l4, he, hyb, hvy, e0, e1, e2, e3, e4⟩ := (HV.out.below HGr.out.bl).val hy
        obtain ⟨rfl, rfl, -⟩ : xb = yb ∧ xoff = yoff ∧ True := by simpa using he
        have hcg := sortG wr y x _ _ _ hvy hvx
        have D0 := cellG hxb d0; have D1 := cellG hxb d1; have D2 := cellG hxb d2; have D3 := cellG hxb d3; have D4 := cellG hxb d4
        have E0 := cellG hxb e0; have E1 := cellG hxb e1; have E2 := cellG hxb e2; have E3 := cellG hxb e3; have E4 := cellG hxb e4
        have hj1 : IntKind.i64.wrap (j : Int) = (j : Int) := by rw [IntKind.wrap_i64]; omega
        have hj2 : (j : Int) < (n : Int) := by omega
        have hj3 : (a : Int) < (j : Int) + 1 := by omega
        have hj4 : (0 : Int) ≤ (j : Int) + 1 := by omega
        have hj5 : (j : Int) + 1 < (n : Int) := by omega
        have hj6 : (0 : Int) ≤ (j : Int) := by omega
        have hj7 : ((j : Int) + 1).toNat = j + 1 := by omega
        unfold vcs at hcg
        generalize hcc : cmpV y x = c at hcg hc0
        have hq : decide (c < 0) = false := by simpa using hc0
        clear hx hy he hvx hvy hyb d0 d1 d2 d3 d4 e0 e1 e2 e3 e4 hcc hc0 hi2
        go_wp2_with fail
        go_quiet_grown (first | (go_at_call 40; refine Calls.grown_of (hcg _ _)))
        go_wp2_with fail
        go_roundw
        case measure => simp [intOf]; omega
        case rel => exact ⟨j + 1 + 1, by omega, by omega, by go_num, HGr.out.thn (gr_grow _ _ _)⟩
    · have hi2 : ¬ (k : Int) < (b : Int) := by omega
      go_wp2_with fail
      go_end0
      exact ⟨rfl, HG.out⟩

set_option maxRecDepth 100000 in
set_option maxHeartbeats 8000000 in
theorem symVal (S : Nat → Prop) (q : Option Addr) (cap : Nat) (xs : List Val) (ho : Srt cmpV xs) : ∀ (d a m b : Nat) (w : World), b - a ≤ d → a < m → m < b → b ≤ xs.length → Sl valRd S w (.slice q xs.length cap) xs →
    Calls Tryz.prog 110 #[.slice q xs.length cap, .int .i64 a, .int .i64 m, .int .i64 b, .func (.func 40) #[] #[]] w fun e w' => e = .returned (.tuple #[]) ∧ Gr w w' := by
  intro d
  induction d with
  | zero => intro a m b w h1 h2 h3; omega
  | succ d ih =>
    intro a m b w hd ham hmb hb hV0
    have hl : xs.length ≤ 1000000 := by obtain ⟨_, _, _, h⟩ := hV0.len; exact h
    have HV := Lib.hid hV0; have HO := Lib.hid ho; have IH := Lib.hid (fun a m b w' h1 h2 h3 h4 (hg : Gr w w') => ih a m b w' h1 h2 h3 h4 (hV0.below hg.bl))
    clear hV0 ho ih
    obtain ⟨n, hn⟩ : ∃ n, xs.length = n := ⟨_, rfl⟩
    rw [hn] at HV hl hb IH ⊢
    have HN := Lib.hid hn
    clear hn
    have mixed : (Tryz.prog).follows .mixedOrders = true := by kernel_rfl
    have b1 : (a : Int) < (m : Int) := by omega
    have b2 : (m : Int) < (b : Int) := by omega
    have b3 : (b : Int) ≤ (n : Int) := by omega
    have b4 : (n : Int) ≤ 1000000 := by omega
    by_cases h1 : m = a + 1
    · have q1 : ((m : Int) - (a : Int) == 1) = true := by simp; omega
      have q3 : ((m : Int) - 1) = (a : Int) := by omega
      have q4 : ¬ (a : Int) < (a : Int) := by omega
      clear h1
      go_enter Tryz.func110, Tryz.ntmps110
      go_wp2_with fail
      go_loopw [10, 11] (fun i j wr => i = .int .i64 m ∧ ∃ k : Nat, m ≤ k ∧ k ≤ b ∧ j = .int .i64 k ∧ Gr w wr) (fun _ j _ => (intOf j).toNat - m)
      case atStart => exact ⟨rfl, b, by omega, Nat.le_refl _, rfl, Gr.refl _⟩
      case round =>
        obtain ⟨rfl, k, hmk, hkb, rfl, hG⟩ := hrel
        have HGr := Lib.hid hG
        clear hG
        by_cases hlt : m < k
        · have c1 : (m : Int) < (k : Int) := by omega
          have c2 : (k : Int) ≤ (b : Int) := by omega
          obtain ⟨h, hh0⟩ : ∃ h, h = (m + k) / 2 := ⟨_, rfl⟩
          have hh : ((m : Int) + (k : Int)) / 2 = (h : Int) := by omega
          have hmh : m ≤ h := by omega
          have hhk : h < k := by omega
          obtain ⟨y, hy⟩ : ∃ y, xs[a]? = some y := ⟨_, List.getElem?_eq_getElem (by rw [HN.out]; omega)⟩
          obtain ⟨x, hx⟩ : ∃ x, xs[h]? = some x := ⟨_, List.getElem?_eq_getElem (by rw [HN.out]; omega)⟩
          have hc0 := HO.out a h y x (by omega) hy hx
          have g1 : (0 : Int) ≤ (a : Int) := by omega
          have g2 : (a : Int) < (n : Int) := by omega
          have g3 : (0 : Int) ≤ (h : Int) := by omega
          have g4 : (h : Int) < (n : Int) := by omega
          clear hh0
          obtain ⟨xb, xoff, p3, k3, p4, k4, rfl, hxb, hvx, d0, d1, d2, d3, d4⟩ := (HV.out.below HGr.out.bl).val hx
          obtain ⟨yb, yoff, q3, l3, q4, l4, he, hyb, hvy, e0, e1, e2, e3, e4⟩ := (HV.out.below HGr.out.bl).val hy
          obtain ⟨rfl, rfl, -⟩ : xb = yb ∧ xoff = yoff ∧ True := by simpa using he
          have hcg := sortG wr x y _ _ _ hvx hvy
          have D0 := cellG hxb d0; have D1 := cellG hxb d1; have D2 := cellG hxb d2; have D3 := cellG hxb d3; have D4 := cellG hxb d4
          have E0 := cellG hxb e0; have E1 := cellG hxb e1; have E2 := cellG hxb e2; have E3 := cellG hxb e3; have E4 := cellG hxb e4
          unfold vcs at hcg
          generalize hcc : cmpV x y = c at hcg hc0
          have hq : decide (c < 0) = false := by simpa using hc0
          clear hx hy he hvx hvy hyb d0 d1 d2 d3 d4 e0 e1 e2 e3 e4 hcc hc0
          go_wp2_with fail
          go_quiet_grown (first | (go_at_call 40; refine Calls.grown_of (hcg _ _)))
          go_wp2_with fail
          go_roundw
          case measure => simp [intOf]; omega
          case rel => exact ⟨rfl, h, by omega, by omega, rfl, HGr.out.thn (gr_grow _ _ _)⟩
        · obtain rfl : k = m := by omega
          have c1 : ¬ (k : Int) < (k : Int) := by omega
          go_wp2_with fail
          go_loopw [13] (fun i wr => i = .int .i64 a ∧ Gr w wr) (fun _ _ => 0)
          case atStart => exact ⟨rfl, HGr.out⟩
          case round =>
            obtain ⟨rfl, hG⟩ := hrel
            have HG2 := Lib.hid hG
            clear hG
            go_wp2_with fail
            exact bodyPost_ret (results_none (by rfl) _ _ _) rfl ⟨rfl, HG2.out⟩
    have q1 : ((m : Int) - (a : Int) == 1) = false := by rw [← Bool.not_eq_true, beq_iff_eq]; omega
    by_cases h2 : b = m + 1
    · have q2 : ((b : Int) - (m : Int) == 1) = true := by simp; omega
      clear h2 h1
      go_enter Tryz.func110, Tryz.ntmps110
      go_wp2_with fail
      go_loopw [14, 15] (fun i j wr => j = .int .i64 m ∧ ∃ k : Nat, a ≤ k ∧ k ≤ m ∧ i = .int .i64 k ∧ Gr w wr) (fun i _ _ => m - (intOf i).toNat)
      case atStart => exact ⟨rfl, a, Nat.le_refl _, by omega, rfl, Gr.refl _⟩
      case round =>
        obtain ⟨rfl, k, hak, hkm, rfl, hG⟩ := hrel
        have HGr := Lib.hid hG
        clear hG
        by_cases hlt : k < m
        · have c1 : (k : Int) < (m : Int) := by omega
          obtain ⟨h, hh0⟩ : ∃ h, h = (k + m) / 2 := ⟨_, rfl⟩
          have hh : ((k : Int) + (m : Int)) / 2 = (h : Int) := by omega
          have hmh : k ≤ h := by omega
          have hhk : h < m := by omega
          obtain ⟨y, hy⟩ : ∃ y, xs[h]? = some y := ⟨_, List.getElem?_eq_getElem (by rw [HN.out]; omega)⟩
          obtain ⟨x, hx⟩ : ∃ x, xs[m]? = some x := ⟨_, List.getElem?_eq_getElem (by rw [HN.out]; omega)⟩
          have hc0 := HO.out h m y x (by omega) hy hx
          have g1 : (0 : Int) ≤ (h : Int) := by omega
          have g2 : (h : Int) < (n : Int) := by omega
          have g3 : (0 : Int) ≤ (m : Int) := by omega
          have g4 : (m : Int) < (n : Int) := by omega
          clear hh0
          obtain ⟨xb, xoff, p3, k3, p4, k4, rfl, hxb, hvx, d0, d1, d2, d3, d4⟩ := (HV.out.below HGr.out.bl).val hx
          obtain ⟨yb, yoff, q3, l3, q4, l4, he, hyb, hvy, e0, e1, e2, e3, e4⟩ := (HV.out.below HGr.out.bl).val hy
          obtain ⟨rfl, rfl, -⟩ : xb = yb ∧ xoff = yoff ∧ True := by simpa using he
          have hcg := sortG wr x y _ _ _ hvx hvy
          have D0 := cellG hxb d0; have D1 := cellG hxb d1; have D2 := cellG hxb d2; have D3 := cellG hxb d3; have D4 := cellG hxb d4
          have E0 := cellG hxb e0; have E1 := cellG hxb e1; have E2 := cellG hxb e2; have E3 := cellG hxb e3; have E4 := cellG hxb e4
          unfold vcs at hcg
          generalize hcc : cmpV x y = c at hcg hc0
          have hq : decide (c < 0) = false := by simpa using hc0
          clear hx hy he hvx hvy hyb d0 d1 d2 d3 d4 e0 e1 e2 e3 e4 hcc hc0
          go_wp2_with fail
          go_quiet_grown (first | (go_at_call 40; refine Calls.grown_of (hcg _ _)))
          go_wp2_with fail
          go_roundw
          case measure => simp [intOf]; omega
          case rel => exact ⟨rfl, h + 1, by omega, by omega, by go_num, HGr.out.thn (gr_grow _ _ _)⟩
        · obtain rfl : k = m := by omega
          have c1 : ¬ (k : Int) < (k : Int) := by omega
          go_wp2_with fail
          go_loopw [17] (fun i wr => i = .int .i64 k ∧ Gr w wr) (fun _ _ => 0)
          case atStart => exact ⟨rfl, HGr.out⟩
          case round =>
            obtain ⟨rfl, hG⟩ := hrel
            have HG2 := Lib.hid hG
            clear hG
            go_wp2_with fail
            exact bodyPost_ret (results_none (by rfl) _ _ _) rfl ⟨rfl, HG2.out⟩
    have q2 : ((b : Int) - (m : Int) == 1) = false := by rw [← Bool.not_eq_true, beq_iff_eq]; omega
    obtain ⟨mid, hmid⟩ : ∃ mid, mid = (a + b) / 2 := ⟨_, rfl⟩
    have hmid2 : ((a : Int) + (b : Int)) / 2 = (mid : Int) := by omega
    have m1 : a < mid := by omega
    have m2 : mid < b := by omega
    obtain ⟨pp, hpp⟩ : ∃ pp, pp = mid + m - 1 := ⟨_, rfl⟩
    have hpp2 : (mid : Int) + (m : Int) - 1 = (pp : Int) := by omega
    have b5 : (mid : Int) < (b : Int) := by omega
    have b6 : (0 : Int) ≤ (mid : Int) := by omega
    have b7 : (a : Int) < (mid : Int) := by omega
    have t2 : ¬ (m : Int) < (m : Int) := by omega
    have t3 : ¬ (mid : Int) < (mid : Int) := by omega
    by_cases h3 : mid < m
    · have t1 : (mid : Int) < (m : Int) := by omega
      obtain ⟨st, hst⟩ : ∃ st, st = mid + m - b := ⟨_, rfl⟩
      have hst2 : (mid : Int) + (m : Int) - (b : Int) = (st : Int) := by omega
      have f2 : st ≤ mid := by omega
      have F := Lib.hid (show ∀ c, st ≤ c → c < mid → c < pp - c ∧ pp - c < n ∧ c ≤ pp from fun c h1 h2 => by omega)
      have t4 : (mid : Int) + (m : Int) - (mid : Int) = (m : Int) := by omega
      have HR := Lib.hid (fun w' (hg : Gr w w') => IH.out mid m b w' (by omega) h3 hmb hb hg)
      clear hmid hpp hst IH h1 h2
      go_enter Tryz.func110, Tryz.ntmps110
      go_wp2_with fail
      go_loopw [20, 21] (fun s r wr => r = .int .i64 mid ∧ ∃ k : Nat, st ≤ k ∧ k ≤ mid ∧ s = .int .i64 k ∧ Gr w wr) (fun s _ _ => mid - (intOf s).toNat)
      case atStart => exact ⟨rfl, st, Nat.le_refl _, f2, rfl, Gr.refl _⟩
      case round =>
        obtain ⟨rfl, k, hsk, hkr, rfl, hG⟩ := hrel
        have HGr := Lib.hid hG
        clear hG
        by_cases hlt : k < mid
        · have c1 : (k : Int) < (mid : Int) := by omega
          obtain ⟨c, hc⟩ : ∃ c, c = (k + mid) / 2 := ⟨_, rfl⟩
          have hh : ((k : Int) + (mid : Int)) / 2 = (c : Int) := by omega
          obtain ⟨e, hee⟩ : ∃ e, e = pp - c := ⟨_, rfl⟩
          have hcr : c < mid := by omega
          have hkc : k ≤ c := by omega
          have hF := F.out c (by omega) hcr
          have hce : c < e ∧ e < n ∧ c ≤ pp := by omega
          have he2 : (pp : Int) - (c : Int) = (e : Int) := by omega
          have he3 : IntKind.i64.wrap (e : Int) = (e : Int) := by rw [IntKind.wrap_i64]; omega
          obtain ⟨y, hy⟩ : ∃ y, xs[c]? = some y := ⟨_, List.getElem?_eq_getElem (by rw [HN.out]; omega)⟩
          obtain ⟨x, hx⟩ : ∃ x, xs[e]? = some x := ⟨_, List.getElem?_eq_getElem (by rw [HN.out]; omega)⟩
          have hc0 := HO.out c e y x hce.1 hy hx
          have g1 : (0 : Int) ≤ (c : Int) := by omega
          have g2 : (c : Int) < (n : Int) := by omega
          have g3 : (0 : Int) ≤ (e : Int) := by omega
          have g4 : (e : Int) < (n : Int) := by omega
          clear hc hee hF hce
          obtain ⟨xb, xoff, p3, k3, p4, k4, rfl, hxb, hvx, d0, d1, d2, d3, d4⟩ := (HV.out.below HGr.out.bl).val hx
          obtain ⟨yb, yoff, q3, l3, q4, l4, he, hyb, hvy, e0, e1, e2, e3, e4⟩ := (HV.out.below HGr.out.bl).val hy
          obtain ⟨rfl, rfl, -⟩ : xb = yb ∧ xoff = yoff ∧ True := by simpa using he
          have hcg := sortG wr x y _ _ _ hvx hvy
          have D0 := cellG hxb d0; have D1 := cellG hxb d1; have D2 := cellG hxb d2; have D3 := cellG hxb d3; have D4 := cellG hxb d4
          have E0 := cellG hxb e0; have E1 := cellG hxb e1; have E2 := cellG hxb e2; have E3 := cellG hxb e3; have E4 := cellG hxb e4
          unfold vcs at hcg
          generalize hcc : cmpV x y = cr at hcg hc0
          have hq : decide (cr < 0) = false := by simpa using hc0
          clear hx hy he hvx hvy hyb d0 d1 d2 d3 d4 e0 e1 e2 e3 e4 hcc hc0
          go_wp2_with fail
          go_quiet_grown (first | (go_at_call 40; refine Calls.grown_of (hcg _ _)))
          go_wp2_with fail
          go_roundw
          case measure => simp [intOf]; omega
          case rel => exact ⟨rfl, c + 1, by omega, by omega, by go_num, HGr.out.thn (gr_grow _ _ _)⟩
        · obtain rfl : k = mid := by omega
          have c1 : ¬ (k : Int) < (k : Int) := by omega
          go_wp2_with (go_at_call 110; refine (HR.out _ HGr.out).mono ?_; rintro e w' ⟨rfl, hw⟩)
          go_end0
          exact ⟨rfl, HGr.out.thn hw⟩
    · have t1 : ¬ (mid : Int) < (m : Int) := by omega
      have f2 : a ≤ m := by omega
      have F := Lib.hid (show ∀ c, a ≤ c → c < m → c < pp - c ∧ pp - c < n ∧ c ≤ pp from fun c h1 h2 => by omega)
      have t4 : (mid : Int) + (m : Int) - (m : Int) = (mid : Int) := by omega
      by_cases h5 : m < mid
      · have t5 : (m : Int) < (mid : Int) := by omega
        have HR := Lib.hid (fun w' (hg : Gr w w') => IH.out a m mid w' (by omega) ham h5 (by omega) hg)
        clear hmid hpp IH h1 h2
        go_enter Tryz.func110, Tryz.ntmps110
        go_wp2_with fail
        go_loopw [20, 21] (fun s r wr => r = .int .i64 m ∧ ∃ k : Nat, a ≤ k ∧ k ≤ m ∧ s = .int .i64 k ∧ Gr w wr) (fun s _ _ => m - (intOf s).toNat)
        case atStart => exact ⟨rfl, a, Nat.le_refl _, f2, rfl, Gr.refl _⟩
        case round =>
          obtain ⟨rfl, k, hsk, hkr, rfl, hG⟩ := hrel
          have HGr := Lib.hid hG
          clear hG
          by_cases hlt : k < m
          · have c1 : (k : Int) < (m : Int) := by omega
            obtain ⟨c, hc⟩ : ∃ c, c = (k + m) / 2 := ⟨_, rfl⟩
            have hh : ((k : Int) + (m : Int)) / 2 = (c : Int) := by omega
            obtain ⟨e, hee⟩ : ∃ e, e = pp - c := ⟨_, rfl⟩
            have hcr : c < m := by omega
            have hkc : k ≤ c := by omega
            have hF := F.out c (by omega) hcr
            have hce : c < e ∧ e < n ∧ c ≤ pp := by omega
            have he2 : (pp : Int) - (c : Int) = (e : Int) := by omega
            have he3 : IntKind.i64.wrap (e : Int) = (e : Int) := by rw [IntKind.wrap_i64]; omega
            obtain ⟨y, hy⟩ : ∃ y, xs[c]? = some y := ⟨_, List.getElem?_eq_getElem (by rw [HN.out]; omega)⟩
            obtain ⟨x, hx⟩ : ∃ x, xs[e]? = some x := ⟨_, List.getElem?_eq_getElem (by rw [HN.out]; omega)⟩
            have hc0 := HO.out c e y x hce.1 hy hx
            have g1 : (0 : Int) ≤ (c : Int) := by omega
            have g2 : (c : Int) < (n : Int) := by omega
            have g3 : (0 : Int) ≤ (e : Int) := by omega
            have g4 : (e : Int) < (n : Int) := by omega
            clear hc hee hF hce
            obtain ⟨xb, xoff, p3, k3, p4, k4, rfl, hxb, hvx, d0, d1, d2, d3, d4⟩ := (HV.out.below HGr.out.bl).val hx
            obtain ⟨yb, yoff, q3, l3, q4, l4, he, hyb, hvy, e0, e1, e2, e3, e4⟩ := (HV.out.below HGr.out.bl).val hy
            obtain ⟨rfl, rfl, -⟩ : xb = yb ∧ xoff = yoff ∧ True := by simpa using he
            have hcg := sortG wr x y _ _ _ hvx hvy
            have D0 := cellG hxb d0; have D1 := cellG hxb d1; have D2 := cellG hxb d2; have D3 := cellG hxb d3; have D4 := cellG hxb d4
            have E0 := cellG hxb e0; have E1 := cellG hxb e1; have E2 := cellG hxb e2; have E3 := cellG hxb e3; have E4 := cellG hxb e4
            unfold vcs at hcg
            generalize hcc : cmpV x y = cr at hcg hc0
            have hq : decide (cr < 0) = false := by simpa using hc0
            clear hx hy he hvx hvy hyb d0 d1 d2 d3 d4 e0 e1 e2 e3 e4 hcc hc0
            go_wp2_with fail
            go_quiet_grown (first | (go_at_call 40; refine Calls.grown_of (hcg _ _)))
            go_wp2_with fail
            go_roundw
            case measure => simp [intOf]; omega
            case rel => exact ⟨rfl, c + 1, by omega, by omega, by go_num, HGr.out.thn (gr_grow _ _ _)⟩
          · obtain rfl : k = m := by omega
            have c1 : ¬ (k : Int) < (k : Int) := by omega
            go_wp2_with (go_at_call 110; refine (HR.out _ HGr.out).mono ?_; rintro e w' ⟨rfl, hw⟩)
            go_end0
            exact ⟨rfl, HGr.out.thn hw⟩
      · have t5 : ¬ (m : Int) < (mid : Int) := by omega
        clear hmid hpp IH h1 h2
        go_enter Tryz.func110, Tryz.ntmps110
        go_wp2_with fail
        go_loopw [20, 21] (fun s r wr => r = .int .i64 m ∧ ∃ k : Nat, a ≤ k ∧ k ≤ m ∧ s = .int .i64 k ∧ Gr w wr) (fun s _ _ => m - (intOf s).toNat)
        case atStart => exact ⟨rfl, a, Nat.le_refl _, f2, rfl, Gr.refl _⟩
        case round =>
          obtain ⟨rfl, k, hsk, hkr, rfl, hG⟩ := hrel
          have HGr := Lib.hid hG
          clear hG
          by_cases hlt : k < m
          · have c1 : (k : Int) < (m : Int) := by omega
            obtain ⟨c, hc⟩ : ∃ c, c = (k + m) / 2 := ⟨_, rfl⟩
            have hh : ((k : Int) + (m : Int)) / 2 = (c : Int) := by omega
            obtain ⟨e, hee⟩ : ∃ e, e = pp - c := ⟨_, rfl⟩
            have hcr : c < m := by omega
            have hkc : k ≤ c := by omega
            have hF := F.out c (by omega) hcr
            have hce : c < e ∧ e < n ∧ c ≤ pp := by omega
            have he2 : (pp : Int) - (c : Int) = (e : Int) := by omega
            have he3 : IntKind.i64.wrap (e : Int) = (e : Int) := by rw [IntKind.wrap_i64]; omega
            obtain ⟨y, hy⟩ : ∃ y, xs[c]? = some y := ⟨_, List.getElem?_eq_getElem (by rw [HN.out]; omega)⟩
            obtain ⟨x, hx⟩ : ∃ x, xs[e]? = some x := ⟨_, List.getElem?_eq_getElem (by rw [HN.out]; omega)⟩
            have hc0 := HO.out c e y x hce.1 hy hx
            have g1 : (0 : Int) ≤ (c : Int) := by omega
            have g2 : (c : Int) < (n : Int) := by omega
            have g3 : (0 : Int) ≤ (e : Int) := by omega
            have g4 : (e : Int) < (n : Int) := by omega
            clear hc hee hF hce
            obtain ⟨xb, xoff, p3, k3, p4, k4, rfl, hxb, hvx, d0, d1, d2, d3, d4⟩ := (HV.out.below HGr.out.bl).val hx
            obtain ⟨yb, yoff, q3, l3, q4, l4, he, hyb, hvy, e0, e1, e2, e3, e4⟩ := (HV.out.below HGr.out.bl).val hy
            obtain ⟨rfl, rfl, -⟩ : xb = yb ∧ xoff = yoff ∧ True := by simpa using he
            have hcg := sortG wr x y _ _ _ hvx hvy
            have D0 := cellG hxb d0; have D1 := cellG hxb d1; have D2 := cellG hxb d2; have D3 := cellG hxb d3; have D4 := cellG hxb d4
            have E0 := cellG hxb e0; have E1 := cellG hxb e1; have E2 := cellG hxb e2; have E3 := cellG hxb e3; have E4 := cellG hxb e4
            unfold vcs at hcg
            generalize hcc : cmpV x y = cr at hcg hc0
            have hq : decide (cr < 0) = false := by simpa using hc0
            clear hx hy he hvx hvy hyb d0 d1 d2 d3 d4 e0 e1 e2 e3 e4 hcc hc0
            go_wp2_with fail
            go_quiet_grown (first | (go_at_call 40; refine Calls.grown_of (hcg _ _)))
            go_wp2_with fail
            go_roundw
            case measure => simp [intOf]; omega
            case rel => exact ⟨rfl, c + 1, by omega, by omega, by go_num, HGr.out.thn (gr_grow _ _ _)⟩
          · obtain rfl : k = m := by omega
            have c1 : ¬ (k : Int) < (k : Int) := by omega
            go_wp2_with fail
            go_end0
            exact ⟨rfl, HGr.out⟩
end Go.Proofs.YthkkmklnapkgaaaGreatDoor

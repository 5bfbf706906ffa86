import Derived.Test.YthkkmklnapkgaaaGreatDoorQ14
/- slices.EqualFunc at three pairs of types; slices.Equal at []string. -/
namespace Go.Proofs.YthkkmklnapkgaaaGreatDoor
open Go.RowKit Go.Shelf Go.Lib

/-- Two lists are equal by a relation on their elements. -/
def eqL {A B : Type} (p : A → B → Bool) : List A → List B → Bool
  | [], [] => true
  | x :: s, y :: t => p x y && eqL p s t
  | _, _ => false
theorem eqL_len {A B : Type} (p : A → B → Bool) : ∀ (a : List A) (b : List B), a.length ≠ b.length → eqL p a b = false
  | [], [], h => absurd rfl h
  | [], _ :: _, _ => rfl
  | _ :: _, [], _ => rfl
  | x :: s, y :: t, h => by unfold eqL; rw [eqL_len p s t (fun e => h (by simp [e])), Bool.and_false]
theorem rel_cells {S : Nat → Prop} {w : World} {cs : List Value} {x : Rel} (h : relRd.R S w cs x) : ∃ p c, cs = [.string ⟨x.table.toArray⟩, .slice p x.rows.length c] := by
  obtain ⟨v, rfl, _, h2⟩ := h
  obtain ⟨p, c, rfl, _⟩ := h2.len
  exact ⟨p, c, rfl⟩

set_option maxRecDepth 100000 in
set_option maxHeartbeats 1000000 in
theorem eqFValTy (g : Nat) (lb : Array Value) (eg : ∀ args w, (callFunc g args).run Tryz.prog w = .ok (.enter g args) w) (S : Nat → Prop) (va vb : Value) (a : List Val) (b : List Ty) (w : World) (ha : Sl valRd S w va a) (hb : Sl tyRd S w vb b) (p : Val → Ty → Bool)
    (hp : ∀ (W : World) (x : Val) (y : Ty) (cx cy : List Value), Below w.heap.size w W → x ∈ a → y ∈ b → valRd.R S W cx x → tyRd.R S W cy y → Calls Tryz.prog g (#[.agg cx.toArray, .agg cy.toArray] ++ lb) W fun e w' => e = .returned (.bool (p x y)) ∧ Below W.heap.size W w') :
    Calls Tryz.prog 79 #[va, vb, .func (.func g) #[] lb] w fun e w' => e = .returned (.bool (eqL p a b)) ∧ Below w.heap.size w w' := by
  obtain ⟨pa, ca, rfl, hla⟩ := ha.len
  obtain ⟨pb, cb, rfl, hlb⟩ := hb.len
  have HA := Lib.hid ha; have HB := Lib.hid hb; have HP := Lib.hid hp
  clear ha hb hp
  by_cases hn : a.length = b.length
  · obtain ⟨n, hn1⟩ : ∃ n, b.length = n := ⟨_, rfl⟩
    rw [hn1] at hn hlb HB
    rw [hn] at HA hla
    rw [hn, hn1]
    obtain ⟨r, hr⟩ : ∃ r, eqL p a b = r := ⟨_, rfl⟩
    rw [hr]
    have HR := Lib.hid hr; have HNa := Lib.hid hn; have HNb := Lib.hid hn1
    clear hr hn hn1
    go_enter Tryz.func79, Tryz.ntmps79
    go_wp2_with fail
    go_loopw [17] (fun i wr => ∃ k : Nat, k ≤ n ∧ i = .int .i64 k ∧ Aside (eqL p (a.drop k) (b.drop k) = r) ∧ Below w.heap.size w wr) (fun i _ => n - (intOf i).toNat)
    case atStart => exact ⟨0, Nat.zero_le _, rfl, HR.out, Below.refl _ _⟩
    case round =>
      obtain ⟨k, hkn, rfl, hE, hBr⟩ := hrel
      have HBr := Lib.hid hBr
      clear hBr
      by_cases hlt : k < n
      · have hi1 : (0 : Int) ≤ (k : Int) := by omega
        have hi2 : (k : Int) < (n : Int) := by omega
        have hka : k < a.length := by rw [HNa.out]; exact hlt
        have hkb : k < b.length := by rw [HNb.out]; exact hlt
        obtain ⟨x, hx⟩ : ∃ x, a[k]? = some x := ⟨_, List.getElem?_eq_getElem hka⟩
        obtain ⟨y, hy⟩ : ∃ y, b[k]? = some y := ⟨_, List.getElem?_eq_getElem hkb⟩
        have hda : a.drop k = x :: a.drop (k + 1) := by rw [List.drop_eq_getElem_cons hka]; rw [List.getElem?_eq_getElem hka] at hx; cases hx; rfl
        have hdb : b.drop k = y :: b.drop (k + 1) := by rw [List.drop_eq_getElem_cons hkb]; rw [List.getElem?_eq_getElem hkb] at hy; cases hy; rfl
        obtain ⟨ba, oa, cx, rfl, hba, -, -, hrx, hcx⟩ := (HA.out.below HBr.out).elem hx
        obtain ⟨bb, ob, cy, rfl, hbb, -, -, hry, hcy⟩ := (HB.out.below HBr.out).elem hy
        have HCall := Lib.hid (fun W (h : Below wr.heap.size wr W) => HP.out W x y cx cy (HBr.out.thn h) (List.mem_of_getElem? hx) (List.mem_of_getElem? hy) (valRd.frame hrx (.of_below h)) (tyRd.frame hry (.of_below h)))
        obtain ⟨p3x, k3x, p4x, k4x, hcsx, _⟩ := IsVal.cells hrx; simp only [vcs] at hcsx; subst hcsx
        obtain ⟨ky, sy, ny, p3y, n3y, k3y, p4y, n4y, k4y, rfl⟩ := IsTy.cells hry
        have d0 := hcx 0 _ rfl; have d1 := hcx 1 _ rfl; have d2 := hcx 2 _ rfl; have d3 := hcx 3 _ rfl; have d4 := hcx 4 _ rfl
        have e0 := hcy 0 _ rfl; have e1 := hcy 1 _ rfl; have e2 := hcy 2 _ rfl; have e3 := hcy 3 _ rfl; have e4 := hcy 4 _ rfl
        simp only [show valRd.k = 5 from rfl, Nat.add_zero] at d0 d1 d2 d3 d4
        simp only [show tyRd.k = 5 from rfl, Nat.add_zero] at e0 e1 e2 e3 e4
        have hE2 : (p x y && eqL p (a.drop (k + 1)) (b.drop (k + 1))) = r := by have := hE.out; rw [hda, hdb] at this; exact this
        have HE2 := Lib.hid hE2
        clear hE hE2 hda hdb hka hkb hx hy hrx hry hcx hcy
        cases hq : p x y with
        | true =>
          rw [hq] at HCall HE2
          go_wp2_with (go_at_fn g; refine (HCall.out _ (bal2 _ _ _)).mono ?_; rintro e w' ⟨rfl, hw⟩; have HW := Lib.hid (HBr.out.thn ((bal2 wr _ _).thn hw)); clear hw)
          go_roundw
          case measure => simp [intOf]; omega
          case rel => exact ⟨k + 1, by omega, by go_num, (show Aside _ from by have := HE2.out; rwa [Bool.true_and] at this), HW.out⟩
        | false =>
          rw [hq] at HCall HE2
          have hr0 : r = false := by have := HE2.out; rw [Bool.false_and] at this; exact this.symm
          subst hr0
          go_wp2_with (go_at_fn g; refine (HCall.out _ (bal2 _ _ _)).mono ?_; rintro e w' ⟨rfl, hw⟩; have HW := Lib.hid (HBr.out.thn ((bal2 wr _ _).thn hw)); clear hw)
          go_ret
          exact ⟨rfl, HW.out⟩
      · have hr1 : r = true := by
          have := hE.out
          rw [List.drop_eq_nil_of_le (by rw [HNa.out]; omega), List.drop_eq_nil_of_le (by rw [HNb.out]; omega)] at this
          exact this.symm
        subst hr1
        clear hE
        go_wp2_with fail
        go_ret
        exact ⟨rfl, HBr.out⟩
  · rw [eqL_len p a b hn]
    have hq : ((a.length : Int) != (b.length : Int)) = true := by rw [bne_iff_ne]; omega
    clear hn
    go_enter Tryz.func79, Tryz.ntmps79
    go_wp2_with fail
    go_ret
    exact ⟨rfl, Below.refl _ _⟩

set_option maxRecDepth 100000 in
set_option maxHeartbeats 1000000 in
theorem eqFValVal (g : Nat) (lb : Array Value) (eg : ∀ args w, (callFunc g args).run Tryz.prog w = .ok (.enter g args) w) (S : Nat → Prop) (va vb : Value) (a : List Val) (b : List Val) (w : World) (ha : Sl valRd S w va a) (hb : Sl valRd S w vb b) (p : Val → Val → Bool)
    (hp : ∀ (W : World) (x : Val) (y : Val) (cx cy : List Value), Below w.heap.size w W → x ∈ a → y ∈ b → valRd.R S W cx x → valRd.R S W cy y → Calls Tryz.prog g (#[.agg cx.toArray, .agg cy.toArray] ++ lb) W fun e w' => e = .returned (.bool (p x y)) ∧ Below W.heap.size W w') :
    Calls Tryz.prog 90 #[va, vb, .func (.func g) #[] lb] w fun e w' => e = .returned (.bool (eqL p a b)) ∧ Below w.heap.size w w' := by
  obtain ⟨pa, ca, rfl, hla⟩ := ha.len
  obtain ⟨pb, cb, rfl, hlb⟩ := hb.len
  have HA := Lib.hid ha; have HB := Lib.hid hb; have HP := Lib.hid hp
  clear ha hb hp
  by_cases hn : a.length = b.length
  · obtain ⟨n, hn1⟩ : ∃ n, b.length = n := ⟨_, rfl⟩
    rw [hn1] at hn hlb HB
    rw [hn] at HA hla
    rw [hn, hn1]
    obtain ⟨r, hr⟩ : ∃ r, eqL p a b = r := ⟨_, rfl⟩
    rw [hr]
    have HR := Lib.hid hr; have HNa := Lib.hid hn; have HNb := Lib.hid hn1
    clear hr hn hn1
    go_enter Tryz.func90, Tryz.ntmps90
    go_wp2_with fail
    go_loopw [17] (fun i wr => ∃ k : Nat, k ≤ n ∧ i = .int .i64 k ∧ Aside (eqL p (a.drop k) (b.drop k) = r) ∧ Below w.heap.size w wr) (fun i _ => n - (intOf i).toNat)
    case atStart => exact ⟨0, Nat.zero_le _, rfl, HR.out, Below.refl _ _⟩
    case round =>
      obtain ⟨k, hkn, rfl, hE, hBr⟩ := hrel
      have HBr := Lib.hid hBr
      clear hBr
      by_cases hlt : k < n
      · have hi1 : (0 : Int) ≤ (k : Int) := by omega
        have hi2 : (k : Int) < (n : Int) := by omega
        have hka : k < a.length := by rw [HNa.out]; exact hlt
        have hkb : k < b.length := by rw [HNb.out]; exact hlt
        obtain ⟨x, hx⟩ : ∃ x, a[k]? = some x := ⟨_, List.getElem?_eq_getElem hka⟩
        obtain ⟨y, hy⟩ : ∃ y, b[k]? = some y := ⟨_, List.getElem?_eq_getElem hkb⟩
        have hda : a.drop k = x :: a.drop (k + 1) := by rw [List.drop_eq_getElem_cons hka]; rw [List.getElem?_eq_getElem hka] at hx; cases hx; rfl
        have hdb : b.drop k = y :: b.drop (k + 1) := by rw [List.drop_eq_getElem_cons hkb]; rw [List.getElem?_eq_getElem hkb] at hy; cases hy; rfl
        obtain ⟨ba, oa, cx, rfl, hba, -, -, hrx, hcx⟩ := (HA.out.below HBr.out).elem hx
        obtain ⟨bb, ob, cy, rfl, hbb, -, -, hry, hcy⟩ := (HB.out.below HBr.out).elem hy
        have HCall := Lib.hid (fun W (h : Below wr.heap.size wr W) => HP.out W x y cx cy (HBr.out.thn h) (List.mem_of_getElem? hx) (List.mem_of_getElem? hy) (valRd.frame hrx (.of_below h)) (valRd.frame hry (.of_below h)))
        obtain ⟨p3x, k3x, p4x, k4x, hcsx, _⟩ := IsVal.cells hrx; simp only [vcs] at hcsx; subst hcsx
        obtain ⟨p3y, k3y, p4y, k4y, hcsy, _⟩ := IsVal.cells hry; simp only [vcs] at hcsy; subst hcsy
        have d0 := hcx 0 _ rfl; have d1 := hcx 1 _ rfl; have d2 := hcx 2 _ rfl; have d3 := hcx 3 _ rfl; have d4 := hcx 4 _ rfl
        have e0 := hcy 0 _ rfl; have e1 := hcy 1 _ rfl; have e2 := hcy 2 _ rfl; have e3 := hcy 3 _ rfl; have e4 := hcy 4 _ rfl
        simp only [show valRd.k = 5 from rfl, Nat.add_zero] at d0 d1 d2 d3 d4
        simp only [show valRd.k = 5 from rfl, Nat.add_zero] at e0 e1 e2 e3 e4
        have hE2 : (p x y && eqL p (a.drop (k + 1)) (b.drop (k + 1))) = r := by have := hE.out; rw [hda, hdb] at this; exact this
        have HE2 := Lib.hid hE2
        clear hE hE2 hda hdb hka hkb hx hy hrx hry hcx hcy
        cases hq : p x y with
        | true =>
          rw [hq] at HCall HE2
          go_wp2_with (go_at_fn g; refine (HCall.out _ (bal2 _ _ _)).mono ?_; rintro e w' ⟨rfl, hw⟩; have HW := Lib.hid (HBr.out.thn ((bal2 wr _ _).thn hw)); clear hw)
          go_roundw
          case measure => simp [intOf]; omega
          case rel => exact ⟨k + 1, by omega, by go_num, (show Aside _ from by have := HE2.out; rwa [Bool.true_and] at this), HW.out⟩
        | false =>
          rw [hq] at HCall HE2
          have hr0 : r = false := by have := HE2.out; rw [Bool.false_and] at this; exact this.symm
          subst hr0
          go_wp2_with (go_at_fn g; refine (HCall.out _ (bal2 _ _ _)).mono ?_; rintro e w' ⟨rfl, hw⟩; have HW := Lib.hid (HBr.out.thn ((bal2 wr _ _).thn hw)); clear hw)
          go_ret
          exact ⟨rfl, HW.out⟩
      · have hr1 : r = true := by
          have := hE.out
          rw [List.drop_eq_nil_of_le (by rw [HNa.out]; omega), List.drop_eq_nil_of_le (by rw [HNb.out]; omega)] at this
          exact this.symm
        subst hr1
        clear hE
        go_wp2_with fail
        go_ret
        exact ⟨rfl, HBr.out⟩
  · rw [eqL_len p a b hn]
    have hq : ((a.length : Int) != (b.length : Int)) = true := by rw [bne_iff_ne]; omega
    clear hn
    go_enter Tryz.func90, Tryz.ntmps90
    go_wp2_with fail
    go_ret
    exact ⟨rfl, Below.refl _ _⟩

set_option maxRecDepth 100000 in
set_option maxHeartbeats 1000000 in
theorem eqFTblRel (g : Nat) (lb : Array Value) (eg : ∀ args w, (callFunc g args).run Tryz.prog w = .ok (.enter g args) w) (S : Nat → Prop) (va vb : Value) (a : List Tbl) (b : List Rel) (w : World) (ha : Sl tblRd S w va a) (hb : Sl relRd S w vb b) (p : Tbl → Rel → Bool)
    (hp : ∀ (W : World) (x : Tbl) (y : Rel) (cx cy : List Value), Below w.heap.size w W → x ∈ a → y ∈ b → tblRd.R S W cx x → relRd.R S W cy y → Calls Tryz.prog g (#[.agg cx.toArray, .agg cy.toArray] ++ lb) W fun e w' => e = .returned (.bool (p x y)) ∧ Below W.heap.size W w') :
    Calls Tryz.prog 41 #[va, vb, .func (.func g) #[] lb] w fun e w' => e = .returned (.bool (eqL p a b)) ∧ Below w.heap.size w w' := by
  obtain ⟨pa, ca, rfl, hla⟩ := ha.len
  obtain ⟨pb, cb, rfl, hlb⟩ := hb.len
  have HA := Lib.hid ha; have HB := Lib.hid hb; have HP := Lib.hid hp
  clear ha hb hp
  by_cases hn : a.length = b.length
  · obtain ⟨n, hn1⟩ : ∃ n, b.length = n := ⟨_, rfl⟩
    rw [hn1] at hn hlb HB
    rw [hn] at HA hla
    rw [hn, hn1]
    obtain ⟨r, hr⟩ : ∃ r, eqL p a b = r := ⟨_, rfl⟩
    rw [hr]
    have HR := Lib.hid hr; have HNa := Lib.hid hn; have HNb := Lib.hid hn1
    clear hr hn hn1
    go_enter Tryz.func41, Tryz.ntmps41
    go_wp2_with fail
    go_loopw [17] (fun i wr => ∃ k : Nat, k ≤ n ∧ i = .int .i64 k ∧ Aside (eqL p (a.drop k) (b.drop k) = r) ∧ Below w.heap.size w wr) (fun i _ => n - (intOf i).toNat)
    case atStart => exact ⟨0, Nat.zero_le _, rfl, HR.out, Below.refl _ _⟩
    case round =>
      obtain ⟨k, hkn, rfl, hE, hBr⟩ := hrel
      have HBr := Lib.hid hBr
      clear hBr
      by_cases hlt : k < n
      · have hi1 : (0 : Int) ≤ (k : Int) := by omega
        have hi2 : (k : Int) < (n : Int) := by omega
        have hka : k < a.length := by rw [HNa.out]; exact hlt
        have hkb : k < b.length := by rw [HNb.out]; exact hlt
        obtain ⟨x, hx⟩ : ∃ x, a[k]? = some x := ⟨_, List.getElem?_eq_getElem hka⟩
        obtain ⟨y, hy⟩ : ∃ y, b[k]? = some y := ⟨_, List.getElem?_eq_getElem hkb⟩
        have hda : a.drop k = x :: a.drop (k + 1) := by rw [List.drop_eq_getElem_cons hka]; rw [List.getElem?_eq_getElem hka] at hx; cases hx; rfl
        have hdb : b.drop k = y :: b.drop (k + 1) := by rw [List.drop_eq_getElem_cons hkb]; rw [List.getElem?_eq_getElem hkb] at hy; cases hy; rfl
        obtain ⟨ba, oa, cx, rfl, hba, -, -, hrx, hcx⟩ := (HA.out.below HBr.out).elem hx
        obtain ⟨bb, ob, cy, rfl, hbb, -, -, hry, hcy⟩ := (HB.out.below HBr.out).elem hy
        have HCall := Lib.hid (fun W (h : Below wr.heap.size wr W) => HP.out W x y cx cy (HBr.out.thn h) (List.mem_of_getElem? hx) (List.mem_of_getElem? hy) (tblRd.frame hrx (.of_below h)) (relRd.frame hry (.of_below h)))
        obtain ⟨cpx, ccx, kpx, kcx, rpx, rcx, kx, s1x, nx, s2x, p1x, n1x, c1x, p2x, n2x, c2x, p3x, n3x, c3x, ax, zx, hcsx, _⟩ := tbl_cells hrx; simp only [tcs] at hcsx; subst hcsx
        obtain ⟨rpy, rcy, rfl⟩ := rel_cells hry
        have d0 := hcx 0 _ rfl; have d1 := hcx 1 _ rfl; have d2 := hcx 2 _ rfl; have d3 := hcx 3 _ rfl; have d4 := hcx 4 _ rfl; have d5 := hcx 5 _ rfl; have d6 := hcx 6 _ rfl; have d7 := hcx 7 _ rfl; have d8 := hcx 8 _ rfl; have d9 := hcx 9 _ rfl; have d10 := hcx 10 _ rfl; have d11 := hcx 11 _ rfl; have d12 := hcx 12 _ rfl
        have e0 := hcy 0 _ rfl; have e1 := hcy 1 _ rfl
        simp only [show tblRd.k = 13 from rfl, Nat.add_zero] at d0 d1 d2 d3 d4 d5 d6 d7 d8 d9 d10 d11 d12
        simp only [show relRd.k = 2 from rfl, Nat.add_zero] at e0 e1
        have hE2 : (p x y && eqL p (a.drop (k + 1)) (b.drop (k + 1))) = r := by have := hE.out; rw [hda, hdb] at this; exact this
        have HE2 := Lib.hid hE2
        clear hE hE2 hda hdb hka hkb hx hy hrx hry hcx hcy
        cases hq : p x y with
        | true =>
          rw [hq] at HCall HE2
          go_wp2_with (go_at_fn g; refine (HCall.out _ (bal2 _ _ _)).mono ?_; rintro e w' ⟨rfl, hw⟩; have HW := Lib.hid (HBr.out.thn ((bal2 wr _ _).thn hw)); clear hw)
          go_roundw
          case measure => simp [intOf]; omega
          case rel => exact ⟨k + 1, by omega, by go_num, (show Aside _ from by have := HE2.out; rwa [Bool.true_and] at this), HW.out⟩
        | false =>
          rw [hq] at HCall HE2
          have hr0 : r = false := by have := HE2.out; rw [Bool.false_and] at this; exact this.symm
          subst hr0
          go_wp2_with (go_at_fn g; refine (HCall.out _ (bal2 _ _ _)).mono ?_; rintro e w' ⟨rfl, hw⟩; have HW := Lib.hid (HBr.out.thn ((bal2 wr _ _).thn hw)); clear hw)
          go_ret
          exact ⟨rfl, HW.out⟩
      · have hr1 : r = true := by
          have := hE.out
          rw [List.drop_eq_nil_of_le (by rw [HNa.out]; omega), List.drop_eq_nil_of_le (by rw [HNb.out]; omega)] at this
          exact this.symm
        subst hr1
        clear hE
        go_wp2_with fail
        go_ret
        exact ⟨rfl, HBr.out⟩
  · rw [eqL_len p a b hn]
    have hq : ((a.length : Int) != (b.length : Int)) = true := by rw [bne_iff_ne]; omega
    clear hn
    go_enter Tryz.func41, Tryz.ntmps41
    go_wp2_with fail
    go_ret
    exact ⟨rfl, Below.refl _ _⟩

set_option maxHeartbeats 1000000 in
theorem strEq_any (S : Nat → Prop) (va vb : Value) (a b : List Bs) (w : World) (ha : Sl strRd S w va a) (hb : Sl strRd S w vb b) :
    Calls Tryz.prog 78 #[va, vb] w fun e w' => e = .returned (.bool (eqL (fun x y => decide (x = y)) a b)) ∧ Below w.heap.size w w' := by
  obtain ⟨pa, ca, rfl, hla⟩ := ha.len
  obtain ⟨pb, cb, rfl, hlb⟩ := hb.len
  have HA := Lib.hid ha; have HB := Lib.hid hb
  clear ha hb
  by_cases hn : a.length = b.length
  · obtain ⟨n, hn1⟩ : ∃ n, b.length = n := ⟨_, rfl⟩
    rw [hn1] at hn hlb HB
    rw [hn] at HA hla
    rw [hn, hn1]
    obtain ⟨r, hr⟩ : ∃ r, eqL (fun (x y : Bs) => decide (x = y)) a b = r := ⟨_, rfl⟩
    rw [hr]
    have HR := Lib.hid hr; have HNa := Lib.hid hn; have HNb := Lib.hid hn1
    clear hr hn hn1
    go_enter Tryz.func78, Tryz.ntmps78
    go_wp2_with fail
    go_loopw [13] (fun i wr => ∃ k : Nat, k ≤ n ∧ i = .int .i64 k ∧ Aside (eqL (fun (x y : Bs) => decide (x = y)) (a.drop k) (b.drop k) = r) ∧ Below w.heap.size w wr) (fun i _ => n - (intOf i).toNat)
    case atStart => exact ⟨0, Nat.zero_le _, rfl, HR.out, Below.refl _ _⟩
    case round =>
      obtain ⟨k, hkn, rfl, hE, hBr⟩ := hrel
      have HBr := Lib.hid hBr
      clear hBr
      by_cases hlt : k < n
      · have hi1 : (0 : Int) ≤ (k : Int) := by omega
        have hi2 : (k : Int) < (n : Int) := by omega
        have hka : k < a.length := by rw [HNa.out]; exact hlt
        have hkb : k < b.length := by rw [HNb.out]; exact hlt
        obtain ⟨x, hx⟩ : ∃ x, a[k]? = some x := ⟨_, List.getElem?_eq_getElem hka⟩
        obtain ⟨y, hy⟩ : ∃ y, b[k]? = some y := ⟨_, List.getElem?_eq_getElem hkb⟩
        have hda : a.drop k = x :: a.drop (k + 1) := by rw [List.drop_eq_getElem_cons hka]; rw [List.getElem?_eq_getElem hka] at hx; cases hx; rfl
        have hdb : b.drop k = y :: b.drop (k + 1) := by rw [List.drop_eq_getElem_cons hkb]; rw [List.getElem?_eq_getElem hkb] at hy; cases hy; rfl
        obtain ⟨ba, oa, rfl, c1, -⟩ := (HA.out.below HBr.out).str hx
        obtain ⟨bb, ob, rfl, c2, -⟩ := (HB.out.below HBr.out).str hy
        have hE2 : (decide (x = y) && eqL (fun (x y : Bs) => decide (x = y)) (a.drop (k + 1)) (b.drop (k + 1))) = r := by have := hE.out; rw [hda, hdb] at this; exact this
        have HE2 := Lib.hid hE2
        clear hE hE2 hda hdb hka hkb hx hy
        by_cases hq : x = y
        · subst hq
          have hq1 : (x != x) = false := by simp
          go_wp2_with fail
          go_quiet (fail)
          go_wp2
          go_roundw
          case measure => simp [intOf]; omega
          case rel => exact ⟨k + 1, by omega, by go_num, (show Aside _ from by have := HE2.out; simp at this; exact this), HBr.out.thn (below_drewN _ _)⟩
        · have hq1 : (x != y) = true := by rw [bne_iff_ne]; exact hq
          have hr0 : r = false := by have := HE2.out; rw [decide_eq_false hq, Bool.false_and] at this; exact this.symm
          subst hr0
          have hq2 : (x == y) = false := by rw [← Bool.not_eq_true, beq_iff_eq]; exact hq
          clear hq
          go_wp2_with fail
          go_quiet (fail)
          go_wp2
          go_ret
          exact ⟨rfl, HBr.out.thn (below_drewN _ _)⟩
      · have hr1 : r = true := by
          have := hE.out
          rw [List.drop_eq_nil_of_le (by rw [HNa.out]; omega), List.drop_eq_nil_of_le (by rw [HNb.out]; omega)] at this
          exact this.symm
        subst hr1
        clear hE
        go_wp2_with fail
        go_ret
        exact ⟨rfl, HBr.out⟩
  · rw [eqL_len _ a b hn]
    have hq : ((a.length : Int) != (b.length : Int)) = true := by rw [bne_iff_ne]; omega
    clear hn
    go_enter Tryz.func78, Tryz.ntmps78
    go_wp2_with fail
    go_ret
    exact ⟨rfl, Below.refl _ _⟩
end Go.Proofs.YthkkmklnapkgaaaGreatDoor

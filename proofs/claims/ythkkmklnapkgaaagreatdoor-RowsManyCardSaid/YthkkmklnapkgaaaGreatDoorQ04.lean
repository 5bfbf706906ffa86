import Derived.Shelf.Small.Strs
import Derived.Shelf.Small.Wraps
import Derived.Shelf.Strings.Prefix
import Derived.Shelf.Strings.Runes
import Derived.Shelf.Strings.AsciiSet
import Derived.Shelf.Slices.Turned
import Derived.Shelf.Slices.Equal
import Derived.Shelf.Slices.Empties2
import Derived.Test.YthkkmklnapkgaaaGreatDoorProg
import Derived.Test.YthkkmklnapkgaaaGreatDoorQ03
/-
  DERIVED: THE SHELF's CONTRACTS AT THIS DUMP, IN PLAIN WORDS (tools/lay-plain.mjs out of 'YthkkmklnapkgaaaGreatDoorShelfC.lean', which tools/lay-shelf.mjs wrote): THE SAME DECLARATIONS UNDER THE SAME NAMES: 'import', 'namespace', 'open', 'def', 'theorem' AND NOTHING ELSE: no command of the shelf's: FOR A HAND-IN. Each laying: the table of numbers ('.._ren') and one theorem, a field a fact of the dump's own or the kernel's comparison; each contract: ONE APPLICATION.
-/
namespace Go.Proofs
open Go.Shelf
def Tryz.lays213_ren : Go.Shelf.Ren := ⟨fun | 213 => 73 | 265 => 113 | n => n, fun | 9 => 9 | 3 => 3 | n => n, fun | n => n⟩
theorem Tryz.lays213 : Go.Proofs.Lays.n213 Tryz.prog Tryz.lays213_ren := {
  mixed := by kernel_rfl
  f213 := Tryz.func73.trans (congrArg some (by kernel_rfl))
  f265 := Tryz.func113.trans (congrArg some (by kernel_rfl))
  t3 := Tryz.underlying3
  a3 := Tryz.isAgg3
  z3 := Tryz.sizeOf3
  v3 := Tryz.zeroValue3
  t9 := Tryz.underlying9
  a9 := Tryz.isAgg9
  z9 := Tryz.sizeOf9
  v9 := Tryz.zeroValue9 }
open Go.RowKit in
/-- internal/bytealg.CompareString (what strings.Compare calls): IT RETURNS 'Lib.compareBytes a b'; the world is as it was. (LAID: no walk: one application.) -/
theorem Tryz.bytealg_CompareString (a b : ByteArray) (w : World) :
    Calls Tryz.prog 73 #[.string a, .string b] w fun e w' => e = .returned (.int .i64 (Lib.compareBytes a.data.toList b.data.toList)) ∧ w' = w := Any.bytealg_CompareString Tryz.lays213 a b w
def Tryz.lays106_ren : Go.Shelf.Ren := ⟨fun | 106 => 46 | 213 => 73 | 265 => 113 | n => n, fun | 9 => 9 | 3 => 3 | n => n, fun | n => n⟩
theorem Tryz.lays106 : Go.Proofs.Lays.n106 Tryz.prog Tryz.lays106_ren := {
  mixed := by kernel_rfl
  f106 := Tryz.func46.trans (congrArg some (by kernel_rfl))
  f213 := Tryz.func73.trans (congrArg some (by kernel_rfl))
  f265 := Tryz.func113.trans (congrArg some (by kernel_rfl))
  t3 := Tryz.underlying3
  a3 := Tryz.isAgg3
  z3 := Tryz.sizeOf3
  v3 := Tryz.zeroValue3
  t9 := Tryz.underlying9
  a9 := Tryz.isAgg9
  z9 := Tryz.sizeOf9
  v9 := Tryz.zeroValue9 }
open Go.RowKit in
/-- strings.Compare: "Compare returns an integer comparing two strings lexicographically. The result will be 0 if a == b, -1 if a < b, and +1 if a > b.": IT RETURNS 'Lib.compareBytes a b'; the world is as it was. (LAID: no walk: one application.) -/
theorem Tryz.strings_Compare (a b : ByteArray) (w : World) :
    Calls Tryz.prog 46 #[.string a, .string b] w fun e w' => e = .returned (.int .i64 (Lib.compareBytes a.data.toList b.data.toList)) ∧ w' = w := Any.strings_Compare Tryz.lays106 a b w
end Go.Proofs

/- strings.Compare, cmp.Compare at string, slices.Compare at []string. -/
namespace Go.Proofs.YthkkmklnapkgaaaGreatDoor
open Go.RowKit

theorem cmpB_lib (a b : Bs) : Lib.compareBytes a b = cmpB a b := by
  induction a generalizing b with
  | nil => cases b <;> rfl
  | cons x s ih =>
    cases b with
    | nil => rfl
    | cons y t =>
      have h1 : x < y ↔ (x.toNat : Int) < y.toNat := by rw [UInt8.lt_iff_toNat_lt]; omega
      have h2 : y < x ↔ (y.toNat : Int) < x.toNat := by rw [UInt8.lt_iff_toNat_lt]; omega
      show (if x < y then -1 else if y < x then 1 else Lib.compareBytes s t) = thn (ord x.toNat y.toNat) (cmpB s t)
      by_cases a1 : x < y
      · have e : ord x.toNat y.toNat = -1 := by unfold ord; rw [if_pos (h1.1 a1)]
        rw [if_pos a1, e]; rfl
      · rw [if_neg a1]
        by_cases a2 : y < x
        · have e : ord x.toNat y.toNat = 1 := by unfold ord; rw [if_neg (fun h => a1 (h1.2 h)), if_pos (h2.1 a2)]
          rw [if_pos a2, e]; rfl
        · have e : ord x.toNat y.toNat = 0 := by unfold ord; rw [if_neg (fun h => a1 (h1.2 h)), if_neg (fun h => a2 (h2.2 h))]
          rw [if_neg a2, e, ih t]; rfl
theorem cmpS_any (a b : ByteArray) (w : World) : Calls Tryz.prog 46 #[.string a, .string b] w fun e w' => e = .returned (.int .i64 (cmpB (bl a) (bl b))) ∧ w = w' := by
  refine (Tryz.strings_Compare a b w).mono ?_
  rintro e w' ⟨rfl, rfl⟩
  exact ⟨by rw [cmpB_lib], rfl⟩
end Go.Proofs.YthkkmklnapkgaaaGreatDoor

/- cmp.Compare at string, slices.Compare at []string. -/
namespace Go.Proofs.YthkkmklnapkgaaaGreatDoor
open Go.RowKit

theorem nanS_any (x : ByteArray) (w : World) : Calls Tryz.prog 127 #[.string x] w fun e w' => e = .returned (.bool false) ∧ w = w' := by
  go_enter Tryz.func127, Tryz.ntmps127
  go_wp2
  go_ret
  exact ⟨by simp, rfl⟩
theorem less_cmp (a b : Bs) : Op.bytesLess a b = decide (cmpB a b < 0) ∧ ((a == b) = decide (cmpB a b = 0)) ∧ (cmpB a b = -1 ∨ cmpB a b = 0 ∨ cmpB a b = 1) := by
  induction a generalizing b with
  | nil => cases b <;> simp [Op.bytesLess, cmpB]
  | cons x s ih =>
    cases b with
    | nil => simp [Op.bytesLess, cmpB]
    | cons y t =>
      obtain ⟨i1, i2, i3⟩ := ih t
      have h1 : x < y ↔ (x.toNat : Int) < y.toNat := by rw [UInt8.lt_iff_toNat_lt]; omega
      have h2 : y < x ↔ (y.toNat : Int) < x.toNat := by rw [UInt8.lt_iff_toNat_lt]; omega
      have he : x = y ↔ (x.toNat : Int) = y.toNat := ⟨fun h => by rw [h], fun h => UInt8.toNat_inj.1 (by omega)⟩
      simp only [Op.bytesLess, cmpB, List.cons_beq_cons]
      by_cases a1 : x < y
      · have e : ord x.toNat y.toNat = -1 := by unfold ord; rw [if_pos (h1.1 a1)]
        have hne : (x == y) = false := by rw [← Bool.not_eq_true, beq_iff_eq, he]; have := h1.1 a1; omega
        simp [e, thn, a1, hne]
      · by_cases a2 : y < x
        · have e : ord x.toNat y.toNat = 1 := by unfold ord; rw [if_neg (fun h => a1 (h1.2 h)), if_pos (h2.1 a2)]
          have hne : (x == y) = false := by rw [← Bool.not_eq_true, beq_iff_eq, he]; have := h2.1 a2; omega
          simp [e, thn, a1, hne]
        · have n1 : ¬ ((x.toNat : Int) < y.toNat) := fun h => a1 (h1.2 h)
          have n2 : ¬ ((y.toNat : Int) < x.toNat) := fun h => a2 (h2.2 h)
          have hxy : x = y := by rw [he]; omega
          subst hxy
          simp [ord_self, thn, i1, i2, i3]
theorem toList_bl (x : ByteArray) : x.toList = bl x := Lib.toList_data x
theorem cmpSS_any (x y : ByteArray) (w : World) : Calls Tryz.prog 108 #[.string x, .string y] w fun e w' => e = .returned (.int .i64 (cmpB (bl x) (bl y))) ∧ w = w' := by
  obtain ⟨h1, h2, h3⟩ := less_cmp (bl x) (bl y)
  obtain ⟨g1, g2, g3⟩ := less_cmp (bl y) (bl x)
  have ha : cmpB (bl x) (bl y) = - cmpB (bl y) (bl x) := by
    have := lex_keyB (bl x) (bl y) [] []
    have h := lex_keyB (bl y) (bl x) [] []
    simp only [List.append_nil, lex, thn_right] at this h
    rw [← this, ← h]; exact lex_anti _ _
  rw [← toList_bl x, ← toList_bl y] at h1 h2 h3 g1 g2 g3 ha ⊢
  obtain ⟨c, hc⟩ : ∃ c, cmpB x.toList y.toList = c := ⟨_, rfl⟩
  rw [hc] at h1 h2 h3 ha ⊢
  have HC := Lib.hid hc
  clear hc ha g1 g2 g3
  rcases h3 with h3 | h3 | h3 <;> subst h3
  · have k1 : Op.bytesLess x.toList y.toList = true := h1.trans (by decide)
    have k2 : (x.toList == y.toList) = false := h2.trans (by decide)
    clear h1 h2
    go_enter Tryz.func108, Tryz.ntmps108
    go_wp2_with (go_at_call 127; refine (nanS_any _ _).mono ?_; rintro e w' ⟨rfl, rfl⟩)
    go_ret
    exact ⟨rfl, rfl⟩
  · have k1 : Op.bytesLess x.toList y.toList = false := h1.trans (by decide)
    have k2 : (x.toList == y.toList) = true := h2.trans (by decide)
    clear h1 h2
    go_enter Tryz.func108, Tryz.ntmps108
    go_wp2_with (go_at_call 127; refine (nanS_any _ _).mono ?_; rintro e w' ⟨rfl, rfl⟩)
    go_ret
    exact ⟨rfl, rfl⟩
  · have k1 : Op.bytesLess x.toList y.toList = false := h1.trans (by decide)
    have k2 : (x.toList == y.toList) = false := h2.trans (by decide)
    clear h1 h2
    go_enter Tryz.func108, Tryz.ntmps108
    go_wp2_with (go_at_call 127; refine (nanS_any _ _).mono ?_; rintro e w' ⟨rfl, rfl⟩)
    go_ret
    exact ⟨rfl, rfl⟩
end Go.Proofs.YthkkmklnapkgaaaGreatDoor

/- slices.Compare at []string. -/
namespace Go.Proofs.YthkkmklnapkgaaaGreatDoor
open Go.RowKit

theorem Sl.str {S : Nat → Prop} {w : World} {p : Option Addr} {n cap : Nat} {xs : List Bs} (h : Sl strRd S w (.slice p n cap) xs) {i : Nat} {x : Bs} (hx : xs[i]? = some x) :
    ∃ b off, p = some ⟨b, off, none⟩ ∧ w.cell? ⟨b, off + i, none⟩ = some (.string ⟨x.toArray⟩) ∧ x.length ≤ 1000000 := by
  obtain ⟨p', c', h1, _, h3⟩ := h
  simp only [Value.slice.injEq] at h1
  obtain ⟨rfl, _, _⟩ := h1
  obtain ⟨b, off, e, _, _, hc⟩ := h3 (by intro e; subst e; simp at hx)
  obtain ⟨cs, h4, h5, h6⟩ := hc i x hx
  refine ⟨b, off, e, ?_, h6⟩
  have := h4 0 (sv x) (by rw [h5]; rfl)
  rwa [Nat.add_zero, show strRd.k = 1 from rfl, Nat.mul_one] at this

set_option maxHeartbeats 1000000 in
theorem cmpN_any (S : Nat → Prop) (av bv : Value) (a b : List Bs) (w : World) (ha : Sl strRd S w av a) (hb : Sl strRd S w bv b) :
    Calls Tryz.prog 67 #[av, bv] w fun e w' => e = .returned (.int .i64 (cmpN a b)) ∧ w = w' := by
  obtain ⟨pa, ca, rfl, hla⟩ := ha.len
  obtain ⟨pb, cb, rfl, hlb⟩ := hb.len
  have HA := Lib.hid ha; have HB := Lib.hid hb
  obtain ⟨r, hr⟩ : ∃ r, cmpN a b = r := ⟨_, rfl⟩
  rw [hr]
  have HR := Lib.hid hr
  clear ha hb hr
  go_enter Tryz.func67, Tryz.ntmps67
  go_wp2_with fail
  go_loop [11] (fun i => ∃ k : Nat, k ≤ a.length ∧ k ≤ b.length ∧ i = .int .i64 k ∧ cmpN (a.drop k) (b.drop k) = r) (fun i => a.length - (intOf i).toNat)
  case atStart => exact ⟨0, Nat.zero_le _, Nat.zero_le _, rfl, HR.out⟩
  case round =>
    obtain ⟨k, hka, hkb, rfl, hc⟩ := hrel
    by_cases hlt : k < a.length
    · obtain ⟨x, hx⟩ : ∃ x, a[k]? = some x := ⟨_, List.getElem?_eq_getElem hlt⟩
      have hda : a.drop k = x :: a.drop (k + 1) := by
        rw [List.drop_eq_getElem_cons hlt]; rw [List.getElem?_eq_getElem hlt] at hx; cases hx; rfl
      obtain ⟨ga, oa, rfl, c1, l1⟩ := HA.out.str hx
      by_cases hlb2 : k < b.length
      · obtain ⟨y, hy⟩ : ∃ y, b[k]? = some y := ⟨_, List.getElem?_eq_getElem hlb2⟩
        have hdb : b.drop k = y :: b.drop (k + 1) := by
          rw [List.drop_eq_getElem_cons hlb2]; rw [List.getElem?_eq_getElem hlb2] at hy; cases hy; rfl
        obtain ⟨gb, ob, rfl, c2, l2⟩ := HB.out.str hy
        rw [hda, hdb] at hc
        have HS := Lib.hid (cmpSS_any ⟨x.toArray⟩ ⟨y.toArray⟩)
        have hxy : cmpB (bl ⟨x.toArray⟩) (bl ⟨y.toArray⟩) = cmpB x y := rfl
        rw [hxy] at HS
        have hc' : thn (cmpB x y) (cmpN (a.drop (k + 1)) (b.drop (k + 1))) = r := hc
        generalize cmpB x y = c at HS hc'
        have hi1 : (0 : Int) ≤ (k : Int) := by omega
        have hi2 : (k : Int) < a.length := by omega
        have hi3 : (k : Int) < b.length := by omega
        have hq : decide (b.length ≤ k) = false := by simp; omega
        by_cases hc0 : c = 0
        · subst hc0
          have HC := Lib.hid hc'
          clear hc hc' hda hdb hx hy hxy
          go_wp2_with (go_at_call 108; refine (HS.out _).mono ?_; rintro e w' ⟨rfl, rfl⟩)
          go_round
          case rel => exact ⟨k + 1, by omega, by omega, by go_num, HC.out⟩
          case measure => simp [intOf]; omega
        · have hq2 : (c != 0) = true := by rw [bne_iff_ne]; exact hc0
          have hcr : c = r := by rw [← hc']; unfold thn; rw [if_neg hc0]
          subst hcr
          clear hc hc' hda hdb hx hy hxy hc0
          go_wp2_with (go_at_call 108; refine (HS.out _).mono ?_; rintro e w' ⟨rfl, rfl⟩)
          go_ret
          exact ⟨rfl, rfl⟩
      · have hdb : b.drop k = [] := List.drop_eq_nil_of_le (by omega)
        rw [hda, hdb] at hc
        have hr1 : r = 1 := by rw [← hc]; rfl
        subst hr1
        have hi1 : (0 : Int) ≤ (k : Int) := by omega
        have hi2 : (k : Int) < a.length := by omega
        have hq : decide (b.length ≤ k) = true := by simp; omega
        clear hc hda hdb hx
        go_wp2_with fail
        go_ret
        exact ⟨rfl, rfl⟩
    · have hda : a.drop k = [] := List.drop_eq_nil_of_le (by omega)
      rw [hda] at hc
      by_cases hlb2 : a.length < b.length
      · obtain ⟨y, t, hyt⟩ : ∃ y t, b.drop k = y :: t := by
          have : (b.drop k).length ≠ 0 := by rw [List.length_drop]; omega
          cases hd : b.drop k with
          | nil => rw [hd] at this; exact absurd rfl this
          | cons y t => exact ⟨y, t, rfl⟩
        rw [hyt] at hc
        have hr1 : r = -1 := by rw [← hc]; rfl
        subst hr1
        clear hc hda hyt
        go_wp2_with fail
        go_ret
        exact ⟨rfl, rfl⟩
      · have hdb : b.drop k = [] := List.drop_eq_nil_of_le (by omega)
        rw [hdb] at hc
        have hr1 : r = 0 := by rw [← hc]; rfl
        subst hr1
        clear hc hda hdb
        go_wp2_with fail
        go_ret
        exact ⟨rfl, rfl⟩
end Go.Proofs.YthkkmklnapkgaaaGreatDoor

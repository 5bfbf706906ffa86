/- The reference's small functions: has, Symbols, Keywords, Keyword, class, line. -/
import Derived.Test.YtolgoojlpmgblaaDoorJ
import Derived.WalkKit
import Derived.WalkSpells
import Derived.WalkLawsBesides
import Derived.Outline
import Derived.Lib.Hide
import Derived.Handy
namespace Go.Proofs.YtolgoojlpmgblaaDoor
open Go.RowKit

/-- The keywords in the reference's order. -/
def kwsR : List Bs := [[116, 121, 112, 101], [116, 97, 98, 108, 101], [107, 101, 121], [114, 101, 102], [116, 111], [99, 104, 101, 99, 107], [102, 117, 110], [112, 114, 111, 99], [108, 101, 116], [105, 110], [105, 102], [116, 104, 101, 110], [101, 108, 115, 101], [109, 97, 116, 99, 104], [105, 110, 115, 101, 114, 116], [100, 101, 108, 101, 116, 101], [97, 115], [119, 104, 101, 114, 101], [117, 112, 100, 97, 116, 101], [115, 101, 116], [119, 105, 116, 104], [97, 110, 100], [111, 114], [110, 111, 116], [116, 114, 117, 101], [102, 97, 108, 115, 101]]
theorem kwsR_eq (l : Bs) : kwsR.contains l = isKw l := by
  unfold isKw
  rw [Bool.eq_iff_iff, List.contains_iff_mem, List.contains_iff_mem]
  have h1 : ∀ x ∈ kwsR, x ∈ kws := by decide
  have h2 : ∀ x ∈ kws, x ∈ kwsR := by decide
  exact ⟨h1 l, h2 l⟩

theorem symbols_ref (w : World) : Calls Tryd.prog 57 #[] w fun e w' => e = .returned (.slice (some ⟨w.heap.size, 0, none⟩) 24 24) ∧ w' = w.alloc (.cells (svs syms).toArray 9) := by
  go_enter Tryd.func57, Tryd.ntmps57
  go_wp2
  go_ret
  exact ⟨rfl, rfl⟩
theorem keywords_ref (w : World) : Calls Tryd.prog 50 #[] w fun e w' => e = .returned (.slice (some ⟨w.heap.size, 0, none⟩) 26 26) ∧ w' = w.alloc (.cells (svs kwsR).toArray 9) := by
  go_enter Tryd.func50, Tryd.ntmps50
  go_wp2
  go_ret
  exact ⟨rfl, rfl⟩

/-- A row of strings in memory. -/
theorem svs_get (ls : List Bs) (i : Nat) (h : i < ls.length) : (svs ls)[i]? = some (.string ⟨(ls.getD i []).toArray⟩) := by
  simp only [svs, List.getElem?_map, List.getElem?_eq_getElem h, Option.map_some, List.getD_eq_getElem?_getD, Option.getD_some]
  rfl

theorem has_any (ls : List Bs) (b c : Nat) (s : ByteArray) (w : World) (hl : ls.length ≤ 1000000) (hr : w.rangeAt b 0 (svs ls)) :
    Calls Tryd.prog 49 #[.slice (some ⟨b, 0, none⟩) ls.length c, .string s] w fun e w' => e = .returned (.bool (ls.contains (bl s))) ∧ w = w' := by
  have HR := Lib.hid hr; clear hr
  obtain ⟨n, hn⟩ : ∃ n, ls.length = n := ⟨_, rfl⟩
  rw [hn] at hl ⊢
  have HN := Lib.hid hn; clear hn
  obtain ⟨R, hR⟩ : ∃ R, ls.contains (bl s) = R := ⟨_, rfl⟩
  rw [hR]
  have HRR := Lib.hid hR; clear hR
  go_enter Tryd.func49, Tryd.ntmps49
  go_wp2
  go_loop [5] (fun i => ∃ k : Nat, k ≤ n ∧ (∀ j, j < k → ls[j]? ≠ some (bl s)) ∧ i = .int .i64 k) (fun i => n - (intOf i).toNat)
  case atStart => exact ⟨0, Nat.zero_le _, fun j hj => by omega, rfl⟩
  case round =>
    obtain ⟨k, hk, hno, rfl⟩ := hrel
    have HNo := Lib.hid hno; clear hno
    by_cases hlt : k < n
    · obtain ⟨x, hx⟩ : ∃ x : ByteArray, (⟨(ls.getD k []).toArray⟩ : ByteArray) = x := ⟨_, rfl⟩
      have hc : w.cell? ⟨b, k, none⟩ = some (.string x) := by
        have := HR.out k _ (svs_get ls k (by rw [HN.out]; exact hlt))
        rw [Nat.zero_add, hx] at this; exact this
      have hg : ls[k]? = some (bl x) := by
        have hkl : k < ls.length := by rw [HN.out]; exact hlt
        rw [← hx, bl_mk, List.getD_eq_getElem?_getD, List.getElem?_eq_getElem hkl]; rfl
      have HG := Lib.hid hg; clear hg hx
      by_cases he : bl x = bl s
      · have hb : (x.toList == s.toList) = true := by rw [Lib.toList_data, Lib.toList_data]; simpa using he
        have HE := Lib.hid he; clear he
        go_wp2
        go_ret
        have e : R = true := by
          rw [← HRR.out, ← HE.out]; exact List.contains_iff_mem.2 (List.mem_of_getElem? HG.out)
        exact ⟨by rw [e]; rfl, rfl⟩
      · have hb : (x.toList == s.toList) = false := by rw [Lib.toList_data, Lib.toList_data]; simpa using he
        have HE := Lib.hid he; clear he
        go_wp2
        go_round
        case rel =>
          refine ⟨k + 1, by omega, fun j hj hjs => ?_, by go_num⟩
          by_cases hjk : j = k
          · subst hjk; rw [HG.out] at hjs; exact HE.out (Option.some.inj hjs)
          · exact HNo.out j (by omega) hjs
        case measure => simp [intOf]; omega
    · go_wp2
      go_ret
      have e : R = false := by
        rw [← HRR.out, ← Bool.not_eq_true]
        intro hc
        obtain ⟨j, hj, e⟩ := List.getElem_of_mem (List.contains_iff_mem.1 hc)
        exact HNo.out j (by have := HN.out; omega) (by rw [List.getElem?_eq_getElem hj, e])
      exact ⟨by rw [e]; rfl, rfl⟩

theorem keyword_ref (s : ByteArray) (w : World) : Calls Tryd.prog 33 #[.string s] w fun e w' => e = .returned (.bool (isKw (bl s))) ∧ Below w.heap.size w w' := by
  have hk := kwsR_eq (bl s)
  have h2 : ∀ w : World, Calls Tryd.prog 49 #[.slice (some ⟨w.heap.size, 0, none⟩) 26 26, .string s] (w.alloc (.cells (svs kwsR).toArray 9)) fun e w' => e = .returned (.bool (isKw (bl s))) ∧ (w.alloc (.cells (svs kwsR).toArray 9)) = w' := by
    intro w
    rw [← hk]
    exact has_any kwsR w.heap.size 26 s _ (by decide) (fun j v hv => by
      rw [cell_of_row _ w.heap.size (0 + j) _ _ _ (World.alloc_heap_new w _)]
      simpa using hv)
  have HK := Lib.hid h2; clear h2 hk
  go_enter Tryd.func33, Tryd.ntmps33
  go_wp2_with (first | (go_at_call 50; refine (keywords_ref _).mono ?_; rintro e w' ⟨rfl, rfl⟩) | (go_at_call 49; refine (HK.out _).mono ?_; rintro e w' ⟨rfl, rfl⟩))
  go_ret
  exact ⟨rfl, (Below.refl _ _).alloc (Nat.le_refl _) _⟩

/-- The class of a byte, as the reference numbers them. -/
def clsR (c : UInt8) : Nat := if isSp c then 0 else if isLo c then 1 else if isUp c then 2 else if isDi c then 3 else if c == 95 then 4 else 5

/-- The reference's class, on numbers. -/
def clsI (n : Int) : Int := if n = 9 ∨ n = 10 ∨ n = 13 ∨ n = 32 then 0 else if 97 ≤ n ∧ n ≤ 122 then 1 else if 65 ≤ n ∧ n ≤ 90 then 2 else if 48 ≤ n ∧ n ≤ 57 then 3 else if n = 95 then 4 else 5
theorem clsI_eq (c : UInt8) : ((clsR c : Nat) : Int) = clsI c.toNat := by
  have e95 := u8_eq c 95
  rw [show ((95 : UInt8).toNat : Int) = 95 from rfl] at e95
  unfold clsR clsI
  rw [space_eq, lower_eq, upper_eq, digit_eq, e95]
  simp only [Bool.or_eq_true, beq_iff_eq, Bool.and_eq_true, decide_eq_true_eq]
  (repeat' split) <;> omega
theorem class_ref (c : UInt8) (w : World) : Calls Tryd.prog 73 #[.int .u8 c.toNat] w fun e w' => e = .returned (.int .i64 (clsR c)) ∧ w = w' := by
  rw [clsI_eq]
  obtain ⟨n, hn⟩ : ∃ n : Int, (c.toNat : Int) = n := ⟨_, rfl⟩
  rw [hn]
  clear hn
  go_enter Tryd.func73, Tryd.ntmps73
  go_wp2
  all_goals (go_ret; refine ⟨ret_int ?_, rfl⟩; unfold clsI)
  all_goals (try simp only [beq_iff_eq, beq_eq_false_iff_ne, ne_eq] at *)
  all_goals ((repeat' split) <;> omega)

theorem tkl_more {p : UInt8 → Bool} {t : Bs} {n : Nat} {c : UInt8} (hn : n ≤ tk p t) (h : t[n]? = some c) (hp : p c = true) : n + 1 ≤ tk p t := by
  rcases Nat.lt_or_ge n (tk p t) with h' | h'
  · omega
  · have e : tk p t = n := by omega
    have := tk_stop (p := p) (l := t) (c := c) (by rw [e]; exact h)
    rw [hp] at this; cases this
theorem tkl_end {p : UInt8 → Bool} {t : Bs} {n : Nat} {c : UInt8} (hn : n ≤ tk p t) (h : t[n]? = some c) (hp : p c = false) : tk p t = n := by
  rcases Nat.lt_or_ge n (tk p t) with h' | h'
  · have := tk_run h' h; rw [hp] at this; cases this
  · omega
theorem tkl_out {p : UInt8 → Bool} {t : Bs} {n : Nat} (hn : n ≤ tk p t) (h : t.length ≤ n) : tk p t = n := by
  have := tk_le p t; omega
theorem drop_get (s : ByteArray) (a k : Nat) (hk : a ≤ k) (h : k < s.size) : ((bl s).drop a)[k - a]? = some s[k] := by
  rw [List.getElem?_drop, show a + (k - a) = k by omega]; exact bl_get s k h
theorem drop_len (s : ByteArray) (a : Nat) : ((bl s).drop a).length = s.size - a := by rw [List.length_drop, bl_len]

/-- The reference's line: where the line ends. -/
theorem line_ref (s : ByteArray) (a : Nat) (w : World) (hs : s.size ≤ maxLen) (ha : a ≤ s.size) :
    Calls Tryd.prog 56 #[.string s, .int .i64 a] w fun e w' => e = .returned (.int .i64 (a + tk isLn ((bl s).drop a) : Nat)) ∧ w = w' := by
  unfold maxLen at hs
  go_enter Tryd.func56, Tryd.ntmps56
  go_wp2
  go_loop [1] (fun i => ∃ k : Nat, a ≤ k ∧ k ≤ s.size ∧ k - a ≤ tk isLn ((bl s).drop a) ∧ i = .int .i64 k) (fun i => s.size - (intOf i).toNat)
  case atStart => exact ⟨a, Nat.le_refl _, ha, by omega, rfl⟩
  case round =>
    obtain ⟨k, hk1, hk2, hk3, rfl⟩ := hrel
    have HK := Lib.hid hk3; clear hk3
    by_cases hlt : k < s.size
    · have e10 := u8_eq (s[k]'hlt) 10
      rw [show ((10 : UInt8).toNat : Int) = 10 from rfl] at e10
      by_cases hb : (((s[k]'hlt).toNat : Int) != 10) = true
      · have hm := tkl_more (p := isLn) HK.out (drop_get s a k hk1 hlt) (by unfold isLn; simp only [bne] at hb ⊢; rw [e10]; exact hb)
        have HM := Lib.hid hm; clear hm e10
        go_wp2
        go_round
        case rel => exact ⟨k + 1, by omega, by omega, by have := HM.out; omega, by go_num⟩
        case measure => simp [intOf]; omega
      · have hb' : (((s[k]'hlt).toNat : Int) != 10) = false := by simpa using hb
        have hm := tkl_end (p := isLn) HK.out (drop_get s a k hk1 hlt) (by unfold isLn; simp only [bne] at hb' ⊢; rw [e10]; exact hb')
        have HM := Lib.hid hm; clear hm e10 hb
        go_wp2
        go_ret
        exact ⟨ret_int (by have := HM.out; omega), rfl⟩
    · have hm := tkl_out (p := isLn) HK.out (by rw [drop_len]; omega)
      have HM := Lib.hid hm; clear hm
      go_wp2
      go_ret
      exact ⟨ret_int (by have := HM.out; omega), rfl⟩
end Go.Proofs.YtolgoojlpmgblaaDoor

/- The functions next and single of package lexer return what the plain model says; old memory is as it was. -/
import Derived.Test.YtolgoojlpmgblaaDoorG
import Derived.WalkKit
import Derived.WalkSpells
import Derived.WalkLawsBesides
import Derived.Outline
import Derived.Lib.Hide
import Derived.Handy
namespace Go.Proofs.YtolgoojlpmgblaaDoor
open Go.RowKit

theorem badLen_at : ∀ (t : Bs) (i : Nat) (c : UInt8), i ≤ badLen t → t[i]? = some c → if c == 34 || decide (0 < (good (t.drop i)).2) then badLen t = i else i + 1 ≤ badLen t
  | [], i, c, _, h => by simp at h
  | d :: t, 0, c, _, h => by
    simp at h; subst h
    unfold badLen
    split <;> rename_i hb
    · simp at hb
      rcases hb with rfl | hb
      · simp
      · simp [hb]
    · simp at hb
      simp [hb]
  | d :: t, i + 1, c, hi, h => by
    unfold badLen at hi ⊢
    split at hi
    · omega
    · rename_i hb
      rw [if_neg hb]
      have := badLen_at t i c (by omega) (by simpa using h)
      simp only [List.drop_succ_cons]
      split <;> rename_i h'
      · rw [if_pos h'] at this; omega
      · rw [if_neg h'] at this; omega
theorem badLen_out {t : Bs} {i : Nat} (hi : i ≤ badLen t) (h : t.length ≤ i) : badLen t = i := by have := badLen_le t; omega

set_option maxHeartbeats 400000 in
theorem next_any (s : ByteArray) (w : World) (h0 : 0 < s.size) (hs : s.size < 4294967281) (hT : Tabs w) :
    Calls Tryd.prog 54 #[.string s] w fun e w' => e = .returned (.tuple #[.int .i64 (nxt (bl s)).1, .int .i64 (nxt (bl s)).2]) ∧ Below w.heap.size w w' := by
  have hm : s.size ≤ maxLen := by unfold maxLen; omega
  obtain ⟨c, hc⟩ : ∃ c, s[0]'h0 = c := ⟨_, rfl⟩
  have hgc := nxt_cons c ((bl s).drop 1)
  rw [← hc, ← bl_cons s h0, hc] at hgc
  have e34 := u8_eq c 34
  rw [show ((34 : UInt8).toNat : Int) = 34 from rfl] at e34
  rw [e34] at hgc
  clear e34
  have HN := Lib.hid hgc; clear hgc
  have HM := Lib.hid hm; clear hm
  have HT := Lib.hid hT; clear hT
  have hG : ∀ w, Tabs w → Calls Tryd.prog 70 #[.string s] w fun e w' => e = .returned (.tuple #[.int .i64 (good (bl s)).1, .int .i64 (good (bl s)).2]) ∧ Below w.heap.size w w' := fun w h => good_any s w h0 hs h
  obtain ⟨gk, gn, hg⟩ : ∃ gk gn, good (bl s) = (gk, gn) := ⟨_, _, rfl⟩
  rw [hg] at hG
  simp only at hG
  have HG := Lib.hid hG; have HE := Lib.hid hg
  clear hG hg
  by_cases hp : 0 < gn
  · have hr : nxt (bl s) = (gk, gn) := by rw [HN.out, HE.out]; simp [hp]
    rw [hr]
    clear hr
    go_enter Tryd.func54, Tryd.ntmps54
    go_wp2_with (go_at_call 70; refine (HG.out _ HT.out).mono ?_; rintro e w' ⟨rfl, hw⟩)
    go_ret2
    exact ⟨rfl, hw⟩
  obtain rfl : gn = 0 := by omega
  clear hp
  by_cases h6 : ((c.toNat : Int) == 34) = true
  · have hr : nxt (bl s) = (8, tk isLn (bl s)) := by rw [HN.out, HE.out]; simp [h6]
    rw [hr]
    clear hr
    go_enter Tryd.func54, Tryd.ntmps54
    go_wp2_with (first | (go_at_call 70; refine (HG.out _ HT.out).mono ?_; rintro e w' ⟨rfl, hw⟩) | (go_at_call 71; refine (run_line _ _ HM.out).mono ?_; rintro e w' ⟨rfl, rfl⟩))
    go_ret2
    exact ⟨rfl, hw⟩
  have h6' : ((c.toNat : Int) == 34) = false := by simpa using h6
  clear h6
  have hr : nxt (bl s) = (8, badLen ((bl s).drop 1) + 1) := by rw [HN.out, HE.out]; simp [h6']
  rw [hr]
  clear hr
  go_enter Tryd.func54, Tryd.ntmps54
  go_wp2_with (go_at_call 70; refine (HG.out _ HT.out).mono ?_; rintro e w' ⟨rfl, hw⟩)
  go_loopw [5, 6, 7] (fun a _ _ wr => ∃ n : Nat, 1 ≤ n ∧ n ≤ badLen ((bl s).drop 1) + 1 ∧ n ≤ s.size ∧ a = .int .i64 n ∧ Below w.heap.size w wr) (fun a _ _ _ => s.size - (intOf a).toNat)
  case atStart => exact ⟨1, by omega, by omega, by omega, rfl, hw⟩
  case round =>
    obtain ⟨n, hn1, hn2, hn3, rfl, hB⟩ := hrel
    have HB := Lib.hid hB; have H2 := Lib.hid hn2
    clear hw hB hn2
    by_cases hlt : n < s.size
    · have hat := badLen_at ((bl s).drop 1) (n - 1) (s[n]'hlt) (by have := H2.out; omega) (by rw [List.getElem?_drop, show 1 + (n - 1) = n by omega]; exact bl_get s n hlt)
      rw [List.drop_drop, show 1 + (n - 1) = n by omega] at hat
      have e34 := u8_eq (s[n]'hlt) 34
      rw [show ((34 : UInt8).toNat : Int) = 34 from rfl] at e34
      rw [e34] at hat
      have HA := Lib.hid hat
      clear hat e34
      by_cases hq : ((((s[n]'hlt).toNat : Int) != 34) = true)
      · have hG2 : ∀ w, Tabs w → Calls Tryd.prog 70 #[.string (s.extract n s.size)] w fun e w' => e = .returned (.tuple #[.int .i64 (good ((bl s).drop n)).1, .int .i64 (good ((bl s).drop n)).2]) ∧ Below w.heap.size w w' := by
          intro w h
          have := good_any (s.extract n s.size) w (by rw [ByteArray.size_extract]; omega) (by rw [ByteArray.size_extract]; omega) h
          rwa [bl_from] at this
        obtain ⟨gk2, gn2, hg2⟩ : ∃ gk2 gn2, good ((bl s).drop n) = (gk2, gn2) := ⟨_, _, rfl⟩
        rw [hg2] at hG2
        simp only at hG2
        have HG2 := Lib.hid hG2; have HE2 := Lib.hid hg2
        clear hG2 hg2
        have hq0 : ((((s[n]'hlt).toNat : Int) == 34) = false) := by
          have := hq; simp only [bne] at this; simpa using this
        have HQ := Lib.hid hq0; clear hq0
        by_cases hp : 0 < gn2
        · go_wp2_with (go_at_call 70; refine (HG2.out _ (HT.out.of_below HB.out)).mono ?_; rintro e w' ⟨rfl, hw⟩)
          go_ret2
          have := HA.out
          rw [HQ.out, HE2.out, if_pos (by simp [hp])] at this
          exact ⟨ret2 rfl (by omega), HB.out.trans (hw.mono HB.out.size)⟩
        · obtain rfl : gn2 = 0 := by omega
          clear hp
          go_wp2_with (go_at_call 70; refine (HG2.out _ (HT.out.of_below HB.out)).mono ?_; rintro e w' ⟨rfl, hw⟩)
          go_roundw
          case rel =>
            have := HA.out
            rw [HQ.out, HE2.out, if_neg (by simp)] at this
            exact ⟨n + 1, by omega, by omega, by omega, by go_num, HB.out.trans (hw.mono HB.out.size)⟩
          case measure => simp [intOf]; omega
      · have hq' : ((((s[n]'hlt).toNat : Int) != 34) = false) := by simpa using hq
        have hq0 : ((((s[n]'hlt).toNat : Int) == 34) = true) := by
          have := hq'; simp only [bne] at this; simpa using this
        have HQ := Lib.hid hq0; clear hq0 hq
        go_wp2_with (fail)
        go_ret2
        have := HA.out
        rw [HQ.out, if_pos (by simp)] at this
        exact ⟨ret2 rfl (by omega), HB.out⟩
    · have hout := badLen_out (t := (bl s).drop 1) (i := n - 1) (by have := H2.out; omega) (by rw [List.length_drop, bl_len]; omega)
      have HO := Lib.hid hout; clear hout
      go_wp2_with (fail)
      go_ret2
      have := HO.out
      exact ⟨ret2 rfl (by omega), HB.out⟩

theorem ret_ib {k : IntKind} {a b : Int} {c d : Bool} (h : a = b) (h' : c = d) : Ending.returned (.tuple #[.int k a, .bool c]) = .returned (.tuple #[.int k b, .bool d]) := by rw [h, h']

/-- single: the kind, and whether the text is one token (the empty text is none). -/
theorem single_any (s : ByteArray) (w : World) (hs : s.size < 4294967281) (hT : Tabs w) :
    Calls Tryd.prog 38 #[.string s] w fun e w' => e = .returned (.tuple #[.int .i64 (nxt (bl s)).1, .bool (decide (0 < s.size) && decide ((nxt (bl s)).2 = s.size))]) ∧ Below w.heap.size w w' := by
  by_cases h0 : 0 < s.size
  · have hne : s.toList.isEmpty = false := by
      rw [Lib.toList_data]
      show (bl s).isEmpty = false
      rw [bl_cons s h0]; rfl
    have hN : ∀ w, Tabs w → Calls Tryd.prog 54 #[.string s] w fun e w' => e = .returned (.tuple #[.int .i64 (nxt (bl s)).1, .int .i64 (nxt (bl s)).2]) ∧ Below w.heap.size w w' := fun w h => next_any s w h0 hs h
    obtain ⟨k, n, hn⟩ : ∃ k n, nxt (bl s) = (k, n) := ⟨_, _, rfl⟩
    rw [hn] at hN ⊢
    simp only at hN ⊢
    have HN := Lib.hid hN; have HT := Lib.hid hT
    clear hN hT hn
    by_cases he : n = s.size
    · have hb : ((n : Int) == (s.size : Int)) = true := by rw [he]; simp
      have HE := Lib.hid he; clear he
      go_enter Tryd.func38, Tryd.ntmps38
      go_wp2_with (go_at_call 54; refine (HN.out _ HT.out).mono ?_; rintro e w' ⟨rfl, hw⟩)
      go_ret2
      exact ⟨ret_ib rfl (by simp [h0, HE.out]), hw⟩
    · have hb : ((n : Int) == (s.size : Int)) = false := by simpa using (by omega : (n : Int) ≠ s.size)
      go_enter Tryd.func38, Tryd.ntmps38
      go_wp2_with (go_at_call 54; refine (HN.out _ HT.out).mono ?_; rintro e w' ⟨rfl, hw⟩)
      go_ret2
      exact ⟨ret_ib rfl (by simp [he]), hw⟩
  · have hz : bl s = [] := List.length_eq_zero_iff.1 (by rw [bl_len]; omega)
    have hne : s.toList.isEmpty = true := by rw [Lib.toList_data]; show (bl s).isEmpty = true; rw [hz]; rfl
    have h0' : decide (0 < s.size) = false := by simpa using h0
    rw [hz, h0', Bool.false_and]
    clear hz h0' h0
    go_enter Tryd.func38, Tryd.ntmps38
    go_wp2_with fail
    go_ret2
    exact ⟨rfl, Below.refl _ _⟩
end Go.Proofs.YtolgoojlpmgblaaDoor

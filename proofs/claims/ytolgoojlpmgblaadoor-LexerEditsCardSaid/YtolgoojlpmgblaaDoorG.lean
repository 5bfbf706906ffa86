/- The functions quoted, good, next and single of package lexer return what the plain model says; old memory is as it was. -/
import Derived.Test.YtolgoojlpmgblaaDoorF
import Derived.WalkKit
import Derived.WalkSpells
import Derived.WalkLawsBesides
import Derived.Outline
import Derived.Lib.Hide
import Derived.Handy
namespace Go.Proofs.YtolgoojlpmgblaaDoor
open Go.RowKit

theorem bl_extract (s : ByteArray) (a b : Nat) : bl (s.extract a b) = ((bl s).drop a).take (b - a) := by
  simp [bl, ByteArray.data_extract]
theorem bl_from (s : ByteArray) (a : Nat) : bl (s.extract a s.size) = (bl s).drop a := by
  rw [bl_extract, List.take_of_length_le]; rw [List.length_drop, bl_len]; exact Nat.le_refl _
theorem bl_to (s : ByteArray) (b : Nat) : bl (s.extract 0 b) = (bl s).take b := by simp [bl_extract]

theorem quoted_any (s : ByteArray) (w : World) (h0 : 0 < s.size) (hs : s.size < 4294967281) :
    Calls Tryd.prog 91 #[.string s] w fun e w' => e = .returned (.int .i64 (quo ((bl s).drop 1))) ∧ Below w.heap.size w w' := by
  have hle := tk_le notQ ((bl s).drop 1)
  rw [List.length_drop, bl_len s] at hle
  have hC : ∀ w, Calls Tryd.prog 75 #[.string (s.extract 1 s.size), .string { data := #[34, 10] }] w fun e w' => e = .returned (.int .i64 (ixQ ((bl s).drop 1))) ∧ Below w.heap.size w w' := by
    intro w
    have := indexAny_q (s.extract 1 s.size) w (by rw [ByteArray.size_extract]; omega)
    rwa [bl_from] at this
  by_cases hlt : tk notQ ((bl s).drop 1) < s.size - 1
  · have e1 : ixQ ((bl s).drop 1) = (tk notQ ((bl s).drop 1) : Nat) := by unfold ixQ; rw [if_pos (by rw [List.length_drop, bl_len s]; exact hlt)]
    obtain ⟨k, hk⟩ : ∃ k, tk notQ ((bl s).drop 1) = k := ⟨_, rfl⟩
    rw [e1, hk] at hC
    rw [hk] at hlt hle
    have hk1 : 1 + k < s.size := by omega
    have hget : ((bl s).drop 1)[k]? = some (s[1 + k]'hk1) := by rw [List.getElem?_drop]; exact bl_get s _ _
    have HC := Lib.hid hC; clear hC e1
    have HG := Lib.hid hget; have HK := Lib.hid hk; clear hget hk
    by_cases hq : s[1 + k]'hk1 = 10
    · have hb : (((s[1 + k]'hk1).toNat : Int) == 10) = true := by rw [hq]; rfl
      have hr : quo ((bl s).drop 1) = 0 := quo_zero _ (by rw [HK.out, HG.out, hq]; decide)
      rw [hr]
      clear hq hr
      go_enter Tryd.func91, Tryd.ntmps91
      go_wp2_with (go_at_call 75; refine (HC.out _).mono ?_; rintro e w' ⟨rfl, hw⟩)
      go_ret
      exact ⟨rfl, hw⟩
    · have hb : (((s[1 + k]'hk1).toNat : Int) == 10) = false := by
        have := u8_eq (s[1 + k]'hk1) 10
        rw [show ((10 : UInt8).toNat : Int) = 10 from rfl] at this
        rw [← this]; simpa using hq
      have hn := tk_stop (p := notQ) (by rw [HK.out]; exact HG.out)
      have hr : quo ((bl s).drop 1) = k + 2 := by
        rw [quo_eq _ (by rw [HK.out, HG.out]; simp [notQ] at hn; exact congrArg some (by by_cases e : s[1 + k]'hk1 = 34; exact e; exact absurd (hn e) hq)), HK.out]
      rw [hr]
      clear hq hr hn
      go_enter Tryd.func91, Tryd.ntmps91
      go_wp2_with (go_at_call 75; refine (HC.out _).mono ?_; rintro e w' ⟨rfl, hw⟩)
      go_ret
      exact ⟨ret_int (by omega), hw⟩
  · have e1 : ixQ ((bl s).drop 1) = -1 := by unfold ixQ; rw [if_neg (by rw [List.length_drop, bl_len s]; exact hlt)]
    have hr : quo ((bl s).drop 1) = 0 := quo_zero _ (by rw [List.getElem?_eq_none (by rw [List.length_drop, bl_len s]; omega)]; simp)
    rw [e1] at hC
    rw [hr]
    have HC := Lib.hid hC; clear hC e1 hr hle hlt
    go_enter Tryd.func91, Tryd.ntmps91
    go_wp2_with (go_at_call 75; refine (HC.out _).mono ?_; rintro e w' ⟨rfl, hw⟩)
    go_ret
    exact ⟨rfl, hw⟩

theorem below_drewN (w : World) (q : Nat) : Below w.heap.size w (w.drewN q) := ⟨rfl, rfl, rfl, Nat.le_refl _, fun _ _ => rfl⟩
theorem bl_cons (s : ByteArray) (h : 0 < s.size) : bl s = s[0] :: (bl s).drop 1 := by
  have := bl_get s 0 h
  match hl : bl s with
  | [] => rw [hl] at this; simp at this
  | c :: t => rw [hl] at this; simp at this; simp [this]
theorem ret2 {k k' : IntKind} {a b c d : Int} (h : a = b) (h' : c = d) : Ending.returned (.tuple #[.int k a, .int k' c]) = .returned (.tuple #[.int k b, .int k' d]) := by rw [h, h']

theorem good_any (s : ByteArray) (w : World) (h0 : 0 < s.size) (hs : s.size < 4294967281) (hT : Tabs w) :
    Calls Tryd.prog 70 #[.string s] w fun e w' => e = .returned (.tuple #[.int .i64 (good (bl s)).1, .int .i64 (good (bl s)).2]) ∧ Below w.heap.size w w' := by
  have hm : s.size ≤ maxLen := by unfold maxLen; omega
  obtain ⟨c, hc⟩ : ∃ c, s[0]'h0 = c := ⟨_, rfl⟩
  have hgc := good_cons c ((bl s).drop 1)
  rw [← hc, ← bl_cons s h0, hc] at hgc
  have e35 := u8_eq c 35
  rw [show ((35 : UInt8).toNat : Int) = 35 from rfl] at e35
  have e34 := u8_eq c 34
  rw [show ((34 : UInt8).toNat : Int) = 34 from rfl] at e34
  rw [e35, e34] at hgc
  clear e35 e34
  have HT := Lib.hid hT; clear hT
  have HG := Lib.hid hgc; clear hgc
  have HM := Lib.hid hm; clear hm
  by_cases h1 : isSp c = true
  · go_enter Tryd.func70, Tryd.ntmps70
    go_wp2_with (first | (go_at_call 71; refine (run_space _ _ HM.out).mono ?_; rintro e w' ⟨rfl, rfl⟩) | (go_at_call 85; refine (space_any _ _).mono ?_; rintro e w' ⟨rfl, rfl⟩))
    go_ret2
    exact ⟨ret2 (by rw [HG.out]; simp [h1]) (by rw [HG.out]; simp [h1]), Below.refl _ _⟩
  have h1' : isSp c = false := by simpa using h1
  clear h1
  by_cases h2 : ((c.toNat : Int) == 35) = true
  · go_enter Tryd.func70, Tryd.ntmps70
    go_wp2_with (first | (go_at_call 71; refine (run_line _ _ HM.out).mono ?_; rintro e w' ⟨rfl, rfl⟩) | (go_at_call 85; refine (space_any _ _).mono ?_; rintro e w' ⟨rfl, rfl⟩))
    go_ret2
    exact ⟨ret2 (by rw [HG.out]; simp [h1', h2]) (by rw [HG.out]; simp [h1', h2]), Below.refl _ _⟩
  have h2' : ((c.toNat : Int) == 35) = false := by simpa using h2
  clear h2
  by_cases h3 : isLo c = true
  · have hn : tk isWo (bl s) ≤ s.size := by have := tk_le isWo (bl s); rwa [bl_len] at this
    have hg1 : good (bl s) = (if isKw ((bl s).take (tk isWo (bl s))) = true then 7 else 2, tk isWo (bl s)) := by rw [HG.out]; simp [h1', h2', h3]
    have hk : ∀ w, Tabs w → Calls Tryd.prog 32 #[.string (s.extract 0 (tk isWo (bl s)))] w fun e w' => e = .returned (.bool (isKw ((bl s).take (tk isWo (bl s))))) ∧ ∃ q, w' = w.drewN q := by
      intro w h
      have := isKeyword_any (s.extract 0 (tk isWo (bl s))) w h
      rwa [bl_to] at this
    rw [hg1]
    have hR : ∀ w, Calls Tryd.prog 71 #[.string s, .func (.func 87) #[] #[]] w fun e w' => e = .returned (.int .i64 (tk isWo (bl s))) ∧ w = w' := fun w => run_word s w HM.out
    obtain ⟨n, hn'⟩ : ∃ n, tk isWo (bl s) = n := ⟨_, rfl⟩
    rw [hn'] at hn hk hR ⊢
    obtain ⟨b, hb⟩ : ∃ b, isKw ((bl s).take n) = b := ⟨_, rfl⟩
    rw [hb] at hk ⊢
    have HK := Lib.hid hk; have HR := Lib.hid hR
    clear hk hR hg1 hn' hb
    cases b with
    | true =>
      go_enter Tryd.func70, Tryd.ntmps70
      go_wp2_with (first | (go_at_call 71; refine (HR.out _).mono ?_; rintro e w' ⟨rfl, rfl⟩) | (go_at_call 32; refine (HK.out _ HT.out).mono ?_; rintro e w' ⟨rfl, q, rfl⟩) | (go_at_call 85; refine (space_any _ _).mono ?_; rintro e w' ⟨rfl, rfl⟩) | (go_at_call 86; refine (lower_any _ _).mono ?_; rintro e w' ⟨rfl, rfl⟩))
      go_ret2
      exact ⟨rfl, below_drewN _ _⟩
    | false =>
      go_enter Tryd.func70, Tryd.ntmps70
      go_wp2_with (first | (go_at_call 71; refine (HR.out _).mono ?_; rintro e w' ⟨rfl, rfl⟩) | (go_at_call 32; refine (HK.out _ HT.out).mono ?_; rintro e w' ⟨rfl, q, rfl⟩) | (go_at_call 85; refine (space_any _ _).mono ?_; rintro e w' ⟨rfl, rfl⟩) | (go_at_call 86; refine (lower_any _ _).mono ?_; rintro e w' ⟨rfl, rfl⟩))
      go_ret2
      exact ⟨rfl, below_drewN _ _⟩
  have h3' : isLo c = false := by simpa using h3
  clear h3
  by_cases h4 : isUp c = true
  · go_enter Tryd.func70, Tryd.ntmps70
    go_wp2_with (first | (go_at_call 71; refine (run_name _ _ HM.out).mono ?_; rintro e w' ⟨rfl, rfl⟩) | (go_at_call 85; refine (space_any _ _).mono ?_; rintro e w' ⟨rfl, rfl⟩) | (go_at_call 86; refine (lower_any _ _).mono ?_; rintro e w' ⟨rfl, rfl⟩) | (go_at_call 88; refine (upper_any _ _).mono ?_; rintro e w' ⟨rfl, rfl⟩))
    go_ret2
    exact ⟨ret2 (by rw [HG.out]; simp [h1', h2', h3', h4]) (by rw [HG.out]; simp [h1', h2', h3', h4]), Below.refl _ _⟩
  have h4' : isUp c = false := by simpa using h4
  clear h4
  by_cases h5 : isDi c = true
  · go_enter Tryd.func70, Tryd.ntmps70
    go_wp2_with (first | (go_at_call 71; refine (run_digit _ _ HM.out).mono ?_; rintro e w' ⟨rfl, rfl⟩) | (go_at_call 85; refine (space_any _ _).mono ?_; rintro e w' ⟨rfl, rfl⟩) | (go_at_call 86; refine (lower_any _ _).mono ?_; rintro e w' ⟨rfl, rfl⟩) | (go_at_call 88; refine (upper_any _ _).mono ?_; rintro e w' ⟨rfl, rfl⟩) | (go_at_call 90; refine (digit_any _ _).mono ?_; rintro e w' ⟨rfl, rfl⟩))
    go_ret2
    exact ⟨ret2 (by rw [HG.out]; simp [h1', h2', h3', h4', h5]) (by rw [HG.out]; simp [h1', h2', h3', h4', h5]), Below.refl _ _⟩
  have h5' : isDi c = false := by simpa using h5
  clear h5
  by_cases h6 : ((c.toNat : Int) == 34) = true
  · go_enter Tryd.func70, Tryd.ntmps70
    go_wp2_with (first | (go_at_call 91; refine (quoted_any _ _ h0 hs).mono ?_; rintro e w' ⟨rfl, hw⟩) | (go_at_call 85; refine (space_any _ _).mono ?_; rintro e w' ⟨rfl, rfl⟩) | (go_at_call 86; refine (lower_any _ _).mono ?_; rintro e w' ⟨rfl, rfl⟩) | (go_at_call 88; refine (upper_any _ _).mono ?_; rintro e w' ⟨rfl, rfl⟩) | (go_at_call 90; refine (digit_any _ _).mono ?_; rintro e w' ⟨rfl, rfl⟩))
    go_ret2
    exact ⟨ret2 (by rw [HG.out]; simp [h1', h2', h3', h4', h5', h6]) (by rw [HG.out]; simp [h1', h2', h3', h4', h5', h6]), hw⟩
  have h6' : ((c.toNat : Int) == 34) = false := by simpa using h6
  clear h6
  go_enter Tryd.func70, Tryd.ntmps70
  go_wp2_with (first | (go_at_call 92; refine (symbol_any _ _ HT.out).mono ?_; rintro e w' ⟨rfl, rfl⟩) | (go_at_call 85; refine (space_any _ _).mono ?_; rintro e w' ⟨rfl, rfl⟩) | (go_at_call 86; refine (lower_any _ _).mono ?_; rintro e w' ⟨rfl, rfl⟩) | (go_at_call 88; refine (upper_any _ _).mono ?_; rintro e w' ⟨rfl, rfl⟩) | (go_at_call 90; refine (digit_any _ _).mono ?_; rintro e w' ⟨rfl, rfl⟩))
  go_ret2
  exact ⟨ret2 (by rw [HG.out]; simp [h1', h2', h3', h4', h5', h6']) (by rw [HG.out]; simp [h1', h2', h3', h4', h5', h6']), Below.refl _ _⟩
end Go.Proofs.YtolgoojlpmgblaaDoor

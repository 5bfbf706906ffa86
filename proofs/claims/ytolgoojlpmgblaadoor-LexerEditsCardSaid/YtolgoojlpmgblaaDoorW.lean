/- The functions Quote and separator of package lexer, as the plain model has them. -/
import Derived.Test.YtolgoojlpmgblaaDoorU
import Derived.Test.YtolgoojlpmgblaaDoorV
import Derived.WalkKit
import Derived.WalkSpells
import Derived.WalkLawsBesides
import Derived.Outline
import Derived.Lib.Hide
import Derived.Handy
namespace Go.Proofs.YtolgoojlpmgblaaDoor
open Go.RowKit

theorem bl_append (a b : ByteArray) : bl (a ++ b) = bl a ++ bl b := by simp [bl]

def quoB (l : Bs) : Bs := if conE l = 0 then 34 :: (l ++ [34]) else []

theorem quote_any (s : ByteArray) (w : World) (hs : s.size < 4294967281) (hT : Tabs w) :
    Calls Tryd.prog 24 #[.string s] w fun e w' => (∃ r : ByteArray, e = .returned (.tuple #[.string r, .int .i64 (conE (bl s))]) ∧ bl r = quoB (bl s)) ∧ Below w.heap.size w w' := by
  have hC : ∀ w, Tabs w → Calls Tryd.prog 41 #[.string s] w fun e w' => e = .returned (.int .i64 (conE (bl s))) ∧ Below w.heap.size w w' := fun w h => contents_any s w hs h
  have hQ : quoB (bl s) = if conE (bl s) = 0 then 34 :: (bl s ++ [34]) else [] := rfl
  rw [hQ]
  obtain ⟨c, hc⟩ : ∃ c, conE (bl s) = c := ⟨_, rfl⟩
  rw [hc] at hC ⊢
  have HC := Lib.hid hC; have HT := Lib.hid hT
  clear hC hT hc hQ
  by_cases h0 : c = 0
  · subst h0
    go_enter Tryd.func24, Tryd.ntmps24
    go_wp2_with (go_at_call 41; refine (HC.out _ HT.out).mono ?_; rintro e w' ⟨rfl, hw⟩)
    go_ret2
    exact ⟨⟨_, rfl, by rw [bl_append, bl_append]; rfl⟩, hw⟩
  · have hb : ((c : Int) != 0) = true := by rw [bne_iff_ne]; omega
    rw [if_neg h0]
    go_enter Tryd.func24, Tryd.ntmps24
    go_wp2_with (go_at_call 41; refine (HC.out _ HT.out).mono ?_; rintro e w' ⟨rfl, hw⟩)
    go_ret2
    exact ⟨⟨_, rfl, rfl⟩, hw⟩

/-- What has to stand between two tokens. -/
def sepB (a b : Bs) : Bs := if (nxt a).1 = 1 ∨ ((nxt a).1 = 8 ∧ a.head? = some 34) then [10] else if (nxt (a ++ b)).2 ≠ a.length then [32] else []
theorem sepB_len (a b : Bs) : (sepB a b).length ≤ 1 := by unfold sepB; split <;> (try split) <;> simp

set_option maxHeartbeats 1000000 in
theorem separator_any (a b : ByteArray) (w : World) (ha : 0 < a.size) (hs : a.size + b.size < 4294967281) (hT : Tabs w) :
    Calls Tryd.prog 39 #[.string a, .string b] w fun e w' => (∃ r : ByteArray, e = .returned (.string r) ∧ bl r = sepB (bl a) (bl b)) ∧ Below w.heap.size w w' := by
  have hS : ∀ w, Tabs w → Calls Tryd.prog 38 #[.string a] w fun e w' => (∃ bb : Bool, e = .returned (.tuple #[.int .i64 (nxt (bl a)).1, .bool bb])) ∧ Below w.heap.size w w' := fun w h => (single_any a w (by omega) h).mono fun e w' ⟨h1, h2⟩ => ⟨⟨_, h1⟩, h2⟩
  have hN : ∀ w, Tabs w → Calls Tryd.prog 54 #[.string (a ++ b)] w fun e w' => (∃ kk : Nat, e = .returned (.tuple #[.int .i64 kk, .int .i64 (nxt (bl a ++ bl b)).2])) ∧ Below w.heap.size w w' := by
    intro w h
    have := next_any (a ++ b) w (by rw [ByteArray.size_append]; omega) (by rw [ByteArray.size_append]; omega) h
    rw [bl_append] at this
    exact this.mono fun e w' ⟨h1, h2⟩ => ⟨⟨_, h1⟩, h2⟩
  have hSep : sepB (bl a) (bl b) = if (nxt (bl a)).1 = 1 ∨ ((nxt (bl a)).1 = 8 ∧ a[0]'ha = 34) then [10] else if (nxt (bl a ++ bl b)).2 ≠ a.size then [32] else [] := by
    unfold sepB
    rw [bl_len, show (bl a).head? = some (a[0]'ha) by rw [bl_cons a ha]; rfl]
    simp
  rw [hSep]
  obtain ⟨k, hk⟩ : ∃ k, (nxt (bl a)).1 = k := ⟨_, rfl⟩
  obtain ⟨n, hn⟩ : ∃ n, (nxt (bl a ++ bl b)).2 = n := ⟨_, rfl⟩
  rw [hk] at hS ⊢
  rw [hn] at hN ⊢
  have HS := Lib.hid hS; have HN := Lib.hid hN; have HT := Lib.hid hT
  clear hS hN hT hSep hk hn
  have e34 := u8_eq (a[0]'ha) 34
  rw [show ((34 : UInt8).toNat : Int) = 34 from rfl] at e34
  by_cases h1 : k = 1
  · subst h1
    clear e34
    go_enter Tryd.func39, Tryd.ntmps39
    go_wp2_with (go_at_call 38; refine (HS.out _ HT.out).mono ?_; rintro e w' ⟨⟨bb, rfl⟩, hw⟩)
    all_goals (go_ret; exact ⟨⟨_, rfl, rfl⟩, hw⟩)
  have q1 : ((k : Int) == 1) = false := by simpa using (by omega : ¬ (k : Int) = 1)
  have go2 : ∀ (hx : ¬ (k = 1 ∨ (k = 8 ∧ a[0]'ha = 34))) (q8 : ((k : Int) == 8) = false ∨ (((k : Int) == 8) = true ∧ (((a[0]'ha).toNat : Int) == 34) = false)),
      Calls Tryd.prog 39 #[.string a, .string b] w fun e w' => (∃ r : ByteArray, e = .returned (.string r) ∧ bl r = if k = 1 ∨ (k = 8 ∧ a[0]'ha = 34) then [10] else if n ≠ a.size then [32] else []) ∧ Below w.heap.size w w' := by
    intro hx q8
    rw [if_neg hx]
    clear e34 hx
    by_cases he : n = a.size
    · have qn : ((n : Int) != (a.size : Int)) = false := by simpa using (by omega : (n : Int) = a.size)
      rw [if_neg (by simpa using he)]
      clear he
      rcases q8 with q8 | ⟨q8, q9⟩
      · go_enter Tryd.func39, Tryd.ntmps39
        go_wp2_with (first | (go_at_call 38; refine (HS.out _ HT.out).mono ?_; rintro e w' ⟨⟨bb, rfl⟩, hw⟩) | (go_at_call 54; refine (HN.out _ (HT.out.of_below hw)).mono ?_; rintro e w2 ⟨⟨kk, rfl⟩, hw2⟩))
        go_ret
        exact ⟨⟨_, rfl, rfl⟩, hw.trans (hw2.mono hw.size)⟩
      · go_enter Tryd.func39, Tryd.ntmps39
        go_wp2_with (first | (go_at_call 38; refine (HS.out _ HT.out).mono ?_; rintro e w' ⟨⟨bb, rfl⟩, hw⟩) | (go_at_call 54; refine (HN.out _ (HT.out.of_below hw)).mono ?_; rintro e w2 ⟨⟨kk, rfl⟩, hw2⟩))
        go_ret
        exact ⟨⟨_, rfl, rfl⟩, hw.trans (hw2.mono hw.size)⟩
    · have qn : ((n : Int) != (a.size : Int)) = true := by rw [bne_iff_ne]; omega
      rw [if_pos he]
      clear he
      rcases q8 with q8 | ⟨q8, q9⟩
      · go_enter Tryd.func39, Tryd.ntmps39
        go_wp2_with (first | (go_at_call 38; refine (HS.out _ HT.out).mono ?_; rintro e w' ⟨⟨bb, rfl⟩, hw⟩) | (go_at_call 54; refine (HN.out _ (HT.out.of_below hw)).mono ?_; rintro e w2 ⟨⟨kk, rfl⟩, hw2⟩))
        go_ret
        exact ⟨⟨_, rfl, rfl⟩, hw.trans (hw2.mono hw.size)⟩
      · go_enter Tryd.func39, Tryd.ntmps39
        go_wp2_with (first | (go_at_call 38; refine (HS.out _ HT.out).mono ?_; rintro e w' ⟨⟨bb, rfl⟩, hw⟩) | (go_at_call 54; refine (HN.out _ (HT.out.of_below hw)).mono ?_; rintro e w2 ⟨⟨kk, rfl⟩, hw2⟩))
        go_ret
        exact ⟨⟨_, rfl, rfl⟩, hw.trans (hw2.mono hw.size)⟩
  by_cases h8 : k = 8
  · by_cases h34 : a[0]'ha = 34
    · have q8 : ((k : Int) == 8) = true := by simpa using (by omega : (k : Int) = 8)
      have q9 : (((a[0]'ha).toNat : Int) == 34) = true := by rw [← e34]; simpa using h34
      rw [if_pos (.inr ⟨h8, h34⟩)]
      clear e34 go2 h8 h34
      go_enter Tryd.func39, Tryd.ntmps39
      go_wp2_with (go_at_call 38; refine (HS.out _ HT.out).mono ?_; rintro e w' ⟨⟨bb, rfl⟩, hw⟩)
      go_ret
      exact ⟨⟨_, rfl, rfl⟩, hw⟩
    · exact go2 (by rintro (h | h); exact h1 h; exact h34 h.2) (.inr ⟨by simpa using (by omega : (k : Int) = 8), by rw [← e34]; simpa using h34⟩)
  · exact go2 (by rintro (h | h); exact h1 h; exact h8 h.1) (.inl (by simpa using (by omega : ¬ (k : Int) = 8)))
end Go.Proofs.YtolgoojlpmgblaaDoor

/- position.Lines, At and Offset at a place that is no inner byte of a character. -/
import Derived.Test.YtolgoojlpmgblaaDoorBP
import Derived.Test.YtolgoojlpmgblaaDoorShelfS
import Derived.Test.YtolgoojlpmgblaaDoorBC
import Derived.Lib.OthersKept
namespace Go.Proofs.YtolgoojlpmgblaaDoor
open Go.RowKit

theorem units_any (r : Nat) (w : World) (hr : r ≤ 2147483647) : Calls Tryd.prog 45 #[.int .i32 r] w fun e w' => e = .returned (.int .i64 (un r)) ∧ w = w' := by
  by_cases h : 65536 ≤ r
  · have e : un r = 2 := if_pos h
    have hq : decide ((65536 : Int) ≤ (r : Int)) = true := by rw [decide_eq_true_eq]; omega
    rw [e]
    clear h e
    go_enter Tryd.func45, Tryd.ntmps45
    go_wp2
    go_ret
    exact ⟨rfl, rfl⟩
  · have e : un r = 1 := if_neg h
    have hq : decide ((65536 : Int) ≤ (r : Int)) = false := by rw [decide_eq_false_iff_not]; omega
    rw [e]
    clear h e
    go_enter Tryd.func45, Tryd.ntmps45
    go_wp2
    go_ret
    exact ⟨rfl, rfl⟩

theorem info3 : (Tryd.prog.info? 3).map (fun i => (i.zero, i.size, i.bytes)) = some (some (.int .i64 0), 1, 8) := by kernel_rfl
/-- Numbers as values of the model. -/
def nvs (l : List Nat) : List Value := l.map fun (n : Nat) => .int .i64 (n : Int)
theorem nvs_length (l : List Nat) : (nvs l).length = l.length := by simp [nvs]
theorem nvs_snoc (l : List Nat) (n : Nat) : nvs (l ++ [n]) = nvs l ++ [.int .i64 (n : Int)] := by simp [nvs]

set_option maxHeartbeats 1000000 in
theorem lines_any (s : ByteArray) (w : World) (hs : s.size ≤ 1000000) :
    Calls Tryd.prog 43 #[.string s] w fun e w' => (∃ v, e = .returned v ∧ w'.ownsRow w.heap.size 3 1 v (lns (bl s) s.size).length (nvs (lns (bl s) s.size))) ∧ Below w.heap.size w w' := by
  obtain ⟨i0, hi, hz0, hz1, hz2⟩ := info_parts info3
  go_enter Tryd.func43, Tryd.ntmps43
  go_wp2_with fail
  go_loopw [3, 8] (fun o i wr => ∃ k : Nat, k ≤ s.size ∧ i = .int .i64 k ∧ wr.ownsRow w.heap.size 3 1 o (lns (bl s) k).length (nvs (lns (bl s) k)) ∧ Below w.heap.size w wr) (fun _ i _ => s.size - (intOf i).toNat)
  case atStart =>
    refine ⟨0, by omega, rfl, ⟨rfl, .inr ⟨w.heap.size, 1, #[.int .i64 0], rfl, Nat.le_refl _, World.alloc_heap_new w _, Nat.le_refl _, by unfold maxLen; omega, rfl, rfl⟩⟩, (Below.refl _ _).alloc (Nat.le_refl _) _⟩
  case round =>
    obtain ⟨k, hk, rfl, hown, hB⟩ := hrel
    have HO := Lib.hid hown; have HB := Lib.hid hB
    clear hown hB
    have HLen := Lib.hid (lns_len (bl s) k)
    by_cases hlt : k < s.size
    · have hb := bl_get s k hlt
      have hd : (bl s).getD k 0 = s[k] := by rw [List.getD_eq_getElem?_getD, hb]; rfl
      have HS := Lib.hid (lns_succ (bl s) k)
      by_cases h10 : s[k] = 10
      · have e : lns (bl s) (k + 1) = lns (bl s) k ++ [k + 1] := by rw [HS.out, if_pos (by rw [hd]; exact h10)]
        have HE := Lib.hid e
        have hq : ((s[k].toNat : Int) == 10) = true := by rw [h10]; rfl
        have hi1 : IntKind.i64.wrap ((k : Int) + 1) = (k : Int) + 1 := IntWalk.i64_in _ (by omega)
        clear hb hd h10 e
        go_wp2_with (at_builtin; refine wpList_append_own _ rfl _ _ 22 rfl w.heap.size 3 i0 (.int .i64 0) 1 8 Tryd.underlying22 hi hz0 hz1 hz2 rfl (by decide) _ _ _ rfl (HO.out.alloc _) ⟨wr.heap.size, 0, none⟩ 1 1 [.int .i64 ((k : Int) + 1)] rfl rfl (cells_new _ _ _) (by simp [Value.oneCell']) (by have := HLen.out; unfold maxLen; omega) (by have := HLen.out; omega) (by have := HB.out.size; simp; omega) ?_; intro v' w2 hown' hgrow _)
        refine ⟨⟨k + 1, by omega, by go_num, ?_, ?_⟩, by simp [intOf]; omega⟩
        · rw [HE.out, nvs_snoc, List.length_append]; exact hown'
        · exact (HB.out.alloc HB.out.size _).grown hgrow (by have := HB.out.size; simp; omega) (fun j e => (HO.out.lt j e).1)
      · have e : lns (bl s) (k + 1) = lns (bl s) k := by rw [HS.out, if_neg (by rw [hd]; exact h10)]; simp
        have HE := Lib.hid e
        have hq : ((s[k].toNat : Int) == 10) = false := by
          rw [← Bool.not_eq_true, beq_iff_eq]
          intro e
          apply h10
          apply UInt8.toNat_inj.1
          have : s[k].toNat = 10 := by omega
          rw [this]; rfl
        clear hb hd h10 e
        go_wp2_with fail
        exact ⟨⟨k + 1, by omega, by go_num, by rw [HE.out]; exact HO.out, HB.out⟩, by simp [intOf]; omega⟩
    · obtain rfl : k = s.size := by omega
      go_wp2_with fail
      go_ret
      exact ⟨⟨_, rfl, HO.out⟩, HB.out⟩

/-- Place n of s: in line c, which begins at a; J characters behind that. -/
structure At (s : ByteArray) (n c a J : Nat) : Prop where
  le : n ≤ s.size
  count : (lns (bl s) s.size).countP (fun y => decide (y ≤ n)) = c + 1
  lt : c < (lns (bl s) s.size).length
  get : (lns (bl s) s.size)[c]? = some a
  ale : a ≤ n
  line : ∀ i, a ≤ i → i < n → (bl s).getD i 0 ≠ 10
  stop : StopB (s.extract a s.size) (n - a)
  reach : (posn (s.extract a s.size) J).1 = n - a
theorem at_pos (s : ByteArray) (n c a J : Nat) (h : At s n c a J) (j : Nat) (hj : j ≤ J) : (posn (s.extract a s.size) j).1 ≤ n - a ∧ (j < J → (posn (s.extract a s.size) j).1 < n - a ∧ (posn (s.extract a s.size) j).2 < (posn (s.extract a s.size) J).2) := by
  have hr := h.reach
  rcases Nat.lt_or_eq_of_le hj with h1 | h1
  · have := posn_lt (s.extract a s.size) h1
    exact ⟨by omega, fun _ => ⟨by omega, this.2⟩⟩
  · subst h1
    exact ⟨by omega, fun h => by omega⟩

theorem pairwise_map_le {L : List Nat} (h : L.Pairwise (· < ·)) (i j : Nat) (hij : i ≤ j) (hj : j < L.length) : L[i]'(by omega) ≤ L[j] := by
  rcases Nat.lt_or_eq_of_le hij with h1 | h1
  · exact Nat.le_of_lt (List.pairwise_iff_getElem.1 h i j (by omega) hj h1)
  · subst h1; exact Nat.le_refl _

theorem search_any (L : List Nat) (hp : L.Pairwise (· < ·)) (n : Nat) (g cap : Nat) (w : World) (hc : ∀ (i y : Nat), L[i]? = some y → w.cell? ⟨g, i, none⟩ = some (.int .i64 (y : Int))) (hg : g < w.heap.size) (hl : L.length ≤ 1000000) :
    Calls Tryd.prog 44 #[.slice (some ⟨g, 0, none⟩) L.length cap, .int .i64 ((n : Int) + 1)] w fun e w' => e = .returned (.int .i64 (L.countP (fun y => decide (y ≤ n)) : Nat)) ∧ Below w.heap.size w w' := by
  obtain ⟨d, hd⟩ : ∃ d : Array Int, d = (L.map fun (y : Nat) => (y : Int)).toArray := ⟨_, rfl⟩
  have hsz : d.size = L.length := by rw [hd]; simp
  have hget : ∀ i (h : i < L.length), d[i]! = (L[i] : Int) := by
    intro i h
    rw [getElem!_pos d i (by omega)]
    simp [hd]
  have hs := Tryd.sort_SearchInts g 0 cap d ((n : Int) + 1) w
    (fun i hi => by
      rw [hget i (by omega), Nat.zero_add]
      exact hc i _ (List.getElem?_eq_getElem (by omega)))
    hg (by omega)
    (fun i j hij hj hi => by
      rw [hget i (by omega)] at hi
      rw [hget j (by omega)]
      have := pairwise_map_le hp i j hij (by omega)
      simp only [decide_eq_true_eq] at hi ⊢
      omega)
  rw [hsz] at hs
  refine hs.mono ?_
  rintro e w' ⟨rfl, hb⟩
  refine ⟨?_, hb⟩
  congr 3
  rw [hd]
  simp only [List.countP_map]
  apply List.countP_congr
  intro y _
  simp
  omega
end Go.Proofs.YtolgoojlpmgblaaDoor

/- IsKeyword of package lexer says whether a word is one of the listed keywords, under what the table of keywords holds. -/
import Derived.Test.YtolgoojlpmgblaaDoorC
import Derived.WalkKit
import Derived.WalkSpells
import Derived.Outline
namespace Go.Proofs.YtolgoojlpmgblaaDoor
open Go.RowKit

theorem bsGo_agree (f g : Nat → Bool) : ∀ (n lo hi : Nat), (∀ t, t < hi → f t = g t) → Lib.bsGo f n lo hi = Lib.bsGo g n lo hi
  | 0, _, _, _ => rfl
  | n + 1, lo, hi, h => by
    unfold Lib.bsGo
    by_cases hl : lo < hi
    · rw [if_pos hl, if_pos hl, h ((lo + hi) / 2) (by omega), bsGo_agree f g n _ hi h, bsGo_agree f g n lo _ (fun t ht => h t (by omega))]
    · rw [if_neg hl, if_neg hl]

/-- The model's order of strings is the lexical order of the lists of bytes. -/
theorem bytesLess_lt : ∀ (x y : List UInt8), Op.bytesLess x y = decide (x < y)
  | [], [] => by simp [Op.bytesLess]
  | _ :: _, [] => by simp [Op.bytesLess]
  | [], _ :: _ => by simp [Op.bytesLess]
  | a :: x, b :: y => by
    rw [Op.bytesLess, bytesLess_lt x y]
    simp only [List.cons_lt_cons_iff]
    by_cases h1 : a < b <;> by_cases h2 : a = b <;> by_cases h3 : x < y <;> simp [h1, h2, h3]

theorem split_at (f : Nat → Bool) (n : Nat) (hd : ∀ i j, i < j → j < n → f j = true → f i = true) : ∃ k, k ≤ n ∧ (∀ t, t < k → f t = true) ∧ (∀ t, k ≤ t → t < n → f t = false) := by
  induction n with
  | zero => exact ⟨0, Nat.le_refl _, fun t h => by omega, fun t _ h => by omega⟩
  | succ n ih =>
    obtain ⟨k, h1, h2, h3⟩ := ih (fun i j hij hj => hd i j hij (by omega))
    cases hn : f n with
    | true => exact ⟨n + 1, Nat.le_refl _, fun t ht => by
        by_cases e : t = n
        · rw [e]; exact hn
        · exact hd t n (by omega) (by omega) hn, fun t _ _ => by omega⟩
    | false => exact ⟨k, by omega, h2, fun t ht htn => by
        by_cases e : t = n
        · rw [e]; exact hn
        · exact h3 t ht (by omega)⟩

theorem bs_ok (S : Nat → Bs) (n : Nat) (x : Bs) (hs : ∀ i j, i < j → j < n → S i < S j) (k : Nat) (hk : Lib.bsGo (fun t => Op.bytesLess (S t) x) n 0 n = k) :
    (k < n ∧ S k = x) ↔ ∃ t, t < n ∧ S t = x := by
  obtain ⟨k0, h1, h2, h3⟩ := split_at (fun t => Op.bytesLess (S t) x) n (fun i j hij hj h => by
    simp only [bytesLess_lt, decide_eq_true_eq] at h ⊢
    exact List.lt_trans (hs i j hij hj) h)
  have e : Lib.bsGo (fun t => Op.bytesLess (S t) x) n 0 n = k0 := by
    rw [bsGo_agree _ (fun t => decide (t < n) && Op.bytesLess (S t) x) n 0 n (fun t ht => by simp [ht])]
    exact Lib.bsGo_spec _ k0 (fun t ht => by simp [show t < n by omega, h2 t ht]) (fun t ht => by
      by_cases htn : t < n
      · simp [h3 t ht htn]
      · simp [htn]) n 0 n (by omega) (by omega) h1
  rw [hk] at e; subst e
  constructor
  · rintro ⟨a, b⟩; exact ⟨k, a, b⟩
  · rintro ⟨t, ht, rfl⟩
    have hkt : k = t := by
      rcases Nat.lt_trichotomy k t with h | h | h
      · have := h3 k (Nat.le_refl _) (by omega)
        simp only [bytesLess_lt, decide_eq_false_iff_not] at this
        exact absurd (hs k t h ht) this
      · exact h
      · have := h2 t h
        simp only [bytesLess_lt, decide_eq_true_eq] at this
        exact absurd this (List.lt_irrefl _)
    subst hkt; exact ⟨ht, rfl⟩

theorem kws_sorted : ∀ i j, i < j → j < 26 → kws.getD i [] < kws.getD j [] := by
  have : ∀ j, j < 26 → ∀ i, i < j → kws.getD i [] < kws.getD j [] := by decide
  exact fun i j h1 h2 => this j h2 i h1
theorem isKw_iff (x : Bs) : isKw x = true ↔ ∃ t, t < 26 ∧ kws.getD t [] = x := by
  have hl : kws.length = 26 := rfl
  unfold isKw
  rw [List.contains_iff_mem]
  constructor
  · intro h
    obtain ⟨j, hj, e⟩ := List.getElem_of_mem h
    exact ⟨j, by omega, by rw [List.getD_eq_getElem?_getD, List.getElem?_eq_getElem hj]; exact e⟩
  · rintro ⟨t, ht, e⟩
    rw [List.getD_eq_getElem?_getD, List.getElem?_eq_getElem (by omega)] at e
    rw [← e]; exact List.getElem_mem _

theorem ba_ext {a b : ByteArray} : a = b ↔ bl a = bl b := by
  constructor
  · rintro rfl; rfl
  · intro h
    apply ByteArray.ext
    exact Array.toList_inj.1 h

theorem kw_search (s : ByteArray) (w : World) (hT : Tabs w) (c : Nat) :
    Calls Tryd.prog 48 #[.slice (some ⟨0, 0, none⟩) 26 c, .string s] w fun e w' => (∃ n : Int, e = .returned (.tuple #[.int .i64 n, .bool (isKw (bl s))])) ∧ ∃ q, w' = w.drewN q := by
  refine (Any2.slices_BinarySearch_string Tryd.laysBS 0 0 26 c (fun t => ⟨(kws.getD t []).toArray⟩) s w (by omega) (fun j hj => ?_)).mono ?_
  · have hl : kws.length = 26 := rfl
    refine hT.kws j _ ?_
    simp only [svs, List.getElem?_map, List.getElem?_eq_getElem (show j < kws.length by omega), Option.map_some, List.getD_eq_getElem?_getD, Option.getD_some]
    rfl
  · rintro e w' ⟨rfl, hq⟩
    refine ⟨⟨((Lib.bsGo (fun t => Op.bytesLess (ByteArray.toList ⟨(kws.getD t []).toArray⟩) s.toList) 26 0 26 : Nat) : Int), ?_⟩, hq⟩
    simp only [ByteArray.toList_mk]
    rw [Lib.toList_data]
    have := bs_ok (fun t => kws.getD t []) 26 (bl s) kws_sorted _ rfl
    congr 6
    rw [Bool.eq_iff_iff, decide_eq_true_iff, isKw_iff, ← this]
    simp only [ba_ext, bl_mk]

theorem isKeyword_any (s : ByteArray) (w : World) (hT : Tabs w) :
    Calls Tryd.prog 32 #[.string s] w fun e w' => e = .returned (.bool (isKw (bl s))) ∧ ∃ q, w' = w.drewN q := by
  have HK := Lib.hid (fun c => kw_search s w hT c)
  go_enter Tryd.func32, Tryd.ntmps32
  go_wp2_with (go_at_call 48; refine (HK.out _).mono ?_; rintro e w' ⟨⟨n, rfl⟩, q, rfl⟩)
  go_ret
  exact ⟨rfl, _, rfl⟩
end Go.Proofs.YtolgoojlpmgblaaDoor

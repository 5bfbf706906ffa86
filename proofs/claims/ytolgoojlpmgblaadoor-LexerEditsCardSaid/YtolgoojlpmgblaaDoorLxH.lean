/- Plain laws for positions: the steps of a range over a string, the beginnings of lines. -/
import Derived.Test.YtolgoojlpmgblaaDoorLxE
import Derived.Test.YtolgoojlpmgblaaDoorF
namespace Go.Proofs.YtolgoojlpmgblaaDoor
open Go.RowKit

/-- The UTF-16 units of a character. -/
def un (r : Nat) : Nat := if 65536 ≤ r then 2 else 1
theorem un_pos (r : Nat) : 1 ≤ un r ∧ un r ≤ 2 := by unfold un; split <;> omega

/-- Place and units behind j characters. -/
def posn (t : ByteArray) : Nat → Nat × Nat
  | 0 => (0, 0)
  | j + 1 => ((posn t j).1 + (Utf8.decode t (posn t j).1).2, (posn t j).2 + un (Utf8.decode t (posn t j).1).1)

theorem dec_width (t : ByteArray) (p : Nat) : 1 ≤ (Utf8.decode t p).2 := Lib.width_pos t p

theorem posn_mono (t : ByteArray) (j d : Nat) : (posn t j).1 + d ≤ (posn t (j + d)).1 ∧ (posn t j).2 + d ≤ (posn t (j + d)).2 := by
  induction d with
  | zero => exact ⟨Nat.le_refl _, Nat.le_refl _⟩
  | succ d ih =>
    have h1 := dec_width t (posn t (j + d)).1
    have h2 := un_pos (Utf8.decode t (posn t (j + d)).1).1
    have e : posn t (j + (d + 1)) = ((posn t (j + d)).1 + (Utf8.decode t (posn t (j + d)).1).2, (posn t (j + d)).2 + un (Utf8.decode t (posn t (j + d)).1).1) := rfl
    rw [e]
    show (posn t j).1 + (d + 1) ≤ (posn t (j + d)).1 + _ ∧ (posn t j).2 + (d + 1) ≤ (posn t (j + d)).2 + _
    omega
theorem posn_lt (t : ByteArray) {j k : Nat} (h : j < k) : (posn t j).1 < (posn t k).1 ∧ (posn t j).2 < (posn t k).2 := by
  have := posn_mono t j (k - j)
  rw [Nat.add_sub_cancel' (by omega)] at this
  omega
theorem posn_le2 (t : ByteArray) (j : Nat) : (posn t j).2 ≤ 2 * (posn t j).1 := by
  induction j with
  | zero => simp [posn]
  | succ j ih =>
    have h1 := dec_width t (posn t j).1
    have h2 := un_pos (Utf8.decode t (posn t j).1).1
    simp only [posn]
    omega

/-- n is the beginning or the end of t, or lies ahead of an ASCII byte, or behind one. -/
def StopB (t : ByteArray) (n : Nat) : Prop := n = 0 ∨ n = t.size ∨ (∃ h : n < t.size, (t[n]'h).toNat < 128) ∨ (∃ m, ∃ h : m < t.size, n = m + 1 ∧ (t[m]'h).toNat < 128)

theorem step_stop (t : ByteArray) (p n : Nat) (hp : p < n) (hn : n ≤ t.size) (h : StopB t n) : p + (Utf8.decode t p).2 ≤ n := by
  have hpt : p < t.size := by omega
  by_cases ha : (t[p]'hpt).toNat < 128
  · rw [decode_ascii t p hpt ha]; show p + 1 ≤ n; omega
  · obtain ⟨_, h2, h3⟩ := decode_skip t p hpt (by omega)
    apply Nat.le_of_not_lt
    intro hlt
    rcases h with h | h | ⟨h, h4⟩ | ⟨m, h, h4, h5⟩
    · omega
    · omega
    · have := h3 (n - p) (by omega) (by omega)
      have e : p + (n - p) = n := by omega
      simp only [e] at this; omega
    · have := h3 (m - p) (by omega) (by omega)
      have e : p + (m - p) = m := by omega
      simp only [e] at this; omega

theorem posn_reach (t : ByteArray) (n : Nat) (hn : n ≤ t.size) (h : StopB t n) : ∃ J, (posn t J).1 = n := by
  have key : ∀ d j, (posn t j).1 ≤ n → n - (posn t j).1 ≤ d → ∃ J, (posn t J).1 = n := by
    intro d
    induction d with
    | zero => intro j h1 h2; exact ⟨j, by omega⟩
    | succ d ih =>
      intro j h1 h2
      by_cases he : (posn t j).1 = n
      · exact ⟨j, he⟩
      · have hs := step_stop t (posn t j).1 n (by omega) hn h
        have hw := dec_width t (posn t j).1
        refine ih (j + 1) ?_ ?_ <;> simp only [posn] <;> omega
  exact key n 0 (Nat.zero_le _) (by simp [posn])

theorem decode_ten (t : ByteArray) (p : Nat) (h : p < t.size) (hd : (Utf8.decode t p).1 = 10) : (t[p]'h).toNat = 10 := by
  by_cases ha : (t[p]'h).toNat < 128
  · rw [decode_ascii t p h ha] at hd; exact hd
  · have := (decode_high t p h (by omega)).1; omega

/-! ### The beginnings of lines. -/
def lns (l : Bs) (k : Nat) : List Nat := 0 :: ((List.range k).filter fun i => l.getD i 0 == 10).map (· + 1)

theorem lns_zero (l : Bs) : lns l 0 = [0] := rfl
theorem lns_succ (l : Bs) (k : Nat) : lns l (k + 1) = lns l k ++ if l.getD k 0 = 10 then [k + 1] else [] := by
  unfold lns
  rw [List.range_succ, List.filter_append, List.map_append, List.cons_append]
  congr 2
  simp only [List.filter_cons, List.filter_nil, beq_iff_eq]
  by_cases h : l.getD k 0 = 10
  · rw [if_pos h, if_pos h]; rfl
  · rw [if_neg h, if_neg h]; rfl
theorem lns_len (l : Bs) (k : Nat) : (lns l k).length ≤ k + 1 := by
  unfold lns
  have := List.length_filter_le (fun i => l.getD i 0 == 10) (List.range k)
  simp at this ⊢; exact this
theorem lns_le (l : Bs) (k : Nat) : ∀ y ∈ lns l k, y ≤ k := by
  intro y hy
  unfold lns at hy
  simp only [List.mem_cons, List.mem_map, List.mem_filter, List.mem_range] at hy
  rcases hy with rfl | ⟨i, ⟨h, _⟩, rfl⟩
  · exact Nat.zero_le _
  · omega
theorem lns_sorted (l : Bs) (k : Nat) : (lns l k).Pairwise (· < ·) := by
  unfold lns
  refine List.pairwise_cons.2 ⟨?_, ?_⟩
  · intro y hy
    simp only [List.mem_map] at hy
    obtain ⟨i, _, rfl⟩ := hy
    omega
  · refine List.Pairwise.map (R := (· < ·)) _ (fun a b h => by omega) ?_
    exact List.Pairwise.filter _ List.pairwise_lt_range
theorem lns_mem (l : Bs) (k i : Nat) (h : i < k) (hi : l.getD i 0 = 10) : i + 1 ∈ lns l k := by
  unfold lns
  refine List.mem_cons_of_mem _ (List.mem_map.2 ⟨i, List.mem_filter.2 ⟨List.mem_range.2 h, by rw [beq_iff_eq]; exact hi⟩, rfl⟩)

theorem count_sorted (n : Nat) : ∀ L : List Nat, L.Pairwise (· < ·) → ∀ i y, L[i]? = some y → (i < L.countP (fun y => decide (y ≤ n)) ↔ y ≤ n)
  | [], _, i, y, h => by simp at h
  | a :: L, hp, i, y, h => by
    obtain ⟨h1, h2⟩ := List.pairwise_cons.1 hp
    by_cases ha : a ≤ n
    · rw [List.countP_cons_of_pos (by simpa using ha)]
      cases i with
      | zero => simp at h; subst h; simp [ha]
      | succ i =>
        have := count_sorted n L h2 i y (by simpa using h)
        omega
    · have hz : L.countP (fun y => decide (y ≤ n)) = 0 := by
        rw [List.countP_eq_zero]
        intro b hb
        have := h1 b hb
        simp; omega
      rw [List.countP_cons_of_neg (by simpa using ha), hz]
      have hy : a ≤ y := by
        cases i with
        | zero => simp at h; omega
        | succ i => exact Nat.le_of_lt (h1 y (List.mem_of_getElem? (i := i) (by simpa using h)))
      omega

/-- The line of a place. -/
theorem line_law (l : Bs) (n : Nat) (hn : n ≤ l.length) : ∃ c a, (lns l l.length).countP (fun y => decide (y ≤ n)) = c + 1 ∧ c < (lns l l.length).length ∧ (lns l l.length)[c]? = some a ∧ a ≤ n ∧ ∀ i, a ≤ i → i < n → l.getD i 0 ≠ 10 := by
  have hs := lns_sorted l l.length
  have h0 := (count_sorted n _ hs 0 0 (by simp [lns])).2 (Nat.zero_le _)
  obtain ⟨c, hc⟩ : ∃ c, (lns l l.length).countP (fun y => decide (y ≤ n)) = c + 1 := ⟨_, (Nat.succ_pred_eq_of_pos h0).symm⟩
  have hcl : c < (lns l l.length).length := by
    have := List.countP_le_length (p := fun y => decide (y ≤ n)) (l := lns l l.length)
    omega
  obtain ⟨a, ha⟩ : ∃ a, (lns l l.length)[c]? = some a := ⟨_, List.getElem?_eq_getElem hcl⟩
  refine ⟨c, a, hc, hcl, ha, (count_sorted n _ hs c a ha).1 (by omega), ?_⟩
  intro i h1 h2 h3
  obtain ⟨k, hk⟩ := List.getElem?_of_mem (lns_mem l l.length i (by omega) h3)
  have hlt := (count_sorted n _ hs k (i + 1) hk).2 (by omega)
  have hkc : k ≤ c := by omega
  rcases Nat.lt_or_eq_of_le hkc with h | h
  · obtain ⟨hk1, hk2⟩ := List.getElem?_eq_some_iff.1 hk
    obtain ⟨hc1, hc2⟩ := List.getElem?_eq_some_iff.1 ha
    have := List.pairwise_iff_getElem.1 hs k c hk1 hc1 h
    omega
  · subst h
    rw [ha] at hk
    simp at hk
    omega
end Go.Proofs.YtolgoojlpmgblaaDoor

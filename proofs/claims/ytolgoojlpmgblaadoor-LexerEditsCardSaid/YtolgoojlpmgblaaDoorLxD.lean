/- Plain laws: the reference's reckoning of characters is the decoder's; Unquote inverts Quote. -/
import Derived.Test.YtolgoojlpmgblaaDoorLxC
import Derived.Test.YtolgoojlpmgblaaDoorU
import Derived.Lib.TrimUEq
import Derived.Lib.ValidLaws
namespace Go.Proofs.YtolgoojlpmgblaaDoor
def loN (c : Nat) : Nat := if c = 224 then 160 else if c = 240 then 144 else 128
def hiN (c : Nat) : Nat := if c = 237 then 159 else if c = 244 then 143 else 191
/-- Bytes and units of the character at the beginning, as the reference reckons them. -/
def chN (n b0 b1 b2 b3 : Nat) : Nat × Nat :=
  if 194 ≤ b0 ∧ b0 ≤ 223 ∧ (1 < n ∧ 128 ≤ b1 ∧ b1 ≤ 191) then (2, 1)
  else if 224 ≤ b0 ∧ b0 ≤ 239 ∧ (1 < n ∧ loN b0 ≤ b1 ∧ b1 ≤ hiN b0) ∧ (2 < n ∧ 128 ≤ b2 ∧ b2 ≤ 191) then (3, 1)
  else if 240 ≤ b0 ∧ b0 ≤ 244 ∧ (1 < n ∧ loN b0 ≤ b1 ∧ b1 ≤ hiN b0) ∧ (2 < n ∧ 128 ≤ b2 ∧ b2 ≤ 191) ∧ (3 < n ∧ 128 ≤ b3 ∧ b3 ≤ 191) then (4, 2)
  else (1, 1)

theorem lo_hi (c b : Nat) : (loN c ≤ b ∧ b ≤ hiN c) ↔ ((c = 224 → 160 ≤ b) ∧ (c = 240 → 144 ≤ b) ∧ 128 ≤ b ∧ (c = 237 → b ≤ 159) ∧ (c = 244 → b ≤ 143) ∧ b ≤ 191) := by
  unfold loN hiN
  constructor
  · intro h
    split at h <;> split at h <;> (try split at h) <;> (try split at h) <;> omega
  · intro h
    split <;> split <;> (try split) <;> (try split) <;> omega

set_option maxHeartbeats 4000000 in
theorem decode_ch (n b0 b1 b2 b3 : Nat) (h0 : b0 < 256) (h1 : b1 < 256) (h2 : b2 < 256) (h3 : b3 < 256) :
    (Lib.decodeN n b0 b1 b2 b3).2 = (chN n b0 b1 b2 b3).1 ∧ (((Lib.decodeN n b0 b1 b2 b3).1 = 65533 ∧ (Lib.decodeN n b0 b1 b2 b3).2 = 1) ↔ ((chN n b0 b1 b2 b3).1 = 1 ∧ 128 ≤ b0)) := by
  unfold Lib.decodeN chN
  simp only [lo_hi]
  by_cases c1 : b0 < 128
  · rw [if_pos c1, if_neg (by omega), if_neg (by omega), if_neg (by omega)]
    exact ⟨rfl, by simp; omega⟩
  rw [if_neg c1]
  by_cases c2 : b0 < 224
  · have e3 : ¬ (b0 / 16 = 14 ∧ (1 < n ∧ b1 / 64 = 2) ∧ (2 < n ∧ b2 / 64 = 2)) := by omega
    have e4 : ¬ (b0 / 8 = 30 ∧ (1 < n ∧ b1 / 64 = 2) ∧ (2 < n ∧ b2 / 64 = 2) ∧ (3 < n ∧ b3 / 64 = 2)) := by omega
    rw [if_neg e3, if_neg e4]
    split
    · split
      · rw [if_pos (by omega)]; exact ⟨rfl, by simp⟩
      · rw [if_neg (by omega), if_neg (by omega), if_neg (by omega)]; exact ⟨rfl, by simp; omega⟩
    · rw [if_neg (by omega), if_neg (by omega), if_neg (by omega)]; exact ⟨rfl, by simp; omega⟩
  by_cases c3 : b0 < 240
  · have e2 : ¬ (b0 / 32 = 6 ∧ (1 < n ∧ b1 / 64 = 2)) := by omega
    have e4 : ¬ (b0 / 8 = 30 ∧ (1 < n ∧ b1 / 64 = 2) ∧ (2 < n ∧ b2 / 64 = 2) ∧ (3 < n ∧ b3 / 64 = 2)) := by omega
    rw [if_neg e2, if_neg e4]
    split
    · split
      · rw [if_neg (by omega), if_pos (by omega)]; exact ⟨rfl, by simp⟩
      · rw [if_neg (by omega), if_neg (by omega), if_neg (by omega)]; exact ⟨rfl, by simp; omega⟩
    · rw [if_neg (by omega), if_neg (by omega), if_neg (by omega)]; exact ⟨rfl, by simp; omega⟩
  · have e2 : ¬ (b0 / 32 = 6 ∧ (1 < n ∧ b1 / 64 = 2)) := by omega
    have e3 : ¬ (b0 / 16 = 14 ∧ (1 < n ∧ b1 / 64 = 2) ∧ (2 < n ∧ b2 / 64 = 2)) := by omega
    rw [if_neg e2, if_neg e3]
    split
    · split
      · rw [if_neg (by omega), if_neg (by omega), if_pos (by omega)]; exact ⟨rfl, by simp⟩
      · rw [if_neg (by omega), if_neg (by omega), if_neg (by omega)]; exact ⟨rfl, by simp; omega⟩
    · rw [if_neg (by omega), if_neg (by omega), if_neg (by omega)]; exact ⟨rfl, by simp; omega⟩

/-- Bytes and units of the character at the beginning of a list of bytes. -/
def chL (l : Bs) : Nat × Nat := chN l.length (l.getD 0 0).toNat (l.getD 1 0).toNat (l.getD 2 0).toNat (l.getD 3 0).toNat

theorem decodeL_ch (l : Bs) : (Lib.decodeL l).2 = (chL l).1 ∧ (((Lib.decodeL l).1 = 65533 ∧ (Lib.decodeL l).2 = 1) ↔ ((chL l).1 = 1 ∧ 128 ≤ (l.getD 0 0).toNat)) := by
  rw [Lib.decodeL_N]
  exact decode_ch _ _ _ _ _ (UInt8.toNat_lt _) (UInt8.toNat_lt _) (UInt8.toNat_lt _) (UInt8.toNat_lt _)

theorem validD_cons (l : Bs) (h : l ≠ []) : Lib.validD l = if (chL l).1 = 1 ∧ 128 ≤ (l.getD 0 0).toNat then false else Lib.validD (l.drop (chL l).1) := by
  obtain ⟨e1, e2⟩ := decodeL_ch l
  have hl : 0 < l.length := List.length_pos_iff.2 h
  have hw := Lib.decodeL_width l
  unfold Lib.validD
  obtain ⟨n, hn⟩ : ∃ n, l.length = n + 1 := ⟨l.length - 1, by omega⟩
  rw [hn, Lib.validGoD, if_neg h, e1]
  rw [e1] at e2
  by_cases hc : (chL l).1 = 1 ∧ 128 ≤ (l.getD 0 0).toNat
  · rw [if_pos (e2.2 hc), if_pos hc]
  · rw [if_neg (fun h => hc (e2.1 h)), if_neg hc]
    rw [← e1]
    exact Lib.validGoD_fuel _ _ _ (by rw [List.length_drop]; omega) (Nat.le_refl _)

/-! ### Unquote. -/
def inner (l : Bs) : Bs := (l.drop 1).take (l.length - 2)
def unqB (l : Bs) : Bs × Nat :=
  if l ≠ [] ∧ (nxt l).2 = l.length ∧ (nxt l).1 = 5 then (if conE (inner l) = 0 then (inner l, 0) else ([], conE (inner l))) else ([], 2)

theorem five_len (l : Bs) (h : (nxt l).1 = 5) : 2 ≤ (nxt l).2 := by
  match l with
  | [] => simp [nxt] at h
  | c :: t =>
    rw [nxt_cons] at h ⊢
    split
    · rename_i hp
      rw [if_pos hp] at h
      rw [good_cons] at h hp ⊢
      split at h; · simp at h
      split at h; · simp at h
      split at h
      · simp only at h
        split at h <;> simp at h
      split at h; · simp at h
      split at h; · simp at h
      split at h
      · rename_i h1 h2 h3 h4 h5 h6
        simp only [h1, h2, h3, h4, h5, h6, if_true, Bool.false_eq_true, if_false] at hp ⊢
        unfold quo at hp ⊢
        split at hp
        · rename_i hq; rw [if_pos hq]; omega
        · omega
      · simp at h
    · rename_i hp
      rw [if_neg hp] at h
      split at h <;> simp at h

theorem conE_zero (l : Bs) (h : conE l = 0) : tk notQ l = l.length := by
  unfold conE at h
  have := tk_le notQ l
  split at h
  · simp at h
  · omega

theorem unq_quo (l : Bs) (h : conE l = 0) : unqB (34 :: (l ++ [34])) = (l, 0) := by
  have ht := conE_zero l h
  have hq : quo (l ++ [34]) = l.length + 2 := by
    have h1 : tk notQ (l ++ [34]) = l.length := by rw [tk_ends notQ 34 (by decide) [] l, ht]
    unfold quo
    rw [h1, List.getElem?_append_right (Nat.le_refl _)]
    simp
  have hn : nxt (34 :: (l ++ [34])) = (5, l.length + 2) := by
    rw [nxt_cons, good_kind_q, hq, if_pos (by simp)]
  have hi : inner (34 :: (l ++ [34])) = l := by
    unfold inner
    simp
  unfold unqB
  rw [hn, hi, if_pos ⟨by simp, by simp, rfl⟩, if_pos h]
end Go.Proofs.YtolgoojlpmgblaaDoor

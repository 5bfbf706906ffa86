import Derived.Test.YthkkmklnapkgaaaGreatDoorQ12
import Derived.Test.YthkkmklnapkgaaaGreatDoorQ01
import Derived.Shelf.Spec.SearchS
/- Words: lexer.Fits at them. -/
namespace Go.Proofs.YthkkmklnapkgaaaGreatDoor
open Go.RowKit Go.Shelf Go.Lib
theorem in_any (c lo hi : Int) (w : World) : Calls Tryz.prog 177 #[.int .u8 c, .int .u8 lo, .int .u8 hi] w fun e w' => e = .returned (.bool (decide (lo ≤ c) && decide (c ≤ hi))) ∧ w = w' := by
  go_enter Tryz.func177, Tryz.ntmps177
  go_wp2
  all_goals (go_ret; exact ⟨by simp [*] <;> omega, rfl⟩)

theorem u8_le (a b : UInt8) : decide (a ≤ b) = decide ((a.toNat : Int) ≤ (b.toNat : Int)) := by
  simp [UInt8.le_iff_toNat_le]
theorem digit_eq (c : UInt8) : isDi c = (decide ((48 : Int) ≤ (c.toNat : Int)) && decide ((c.toNat : Int) ≤ 57)) := by
  unfold isDi; rw [u8_le, u8_le]; rfl
theorem lower_eq (c : UInt8) : isLo c = (decide ((97 : Int) ≤ (c.toNat : Int)) && decide ((c.toNat : Int) ≤ 122)) := by
  unfold isLo; rw [u8_le, u8_le]; rfl
theorem upper_eq (c : UInt8) : isUp c = (decide ((65 : Int) ≤ (c.toNat : Int)) && decide ((c.toNat : Int) ≤ 90)) := by
  unfold isUp; rw [u8_le, u8_le]; rfl

theorem digit_any (c : UInt8) (w : World) : Calls Tryz.prog 166 #[.int .u8 c.toNat] w fun e w' => e = .returned (.bool (isDi c)) ∧ w = w' := by
  rw [digit_eq]
  go_enter Tryz.func166, Tryz.ntmps166
  go_wp2_with (go_at_call 177; refine (in_any _ _ _ _).mono ?_; rintro e w' ⟨rfl, rfl⟩)
  go_ret
  exact ⟨rfl, rfl⟩
theorem lower_any (c : UInt8) (w : World) : Calls Tryz.prog 161 #[.int .u8 c.toNat] w fun e w' => e = .returned (.bool (isLo c)) ∧ w = w' := by
  rw [lower_eq]
  go_enter Tryz.func161, Tryz.ntmps161
  go_wp2_with (go_at_call 177; refine (in_any _ _ _ _).mono ?_; rintro e w' ⟨rfl, rfl⟩)
  go_ret
  exact ⟨rfl, rfl⟩
theorem upper_any (c : UInt8) (w : World) : Calls Tryz.prog 164 #[.int .u8 c.toNat] w fun e w' => e = .returned (.bool (isUp c)) ∧ w = w' := by
  rw [upper_eq]
  go_enter Tryz.func164, Tryz.ntmps164
  go_wp2_with (go_at_call 177; refine (in_any _ _ _ _).mono ?_; rintro e w' ⟨rfl, rfl⟩)
  go_ret
  exact ⟨rfl, rfl⟩

theorem u8_eq (a b : UInt8) : (a == b) = ((a.toNat : Int) == (b.toNat : Int)) := by
  rw [Bool.eq_iff_iff, beq_iff_eq, beq_iff_eq, ← UInt8.toNat_inj]; omega
theorem space_eq (c : UInt8) : isSp c = ((c.toNat : Int) == 9 || (c.toNat : Int) == 10 || (c.toNat : Int) == 13 || (c.toNat : Int) == 32) := by
  unfold isSp; rw [u8_eq, u8_eq, u8_eq, u8_eq]; rfl
theorem space_any (c : UInt8) (w : World) : Calls Tryz.prog 160 #[.int .u8 c.toNat] w fun e w' => e = .returned (.bool (isSp c)) ∧ w = w' := by
  rw [space_eq]
  go_enter Tryz.func160, Tryz.ntmps160
  go_wp2
  all_goals (go_ret; exact ⟨by simp [*], rfl⟩)
theorem line_any (c : UInt8) (w : World) : Calls Tryz.prog 151 #[.int .u8 c.toNat] w fun e w' => e = .returned (.bool (isLn c)) ∧ w = w' := by
  have h : isLn c = ((c.toNat : Int) != 10) := by unfold isLn; simp only [bne]; rw [u8_eq]; rfl
  rw [h]
  go_enter Tryz.func151, Tryz.ntmps151
  go_wp2
  all_goals (go_ret; exact ⟨by simp [*], rfl⟩)
theorem word_any (c : UInt8) (w : World) : Calls Tryz.prog 162 #[.int .u8 c.toNat] w fun e w' => e = .returned (.bool (isWo c)) ∧ w = w' := by
  have h : isWo c = (isLo c || isDi c || ((c.toNat : Int) == 95)) := by unfold isWo; rw [u8_eq]; rfl
  rw [h]
  go_enter Tryz.func162, Tryz.ntmps162
  go_wp2_with (first | (go_at_call 161; refine (lower_any _ _).mono ?_; rintro e w' ⟨rfl, rfl⟩) | (go_at_call 166; refine (digit_any _ _).mono ?_; rintro e w' ⟨rfl, rfl⟩))
  all_goals (go_ret; exact ⟨by simp [*], rfl⟩)
theorem name_any (c : UInt8) (w : World) : Calls Tryz.prog 165 #[.int .u8 c.toNat] w fun e w' => e = .returned (.bool (isNa c)) ∧ w = w' := by
  unfold isNa
  go_enter Tryz.func165, Tryz.ntmps165
  go_wp2_with (first | (go_at_call 161; refine (lower_any _ _).mono ?_; rintro e w' ⟨rfl, rfl⟩) | (go_at_call 166; refine (digit_any _ _).mono ?_; rintro e w' ⟨rfl, rfl⟩) | (go_at_call 164; refine (upper_any _ _).mono ?_; rintro e w' ⟨rfl, rfl⟩))
  all_goals (go_ret; exact ⟨by simp [*], rfl⟩)


/-- A string as a value of the model, each of a list. -/
def svs (ls : List Bs) : List Value := ls.map sv
/-- The table of keywords lies where the program's text lays it. -/
def KwTab (w : World) : Prop := w.rangeAt 5 0 (svs kws)
theorem bl_mk (l : Bs) : bl ⟨l.toArray⟩ = l := rfl
theorem bl_get (s : ByteArray) (n : Nat) (h : n < s.size) : (bl s)[n]? = some s[n] := by
  simp only [bl, Array.getElem?_toList]
  exact Array.getElem?_eq_getElem h
theorem bl_len (s : ByteArray) : (bl s).length = s.size := Array.length_toList
theorem tk_more {p : UInt8 → Bool} {s : ByteArray} {n : Nat} (hn : n ≤ tk p (bl s)) (h : n < s.size) (hp : p s[n] = true) : n + 1 ≤ tk p (bl s) := by
  rcases Nat.lt_or_ge n (tk p (bl s)) with h' | h'
  · omega
  · have e : tk p (bl s) = n := by omega
    have := tk_stop (p := p) (l := bl s) (c := s[n]) (by rw [e]; exact bl_get s n h)
    rw [hp] at this; cases this
theorem tk_end {p : UInt8 → Bool} {s : ByteArray} {n : Nat} (hn : n ≤ tk p (bl s)) (h : n < s.size) (hp : p s[n] = false) : tk p (bl s) = n := by
  rcases Nat.lt_or_ge n (tk p (bl s)) with h' | h'
  · have := tk_run h' (bl_get s n h); rw [hp] at this; cases this
  · omega
theorem tk_out {p : UInt8 → Bool} {s : ByteArray} {n : Nat} (hn : n ≤ tk p (bl s)) (h : ¬ n < s.size) : tk p (bl s) = n := by
  have := tk_le p (bl s); rw [bl_len] at this; omega
theorem ret_int {k : IntKind} {a b : Int} (h : a = b) : Ending.returned (.int k a) = .returned (.int k b) := by rw [h]

theorem run_word (s : ByteArray) (w : World) (hs : s.size ≤ maxLen) :
    Calls Tryz.prog 150 #[.string s, .func (.func 162) #[] #[]] w fun e w' => e = .returned (.int .i64 (tk isWo (bl s))) ∧ w = w' := by
  unfold maxLen at hs
  go_enter Tryz.func150, Tryz.ntmps150
  go_wp2
  go_loop [5] (fun i => ∃ k : Nat, k ≤ tk isWo (bl s) ∧ i = .int .i64 k) (fun i => s.size - (intOf i).toNat)
  case atStart => exact ⟨0, Nat.zero_le _, rfl⟩
  case round =>
    obtain ⟨n, hn, rfl⟩ := hrel
    have HN := Lib.hid hn; clear hn
    by_cases hlt : n < s.size
    · by_cases hp : isWo s[n] = true
      · have HM := Lib.hid (tk_more HN.out hlt hp)
        go_wp2_with (go_at_call 162; refine (word_any _ _).mono ?_; rintro e w' ⟨rfl, rfl⟩)
        go_round
        case rel => exact ⟨n + 1, HM.out, by go_num⟩
        case measure => simp [intOf]; omega
      · have hp' : isWo s[n] = false := by simpa using hp
        have HM := Lib.hid (tk_end HN.out hlt hp'); clear hp
        go_wp2_with (go_at_call 162; refine (word_any _ _).mono ?_; rintro e w' ⟨rfl, rfl⟩)
        go_ret
        exact ⟨ret_int (by rw [HM.out]), rfl⟩
    · have HM := Lib.hid (tk_out HN.out hlt)
      go_wp2
      go_ret
      exact ⟨ret_int (by rw [HM.out]), rfl⟩

theorem run_name (s : ByteArray) (w : World) (hs : s.size ≤ maxLen) :
    Calls Tryz.prog 150 #[.string s, .func (.func 165) #[] #[]] w fun e w' => e = .returned (.int .i64 (tk isNa (bl s))) ∧ w = w' := by
  unfold maxLen at hs
  go_enter Tryz.func150, Tryz.ntmps150
  go_wp2
  go_loop [5] (fun i => ∃ k : Nat, k ≤ tk isNa (bl s) ∧ i = .int .i64 k) (fun i => s.size - (intOf i).toNat)
  case atStart => exact ⟨0, Nat.zero_le _, rfl⟩
  case round =>
    obtain ⟨n, hn, rfl⟩ := hrel
    have HN := Lib.hid hn; clear hn
    by_cases hlt : n < s.size
    · by_cases hp : isNa s[n] = true
      · have HM := Lib.hid (tk_more HN.out hlt hp)
        go_wp2_with (go_at_call 165; refine (name_any _ _).mono ?_; rintro e w' ⟨rfl, rfl⟩)
        go_round
        case rel => exact ⟨n + 1, HM.out, by go_num⟩
        case measure => simp [intOf]; omega
      · have hp' : isNa s[n] = false := by simpa using hp
        have HM := Lib.hid (tk_end HN.out hlt hp'); clear hp
        go_wp2_with (go_at_call 165; refine (name_any _ _).mono ?_; rintro e w' ⟨rfl, rfl⟩)
        go_ret
        exact ⟨ret_int (by rw [HM.out]), rfl⟩
    · have HM := Lib.hid (tk_out HN.out hlt)
      go_wp2
      go_ret
      exact ⟨ret_int (by rw [HM.out]), rfl⟩

theorem bsGo_agree (f g : Nat → Bool) : ∀ (n lo hi : Nat), (∀ t, t < hi → f t = g t) → Lib.bsGo f n lo hi = Lib.bsGo g n lo hi
  | 0, _, _, _ => rfl
  | n + 1, lo, hi, h => by
    unfold Lib.bsGo
    by_cases hl : lo < hi
    · rw [if_pos hl, if_pos hl, h ((lo + hi) / 2) (by omega), bsGo_agree f g n _ hi h, bsGo_agree f g n lo _ (fun t ht => h t (by omega))]
    · rw [if_neg hl, if_neg hl]

/-- The model's order of strings is the lexical order of the lists of bytes. -/
theorem bytesLess_lt : ∀ (x y : List UInt8), Op.bytesLess x y = decide (x < y)
  | [], [] => by simp [Op.bytesLess]
  | _ :: _, [] => by simp [Op.bytesLess]
  | [], _ :: _ => by simp [Op.bytesLess]
  | a :: x, b :: y => by
    rw [Op.bytesLess, bytesLess_lt x y]
    simp only [List.cons_lt_cons_iff]
    by_cases h1 : a < b <;> by_cases h2 : a = b <;> by_cases h3 : x < y <;> simp [h1, h2, h3]

theorem split_at (f : Nat → Bool) (n : Nat) (hd : ∀ i j, i < j → j < n → f j = true → f i = true) : ∃ k, k ≤ n ∧ (∀ t, t < k → f t = true) ∧ (∀ t, k ≤ t → t < n → f t = false) := by
  induction n with
  | zero => exact ⟨0, Nat.le_refl _, fun t h => by omega, fun t _ h => by omega⟩
  | succ n ih =>
    obtain ⟨k, h1, h2, h3⟩ := ih (fun i j hij hj => hd i j hij (by omega))
    cases hn : f n with
    | true => exact ⟨n + 1, Nat.le_refl _, fun t ht => by
        by_cases e : t = n
        · rw [e]; exact hn
        · exact hd t n (by omega) (by omega) hn, fun t _ _ => by omega⟩
    | false => exact ⟨k, by omega, h2, fun t ht htn => by
        by_cases e : t = n
        · rw [e]; exact hn
        · exact h3 t ht (by omega)⟩

theorem bs_ok (S : Nat → Bs) (n : Nat) (x : Bs) (hs : ∀ i j, i < j → j < n → S i < S j) (k : Nat) (hk : Lib.bsGo (fun t => Op.bytesLess (S t) x) n 0 n = k) :
    (k < n ∧ S k = x) ↔ ∃ t, t < n ∧ S t = x := by
  obtain ⟨k0, h1, h2, h3⟩ := split_at (fun t => Op.bytesLess (S t) x) n (fun i j hij hj h => by
    simp only [bytesLess_lt, decide_eq_true_eq] at h ⊢
    exact List.lt_trans (hs i j hij hj) h)
  have e : Lib.bsGo (fun t => Op.bytesLess (S t) x) n 0 n = k0 := by
    rw [bsGo_agree _ (fun t => decide (t < n) && Op.bytesLess (S t) x) n 0 n (fun t ht => by simp [ht])]
    exact Lib.bsGo_spec _ k0 (fun t ht => by simp [show t < n by omega, h2 t ht]) (fun t ht => by
      by_cases htn : t < n
      · simp [h3 t ht htn]
      · simp [htn]) n 0 n (by omega) (by omega) h1
  rw [hk] at e; subst e
  constructor
  · rintro ⟨a, b⟩; exact ⟨k, a, b⟩
  · rintro ⟨t, ht, rfl⟩
    have hkt : k = t := by
      rcases Nat.lt_trichotomy k t with h | h | h
      · have := h3 k (Nat.le_refl _) (by omega)
        simp only [bytesLess_lt, decide_eq_false_iff_not] at this
        exact absurd (hs k t h ht) this
      · exact h
      · have := h2 t h
        simp only [bytesLess_lt, decide_eq_true_eq] at this
        exact absurd this (List.lt_irrefl _)
    subst hkt; exact ⟨ht, rfl⟩

theorem kws_sorted : ∀ i j, i < j → j < 26 → kws.getD i [] < kws.getD j [] := by
  have : ∀ j, j < 26 → ∀ i, i < j → kws.getD i [] < kws.getD j [] := by decide
  exact fun i j h1 h2 => this j h2 i h1
theorem isKw_iff (x : Bs) : isKw x = true ↔ ∃ t, t < 26 ∧ kws.getD t [] = x := by
  have hl : kws.length = 26 := rfl
  unfold isKw
  rw [List.contains_iff_mem]
  constructor
  · intro h
    obtain ⟨j, hj, e⟩ := List.getElem_of_mem h
    exact ⟨j, by omega, by rw [List.getD_eq_getElem?_getD, List.getElem?_eq_getElem hj]; exact e⟩
  · rintro ⟨t, ht, e⟩
    rw [List.getD_eq_getElem?_getD, List.getElem?_eq_getElem (by omega)] at e
    rw [← e]; exact List.getElem_mem _

theorem ba_ext {a b : ByteArray} : a = b ↔ bl a = bl b := by
  constructor
  · rintro rfl; rfl
  · intro h
    apply ByteArray.ext
    exact Array.toList_inj.1 h

theorem kw_search (s : ByteArray) (w : World) (hT : KwTab w) (c : Nat) :
    Calls Tryz.prog 123 #[.slice (some ⟨5, 0, none⟩) 26 c, .string s] w fun e w' => (∃ n : Int, e = .returned (.tuple #[.int .i64 n, .bool (isKw (bl s))])) ∧ ∃ q, w' = w.drewN q := by
  refine (Any2.slices_BinarySearch_string Tryz.laysBS 5 0 26 c (fun t => ⟨(kws.getD t []).toArray⟩) s w (by omega) (fun j hj => ?_)).mono ?_
  · have hl : kws.length = 26 := rfl
    refine hT j _ ?_
    simp only [svs, List.getElem?_map, List.getElem?_eq_getElem (show j < kws.length by omega), Option.map_some, List.getD_eq_getElem?_getD, Option.getD_some]
    rfl
  · rintro e w' ⟨rfl, hq⟩
    refine ⟨⟨((Lib.bsGo (fun t => Op.bytesLess (ByteArray.toList ⟨(kws.getD t []).toArray⟩) s.toList) 26 0 26 : Nat) : Int), ?_⟩, hq⟩
    simp only [ByteArray.toList_mk]
    rw [Lib.toList_data]
    have := bs_ok (fun t => kws.getD t []) 26 (bl s) kws_sorted _ rfl
    congr 6
    rw [Bool.eq_iff_iff, decide_eq_true_iff, isKw_iff, ← this]
    simp only [ba_ext, bl_mk]

theorem isKeyword_any (s : ByteArray) (w : World) (hT : KwTab w) :
    Calls Tryz.prog 163 #[.string s] w fun e w' => e = .returned (.bool (isKw (bl s))) ∧ ∃ q, w' = w.drewN q := by
  have HK := Lib.hid (fun c => kw_search s w hT c)
  go_enter Tryz.func163, Tryz.ntmps163
  go_wp2_with (go_at_call 123; refine (HK.out _).mono ?_; rintro e w' ⟨⟨n, rfl⟩, q, rfl⟩)
  go_ret
  exact ⟨rfl, _, rfl⟩
end Go.Proofs.YthkkmklnapkgaaaGreatDoor

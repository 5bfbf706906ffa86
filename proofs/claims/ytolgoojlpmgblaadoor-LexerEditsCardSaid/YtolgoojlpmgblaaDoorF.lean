/- strings.IndexAny at quote and line feed: short strings of any bytes, then all strings. -/
import Derived.Test.YtolgoojlpmgblaaDoorE
import Derived.Deep.LoopGhost
import Derived.WalkKit
import Derived.WalkSpells
import Derived.WalkLawsBesides
import Derived.Outline
import Derived.Lib.Hide
import Derived.Lib.OthersKept
import Derived.Handy
namespace Go.Proofs.YtolgoojlpmgblaaDoor
open Go.RowKit

theorem get_bang (s : ByteArray) (p : Nat) (h : p < s.size) : s.get! p = s[p]'h := get_at s p h

theorem decode_skip (s : ByteArray) (p : Nat) (h : p < s.size) (ha : 128 ≤ (s[p]'h).toNat) :
    1 ≤ (Utf8.decode s p).2 ∧ p + (Utf8.decode s p).2 ≤ s.size ∧ ∀ j (hj : p + j < s.size), j < (Utf8.decode s p).2 → 128 ≤ (s[p + j]'hj).toNat := by
  have hc : ∀ k, (decide (p + k < s.size) && ((s.get! (p + k)).toNat / 64 == 2)) = true → ∃ h : p + k < s.size, 128 ≤ (s[p + k]'h).toNat := by
    intro k hk
    simp only [Bool.and_eq_true, decide_eq_true_eq, beq_iff_eq] at hk
    refine ⟨hk.1, ?_⟩
    have := hk.2
    rw [get_bang s _ hk.1] at this
    omega
  have h0 : s.get! (p + 0) = s[p]'h := get_at s p h
  have hn : ¬ (s[p]'h).toNat < 128 := by omega
  have j0 : ∀ j (hj : p + j < s.size), j = 0 → 128 ≤ (s[p + j]'hj).toNat := by rintro j hj rfl; exact ha
  unfold Utf8.decode
  simp only [h0, hn, if_false]
  split
  · rename_i g
    simp only [Bool.and_eq_true] at g
    obtain ⟨b1, c1⟩ := hc 1 (by simpa using g.2)
    split
    · refine ⟨by simp, by simp; omega, fun j hj hlt => ?_⟩
      simp at hlt
      match j, hj, hlt with
      | 0, hj, _ => exact ha
      | 1, hj, _ => exact c1
    · exact ⟨by simp, by simp; omega, fun j hj hlt => j0 j hj (by simpa using hlt)⟩
  split
  · rename_i g
    simp only [Bool.and_eq_true] at g
    obtain ⟨b1, c1⟩ := hc 1 (by simpa using g.1.2)
    obtain ⟨b2, c2⟩ := hc 2 (by simpa using g.2)
    split
    · refine ⟨by simp, by simp; omega, fun j hj hlt => ?_⟩
      simp at hlt
      match j, hj, hlt with
      | 0, hj, _ => exact ha
      | 1, hj, _ => exact c1
      | 2, hj, _ => exact c2
    · exact ⟨by simp, by simp; omega, fun j hj hlt => j0 j hj (by simpa using hlt)⟩
  split
  · rename_i g
    simp only [Bool.and_eq_true] at g
    obtain ⟨b1, c1⟩ := hc 1 (by simpa using g.1.1.2)
    obtain ⟨b2, c2⟩ := hc 2 (by simpa using g.1.2)
    obtain ⟨b3, c3⟩ := hc 3 (by simpa using g.2)
    split
    · refine ⟨by simp, by simp; omega, fun j hj hlt => ?_⟩
      simp at hlt
      match j, hj, hlt with
      | 0, hj, _ => exact ha
      | 1, hj, _ => exact c1
      | 2, hj, _ => exact c2
      | 3, hj, _ => exact c3
    · exact ⟨by simp, by simp; omega, fun j hj hlt => j0 j hj (by simpa using hlt)⟩
  · exact ⟨by simp, by simp; omega, fun j hj hlt => j0 j hj (by simpa using hlt)⟩

theorem tk_skip {p : UInt8 → Bool} {s : ByteArray} {i n : Nat} (hi : i ≤ tk p (bl s)) (hn : i + n ≤ s.size) (h : ∀ j (hj : i + j < s.size), j < n → p (s[i + j]'hj) = true) : i + n ≤ tk p (bl s) := by
  induction n with
  | zero => exact hi
  | succ n ih =>
    have := ih (by omega) (fun j hj hjn => h j hj (by omega))
    have hlt : i + n < s.size := by omega
    exact tk_more this hlt (h n hlt (by omega))

theorem notQ_high {c : UInt8} (h : 128 ≤ c.toNat) : notQ c = true := by
  simp only [notQ, Bool.and_eq_true, bne_iff_ne, ne_eq]
  constructor
  · rintro rfl; simp at h
  · rintro rfl; simp at h

/-- What IndexAny returns. -/
def ixQ (l : Bs) : Int := if tk notQ l < l.length then (tk notQ l : Nat) else -1

theorem idxRune_high (r : Int) (h : 128 ≤ r) (w : World) : Calls Tryd.prog 93 #[.string { data := #[34, 10] }, .int .i32 r] w fun e w' => e = .returned (.int .i64 (-1)) ∧ Below w.heap.size w w' := by
  by_cases he : r = 65533
  · subst he; exact idxRune_err w
  cases hv : Lib.validRune r with
  | false => exact (idxRune_not r h he hv w).mono fun e w' ⟨a, b⟩ => ⟨a, b ▸ Below.refl _ _⟩
  | true =>
    have hs := enc_size r h
    have hd : ∀ (q : Nat), Below w.heap.size w (w.drewN q) := fun q => ⟨rfl, rfl, rfl, Nat.le_refl _, fun _ _ => rfl⟩
    by_cases h2 : (Utf8.encode r).size = 2
    · exact (idxRune_yes2 r h he hv w h2).mono fun e w' ⟨a, q, b⟩ => ⟨a, b ▸ hd q⟩
    · exact (idxRune_yes3 r h he hv w (by omega)).mono fun e w' ⟨a, q, b⟩ => ⟨a, b ▸ hd q⟩

theorem ixb_hit {x : UInt8} (h : notQ x = false) : (0 : Int) ≤ Lib.indexByte [34, 10] x := by
  have : x = 34 ∨ x = 10 := by simp [notQ] at h; by_cases e : x = 34; exact .inl e; exact .inr (h e)
  rcases this with rfl | rfl <;> decide
theorem ixb_miss {x : UInt8} (h : notQ x = true) : Lib.indexByte [34, 10] x < 0 := by
  have : x ≠ 34 ∧ x ≠ 10 := by simpa [notQ] using h
  have e1 : ((34 : UInt8) == x) = false := by simp; exact fun e => this.1 e.symm
  have e2 : ((10 : UInt8) == x) = false := by simp; exact fun e => this.2 e.symm
  simp [Lib.indexByte, e1, e2]

theorem indexAny_short (s : ByteArray) (w : World) (h8 : s.size ≤ 8) :
    Calls Tryd.prog 75 #[.string s, .string { data := #[34, 10] }] w fun e w' => e = .returned (.int .i64 (ixQ (bl s))) ∧ Below w.heap.size w w' := by
  have h8z : decide ((8 : Int) < (s.size : Int)) = false := decide_eq_false (by omega)
  go_enter Tryd.func75, Tryd.ntmps75
  go_wp2_with (go_at_call 94; refine (Tryd.strings_shouldUseASCIISet _ _).mono ?_; rintro e w' ⟨rfl, hw⟩; rw [hw, h8z])
  go_loopg [9, 10] s.size (fun g _ _ wx => ∃ i : Nat, s.size ≤ i + g ∧ i ≤ s.size ∧ i ≤ tk notQ (bl s) ∧ wx.heap[w.heap.size]? = some (.stringIter s i) ∧ Below w.heap.size w wx)
  case atStart => exact ⟨0, by omega, by omega, by omega, World.iter_heap _ _ _, iter_below _ _ _⟩
  case round =>
    obtain ⟨i, hig, hi, hno, hit, hbel⟩ := hrel
    have HN := Lib.hid hno; have HT := Lib.hid hit; have HB := Lib.hid hbel
    clear hno hit hbel
    by_cases hlt : i < s.size
    · obtain ⟨g, rfl⟩ : ∃ g, gk = g + 1 := ⟨gk - 1, by omega⟩
      obtain ⟨x, hx⟩ : ∃ x : UInt8, s[i]'hlt = x := ⟨_, rfl⟩
      by_cases hx1 : x.toNat < 128
      · have hnx := fun ty => Lib.run_next_ascii_at (P := Tryd.prog) wr w.heap.size s i ty HT.out hlt (by rw [hx]; exact hx1)
        rw [hx] at hnx
        have HX := Lib.hid hx; clear hx
        have hback : ((x.toNat : Int)).toNat.toUInt8 = x := by simp
        cases hq : notQ x with
        | false =>
          have hge := ixb_hit hq
          have HQ := Lib.hid hq; clear hq
          go_wp2_with (go_at_call 93; refine (Tryd.strings_IndexRune_ascii _ _ _ (by omega) (by omega)).mono ?_; rintro e w' ⟨rfl, hw⟩; rw [hw, hback])
          go_ret
          have e1 : tk notQ (bl s) = i := tk_end HN.out hlt (by rw [HX.out]; exact HQ.out)
          have e2 : i < (bl s).length := by rw [bl_len]; exact hlt
          exact ⟨ret_int (by unfold ixQ; rw [e1, if_pos e2]), Lib.below_iterAt HB.out (Nat.le_refl _) s _⟩
        | true =>
          have hge := ixb_miss hq
          have HQ := Lib.hid hq; clear hq
          go_wp2_with (go_at_call 93; refine (Tryd.strings_IndexRune_ascii _ _ _ (by omega) (by omega)).mono ?_; rintro e w' ⟨rfl, hw⟩; rw [hw, hback])
          go_roundg g
          case measure => omega
          case rel => exact ⟨i + 1, by omega, by omega, tk_more HN.out hlt (by rw [HX.out]; exact HQ.out), Lib.iterAt_heap _ _ _ _ _ HT.out, Lib.below_iterAt HB.out (Nat.le_refl _) s _⟩
      · have hnx := fun ty => Lib.run_next_any_at (P := Tryd.prog) wr w.heap.size s i ty HT.out hlt
        have hd := decode_high s i hlt (by rw [hx]; omega)
        have hs := decode_skip s i hlt (by rw [hx]; omega)
        obtain ⟨r, n, hrn⟩ : ∃ r n : Nat, Utf8.decode s i = (r, n) := ⟨_, _, rfl⟩
        rw [hrn] at hnx hd hs
        have HS := Lib.hid hs; clear hs hrn
        simp only at hd hnx
        obtain ⟨hd1, hd2⟩ := hd
        have HX := Lib.hid hx; clear hx
        go_wp2_with (go_at_call 93; refine (idxRune_high _ (by omega) _).mono ?_; rintro e w' ⟨rfl, hw⟩)
        go_roundg g
        case measure => omega
        case rel =>
          obtain ⟨q1, q2, q3⟩ := HS.out
          have hi2 := Lib.iterAt_heap _ _ s i (i + n) HT.out
          have hsz := (Array.getElem?_eq_some_iff.1 hi2).1
          refine ⟨i + n, by omega, by omega, tk_skip HN.out q2 (fun j hj hjn => notQ_high (q3 j hj hjn)), (hw.block _ hsz).trans hi2, ?_⟩
          exact (Lib.below_iterAt HB.out (Nat.le_refl _) s _).trans (hw.mono (by have := HB.out.size; rw [Lib.iterAt_size]; exact this))
    · have hnx := fun ty => Lib.run_next_end_at (P := Tryd.prog) wr w.heap.size s i ty HT.out hlt
      go_wp2
      go_ret
      have e1 : tk notQ (bl s) = i := tk_out HN.out hlt
      have e2 : ¬ i < (bl s).length := by rw [bl_len]; exact hlt
      exact ⟨ret_int (by unfold ixQ; rw [e1, if_neg e2]), HB.out⟩

theorem indexAny_q (s : ByteArray) (w : World) (hs : s.size < 4294967281) :
    Calls Tryd.prog 75 #[.string s, .string { data := #[34, 10] }] w fun e w' => e = .returned (.int .i64 (ixQ (bl s))) ∧ Below w.heap.size w w' := by
  by_cases h8 : s.size ≤ 8
  · exact indexAny_short s w h8
  · have hz := zero_of_info (P := Tryd.prog) (t := 112) (v := .agg (Array.replicate 256 (.bool false))) (n := 256) (by kernel_rfl)
    refine (Any.strings_IndexAny_long Tryd.lays153 hz.1 hz.2 s { data := #[34, 10] } w (by decide) (by omega) hs (by decide) ?_).mono ?_
    · intro j b hb
      match j, hb with
      | 0, hb => simp at hb; subst hb; decide
      | 1, hb => simp at hb; subst hb; decide
      | n + 2, hb => simp at hb
    · rintro e w' ⟨rfl, rfl⟩
      refine ⟨ret_int ?_, ((Below.refl _ _).alloc (Nat.le_refl _) _).alloc (by simp) _⟩
      show Lib.indexAny (bl s) [34, 10] = ixQ (bl s)
      have hc : ∀ b, ([34, 10] : List UInt8).contains b = !notQ b := by
        intro b
        by_cases h1 : b = 34 <;> by_cases h2 : b = 10 <;> simp [notQ, h1, h2]
      unfold ixQ
      split
      · rename_i hlt
        obtain ⟨c, hc1⟩ : ∃ c, (bl s)[tk notQ (bl s)]? = some c := ⟨_, List.getElem?_eq_getElem hlt⟩
        exact Lib.indexAny_hit (fun j b hj hb => by rw [hc, tk_run hj hb]; rfl) hc1 (by rw [hc, tk_stop hc1]; rfl)
      · rename_i hge
        have : tk notQ (bl s) = (bl s).length := by have := tk_le notQ (bl s); omega
        exact Lib.indexAny_none (fun j b hj hb => by rw [hc, tk_run (p := notQ) (by omega) hb]; rfl)
end Go.Proofs.YtolgoojlpmgblaaDoor

/- strings.IndexAny at the two characters quote and line feed, for every string: the place of the first of them, or -1; old memory is as it was. -/
import Derived.Test.YtolgoojlpmgblaaDoorD
import Derived.WalkKit
import Derived.WalkSpells
import Derived.WalkLawsBesides
import Derived.Outline
import Derived.Lib.Hide
import Derived.Lib.OthersKept
import Derived.Handy
import Derived.BigQuiet
import Derived.Deep.QuietTactic
namespace Go.Proofs.YtolgoojlpmgblaaDoor
open Go.RowKit

theorem enc_form (r : Int) (h : 128 ≤ r) : ∃ n : Nat, 128 ≤ n ∧ n ≤ 1114111 ∧ (if Utf8.valid r = true then r.toNat else Utf8.runeError) = n := by
  refine ⟨_, ?_, ?_, rfl⟩
  · split
    · omega
    · simp [Utf8.runeError]
  · split
    · rename_i hv; simp [Utf8.valid] at hv; omega
    · simp [Utf8.runeError]
theorem bl_enc (r : Int) (h : 128 ≤ r) : ∀ c ∈ bl (Utf8.encode r), 128 ≤ c.toNat := by
  intro c hc
  obtain ⟨n, h1, h2, e⟩ := enc_form r h
  revert hc
  unfold Utf8.encode
  simp only [e]
  rw [if_neg (by omega)]
  split
  · rintro hc; simp [bl] at hc; rcases hc with rfl | rfl <;> simp [UInt8.toNat_ofNat] <;> omega
  · split
    · rintro hc; simp [bl] at hc; rcases hc with rfl | rfl | rfl <;> simp [UInt8.toNat_ofNat] <;> omega
    · rintro hc; simp [bl] at hc; rcases hc with rfl | rfl | rfl | rfl <;> simp [UInt8.toNat_ofNat] <;> omega
theorem enc_size (r : Int) (h : 128 ≤ r) : 2 ≤ (Utf8.encode r).size ∧ (Utf8.encode r).size ≤ 4 := by
  obtain ⟨n, h1, h2, e⟩ := enc_form r h
  unfold Utf8.encode
  simp only [e]
  rw [if_neg (by omega)]
  split
  · simp [ByteArray.size]
  · split <;> simp [ByteArray.size]

theorem iter_below (w : World) (s : ByteArray) (p : Nat) : Below w.heap.size w (w.iter s p) := (Below.refl _ _).alloc (Nat.le_refl _) _

set_option maxRecDepth 100000 in
theorem idxRune_err (w : World) : Calls Tryd.prog 93 #[.string { data := #[34, 10] }, .int .i32 65533] w fun e w' => e = .returned (.int .i64 (-1)) ∧ Below w.heap.size w w' := by
  have n0 := fun ty => run_next_ascii (P := Tryd.prog) w { data := #[34, 10] } 0 ty (by decide) (by decide)
  have n1 := fun ty => run_next_ascii (P := Tryd.prog) w { data := #[34, 10] } 1 ty (by decide) (by decide)
  have n2 := fun ty => run_next_end (P := Tryd.prog) w { data := #[34, 10] } 2 ty (by decide)
  go_enter Tryd.func93, Tryd.ntmps93
  go_wp2_with fail
  go_rounds 3
  all_goals go_ret
  all_goals exact ⟨rfl, iter_below _ _ _⟩

set_option maxRecDepth 100000 in
theorem idxRune_not (r : Int) (h : 128 ≤ r) (hne : r ≠ 65533) (hv : Lib.validRune r = false) (w : World) : Calls Tryd.prog 93 #[.string { data := #[34, 10] }, .int .i32 r] w fun e w' => e = .returned (.int .i64 (-1)) ∧ w = w' := by
  have h1 : (r == 65533) = false := by simpa using hne
  have h2 : decide (r < 128) = false := by simp; omega
  have h3 : decide (0 ≤ r) = true := by simp; omega
  clear hne
  go_enter Tryd.func93, Tryd.ntmps93
  go_wp2_with (go_at_call 107; refine (Tryd.utf8_ValidRune _ _).mono ?_; rintro e w' ⟨rfl, rfl⟩)
  go_ret
  exact ⟨rfl, rfl⟩

set_option maxRecDepth 100000 in
theorem idxRune_yes2 (r : Int) (h : 128 ≤ r) (hne : r ≠ 65533) (hv : Lib.validRune r = true) (w : World) (hsz : (Utf8.encode r).size = 2) : Calls Tryd.prog 93 #[.string { data := #[34, 10] }, .int .i32 r] w fun e w' => e = .returned (.int .i64 (-1)) ∧ ∃ q, w' = w.drewN q := by
  have h1 : (r == 65533) = false := by simpa using hne
  have h2 : decide (r < 128) = false := by simp; omega
  have h3 : decide (0 ≤ r) = true := by simp; omega
  have hb := Lib.hid (bl_enc r h)
  clear hne
  go_enter Tryd.func93, Tryd.ntmps93
  go_wp2_with (go_at_call 107; refine (Tryd.utf8_ValidRune _ _).mono ?_; rintro e w' ⟨rfl, rfl⟩)
  go_step3
  go_wp2_with fail
  generalize Utf8.encode r = u at hsz hb ⊢
  obtain ⟨a, b, rfl⟩ : ∃ a b : UInt8, u = { data := #[a, b] } := by
    match u, hsz with
    | ⟨d⟩, hd =>
      match d, hd with
      | ⟨[a, b]⟩, _ => exact ⟨a, b, rfl⟩
  have hbb : 128 ≤ b.toNat := hb.out b (by simp [bl])
  have hb1 : (((({ data := #[34, 10] } : ByteArray)[1]'(by decide)).toNat : Int) != ((({ data := #[a, b] } : ByteArray)[1]'(by simp [ByteArray.size])).toNat : Int)) = true := by
    rw [bne_iff_ne]
    show ((10 : Nat) : Int) ≠ (b.toNat : Int)
    omega
  refine wp_loop_rounds 2 ?_
  rw [rounds_succ]
  go_wp2_with fail
  go_step3
  go_wp2_with fail
  go_quiet (fail)
  go_wp2_with fail
  obtain ⟨w2, hw2⟩ : ∃ w2, w'.drewN nq = w2 := ⟨_, rfl⟩
  rw [hw2]
  have HW := Lib.hid hw2; clear hw2
  go_quiet ((go_at_call 106; exact Calls.quiet_of_same (Tryd.strings_IndexByte _ _ _)))
  go_wp2_with fail
  simp only [Exit.noGoto_ret, Exit.inBlock, Exit.then]
  go_ret
  exact ⟨rfl, _, by rw [← HW.out, World.drewN_drewN]⟩
set_option maxRecDepth 100000 in
theorem idxRune_yes3 (r : Int) (h : 128 ≤ r) (hne : r ≠ 65533) (hv : Lib.validRune r = true) (w : World) (hsz : 3 ≤ (Utf8.encode r).size) : Calls Tryd.prog 93 #[.string { data := #[34, 10] }, .int .i32 r] w fun e w' => e = .returned (.int .i64 (-1)) ∧ ∃ q, w' = w.drewN q := by
  have h1 : (r == 65533) = false := by simpa using hne
  have h2 : decide (r < 128) = false := by simp; omega
  have h3 : decide (0 ≤ r) = true := by simp; omega
  have hs4 := (enc_size r h).2
  clear hne
  go_enter Tryd.func93, Tryd.ntmps93
  go_wp2_with (go_at_call 107; refine (Tryd.utf8_ValidRune _ _).mono ?_; rintro e w' ⟨rfl, rfl⟩)
  go_step3
  go_wp2_with fail
  refine wp_loop_rounds 1 ?_
  rw [rounds_succ]
  go_wp2_with fail
  rw [Exit.noGoto_ret]
  go_ret
  exact ⟨rfl, 0, rfl⟩
end Go.Proofs.YtolgoojlpmgblaaDoor

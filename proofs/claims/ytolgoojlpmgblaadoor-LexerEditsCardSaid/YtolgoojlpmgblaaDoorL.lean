/- The reference's symbol, token, Next and Tokens. -/
import Derived.Test.YtolgoojlpmgblaaDoorK
import Derived.Deep.RegionHeld3
import Derived.WalkKit
import Derived.WalkSpells
import Derived.WalkLawsBesides
import Derived.Outline
import Derived.Lib.Hide
import Derived.Handy
namespace Go.Proofs.YtolgoojlpmgblaaDoor
open Go.RowKit

def symB (l : Bs) : Bool := syms.contains l
theorem has_sym (b : Bool) (x : ByteArray) (B : Nat) (w : World) (hb : symB (bl x) = b) (h : w.heap[B]? = some (.cells (svs syms).toArray 9)) :
    Calls Tryd.prog 49 #[.slice (some ⟨B, 0, none⟩) 24 24, .string x] w fun e w' => e = .returned (.bool b) ∧ w = w' := by
  rw [← hb]
  exact has_any syms B 24 x w (by decide) (fun j v hv => by
    rw [cell_of_row w B (0 + j) _ _ _ h]
    simpa using hv)
theorem slice_at (s : ByteArray) (a : Nat) (i j : Int) (b : Nat) (hi : i = a) (hj : j = b) (hab : a ≤ b) (hb : b ≤ s.size) (w : World) :
    (Instr.slice 9 (.string s) (some (.int .i64 i)) (some (.int .i64 j)) none).run Tryd.prog w = .ok (.string (s.extract a b)) w := by
  subst hi; subst hj
  rw [run_slice_string w 9 s .i64 .i64 _ _ Tryd.underlying9 (by omega) (by omega) (by omega), Int.toNat_natCast, Int.toNat_natCast]
theorem heap_new2 (w : World) (o1 o2 : Obj) : ((w.alloc o1).alloc o2).heap[w.heap.size + 1]? = some o2 := by
  have := World.alloc_heap_new (w.alloc o1) o2
  rwa [World.size_alloc] at this
theorem below_drew {B : Nat} {w w' : World} (h : Below B w w') : Below B w w'.drew := h.drew

set_option maxHeartbeats 1000000 in
theorem symbol_ref (s : ByteArray) (a : Nat) (w : World) (hs : s.size ≤ 4294967281) (ha : a < s.size) :
    Calls Tryd.prog 74 #[.string s, .int .i64 a] w fun e w' => e = .returned (.int .i64 (sym ((bl s).drop a))) ∧ Below w.heap.size w w' := by
  have hx1 : bl (s.extract a (a + 1)) = ((bl s).drop a).take 1 := by rw [bl_extract, show a + 1 - a = 1 by omega]
  have hx2 : bl (s.extract a (a + 2)) = ((bl s).drop a).take 2 := by rw [bl_extract, show a + 2 - a = 2 by omega]
  have hlen : 1 ≤ ((bl s).drop a).length := by rw [drop_len]; omega
  have hw1 : IntKind.i64.wrap ((a : Int) + 1) = (a : Int) + 1 := IntWalk.i64_in _ (by omega)
  have hsl1 := fun w : World => slice_at s a a (a + 1) (a + 1) rfl (by omega) (by omega) (by omega) w
  have hse := sym_eq ((bl s).drop a)
  obtain ⟨b1, hb1⟩ : ∃ b, symB (bl (s.extract a (a + 1))) = b := ⟨_, rfl⟩
  by_cases h2 : a + 2 ≤ s.size
  · have hd : decide ((a : Int) + 2 ≤ (s.size : Int)) = true := by simp; omega
    have hw2 : IntKind.i64.wrap ((a : Int) + 2) = (a : Int) + 2 := IntWalk.i64_in _ (by omega)
    have hsl := fun w : World => slice_at s a a (a + 2) (a + 2) rfl (by omega) (by omega) (by omega) w
    have hlen2 : 2 ≤ ((bl s).drop a).length := by rw [drop_len]; omega
    obtain ⟨b2, hb2⟩ : ∃ b, symB (bl (s.extract a (a + 2))) = b := ⟨_, rfl⟩
    have hr : sym ((bl s).drop a) = if b2 then 2 else if b1 then 1 else 0 := by
      rw [hse, ← hb1, ← hb2, hx1, hx2, decide_eq_true hlen, decide_eq_true hlen2, Bool.true_and, Bool.true_and]; rfl
    rw [hr]
    have H1 := Lib.hid hb1; have H2 := Lib.hid hb2
    clear hb1 hb2 hr hse hx1 hx2 hlen hlen2
    cases b2 with
    | true =>
      go_enter Tryd.func74, Tryd.ntmps74
      go_wp2_with fail
      go_region_held3 (fun _ => True) (trivial)
        (first | (go_at_call 57; refine (symbols_ref _).mono ?_; rintro e w' ⟨rfl, rfl⟩) | (go_at_call 49; refine (has_sym true _ _ _ H2.out (by exact World.alloc_heap_new _ _)).mono ?_; rintro e w' ⟨rfl, rfl⟩))
      go_wp2_with fail
      go_ret
      exact ⟨rfl, ((Below.refl _ _).alloc (Nat.le_refl _) _).drew⟩
    | false =>
      cases b1 with
      | true =>
        go_enter Tryd.func74, Tryd.ntmps74
        go_wp2_with fail
        go_region_held3 (fun _ => True) (trivial)
          (first | (go_at_call 57; refine (symbols_ref _).mono ?_; rintro e w' ⟨rfl, rfl⟩) | (go_at_call 49; refine (has_sym false _ _ _ H2.out (by exact World.alloc_heap_new _ _)).mono ?_; rintro e w' ⟨rfl, rfl⟩))
        go_wp2_with fail
        go_region_held3 (fun _ => True) (trivial)
          (first | (go_at_call 57; refine (symbols_ref _).mono ?_; rintro e w' ⟨rfl, rfl⟩) | (go_at_call 49; refine (has_sym true _ _ _ H1.out (by exact heap_new2 _ _ _)).mono ?_; rintro e w' ⟨rfl, rfl⟩))
        go_wp2_with fail
        go_ret
        exact ⟨rfl, (((Below.refl _ _).alloc (Nat.le_refl _) _).alloc (by simp) _).drew.drew⟩
      | false =>
        go_enter Tryd.func74, Tryd.ntmps74
        go_wp2_with fail
        go_region_held3 (fun _ => True) (trivial)
          (first | (go_at_call 57; refine (symbols_ref _).mono ?_; rintro e w' ⟨rfl, rfl⟩) | (go_at_call 49; refine (has_sym false _ _ _ H2.out (by exact World.alloc_heap_new _ _)).mono ?_; rintro e w' ⟨rfl, rfl⟩))
        go_wp2_with fail
        go_region_held3 (fun _ => True) (trivial)
          (first | (go_at_call 57; refine (symbols_ref _).mono ?_; rintro e w' ⟨rfl, rfl⟩) | (go_at_call 49; refine (has_sym false _ _ _ H1.out (by exact heap_new2 _ _ _)).mono ?_; rintro e w' ⟨rfl, rfl⟩))
        go_wp2_with fail
        go_ret
        exact ⟨rfl, (((Below.refl _ _).alloc (Nat.le_refl _) _).alloc (by simp) _).drew.drew⟩
  · have hd : decide ((a : Int) + 2 ≤ (s.size : Int)) = false := by simp; omega
    have hw2 : IntKind.i64.wrap ((a : Int) + 2) = (a : Int) + 2 := IntWalk.i64_in _ (by omega)
    have hlen2 : decide (2 ≤ ((bl s).drop a).length) = false := by rw [drop_len]; simp; omega
    have hr : sym ((bl s).drop a) = if b1 then 1 else 0 := by
      rw [hse, ← hb1, hx1, decide_eq_true hlen, hlen2, Bool.false_and, Bool.true_and]; rfl
    rw [hr]
    have H1 := Lib.hid hb1
    clear hb1 hr hse hx1 hx2 hlen hlen2
    cases b1 with
    | true =>
      go_enter Tryd.func74, Tryd.ntmps74
      go_wp2_with fail
      go_quiet (fail)
      go_wp2_with fail
      go_region_held3 (fun _ => True) (trivial)
        (first | (go_at_call 57; refine (symbols_ref _).mono ?_; rintro e w' ⟨rfl, rfl⟩) | (go_at_call 49; refine (has_sym true _ _ _ H1.out (by exact World.alloc_heap_new _ _)).mono ?_; rintro e w' ⟨rfl, rfl⟩))
      go_wp2_with fail
      go_ret
      exact ⟨rfl, (below_drewN w (nq + 1)).alloc (Nat.le_refl _) _⟩
    | false =>
      go_enter Tryd.func74, Tryd.ntmps74
      go_wp2_with fail
      go_quiet (fail)
      go_wp2_with fail
      go_region_held3 (fun _ => True) (trivial)
        (first | (go_at_call 57; refine (symbols_ref _).mono ?_; rintro e w' ⟨rfl, rfl⟩) | (go_at_call 49; refine (has_sym false _ _ _ H1.out (by exact World.alloc_heap_new _ _)).mono ?_; rintro e w' ⟨rfl, rfl⟩))
      go_wp2_with fail
      go_ret
      exact ⟨rfl, (below_drewN w (nq + 1)).alloc (Nat.le_refl _) _⟩
end Go.Proofs.YtolgoojlpmgblaaDoor

/- The reference's Tokens returns the tokens of the text in a row of its own. -/
import Derived.Test.YtolgoojlpmgblaaDoorP
import Derived.OwnWalk
import Derived.WalkKit
import Derived.WalkSpells
import Derived.WalkLawsBesides
import Derived.Outline
import Derived.Lib.Hide
import Derived.Handy
namespace Go.Proofs.YtolgoojlpmgblaaDoor
open Go.RowKit

theorem text_cut (s : ByteArray) (a n : Nat) : (⟨(((bl s).drop a).take n).toArray⟩ : ByteArray) = s.extract a (a + n) := by
  rw [ba_ext, bl_mk, bl_extract, show a + n - a = n by omega]

theorem ownsRow_below {w w' : World} {B : Nat} {e : TypeId} {sz n : Nat} {v : Value} {xs : List Value} (h : w.ownsRow B e sz v n xs) (hb : Below w.heap.size w w') : w'.ownsRow B e sz v n xs :=
  h.kept (grownBy_of_below hb) (by cases v.ownBlock with
    | none => exact .inl rfl
    | some k => exact .inr (by simp))

set_option maxRecDepth 100000 in
set_option maxHeartbeats 1000000 in
theorem tokens_ref (s : ByteArray) (hs : s.size < 4294967281) (w : World) :
    Calls Tryd.prog 14 #[.string s] w fun e W' => ∃ v, e = .returned v ∧ W'.ownsRow w.heap.size 31 3 v (toks (bl s) 0).length (tokCs (toks (bl s) 0)) ∧ Below w.heap.size w W' := by
  obtain ⟨i0, hi, hz0, hz1, hz2⟩ := info_parts info31
  go_enter Tryd.func14, Tryd.ntmps14
  go_wp2
  go_loopw [3, 4, 5, 6] (fun o x _ _ wr => ∃ (pre : List Tok) (a : Nat), a ≤ s.size ∧ pre.length ≤ a ∧ x = .int .i64 a ∧ toks (bl s) 0 = pre ++ toks ((bl s).drop a) a ∧ wr.ownsRow w.heap.size 31 3 o pre.length (tokCs pre) ∧ Below w.heap.size w wr) (fun _ x _ _ _ => s.size - (intOf x).toNat)
  case atStart => exact ⟨[], 0, by omega, by simp, rfl, by simp, World.ownsRow_nil _ _ _ _, Below.refl _ _⟩
  case round =>
    obtain ⟨pre, a, ha, hpa, rfl, htk, hown, hB⟩ := hrel
    have HK := Lib.hid htk; have HB := Lib.hid hB; have HO := Lib.hid hown
    clear htk hB hown
    by_cases hlt : a < s.size
    · have hN : ∀ w, Calls Tryd.prog 37 #[.string s, .int .i64 a] w fun e w' => e = .returned (.tuple #[.int .i64 (nxt ((bl s).drop a)).1, .int .i64 (a + (nxt ((bl s).drop a)).2 : Nat)]) ∧ Below w.heap.size w w' := fun w => next_ref s a w hs hlt
      have hne : (bl s).drop a ≠ [] := by intro e; have := List.drop_eq_nil_iff.1 e; rw [bl_len] at this; omega
      have hp1 := nxt_pos _ hne
      have hp2 := nxt_le ((bl s).drop a)
      rw [drop_len] at hp2
      have hst := toks_snoc_step (bl s) a pre (by rw [bl_len]; exact hlt) HK.out
      obtain ⟨k, n, hn⟩ : ∃ k n, nxt ((bl s).drop a) = (k, n) := ⟨_, _, rfl⟩
      rw [hn] at hN hp1 hp2 hst
      simp only at hN hp1 hp2 hst
      obtain ⟨E, hE⟩ : ∃ E, a + n = E := ⟨_, rfl⟩
      have hx : tokC ⟨k, ((bl s).drop a).take n, a⟩ = [.int .i64 k, .string (s.extract a E), .int .i64 a] := by
        unfold tokC; rw [text_cut, hE]
      rw [hE] at hN hst
      have HN := Lib.hid hN; have HSt := Lib.hid hst; have HX := Lib.hid hx
      have hE1 : a < E := by omega
      have hE2 : E ≤ s.size := by omega
      clear hN hst hne hn hx hE
      go_wp2_with fail
      refine (HN.out _).mono ?_
      rintro e w2 ⟨rfl, hw⟩
      have hown2 := ownsRow_below HO.out hw
      have hB2 := HB.out.trans (hw.mono HB.out.size)
      have HB2 := Lib.hid hB2; have HO2 := Lib.hid hown2
      clear hw hown2 hB2
      go_wp2_with (at_builtin; refine wpList_append_own _ rfl _ _ 26 rfl w.heap.size 31 i0 (.agg #[.int .i64 0, .string ⟨#[]⟩, .int .i64 0]) 3 32 Tryd.underlying26 hi hz0 hz1 hz2 rfl (by decide) _ _ _ rfl (HO2.out.alloc _) ⟨w2.heap.size, 0, none⟩ 1 1 [.int .i64 k, .string (s.extract a E), .int .i64 a] rfl rfl (cells_new _ _ _) (by simp [Value.oneCell']) (by unfold maxLen; omega) (by omega) (by have := HB2.out.size; simp; omega) ?_; intro v' w1 hown' hgrow _)
      refine ⟨⟨pre ++ [⟨k, ((bl s).drop a).take n, a⟩], E, hE2, by simp; omega, rfl, HSt.out, ?_, ?_⟩, by simp [intOf]; omega⟩
      · rw [tokCs_snoc, HX.out, List.length_append]; exact hown'
      · exact (HB2.out.alloc HB2.out.size _).grown hgrow (by have := HB2.out.size; simp; omega) (fun j e => (HO2.out.lt j e).1)
    · have he : toks (bl s) 0 = pre := by rw [HK.out, List.drop_eq_nil_of_le (by rw [bl_len]; omega), toks_nil, List.append_nil]
      have HE := Lib.hid he; clear he
      go_wp2_with fail
      go_ret
      refine ⟨_, rfl, ?_, HB.out⟩
      rw [HE.out]
      exact HO.out
end Go.Proofs.YtolgoojlpmgblaaDoor

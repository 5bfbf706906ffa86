/- The functions symbol and IsKeyword of package lexer return what the plain model says, under what the listed tables hold. -/
import Derived.Test.YtolgoojlpmgblaaDoorTabs
import Derived.WalkKit
import Derived.WalkSpells
import Derived.WalkLawsBesides
import Derived.Outline
import Derived.Lib.Hide
namespace Go.Proofs.YtolgoojlpmgblaaDoor
open Go.RowKit

theorem bl_mk (l : Bs) : bl ⟨l.toArray⟩ = l := rfl
/-- None of the first k symbols begins l. -/
def NoSym (l : Bs) (k : Nat) : Prop := ∀ j, j < k → (syms.getD j []).isPrefixOf l = false
theorem sym_hit {l : Bs} {k : Nat} (hk : k < 24) (hn : NoSym l k) (h : (syms.getD k []).isPrefixOf l = true) : sym l = (syms.getD k []).length := by
  have hl : syms.length = 24 := rfl
  have : syms.find? (fun x => x.isPrefixOf l) = some (syms.getD k []) := by
    rw [List.find?_eq_some_iff_getElem]
    refine ⟨h, k, by omega, by simp [List.getD_eq_getElem?_getD, List.getElem?_eq_getElem (show k < syms.length by omega)], fun j hj => ?_⟩
    have := hn j hj
    rw [List.getD_eq_getElem?_getD, List.getElem?_eq_getElem (by omega)] at this
    simpa using this
  simp [sym, this]
theorem sym_miss {l : Bs} (hn : NoSym l 24) : sym l = 0 := by
  have hl : syms.length = 24 := rfl
  have : syms.find? (fun x => x.isPrefixOf l) = none := by
    rw [List.find?_eq_none]
    intro x hx
    obtain ⟨j, hj, rfl⟩ := List.getElem_of_mem hx
    have := hn j (by omega)
    rw [List.getD_eq_getElem?_getD, List.getElem?_eq_getElem (by omega)] at this
    simp only [Option.getD_some] at this
    simp [this]
  simp [sym, this]
theorem hasPrefix_eq (l x : Bs) : Lib.hasPrefix l x = x.isPrefixOf l := by
  first | rfl | (unfold Lib.hasPrefix; rfl)

theorem symbol_any (s : ByteArray) (w : World) (hT : Tabs w) :
    Calls Tryd.prog 92 #[.string s] w fun e w' => e = .returned (.int .i64 (sym (bl s))) ∧ w = w' := by
  have HS := Lib.hid hT.syms
  clear hT
  go_enter Tryd.func92, Tryd.ntmps92
  go_wp2_with (refine Go.wpList_load_mid rfl 128 _ rfl 5 0 rfl (svs syms) _ HS.out Tryd.underlying128 rfl (by kernel_rfl) ?_)
  go_loop [6] (fun i => ∃ k : Nat, k ≤ 24 ∧ NoSym (bl s) k ∧ i = .int .i64 k) (fun i => 24 - (intOf i).toNat)
  case atStart => exact ⟨0, by omega, fun j hj => by omega, rfl⟩
  case round =>
    obtain ⟨k, hk, hno, rfl⟩ := hrel
    have HN := Lib.hid hno; clear hno
    by_cases hlt : k < 24
    · have hix := index_sym k hlt
      have hsz : (sv (syms.getD k [])) = .string ⟨(syms.getD k []).toArray⟩ := rfl
      rw [hsz] at hix; clear hsz
      obtain ⟨x, hx⟩ : ∃ x : ByteArray, (⟨(syms.getD k []).toArray⟩ : ByteArray) = x := ⟨_, rfl⟩
      rw [hx] at hix
      have HX := Lib.hid hx; clear hx
      by_cases hp : Lib.hasPrefix (bl s) (bl x) = true
      · go_wp2_with (go_at_call 105; refine (Tryd.strings_HasPrefix _ _ _).mono ?_; rintro e w' ⟨rfl, rfl⟩)
        go_ret
        have e2 : bl x = syms.getD k [] := by rw [← HX.out]
        refine ⟨ret_int ?_, rfl⟩
        rw [hasPrefix_eq, e2] at hp
        rw [sym_hit hlt HN.out hp, ← e2, bl_len]
      · have hp' : Lib.hasPrefix (bl s) (bl x) = false := by simpa using hp
        clear hp
        go_wp2_with (go_at_call 105; refine (Tryd.strings_HasPrefix _ _ _).mono ?_; rintro e w' ⟨rfl, rfl⟩)
        go_round
        case rel =>
          refine ⟨k + 1, by omega, fun j hj => ?_, by go_num⟩
          have e2 : bl x = syms.getD k [] := by rw [← HX.out]
          by_cases hjk : j = k
          · subst hjk; rw [← e2, ← hasPrefix_eq]; exact hp'
          · exact HN.out j (by omega)
        case measure => simp [intOf]; omega
    · obtain rfl : k = 24 := by omega
      go_wp2
      go_ret
      exact ⟨ret_int (by rw [sym_miss HN.out]; rfl), rfl⟩
end Go.Proofs.YtolgoojlpmgblaaDoor

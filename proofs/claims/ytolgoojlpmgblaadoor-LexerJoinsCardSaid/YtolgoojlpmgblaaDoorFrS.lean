/- A slice of strings that came in, as the walks read it. -/
import Derived.Test.YtolgoojlpmgblaaDoorFr
import Derived.Test.YtolgoojlpmgblaaDoorX
import Derived.SliceStrings
namespace Go.Proofs.YtolgoojlpmgblaaDoor
open Go.ChangeShapes Go.WideShapes Go.ChangeAt Go.RowKit

set_option maxRecDepth 100000 in
theorem strs_of_trod {H : Type} {enc : TypeId × Value → H} {W : World} {base : Nat} {v : Value} {d : DataW H} {p : List MemPlace} (hv : Value.okWide Tryd.prog W .any base 23 v)
    (h : DataW.Trod enc Tryd.prog W 0 (fun _ => true) true 23 v d p) : ∃ ls, IsStrs W v ls ∧ ls.length ≤ maxLen ∧ ∀ x ∈ ls, x.length ≤ maxLen := by
  obtain ⟨a, len, cap, rfl⟩ := okWide_slice Tryd.underlying23 hv
  obtain ⟨fuel, hf⟩ := h
  rcases open_strings Tryd.underlying23 Tryd.underlying9 (by kernel_rfl) hf with ⟨hcs, _⟩ | ⟨x, l, c, ss, hcs, _, hl, hm, hz, _, hcell, hwz⟩
  · simp [Value.cells] at hcs
    obtain ⟨rfl, rfl, rfl⟩ := hcs
    exact ⟨[], ⟨none, 0, rfl, by simp⟩, by simp, by simp⟩
  · simp [Value.cells] at hcs
    obtain ⟨rfl, rfl, rfl⟩ := hcs
    simp only [if_true] at hz
    have hlen : ((ss.take len).map bl).length = len := by simp; omega
    refine ⟨(ss.take len).map bl, ⟨_, cap, by rw [hlen], fun hpos => ?_⟩, by rw [hlen]; omega, fun y hy => ?_⟩
    · obtain ⟨b, off, spot⟩ := x
      have hspot : spot = none := by simpa [Addr.add] using World.cell?_spot (hcell 0 (by omega))
      subst hspot
      refine ⟨b, off, rfl, fun i z hi => ?_⟩
      have hil : i < len := by have := (List.getElem?_eq_some_iff.1 hi).1; omega
      rw [List.getElem?_map, List.getElem?_take_of_lt hil, List.getElem?_eq_getElem (by omega : i < ss.length), Option.map_some, Option.some.injEq] at hi
      have := hcell i (by omega)
      rw [List.getD_eq_getElem?_getD, List.getElem?_eq_getElem (by omega : i < ss.length), Option.getD_some, show ((⟨b, off, none⟩ : Addr).add i) = ⟨b, off + i, none⟩ by unfold Addr.add; split <;> simp_all] at this
      rw [this, ← hi]
    · obtain ⟨s, hs, rfl⟩ := List.mem_map.1 hy
      rw [bl_len]
      exact hwz s (List.mem_of_mem_take hs)
end Go.Proofs.YtolgoojlpmgblaaDoor

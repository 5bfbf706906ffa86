/- What the condition on the listed variables gives the walks. -/
import Derived.Test.YtolgoojlpmgblaaDoorRows
import Derived.Test.YtolgoojlpmgblaaDoorS
import Derived.ProofKit
import Derived.LaidMore
import Derived.OpenShut
import Derived.ShutString
import Derived.Lib.LaidU8T
import Derived.MakeChecks
import Derived.Lay
namespace Go.Proofs.YtolgoojlpmgblaaDoor
open Go.ChangeShapes Go.WideShapes Go.ChangeAt Go.RowKit

theorem own : ownKnob Tryd.prog.godebug = none := by kernel_rfl
theorem laidOut : laidOutB Tryd.prog = true := by kernel_rfl

theorem strs_of_reads {P : Program} {w : World} {nm : String} {ls : List Bs} {g : Nat} {t e : TypeId} (h : Lib.VarReads P w nm (.agg (ls.map fun l => .lit (.string l))))
    (hg : P.globalNamed nm = some g) (ht : (P.globals[g]?).map (·.type) = some t) (hu : P.underlying t = some (.array ls.length e)) (he : P.underlying e = some .string) (hc : P.cellsOf e = 1) :
    w.rangeAt g 0 (svs ls) := by
  obtain ⟨g', t', cs, fuel, p, hg', ht', hv, hd⟩ := h
  obtain rfl := Option.some.inj (hg.symm.trans hg')
  obtain rfl := Option.some.inj (ht.symm.trans ht')
  intro j v hj
  rw [Nat.zero_add, World.var?_cell hg hv j]
  obtain ⟨l, hl, rfl⟩ : ∃ l, ls[j]? = some l ∧ v = sv l := by
    simp only [svs, List.getElem?_map, Option.map_eq_some_iff] at hj
    obtain ⟨l, h1, h2⟩ := hj
    exact ⟨l, h1, h2.symm⟩
  have hjl : j < ls.length := (List.getElem?_eq_some_iff.1 hl).1
  obtain ⟨f', d, q, hd1, hd2⟩ := Lib.array_elem hu hd j hjl
  rw [hc, Nat.mul_one] at hd2
  obtain ⟨s, hs, hx, _⟩ := DataW.trod_string he hd2
  simp only [List.getElem?_map, hl, Option.map_some, Option.some.injEq] at hd1
  simp only [Prod.mk.injEq] at hx
  obtain ⟨rfl, _⟩ := hx
  simp only [DataW.lit.injEq, Lit.string.injEq] at hd1
  subst hd1
  have h0 : ((cs.toList.drop j).take 1)[0]? = some (.string s) := by rw [hs]; rfl
  rw [List.getElem?_take_of_lt (by omega), List.getElem?_drop, Nat.add_zero, Array.getElem?_toList] at h0
  rw [h0]
  rfl

theorem gSyms : Tryd.prog.globalNamed "schemalens/lexer.symbols" = some 5 := by kernel_rfl
theorem gKws : Tryd.prog.globalNamed "schemalens/lexer.keywords" = some 0 := by kernel_rfl
theorem tSyms : (Tryd.prog.globals[5]?).map (·.type) = some 128 := by kernel_rfl
theorem tKws : (Tryd.prog.globals[0]?).map (·.type) = some 74 := by kernel_rfl
theorem first_same : Rows.laid_unicode_utf8_first = Lib.firstData := by kernel_rfl
theorem accept_same : (Rows.laid_unicode_utf8_acceptRanges : DataW Unit) = Lib.acceptData := by kernel_rfl

set_option maxRecDepth 100000
def laid4 : List (String × DataW Unit) := [("unicode/utf8.acceptRanges", Rows.laid_unicode_utf8_acceptRanges), ("schemalens/lexer.keywords", Rows.laid_schemalens_lexer_keywords), ("schemalens/lexer.symbols", Rows.laid_schemalens_lexer_symbols), ("unicode/utf8.first", Rows.laid_unicode_utf8_first)]

theorem tabs_of_reads {w : World} (h1 : Lib.VarReads Tryd.prog w "unicode/utf8.acceptRanges" Rows.laid_unicode_utf8_acceptRanges) (h2 : Lib.VarReads Tryd.prog w "schemalens/lexer.keywords" Rows.laid_schemalens_lexer_keywords)
    (h3 : Lib.VarReads Tryd.prog w "schemalens/lexer.symbols" Rows.laid_schemalens_lexer_symbols) (h4 : Lib.VarReads Tryd.prog w "unicode/utf8.first" Rows.laid_unicode_utf8_first) : Tabs w := by
  rw [accept_same] at h1
  rw [first_same] at h4
  exact ⟨strs_of_reads (ls := syms) h3 gSyms tSyms Tryd.underlying128 Tryd.underlying9 (by kernel_rfl), strs_of_reads (ls := kws) h2 gKws tKws Tryd.underlying74 Tryd.underlying9 (by kernel_rfl),
    utf8Tabs_of_readsT (U8Types.of196 Tryd.laysValid) ⟨by kernel_rfl, by kernel_rfl, by kernel_rfl, by kernel_rfl, by kernel_rfl, by kernel_rfl, by kernel_rfl⟩ h4 h1⟩
theorem tabs_of_laid {w : World} (h : laidMetH Tryd.prog laid4 w) : Tabs w := by
  rw [MakeChecks.laidMetH_plain _ _ _ (by kernel_rfl)] at h
  exact tabs_of_reads (Lib.laidMet.reads h (.head _)) (Lib.laidMet.reads h (.tail _ (.head _))) (Lib.laidMet.reads h (.tail _ (.tail _ (.head _)))) (Lib.laidMet.reads h (.tail _ (.tail _ (.tail _ (.head _)))))

theorem ints_of_trod {H : Type} {enc : TypeId × Value → H} {W : World} {base : Nat} {v : Value} {d : DataW H} {p : List MemPlace} (hv : Value.okWide Tryd.prog W .any base 22 v)
    (h : DataW.Trod enc Tryd.prog W 0 (fun _ => true) true 22 v d p) : ∃ zs, IsInts W v zs ∧ zs.length ≤ maxLen := by
  obtain ⟨a, len, cap, rfl⟩ := okWide_slice Tryd.underlying22 hv
  obtain ⟨fuel, hf⟩ := h
  rcases open_ints Tryd.underlying22 Tryd.underlying3 (by kernel_rfl) hf with ⟨hcs, _⟩ | ⟨x, l, c, zs, hcs, _, hl, hm, hz, _, hcell, hwz⟩
  · simp [Value.cells] at hcs
    obtain ⟨rfl, rfl, rfl⟩ := hcs
    exact ⟨[], ⟨none, 0, rfl, by simp, by simp⟩, by simp⟩
  · simp [Value.cells] at hcs
    obtain ⟨rfl, rfl, rfl⟩ := hcs
    simp only [if_true] at hz
    have hlen : (zs.take len).length = len := by simp; omega
    refine ⟨zs.take len, ⟨_, cap, by rw [hlen], fun z hzm => ?_, fun hpos => ?_⟩, by rw [hlen]; omega⟩
    · have := hwz z (List.mem_of_mem_take hzm)
      simpa [Lit.wf, IntKind.min, IntKind.signed, IntKind.bits] using this
    · obtain ⟨b, off, spot⟩ := x
      have hspot : spot = none := by simpa [Addr.add] using World.cell?_spot (hcell 0 (by omega))
      subst hspot
      refine ⟨b, off, rfl, fun i z hi => ?_⟩
      have hil : i < len := by have := (List.getElem?_eq_some_iff.1 hi).1; omega
      rw [List.getElem?_take_of_lt hil] at hi
      have := hcell i (by omega)
      rw [List.getD_eq_getElem?_getD, hi] at this
      rwa [show ((⟨b, off, none⟩ : Addr).add i) = ⟨b, off + i, none⟩ by unfold Addr.add; split <;> simp_all, Option.getD_some] at this
end Go.Proofs.YtolgoojlpmgblaaDoor

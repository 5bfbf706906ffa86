/- What the listed package-level variables hold, as the walks use it: the tables of symbols and keywords and utf8's two tables; it lasts while old memory lasts. -/
import Derived.Test.YtolgoojlpmgblaaDoorB
import Derived.Test.YtolgoojlpmgblaaDoorShelf
import Derived.Test.YtolgoojlpmgblaaDoorShelfV
import Derived.Deep.MidRow
import Derived.Below
namespace Go.Proofs.YtolgoojlpmgblaaDoor
open Go.RowKit

theorem run_index_agg {P : Program} (w : World) (t e : TypeId) (n : Nat) (cs : Array Value) (i : Nat) (v : Value) (d : TypeDesc) (ie : TypeInfo)
    (hu : P.underlying t = some (.array n e)) (he : P.underlying e = some d) (hd : d.isRow = false) (hie : P.info? e = some ie) (hsz : ie.size = 1) (hi : i < n) (hv : cs[i]? = some v) :
    (Instr.index t (.agg cs) (.int .i64 i)).run P w = .ok v w := by
  have h1 : (0 : Int) ≤ i ∧ (i : Int) < n := by omega
  have ha : (isAgg e).run P w = .ok false w := by
    unfold isAgg
    rw [Sem.run_bind, run_underlying he w]
    cases d <;> simp_all
  simp [Instr.index, asIntOf, run_underlying hu, h1, sizeOf, typeInfo, hie, hsz, part, hi, ha, hv]

/-- A string as a value of the model. -/
def sv (l : Bs) : Value := .string ⟨l.toArray⟩
def svs (ls : List Bs) : List Value := ls.map sv

/-- The tables of the program. -/
structure Tabs (w : World) : Prop where
  syms : w.rangeAt 5 0 (svs syms)
  kws : w.rangeAt 0 0 (svs kws)
  u8 : Lib.Utf8Tabs 1 2 w

theorem rangeAt_below {B : Nat} {w w' : World} {b o : Nat} {cs : List Value} (h : w.rangeAt b o cs) (hb : Below B w w') (hB : b < B) : w'.rangeAt b o cs :=
  fun j v hv => (hb.cell (p := ⟨b, o + j, none⟩) hB).trans (h j v hv)

theorem Tabs.size {w : World} (h : Tabs w) : 5 < w.heap.size :=
  World.block_lt_of_cell? w _ (h.syms 0 _ rfl)

theorem Tabs.below {w w' : World} (h : Tabs w) {B : Nat} (hb : Below B w w') (hB : 6 ≤ B) : Tabs w' :=
  ⟨rangeAt_below h.syms hb (by omega), rangeAt_below h.kws hb (by omega),
    fun c hc => (hb.cell (p := ⟨1, c, none⟩) (show 1 < B by omega)).trans (h.u8.1 c hc),
    fun i hi => ⟨(hb.cell (p := ⟨2, 2 * i, none⟩) (show 2 < B by omega)).trans (h.u8.2 i hi).1, (hb.cell (p := ⟨2, 2 * i + 1, none⟩) (show 2 < B by omega)).trans (h.u8.2 i hi).2⟩⟩
theorem Tabs.of_below {w w' : World} (h : Tabs w) (hb : Below w.heap.size w w') : Tabs w' := h.below hb h.size
theorem Tabs.drewN {w : World} (h : Tabs w) (n : Nat) : Tabs (w.drewN n) := ⟨h.syms, h.kws, h.u8⟩

theorem index_sym (i : Nat) (hi : i < 24) (w : World) : (Instr.index 128 (.agg (svs syms).toArray) (.int .i64 i)).run Tryd.prog w = .ok (sv (syms.getD i [])) w := by
  obtain ⟨ie, h1, h2⟩ : ∃ ie, Tryd.prog.info? 9 = some ie ∧ ie.size = 1 := by
    have : (Tryd.prog.info? 9).map (·.size) = some 1 := by kernel_rfl
    exact Option.map_eq_some_iff.1 this
  refine run_index_agg w 128 9 24 (svs syms).toArray i _ _ ie Tryd.underlying128 Tryd.underlying9 rfl h1 h2 hi ?_
  have hl : syms.length = 24 := rfl
  simp only [svs, List.getElem?_toArray, List.getElem?_map]
  rw [List.getElem?_eq_getElem (by omega), List.getD_eq_getElem?_getD, List.getElem?_eq_getElem (by omega)]
  rfl
end Go.Proofs.YtolgoojlpmgblaaDoor

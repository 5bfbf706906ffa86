import Derived.Test.YthkkmklnapkgaaaGreatDoorRows
import Derived.Test.YthkkmklnapkgaaaGreatDoorCards
import Derived.Test.YthkkmklnapkgaaaGreatDoorTie
import Derived.Test.YthkkmklnapkgaaaGreatDoorQ44
import Derived.ProofKit
import Derived.Lib.LaidU8
import Derived.LaidMore
import Derived.OpenShut
import Derived.ShutString
import Derived.MakeChecks
import Derived.Lay
import Derived.SevenTiedAt
import Derived.Stop.Joined
import Derived.ChangeOld
import Derived.Below
/- RowsMany returns true for every input, and each argument reads afterwards as it read before. Condition: when the call begins, the listed package variables hold what the program's own text lays there (tied to that text). -/
namespace Go.Proofs.YthkkmklnapkgaaaGreatDoor
open Go.ChangeShapes Go.WideShapes Go.ChangeAt Go.RowKit
open Go.ChangeMaps (open_string shut_string)

theorem own : ownKnob Tryz.prog.godebug = none := by kernel_rfl
theorem laidOut : laidOutB Tryz.prog = true := by kernel_rfl

theorem strs_of_reads {P : Program} {w : World} {nm : String} {ls : List Bs} {g : Nat} {t e : TypeId} (h : Lib.VarReads P w nm (.agg (ls.map fun l => .lit (.string l))))
    (hg : P.globalNamed nm = some g) (ht : (P.globals[g]?).map (·.type) = some t) (hu : P.underlying t = some (.array ls.length e)) (he : P.underlying e = some .string) (hc : P.cellsOf e = 1) :
    w.rangeAt g 0 (svs ls) := by
  obtain ⟨g', t', cs, fuel, p, hg', ht', hv, hd⟩ := h
  obtain rfl := Option.some.inj (hg.symm.trans hg')
  obtain rfl := Option.some.inj (ht.symm.trans ht')
  intro j v hj
  rw [Nat.zero_add, World.var?_cell hg hv j]
  obtain ⟨l, hl, rfl⟩ : ∃ l, ls[j]? = some l ∧ v = sv l := by
    simp only [svs, List.getElem?_map, Option.map_eq_some_iff] at hj
    obtain ⟨l, h1, h2⟩ := hj
    exact ⟨l, h1, h2.symm⟩
  have hjl : j < ls.length := (List.getElem?_eq_some_iff.1 hl).1
  obtain ⟨f', d, q, hd1, hd2⟩ := Lib.array_elem hu hd j hjl
  rw [hc, Nat.mul_one] at hd2
  obtain ⟨s, hs, hx, _⟩ := DataW.trod_string he hd2
  simp only [List.getElem?_map, hl, Option.map_some, Option.some.injEq] at hd1
  simp only [Prod.mk.injEq] at hx
  obtain ⟨rfl, _⟩ := hx
  simp only [DataW.lit.injEq, Lit.string.injEq] at hd1
  subst hd1
  have h0 : ((cs.toList.drop j).take 1)[0]? = some (.string s) := by rw [hs]; rfl
  rw [List.getElem?_take_of_lt (by omega), List.getElem?_drop, Nat.add_zero, Array.getElem?_toList] at h0
  rw [h0]
  rfl

theorem gKws : Tryz.prog.globalNamed "schemalens/lexer.keywords" = some 5 := by kernel_rfl
theorem tKws : (Tryz.prog.globals[5]?).map (·.type) = some 213 := by kernel_rfl

set_option maxRecDepth 100000
theorem kw_of_laid {w : World} (h : laidMetH Tryz.prog Rows.rowsManyRow.laid w) : KwTab w := by
  rw [MakeChecks.laidMetH_plain _ _ _ (by kernel_rfl)] at h
  have h1 : Lib.VarReads Tryz.prog w "schemalens/lexer.keywords" Rows.laid_schemalens_lexer_keywords := Lib.laidMet.reads h (.tail _ (.tail _ (.tail _ (.tail _ (.tail _ (.tail _ (.head _)))))))
  exact strs_of_reads (ls := kws) h1 gKws tKws Tryz.underlying213 Tryz.underlying9 (by kernel_rfl)

theorem rowsMany_lifted (os : Os) (started : os.Started) (H : Type) (enc : TypeId × Value → H) :
    ReturnsInHanded {} Tryz.checked os 3 .any (fun w args => (Rows.rowsManySpec.pre enc Tryz.prog Tryz.f3 Rows.rowsManyRow.domain false w args ∧ laidMetH Tryz.prog Rows.rowsManyRow.laid w) ∧ sizedMet enc Tryz.prog Tryz.f3 (OpenSpec.ofChange Rows.rowsManySpec) false w args)
      (Rows.rowsManySpec.post enc Tryz.prog Tryz.f3 false true false false) := by
  refine returnsInHanded_of_change_and (C := Tryz.checked) (X := fun w _ => laidMetH Tryz.prog Rows.rowsManyRow.laid w) (fun _ _ _ hh h => h.of_heap hh) own started (by kernel_rfl) Tryz.func3
    (ChangeSpec.witness_shaped (enc := enc) (C := Tryz.checked) (os := os) (X := fun w _ => laidMetH Tryz.prog Rows.rowsManyRow.laid w) false (World.laidAll Tryz.prog os Rows.rowsManyRow.laid) #[.int .i64 0, .int .i64 0] 8 (World.laidAll_os _ _ _)
      (World.shaped_of_ZipB (by kernel_rfl) (by kernel_rfl)) (by kernel_rfl) (by kernel_rfl) (by kernel_rfl)
      (by rw [MakeChecks.laidMetH_plain _ _ _ (by kernel_rfl)]; exact laidMet_laidAll _ (by kernel_rfl) (by kernel_rfl))) ?_
  intro W base args ds gs before hval0 hW _ _ hL _
  have hval : ∀ (j : Nat) t v, Tryz.f3.params[j]? = some t → args[j]? = some v → Value.okWide Tryz.prog W .any base t v := hval0
  have hW' := hW
  obtain ⟨p, q, hA0, hV, rfl, _, _⟩ := hW
  have hA : DataW.TrodAll enc Tryz.prog W 0 (fun _ => true) true Tryz.f3.params.toList args.toList ds p := hA0
  rw [Tryz.params3] at hA hval
  obtain ⟨v0, vs0, d0, ds0, p0, q0, hargs, rfl, rfl, h0, r0⟩ := trodAll_cons hA
  obtain ⟨v1, vs1, d1, ds1, p1, q1, rfl, rfl, rfl, h1, r1⟩ := trodAll_cons r0
  obtain ⟨rfl, rfl, rfl⟩ := trodAll_nil r1
  obtain rfl : args = #[v0, v1] := by cases args; simp_all
  obtain ⟨rfl, rfl⟩ := trodVars_none hV
  obtain ⟨a0, rfl, rfl, rfl, w0⟩ := open_int Tryz.underlying3 (hval 0 3 v0 rfl rfl) h0
  obtain ⟨a1, rfl, rfl, rfl, w1⟩ := open_int Tryz.underlying3 (hval 1 3 v1 rfl rfl) h1
  clear hA0 hval0
  have b0 : -9223372036854775808 ≤ a0 ∧ a0 ≤ 9223372036854775807 := by simpa [Lit.wf, IntKind.min, IntKind.max, IntKind.signed, IntKind.bits] using w0
  have b1 : -9223372036854775808 ≤ a1 ∧ a1 ≤ 9223372036854775807 := by simpa [Lit.wf, IntKind.min, IntKind.max, IntKind.signed, IntKind.bits] using w1
  refine (many_any a0 a1 W (kw_of_laid hL) b0.1 b0.2 b1.1 b1.2).mono fun e W' ⟨he, bel⟩ => ?_
  subst he
  exact ⟨_, rfl, _, _, _, [], _, [], hW', trodAll_mk1 (shut_bool Tryz.underlying4 _), (trodAll_cons_mk (shut_int Tryz.underlying3 w0) (trodAll_cons_mk (shut_int Tryz.underlying3 w1) trodAll_mk0)), rfl, bel.frame _, fun h => by cases h⟩

theorem rowsMany_row : Rows.RowsManySaid :=
  OpenClaim.holds_of_wide 3 Tryz.f3 rfl rfl rfl rfl rfl rfl rfl ⟨rfl, rfl, rfl, rfl, rfl⟩ rfl rfl rfl rfl rfl (by kernel_rfl) Tryz.func3 (by kernel_rfl)
    (of_decide_eq_true (by kernel_rfl)) (by unfold Func.isWrapper; first | (rw [if_pos (by decide +kernel)]; kernel_rfl) | (rw [if_neg (by decide +kernel)]; exact ⟨rfl, rfl⟩))
    (fun os started H enc _ => rowsMany_lifted os started H enc)
theorem rowsMany_proved : Rows.RowsManyCardSaid :=
  Claim7.holds_tied_plain_at .later [] [.data, .data, .data, .data, .sentinel, .sentinel, .widerDeep, .data, .pinned] true (true, "0c457e40629a0d37d424a5f3e694b99941ef8ebf80b7db6dc58ba289cc457f01") true rowsMany_row (fun _ h => by cases h) (by kernel_rfl) (fun _ h => by cases h) rowsMany_row_tie rfl ⟨rfl, rfl⟩ (by kernel_rfl) rfl
    (fun f fn hf hfn => by
      obtain rfl : f = 3 := Option.some.inj ((show Tryz.prog.funcNamed "schemalens/schemalenslaw17.RowsMany" = some 3 by kernel_rfl).symm.trans hf) |>.symm
      obtain rfl : fn = Tryz.f3 := (Option.some.inj (Tryz.func3.symm.trans hfn)).symm
      exact ⟨by kernel_rfl, fun j t ht => by
        rw [Tryz.params3] at ht
        have hm : t ∈ [3, 3] := by simpa using Array.mem_of_getElem? ht
        have hall : ([3, 3].all fun u => !Tryz.prog.wantsStandIn u) = true := by kernel_rfl
        exact (show Tryz.prog.wantsStandIn t = false by simpa using List.all_eq_true.1 hall t hm)⟩)
    (by kernel_rfl)
end Go.Proofs.YthkkmklnapkgaaaGreatDoor

/- The reference's Same says whether two rows of tokens are equal. -/
import Derived.Test.YtolgoojlpmgblaaDoorQ
import Derived.Laws.StructEq
import Derived.BigQuiet
import Derived.Deep.QuietTactic
import Derived.WalkKit
import Derived.WalkSpells
import Derived.WalkLawsBesides
import Derived.Outline
import Derived.Lib.Hide
import Derived.Handy
namespace Go.Proofs.YtolgoojlpmgblaaDoor
open Go.RowKit

/-- The value v reads as the list xs of cells, n elements. -/
def Reads (w : World) (v : Value) (n : Nat) (xs : List Value) : Prop :=
  ∃ p cap, v = .slice p n cap ∧ (0 < n → ∃ g, p = some ⟨g, 0, none⟩ ∧ ∀ j u, xs[j]? = some u → w.cell? ⟨g, j, none⟩ = some u)

theorem reads_of_owns {w : World} {B : Nat} {e : TypeId} {sz n : Nat} {v : Value} {xs : List Value} (h : w.ownsRow B e sz v n xs) : Reads w v n xs := by
  have hc := fun g => h.cells (g := g)
  rcases h.2 with ⟨rfl, rfl⟩ | ⟨g, cap, cur, rfl, _⟩
  · exact ⟨none, 0, rfl, fun h => by omega⟩
  · refine ⟨_, cap, rfl, fun _ => ⟨g, rfl, fun j u hu => ?_⟩⟩
    have := hc g rfl j u hu
    rwa [show ((⟨g, 0, none⟩ : Addr).add j) = ⟨g, j, none⟩ by unfold Addr.add; split <;> simp_all] at this

/-- The value v reads as the tokens ts. -/
def IsToks (w : World) (v : Value) (ts : List Tok) : Prop := Reads w v ts.length (tokCs ts)

theorem tokCs_get (ts : List Tok) (k : Nat) (x : Tok) (h : ts[k]? = some x) : (tokCs ts)[k * 3]? = some (.int .i64 x.kind) ∧ (tokCs ts)[k * 3 + 1]? = some (.string ⟨x.text.toArray⟩) ∧ (tokCs ts)[k * 3 + 2]? = some (.int .i64 x.at') := by
  induction ts generalizing k with
  | nil => simp at h
  | cons y ts ih =>
    cases k with
    | zero => simp at h; subst h; simp [tokCs, tokC]
    | succ k =>
      have := ih k (by simpa using h)
      have e : tokCs (y :: ts) = tokC y ++ tokCs ts := by simp [tokCs]
      rw [e, show (k + 1) * 3 = k * 3 + 3 by omega]
      have hl : (tokC y).length = 3 := rfl
      rw [List.getElem?_append_right (by omega), List.getElem?_append_right (by omega), List.getElem?_append_right (by omega), hl]
      simpa [show k * 3 + 3 + 1 - 3 = k * 3 + 1 by omega, show k * 3 + 3 + 2 - 3 = k * 3 + 2 by omega] using this

theorem st31 : Tryd.prog.underlying 31 = some (.struct (Tryd.prog.fieldsOf 31)) := by kernel_rfl
theorem stood31 : Tryd.prog.stoodInHeld 31 = false := by kernel_rfl
theorem guard31 : Tryd.prog.eqGuardType Tryd.prog.depth 31 = false := by kernel_rfl
theorem fields31 : (Tryd.prog.fieldsOf 31).toList.map (fun f => (f.name, f.type, f.offset)) = [("Kind", 3, 0), ("Text", 9, 1), ("At", 3, 2)] := by kernel_rfl
theorem part_cell {P : Program} (w : World) (t : TypeId) (cs : Array Value) (i : Nat) (v : Value) (d : TypeDesc) (hu : P.underlying t = some d) (hd : d.isRow = false) (hv : cs[i]? = some v) : (part t cs i).run P w = .ok v w := by
  have ha : (isAgg t).run P w = .ok false w := by
    unfold isAgg
    rw [Sem.run_bind, run_underlying hu w]
    cases d <;> simp_all
  simp [part, ha, hv]
theorem tok_eqIn (a b c a' b' c' : Value) (ra rb rc : Bool) (d : Nat) (w : World)
    (ha : ∀ w, (Op.equalIn d 3 a a').run Tryd.prog w = .ok ra w) (hb : ∀ w, (Op.equalIn d 9 b b').run Tryd.prog w = .ok rb w) (hc : ∀ w, (Op.equalIn d 3 c c').run Tryd.prog w = .ok rc w) :
    (Op.equalIn (d + 1) 31 (.agg #[a, b, c]) (.agg #[a', b', c'])).run Tryd.prog w = .ok (ra && rb && rc) w := by
  rw [run_equalIn_agg w d 31 _ _ st31 stood31]
  have hf := fields31
  generalize (Tryd.prog.fieldsOf 31).toList = fs at hf
  have hl : fs.length = 3 := by have := congrArg List.length hf; simpa using this
  obtain ⟨f0, f1, f2, rfl⟩ : ∃ f0 f1 f2, fs = [f0, f1, f2] := by
    match fs, hl with
    | [f0, f1, f2], _ => exact ⟨f0, f1, f2, rfl⟩
  · simp only [List.map_cons, List.map_nil, List.cons.injEq, Prod.mk.injEq, and_true] at hf
    obtain ⟨⟨n0, t0, o0⟩, ⟨n1, t1, o1⟩, n2, t2, o2⟩ := hf
    have p0 := fun w => part_cell (P := Tryd.prog) w 3 #[a, b, c] 0 a _ Tryd.underlying3 rfl rfl
    have p0' := fun w => part_cell (P := Tryd.prog) w 3 #[a', b', c'] 0 a' _ Tryd.underlying3 rfl rfl
    have p1 := fun w => part_cell (P := Tryd.prog) w 9 #[a, b, c] 1 b _ Tryd.underlying9 rfl rfl
    have p1' := fun w => part_cell (P := Tryd.prog) w 9 #[a', b', c'] 1 b' _ Tryd.underlying9 rfl rfl
    have p2 := fun w => part_cell (P := Tryd.prog) w 3 #[a, b, c] 2 c _ Tryd.underlying3 rfl rfl
    have p2' := fun w => part_cell (P := Tryd.prog) w 3 #[a', b', c'] 2 c' _ Tryd.underlying3 rfl rfl
    cases ra <;> cases rb <;> cases rc <;> simp [Op.eqFields, n0, t0, o0, n1, t1, o1, n2, t2, o2, p0, p0', p1, p1', p2, p2', ha, hb, hc]
theorem tok_neq (x y : Tok) (w : World) : (binOp .neq 31 (.agg #[.int .i64 x.kind, .string ⟨x.text.toArray⟩, .int .i64 x.at']) (.agg #[.int .i64 y.kind, .string ⟨y.text.toArray⟩, .int .i64 y.at'])).run Tryd.prog w = .ok (.bool (!decide (x = y))) w := by
  rw [run_neq_struct, tok_eqIn _ _ _ _ _ _ _ _ _ 9999 w (fun w => run_equalIn_int w 9998 3 _ .i64 _ _ Tryd.underlying3) (fun w => run_equalIn_string w 9998 9 _ _ Tryd.underlying9) (fun w => run_equalIn_int w 9998 3 _ .i64 _ _ Tryd.underlying3)]
  simp only [Result.andThen_ok, ByteArray.toList_mk]
  congr 3
  obtain ⟨k, t, a⟩ := x; obtain ⟨k', t', a'⟩ := y
  rw [Bool.eq_iff_iff]
  simp only [Bool.and_eq_true, beq_iff_eq, decide_eq_true_eq, Tok.mk.injEq, Int.natCast_inj, and_assoc]
theorem tok_guard (op : BinOp) (x y : Operand) (xs ys : Array Value) (w : World) : (eqGuard op 31 x y (.agg xs) (.agg ys)).run Tryd.prog w = .ok () w := run_eqGuard_agg w op 31 x y xs ys guard31
set_option maxHeartbeats 1000000 in
theorem same_ref (va vb : Value) (ta tb : List Tok) (w : World) (ha : IsToks w va ta) (hb : IsToks w vb tb) (hla : ta.length ≤ 1000000) (hlb : tb.length ≤ 1000000) :
    Calls Tryd.prog 12 #[va, vb] w fun e w' => e = .returned (.bool (decide (ta = tb))) ∧ Below w.heap.size w w' := by
  obtain ⟨pa, capa, rfl, hca⟩ := ha
  obtain ⟨pb, capb, rfl, hcb⟩ := hb
  by_cases hl : ta.length = tb.length
  · obtain ⟨n, hn⟩ : ∃ n, ta.length = n := ⟨_, rfl⟩
    have hn2 : tb.length = n := by omega
    rw [hn] at hca hla ⊢
    rw [hn2] at hcb ⊢
    have HNa := Lib.hid hn; have HNb := Lib.hid hn2; have HCa := Lib.hid hca; have HCb := Lib.hid hcb
    clear hl hn hn2 hca hcb hlb
    obtain ⟨R, hR⟩ : ∃ R, decide (ta = tb) = R := ⟨_, rfl⟩
    rw [hR]
    have HR := Lib.hid hR; clear hR
    go_enter Tryd.func12, Tryd.ntmps12
    go_wp2
    go_loopw [5] (fun i wr => ∃ k : Nat, k ≤ n ∧ ta.take k = tb.take k ∧ i = .int .i64 k ∧ Below w.heap.size w wr) (fun i _ => n - (intOf i).toNat)
    case atStart => exact ⟨0, Nat.zero_le _, by simp, rfl, Below.refl _ _⟩
    case round =>
      obtain ⟨k, hk, hno, rfl, hB⟩ := hrel
      have HNo := Lib.hid hno; have HB := Lib.hid hB
      clear hno hB
      by_cases hlt : k < n
      · obtain ⟨x, hx⟩ : ∃ x, ta[k]? = some x := ⟨_, List.getElem?_eq_getElem (by have := HNa.out; omega)⟩
        obtain ⟨y, hy⟩ : ∃ y, tb[k]? = some y := ⟨_, List.getElem?_eq_getElem (by have := HNb.out; omega)⟩
        obtain ⟨ga, rfl, hga⟩ := HCa.out (by omega)
        obtain ⟨gb, rfl, hgb⟩ := HCb.out (by omega)
        obtain ⟨x0, x1, x2⟩ := tokCs_get ta k x hx
        obtain ⟨y0, y1, y2⟩ := tokCs_get tb k y hy
        have la := World.block_lt_of_cell? w _ (hga _ _ x0)
        have lb := World.block_lt_of_cell? w _ (hgb _ _ y0)
        have ca0 := (HB.out.cell (p := ⟨ga, k * 3, none⟩) la).trans (hga _ _ x0)
        have ca1 := (HB.out.cell (p := ⟨ga, k * 3 + 1, none⟩) la).trans (hga _ _ x1)
        have ca2 := (HB.out.cell (p := ⟨ga, k * 3 + 2, none⟩) la).trans (hga _ _ x2)
        have cb0 := (HB.out.cell (p := ⟨gb, k * 3, none⟩) lb).trans (hgb _ _ y0)
        have cb1 := (HB.out.cell (p := ⟨gb, k * 3 + 1, none⟩) lb).trans (hgb _ _ y1)
        have cb2 := (HB.out.cell (p := ⟨gb, k * 3 + 2, none⟩) lb).trans (hgb _ _ y2)
        have HX := Lib.hid hx; have HY := Lib.hid hy; have HGa := Lib.hid hga; have HGb := Lib.hid hgb
        clear hx hy hga hgb x0 x1 x2 y0 y1 y2 la lb
        have hcmp := tok_neq x y
        have hgd := tok_guard
        by_cases he : x = y
        · have hd : decide (x = y) = true := by simpa using he
          rw [hd] at hcmp
          have HE := Lib.hid he; clear he hd
          go_wp2_with fail
          go_quiet (fail)
          go_wp2_with fail
          refine ⟨⟨k + 1, by omega, ?_, by go_num, HB.out.trans (below_drewN _ _ |>.mono HB.out.size)⟩, by simp [intOf]; omega⟩
          rw [List.take_add_one, List.take_add_one, HX.out, HY.out, HNo.out, HE.out]
        · have hd : decide (x = y) = false := by simpa using he
          rw [hd] at hcmp
          have HE := Lib.hid he; clear he hd
          go_wp2_with fail
          go_quiet (fail)
          go_wp2_with fail
          go_ret
          have e : R = false := by
            rw [← HR.out, decide_eq_false_iff_not]
            intro e; apply HE.out
            have h1 := HX.out; have h2 := HY.out
            rw [e, h2] at h1; exact (Option.some.inj h1).symm
          exact ⟨by rw [e]; rfl, HB.out.trans (below_drewN _ _ |>.mono HB.out.size)⟩
      · have e : R = true := by
          have := HNo.out
          rw [List.take_of_length_le (by have := HNa.out; omega), List.take_of_length_le (by have := HNb.out; omega)] at this
          rw [← HR.out, decide_eq_true_iff]; exact this
        have HE := Lib.hid e; clear e
        go_wp2_with fail
        go_ret
        exact ⟨by rw [HE.out]; rfl, HB.out⟩
  · have e : decide (ta = tb) = false := by rw [decide_eq_false_iff_not]; intro e; exact hl (by rw [e])
    rw [e]
    have hq : ((ta.length : Int) != (tb.length : Int)) = true := by rw [bne_iff_ne]; omega
    clear e hca hcb hl
    go_enter Tryd.func12, Tryd.ntmps12
    go_wp2_with fail
    go_ret
    exact ⟨rfl, Below.refl _ _⟩
end Go.Proofs.YtolgoojlpmgblaaDoor

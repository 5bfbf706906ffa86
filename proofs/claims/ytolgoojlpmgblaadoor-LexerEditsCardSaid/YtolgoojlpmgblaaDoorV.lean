/- Laws of no program: an append of zero bytes to a row of one's own, a copy of a string into it, the string of the row. -/
import Derived.Laws.AppendOwn
import Derived.Laws.IdiomStrings
import Derived.Laws.CopyRow
import Derived.Below
import Derived.IntWalk
import Derived.Tactics
import Derived.Tactics2
namespace Go.Proofs.YtolgoojlpmgblaaDoor
open Go.RowKit

theorem zeros_list (m : Nat) : Builtin.zeroCells #[Value.int .u8 0] m = (List.replicate m (Value.int .u8 0)).toArray := by
  apply Array.ext'
  simp [Builtin.zeroCells]
  apply List.ext_getElem
  · simp
  · intro i h1 h2
    simp [Nat.mod_one]

section
variable {P : Program} (w : World)

theorem run_append_zeros (base : Nat) (t xt ty e : TypeId) (i : TypeInfo) (ht : P.underlying t = some (.slice e)) (hxt : P.underlying xt = some (.int .i64)) (hi : P.info? e = some i) (hz : i.zero = some (.int .u8 0))
    (hsize : i.size = 1) (hby : i.bytes = 1) (v : Value) (n : Nat) (xs : List Value) (hown : w.ownsRow base e 1 v n xs) (m : Nat) (hm : 1 ≤ m) (hnm : n + m ≤ 1000000000) (hbase : base ≤ w.heap.size) :
    ∃ v' w', (Builtin.append_ #[t, xt] ty #[v, .int .i64 m]).run P w = .ok v' w' ∧ w'.ownsRow base e 1 v' (n + m) (xs ++ List.replicate m (.int .u8 0)) ∧ w.grownBy w' v.ownBlock := by
  have hl : IntKind.i64.wrap (m : Int) = m := IntWalk.i64_in _ (by omega)
  have hl48 : ¬ (281474976710656 < (m : Int)) := by omega
  have hlen : (xs ++ List.replicate m (Value.int .u8 0)).length = (n + m) * 1 := by rw [List.length_append, hown.1]; simp
  have grown : ∀ (old : Nat), old < n + m → ∀ (row : Option Nat),
      (w.drew.alloc (.cells (xs.toArray ++ (List.replicate m (Value.int .u8 0)).toArray ++ (List.replicate (grownCap w (n + m) old e - (n + m)) (Value.int .u8 0)).toArray) e)).ownsRow base e 1
        (.slice (some ⟨w.heap.size, 0, none⟩) (n + m) (grownCap w (n + m) old e)) (n + m) (xs ++ List.replicate m (.int .u8 0)) ∧
      w.grownBy (w.drew.alloc (.cells (xs.toArray ++ (List.replicate m (Value.int .u8 0)).toArray ++ (List.replicate (grownCap w (n + m) old e - (n + m)) (Value.int .u8 0)).toArray) e)) row := by
    intro old ho row
    have hge := grownCap_ge w (n + m) old e
    have hcm : grownCap w (n + m) old e ≤ maxLen := grownCap_le_maxLen w (n + m) old e (by unfold maxLen; omega)
    refine ⟨⟨hlen, .inr ⟨w.heap.size, _, _, rfl, hbase, heap_alloc_new w.drew _, hge, hcm, ?_, ?_⟩⟩, ⟨rfl, rfl, rfl, by simp, fun k hk _ => heap_alloc_old w.drew _ k hk⟩⟩
    · have := hown.1
      simp at this ⊢; omega
    · have := hown.1
      simp only [List.append_toArray]
      rw [← hlen]
      exact List.take_left
  rcases hown.2 with ⟨rfl, rfl⟩ | ⟨g, cap, cur, rfl, hbg, hg, hnc, hcm, hcs, htake⟩
  · have hx : xs = [] := List.eq_nil_of_length_eq_zero (by simpa using hown.1)
    subst hx
    have hgr := grown 0 (by omega) (Value.ownBlock (.slice none 0 0))
    have hn : m ≠ 0 := by omega
    have h63' : ¬ (9223372036854775807 < (m : Int)) := by omega
    have h48' : ¬ (281474976710656 < Builtin.nextslicecap m 0) := by rw [nextslicecap_zero (by omega)]; omega
    refine ⟨_, _, ?_, hgr.1, hgr.2⟩
    simp [Builtin.append_, run_underlying ht, run_underlying hxt, sizeOf, typeInfo, zeroValue, hi, hz, hl, hl48, hby, hsize, hn, asInt, asIntOf, h63', h48', Question.forced, run_firstCells_none, newRow, grownCap, zeros_list, Value.cells]
    intro h; omega
  · by_cases hroom : n + m ≤ cap
    · have hst := run_storeCells_at P g n e (List.replicate m (Value.int .u8 0)) 0 cur w hg (by simp; omega) (by simp [Value.oneCell'])
      simp only [Nat.add_zero] at hst
      have hn : m ≠ 0 := by omega
      refine ⟨.slice (some ⟨g, 0, none⟩) (n + m) cap, w.setRow g (cur.toList.take n ++ List.replicate m (Value.int .u8 0) ++ cur.toList.drop (n + (List.replicate m (Value.int .u8 0)).length)).toArray, ?_, ⟨hlen, .inr ⟨g, cap, _, rfl, hbg, setRow_heap w g cur _ e _ hg, hroom, hcm, ?_, ?_⟩⟩, ⟨rfl, rfl, rfl, by simp, fun k _ hk => setRow_other w g k _ (fun e => hk (by simp [Value.ownBlock, e]))⟩⟩
      · simp [Builtin.append_, run_underlying ht, run_underlying hxt, sizeOf, typeInfo, zeroValue, hi, hz, hl, hl48, hby, hsize, hn, asInt, asIntOf, hroom, Addr.add_lit, zeros_list, Value.cells, hst]
        intro h; omega
      · simp; omega
      · rw [Nat.mul_one] at htake
        rw [htake, ← hlen]
        exact List.take_left
    · have holds : ∀ j u, xs[j]? = some u → w.cell? ((⟨g, 0, none⟩ : Addr).add j) = some u := hown.cells (g := g) rfl
      have hgr := grown cap (by omega) (Value.ownBlock (.slice (some ⟨g, 0, none⟩) n cap))
      refine ⟨_, _, ?_, hgr.1, hgr.2⟩
      have hn : m ≠ 0 := by omega
      have h63' : ¬ (9223372036854775807 < ((n : Int) + (m : Int))) := by omega
      have h48' : ¬ (281474976710656 < Builtin.nextslicecap (n + m) cap) := by have := nextslicecap_le (need := n + m) (old := cap) (by omega); omega
      have hfo := run_firstCells_some (P := P) w.drew 1 n ⟨g, 0, none⟩ n cap xs hown.1 (by simpa using holds)
      simp [Builtin.append_, run_underlying ht, run_underlying hxt, sizeOf, typeInfo, zeroValue, hi, hz, hl, hl48, hby, hsize, hn, asInt, asIntOf, hroom, h63', h48', Question.forced, hfo, newRow, grownCap, zeros_list, Value.cells]
      intro h; omega

theorem wpList_append_zeros {ops : Array Oper} {rest : List Oper} {o : Oper} {a : Act} {Q : Exit → Act → World → Prop} (hgd : o.guard = none) (s x : Operand) (t xt : TypeId)
    (ho : o.op = .call { callee := .builtin .append, args := #[s, x], argTypes := #[t, xt] })
    (base : Nat) (e : TypeId) (i : TypeInfo) (ht : P.underlying t = some (.slice e)) (hxt : P.underlying xt = some (.int .i64)) (hi : P.info? e = some i) (hz : i.zero = some (.int .u8 0))
    (hsize : i.size = 1) (hby : i.bytes = 1) (v : Value) (n : Nat) (xs : List Value) (hs : a.eval s = v) (hown : w.ownsRow base e 1 v n xs) (m : Nat) (hx : a.eval x = .int .i64 m) (hm : 1 ≤ m) (hnm : n + m ≤ 1000000000) (hbase : base ≤ w.heap.size)
    (h : ∀ v' w', w'.ownsRow base e 1 v' (n + m) (xs ++ List.replicate m (.int .u8 0)) → w.grownBy w' v.ownBlock → wpList P ops Q rest (a.put o.dst v') w') : wpList P ops Q (o :: rest) a w := by
  refine wpList_plain hgd fun K hK => ?_
  obtain ⟨v', w', hr, h2, h3⟩ := run_append_zeros (P := P) w base t xt o.type e i ht hxt hi hz hsize hby v n xs hown m hm hnm hbase
  unfold Oper.wp execOp
  simp only [ho, resolve, invoke, builtin, Sem.run_bind, Sem.run_pure, Result.andThen_ok, List.map_toArray, List.map_cons, List.map_nil, hs, hx, hr]
  exact hK _ _ (h v' w' h2 h3)

/-- The cells of the bytes of a string. -/
def byteCells (l : List UInt8) : List Value := l.map fun b => .int .u8 b.toNat

theorem run_copy_string (dT sT ty elem : TypeId) (i : TypeInfo) (hu : P.underlying dT = some (.slice elem)) (hi : P.info? elem = some i) (hsize : i.size = 1)
    (g off cap : Nat) (str : ByteArray) (cur : Array Value) (t : TypeId) (hg : w.heap[g]? = some (.cells cur t (0, 0))) (hfit : off + str.size ≤ cur.size) :
    (Builtin.copy_ #[dT, sT] ty #[.slice (some ⟨g, off, none⟩) str.size cap, .string str]).run P w =
      .ok (goInt str.size) (w.setRow g (cur.toList.take off ++ byteCells str.data.toList ++ cur.toList.drop (off + str.size)).toArray) := by
  have hlen : (byteCells str.data.toList).length = str.size := by simp [byteCells]
  have hst := run_storeCells_at P g off t (byteCells str.data.toList) 0 cur w hg (by rw [hlen]; simpa using hfit) (by
    intro v hv; simp [byteCells] at hv; obtain ⟨b, _, rfl⟩ := hv; rfl)
  simp only [Nat.add_zero, hlen] at hst
  have hf : (Builtin.firstCells 1 str.size (.string str)).run P w = .ok (byteCells str.data.toList).toArray w := by
    simp only [Builtin.firstCells, Sem.run_pure]
    congr 1
    apply Array.ext'
    have : str.extract 0 str.size = str := by
      apply ByteArray.ext; simp [ByteArray.data_extract]
    simp [byteCells, this]
  simp [Builtin.copy_, run_underlying hu, Builtin.lenOf, sizeOf, typeInfo, hi, hsize, hf, hst]

theorem wpList_copy_string {ops : Array Oper} {rest : List Oper} {o : Oper} {a : Act} {Q : Exit → Act → World → Prop} (hgd : o.guard = none) (d s : Operand) (dT sT : TypeId)
    (ho : o.op = .call { callee := .builtin .copy, args := #[d, s], argTypes := #[dT, sT] })
    (base elem : TypeId) (i : TypeInfo) (hu : P.underlying dT = some (.slice elem)) (hi : P.info? elem = some i) (hsize : i.size = 1)
    (g n cap cap' : Nat) (str : ByteArray) (hd : a.eval d = .slice (some ⟨g, n, none⟩) str.size cap') (hs : a.eval s = .string str)
    (xs zs : List Value) (hxs : xs.length = n) (hown : w.ownsRow base elem 1 (.slice (some ⟨g, 0, none⟩) (n + str.size) cap) (n + str.size) (xs ++ zs))
    (h : ∀ w', w'.ownsRow base elem 1 (.slice (some ⟨g, 0, none⟩) (n + str.size) cap) (n + str.size) (xs ++ byteCells str.data.toList) → w.grownBy w' (some g) → wpList P ops Q rest (a.put o.dst (goInt str.size)) w') : wpList P ops Q (o :: rest) a w := by
  refine wpList_plain hgd fun K hK => ?_
  obtain ⟨hl, hr⟩ := hown
  rcases hr with ⟨hv, _⟩ | ⟨g', cap2, cur, hv, hbg, hg, hnc, hcm, hcs, htake⟩
  · cases hv
  · cases hv
    have hrun := run_copy_string (P := P) w dT sT o.type elem i hu hi hsize g n cap' str cur elem hg (by omega)
    have hlen : (byteCells str.data.toList).length = str.size := by simp [byteCells]
    unfold Oper.wp
    simp only [execOp, ho, resolve, invoke, builtin, Sem.run_bind, Sem.run_pure, Result.andThen_ok, List.map_toArray, List.map_cons, List.map_nil, hd, hs, hrun]
    refine hK _ _ (h _ ⟨by rw [List.length_append, hlen, hxs]; omega, .inr ⟨g, cap, _, rfl, hbg, setRow_heap w g cur _ elem _ hg, hnc, hcm, ?_, ?_⟩⟩ ⟨rfl, rfl, rfl, by simp, fun k _ hk => setRow_other w g k _ (fun e => hk (by rw [e]))⟩)
    · simp [hlen]; omega
    · have e : cur.toList.take n = xs := by
        have := congrArg (List.take n) htake
        have e2 : (xs ++ zs).take n = xs := by rw [← hxs]; exact List.take_left
        rw [List.take_take, Nat.min_eq_left (by omega), e2] at this
        exact this
      rw [e]
      have : (xs ++ byteCells str.data.toList).length = (n + str.size) * 1 := by rw [List.length_append, hlen, hxs]; omega
      rw [← this]
      exact List.take_left
end
end Go.Proofs.YtolgoojlpmgblaaDoor

/- The iterator of lexer.all yields the tokens of the text, in order, to every loop body that keeps old memory. -/
import Derived.Test.YtolgoojlpmgblaaDoorH
import Derived.RangeFuncNested
import Derived.RangeFuncBound
import Derived.RangeFuncCalls
import Derived.RangeFuncLeaves
import Derived.Shelf.Abstract
import Derived.Shelf.RegionOpen
import Derived.WalkKit
import Derived.WalkSpells
import Derived.OwnWalkIn
import Derived.TacticsInMore
import Derived.LoopNIn
import Derived.LoopIn
namespace Go.Proofs.YtolgoojlpmgblaaDoor
open Go.RowKit Go.Shelf

attribute [local go_sem] Oper.semAt_some

/-- A token as the model's value. -/
def tokV (x : Tok) : Value := .agg #[.int .i64 x.kind, .string ⟨x.text.toArray⟩, .int .i64 x.at']

theorem grownBy_of_below {w w' : World} (h : Below w.heap.size w w') : w.grownBy w' none :=
  ⟨h.os, h.tape, h.output, h.size, fun k hk _ => h.block k hk⟩

theorem toks_snoc_step (l : Bs) (at0 : Nat) (pre : List Tok) (h : at0 < l.length) (hp : toks l 0 = pre ++ toks (l.drop at0) at0) :
    toks l 0 = (pre ++ [⟨(nxt (l.drop at0)).1, (l.drop at0).take (nxt (l.drop at0)).2, at0⟩]) ++ toks (l.drop (at0 + (nxt (l.drop at0)).2)) (at0 + (nxt (l.drop at0)).2) := by
  have hne : l.drop at0 ≠ [] := by intro e; have := List.drop_eq_nil_iff.1 e; omega
  rw [hp, toks_cons _ _ hne, List.append_assoc, List.singleton_append, List.drop_drop]

/-- What a round keeps: old memory, and the box of the text. -/
def Kpt (n₀ Bn : Nat) (W W' : World) : Prop := Below n₀ W W' ∧ W'.heap[Bn]? = W.heap[Bn]?
theorem Kpt.trans {n₀ Bn : Nat} {A B C : World} (h : Kpt n₀ Bn A B) (k : Kpt n₀ Bn B C) : Kpt n₀ Bn A C := ⟨h.1.trans k.1, k.2.trans h.2⟩
theorem Kpt.refl (n₀ Bn : Nat) (A : World) : Kpt n₀ Bn A A := ⟨Below.refl _ _, rfl⟩
theorem Kpt.of_below {n₀ Bn : Nat} {A B : World} (h : Below A.heap.size A B) (hn : n₀ ≤ A.heap.size) (hB : Bn < A.heap.size) : Kpt n₀ Bn A B := ⟨h.mono hn, h.block Bn hB⟩
theorem Kpt.cell {n₀ Bn : Nat} {A B : World} (h : Kpt n₀ Bn A B) {v : Value} (hc : A.cell? ⟨Bn, 0, none⟩ = some v) : B.cell? ⟨Bn, 0, none⟩ = some v :=
  (World.cell?_of_block (w := A) (a := ⟨Bn, 0, none⟩) h.2).trans hc
theorem Kpt.put {n₀ Bn : Nat} {w : World} (hn : n₀ ≤ w.heap.size) (hB : Bn < w.heap.size) (W : World) (l : Nat) (o o' : Obj) (hl : w.heap.size ≤ l) (h : W.heap[l]? = some o) (h1 : o.isCells = false) (h2 : o.isWalk = false) : Kpt n₀ Bn W (W.putObj l o') :=
  ⟨belowK_b hn W l o o' hl h h1 h2, World.putObj_heap_other (by omega)⟩

set_option maxRecDepth 100000 in
set_option maxHeartbeats 1000000 in
theorem all1_in (l Bn n₀ : Nat) (s : ByteArray) (hs : s.size < 4294967281) (J Jx : List Tok → World → Prop) (W : World) (hn6 : 6 ≤ n₀) (hBn0 : Bn < W.heap.size)
    (hY : ∀ pre x W1, J pre W1 → pre.length < s.size → YieldAt Fence.wide (5 - 1) Tryd.prog l #[tokV x] W1 fun e W' =>
      (e = .returned (.bool true) ∧ J (pre ++ [x]) W' ∧ Kpt n₀ Bn W1 W') ∨ (e = .returned (.bool false) ∧ Jx (pre ++ [x]) W'))
    (hJ : AbidesFrom W.heap.size J) (hn₀ : n₀ ≤ W.heap.size)
    (hBn : W.cell? ⟨Bn, 0, none⟩ = some (.string s)) (hT : Tabs W) (h0 : J [] W) :
    CallsIn Fence.wide 5 Tryd.prog 53 #[.func (.yield l) #[] #[], .pointer (some ⟨Bn, 0, none⟩)] W fun e W' => (∃ v, e = .returned v) ∧
      ((∃ ys, ys = toks (bl s) 0 ∧ J ys W') ∨ (∃ pre, True ∧ Jx pre W')) := by
  have HY := Lib.hid hY; have HJ := Lib.hid hJ; have HT := Lib.hid hT; have HC := Lib.hid hBn
  clear hY hJ hT hBn
  refine callsIn_of_wp Tryd.func53 rfl trivial ?_ rfl
  simp only [Tryd.ntmps53, List.size_toArray, List.length_cons, List.length_nil, Nat.reduceAdd, Nat.reduceSub, Array.replicate_succ, Array.replicate_zero, List.push_toArray, List.append_toArray, List.nil_append, List.cons_append]
  gi_wp2
  gi_loopw [3] (fun p wr => ∃ (pre : List Tok) (a : Nat), p = .int .i64 a ∧ a ≤ s.size ∧ pre.length ≤ a ∧ toks (bl s) 0 = pre ++ toks ((bl s).drop a) a ∧ J pre wr ∧ Kpt n₀ Bn W wr)
    (fun p wr => s.size - (intOf p).toNat)
  case atStart =>
    exact ⟨[], 0, rfl, by omega, by simp, by simp, h0, Kpt.refl _ _ _⟩
  case round =>
    obtain ⟨pre, a, rfl, ha, hpa, htk, hJs, hB⟩ := hrel
    have HK := Lib.hid htk; have HB := Lib.hid hB; have HS := Lib.hid hJs
    clear htk hB hJs
    have hcell : wr.cell? ⟨Bn, 0, none⟩ = some (.string s) := HB.out.cell HC.out
    by_cases hlt : a < s.size
    · have hN : ∀ w, Tabs w → Calls Tryd.prog 54 #[.string (s.extract a s.size)] w fun e w' => e = .returned (.tuple #[.int .i64 (nxt ((bl s).drop a)).1, .int .i64 (nxt ((bl s).drop a)).2]) ∧ Below w.heap.size w w' := by
        intro w h
        have := next_any (s.extract a s.size) w (by rw [ByteArray.size_extract]; omega) (by rw [ByteArray.size_extract]; omega) h
        rwa [bl_from] at this
      have hne : (bl s).drop a ≠ [] := by intro e; have := List.drop_eq_nil_iff.1 e; rw [bl_len] at this; omega
      have hp1 := nxt_pos _ hne
      have hp2 := nxt_le ((bl s).drop a)
      rw [List.length_drop, bl_len] at hp2
      have hst := toks_snoc_step (bl s) a pre (by rw [bl_len]; exact hlt) HK.out
      obtain ⟨k, n, hn⟩ : ∃ k n, nxt ((bl s).drop a) = (k, n) := ⟨_, _, rfl⟩
      rw [hn] at hN hp1 hp2 hst
      simp only at hN hp1 hp2 hst
      have HN := Lib.hid hN; have HSt := Lib.hid hst
      clear hN hst hne hn
      have hT1 : Tabs wr := HT.out.below HB.out.1 hn6
      have HT1 := Lib.hid hT1; clear hT1
      gi_wp2_with fail
      refine ⟨trivial, ?_⟩
      refine (callsIn_wide.2 (HN.out _ HT1.out)).mono ?_
      rintro e w' ⟨rfl, hw⟩
      have hk2 : Kpt n₀ Bn wr w' := Kpt.of_below hw (by have := HB.out.1.size; omega) (by have := HB.out.1.size; omega)
      have hc2 : w'.cell? ⟨Bn, 0, none⟩ = some (.string s) := hk2.cell hcell
      have hJ2 : J pre w' := HJ.out pre wr w' none HS.out (grownBy_of_below hw) (fun r e => by cases e)
      obtain ⟨fn, tmps, assign, body, hy, hR⟩ := HY.out pre ⟨k, ((bl s).drop a).take n, a⟩ w' hJ2 (by omega)
      have hx : tokV ⟨k, ((bl s).drop a).take n, a⟩ = .agg #[.int .i64 k, .string (s.extract a (a + n)), .int .i64 a] := by
        unfold tokV
        have : (⟨(((bl s).drop a).take n).toArray⟩ : ByteArray) = s.extract a (a + n) := by
          rw [ba_ext, bl_mk, bl_extract, show a + n - a = n by omega]
        rw [this]
      rw [hx] at hy
      have hB2 := HB.out.trans hk2
      have HB2 := Lib.hid hB2
      have HR := Lib.hid hR
      clear hR hJ2 hx hB2 hw hk2
      gi_wp2_with fail
      refine HR.out.mono ?_
      rintro e W3 (⟨rfl, hJ3, hk3⟩ | ⟨rfl, hJx3⟩)
      · gi_wp2_with fail
        go_roundw
        case rel => exact ⟨pre ++ [⟨k, ((bl s).drop a).take n, a⟩], a + n, by go_num, by omega, by simp; omega, HSt.out, hJ3, HB2.out.trans hk3⟩
        case measure => simp [intOf]; omega
      · gi_wp2_with fail
        refine bodyPost_ret (results_none rfl _ _ _) rfl ?_
        exact ⟨⟨_, rfl⟩, .inr ⟨_, trivial, hJx3⟩⟩
    · gi_wp2_with fail
      go_end0
      refine ⟨⟨_, rfl⟩, .inl ⟨pre, ?_, HS.out⟩⟩
      rw [HK.out, List.drop_eq_nil_of_le (by rw [bl_len]; omega), toks_nil, List.append_nil]

theorem all_in (s : ByteArray) (w : World) :
    CallsIn Fence.wide 3 Tryd.prog 36 #[.string s] w fun e w' => e = .returned (.func (.func 53) #[] #[.pointer (some ⟨w.heap.size, 0, none⟩)]) ∧ w' = w.alloc (.cells #[.string s] 9) := by
  refine callsIn_of_wp Tryd.func36 rfl trivial ?_ rfl
  simp only [Tryd.ntmps36, List.size_toArray, List.length_cons, List.length_nil, Nat.reduceAdd, Nat.reduceSub, Array.replicate_succ, Array.replicate_zero, List.push_toArray, List.append_toArray, List.nil_append, List.cons_append]
  gi_wp2
  go_ret
  exact ⟨rfl, rfl⟩

theorem all_stops (Bn n₀ : Nat) (s : ByteArray) (hs : s.size < 4294967281) (w : World) (hn6 : 6 ≤ n₀) (hBn0 : Bn < w.heap.size) (hn₀ : n₀ ≤ w.heap.size)
    (hc : w.cell? ⟨Bn, 0, none⟩ = some (.string s)) (hT : Tabs w) :
    SeqStopsK Fence.wide 5 Tryd.prog 53 #[.pointer (some ⟨Bn, 0, none⟩)] (fun x : Tok => #[tokV x]) (Kpt n₀ Bn) (fun ys => ys = toks (bl s) 0) (fun _ => True) s.size w := fun l J Jx W hW hJ _ hY h0 =>
  all1_in l Bn n₀ s hs J Jx W hn6 (Nat.lt_of_lt_of_le hBn0 hW.size) hY hJ (Nat.le_trans hn₀ hW.size) ((hW.cell (p := ⟨Bn, 0, none⟩) hBn0).trans hc) (hT.of_below hW) h0
end Go.Proofs.YtolgoojlpmgblaaDoor

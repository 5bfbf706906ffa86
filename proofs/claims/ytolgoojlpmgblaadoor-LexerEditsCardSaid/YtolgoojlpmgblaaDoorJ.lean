/- lexer.Tokens returns the tokens of the text in a row of its own; old memory is as it was. -/
import Derived.Test.YtolgoojlpmgblaaDoorI
import Derived.Maps.AppendAt
import Derived.Laws.AppendOwn
namespace Go.Proofs.YtolgoojlpmgblaaDoor
open Go.RowKit Go.Shelf

attribute [local go_sem] Oper.semAt_some

/-- The cells of a token. -/
def tokC (x : Tok) : List Value := [.int .i64 x.kind, .string ⟨x.text.toArray⟩, .int .i64 x.at']
def tokCs (l : List Tok) : List Value := l.flatMap tokC
theorem tokCs_len (l : List Tok) : (tokCs l).length = l.length * 3 := by
  induction l with
  | nil => rfl
  | cons x l ih => simp [tokCs, tokC] at ih ⊢; omega
theorem tokCs_snoc (l : List Tok) (x : Tok) : tokCs (l ++ [x]) = tokCs l ++ tokC x := by simp [tokCs]

theorem cells_new (w : World) (xs : List Value) (t : TypeId) : ∀ j u, xs[j]? = some u → (w.alloc (.cells xs.toArray t)).cell? ((⟨w.heap.size, 0, none⟩ : Addr).add j) = some u := by
  intro j u hj
  rw [show ((⟨w.heap.size, 0, none⟩ : Addr).add j) = ⟨w.heap.size, j, none⟩ by unfold Addr.add; split <;> simp_all]
  rw [cell_of_row (w.alloc (.cells xs.toArray t)) w.heap.size j xs.toArray t (0, 0) (World.alloc_heap_new w _)]
  simpa using hj

theorem info31 : (Tryd.prog.info? 31).map (fun i => (i.zero, i.size, i.bytes)) = some (some (.agg #[.int .i64 0, .string ⟨#[]⟩, .int .i64 0]), 3, 32) := by kernel_rfl

/-- A block that holds these cells is no matter of loops. -/
theorem block_own {β : Type} (b : Nat) (o : Obj) (ho : o.isCells = true) : Own (fun (_ : β) W => W.heap[b]? = some o) := fun _ X Y row hs hg hrow =>
  (hg.block b (Array.getElem?_eq_some_iff.1 hs).1 (fun e' => by obtain ⟨o', h1, h2⟩ := hrow b e'.symm; rw [hs] at h1; cases h1; rw [ho] at h2; cases h2)).trans hs

set_option maxRecDepth 100000 in
set_option maxHeartbeats 4000000 in
theorem tokens_in (s : ByteArray) (hs : s.size < 4294967281) (w : World) (hT : Tabs w) :
    CallsIn Fence.wide 6 Tryd.prog 13 #[.string s] w fun e W' => ∃ v, e = .returned v ∧ W'.ownsRow w.heap.size 31 3 v (toks (bl s) 0).length (tokCs (toks (bl s) 0)) ∧ Below w.heap.size w W' := by
  have HT := Lib.hid hT; clear hT
  refine callsIn_of_wp_marks Tryd.func13 rfl trivial ?_ rfl
  simp only [Tryd.ntmps13, List.size_toArray, List.length_cons, List.length_nil, Nat.reduceAdd, Nat.reduceSub, Array.replicate_succ, Array.replicate_zero, List.push_toArray, List.append_toArray, List.nil_append, List.cons_append]
  gi_wp2_with fail
  refine ⟨trivial, ?_⟩
  refine (callsIn_wide.2 (callsIn_wide.1 (all_in _ _))).mono ?_
  rintro e w' ⟨rfl, rfl⟩
  gi_wp2_with fail
  have bO := (Boxed.new w 26 (.slice none 0 0)).alloc (.cells #[.string s] 9)
  have bS := Boxed.new (w.alloc (.cells #[.slice none 0 0] 26)) 9 (.string s)
  simp only [World.size_alloc] at bS
  have hB0 : Below w.heap.size w ((w.alloc (.cells #[.slice none 0 0] 26)).alloc (.cells #[.string s] 9)) := ((Below.refl _ w).alloc (Nat.le_refl _) _).alloc (by simp) _
  have hsz : ((w.alloc (.cells #[.slice none 0 0] 26)).alloc (.cells #[.string s] 9)).heap.size = w.heap.size + 2 := by simp
  obtain ⟨W0, hW0⟩ : ∃ W0, (w.alloc (.cells #[.slice none 0 0] 26)).alloc (.cells #[.string s] 9) = W0 := ⟨_, rfl⟩
  rw [hW0] at bO bS hB0 hsz ⊢
  clear hW0
  have hT0 : Tabs W0 := HT.out.of_below hB0
  have h6 := HT.out.size
  obtain ⟨i0, hi, hz0, hz1, hz2⟩ := info_parts info31
  refine wpIn_rangeFunc_ownH rfl (by omega) (gf := 53) (lb := #[.pointer (some ⟨w.heap.size + 1, 0, none⟩)]) rfl trivial (enters_of Tryd.func53 (by kernel_rfl) rfl)
    (all_stops (w.heap.size + 1) w.heap.size s hs W0 (by omega) (by omega) (by omega) bS.cell hT0) Kpt.trans (Kpt.put (by omega) (by omega)) (Below.refl _ _) (fun _ => rfl)
    (fun pre W => ((∃ v, Boxed W w.heap.size 26 v ∧ W.ownsRow w.heap.size 31 3 v pre.length (tokCs pre) ∧ True) ∧ Boxed W (w.heap.size + 1) 9 (.string s)) ∧ Below w.heap.size W0 W)
    (fun _ _ _ => False)
    (OwnFrom.and (OwnFrom.and (Own.from (holdsRow_own w.heap.size w.heap.size 26 31 3 (fun pre => pre.length) (fun pre => tokCs pre) (fun _ _ => True)) _) (Own.from (boxed_own _ _ _) _)) (ownFrom_below (by omega) (by omega)))
    (fun _ _ _ _ _ hs _ _ => hs)
    ⟨⟨⟨_, bO, World.ownsRow_nil _ _ _ _, trivial⟩, bS⟩, Below.refl _ _⟩
    (fun x a' W => ∃ Bx, w.heap.size + 2 ≤ Bx ∧ W.heap[Bx]? = some (.cells #[.int .i64 x.kind, .string ⟨x.text.toArray⟩, .int .i64 x.at'] 31 (0, 0)) ∧ a' = { tmps := #[.string s, undef, .slice none 0 0, .pointer (some ⟨w.heap.size, 0, none⟩), .pointer (some ⟨Bx, 0, none⟩), .string s, .func (.func 53) #[] #[.pointer (some ⟨w.heap.size + 1, 0, none⟩)], tokV x, undef, undef, undef, undef, undef], defers := [] })
    (fun x a' _ X Y row hs hg hr => by obtain ⟨Bx, h1, h2, h3⟩ := hs; exact ⟨Bx, h1, block_own (β := Unit) Bx _ rfl () X Y row h2 hg (fun r e => (hr r e).2), h3⟩)
    ?assign ?body ?done ?stop
  case assign =>
    rintro l pre x W K ⟨⟨⟨v, bV, hown, _⟩, bS1⟩, hB⟩ hK
    unfold tokV
    gi_wp2
    have hsW := hB.size
    refine hK _ _ ((KeepsOthers.alloc _ _).from _) (Kpt.of_below ((Below.refl _ W).alloc (Nat.le_refl _) _) (by omega) (by omega)) ⟨⟨⟨v, bV.alloc _, hown.alloc _, trivial⟩, bS1.alloc _⟩, hB.alloc (by omega) _⟩ ⟨W.heap.size, by omega, World.alloc_heap_new W _, rfl⟩
  case body =>
    rintro l pre x a' W hl ⟨r, hr⟩ ⟨⟨⟨v, bV, hown, _⟩, bS1⟩, hB⟩ ⟨Bx, hBx, bX, rfl⟩ hlt
    have cV := bV.cell
    have fV := bV.frozen
    have hsW := hB.size
    have c0 : W.cell? ⟨Bx, 0, none⟩ = some (.int .i64 x.kind) := by rw [cell_of_row W Bx 0 _ _ _ bX]; rfl
    have c1 : W.cell? ⟨Bx, 1, none⟩ = some (.string ⟨x.text.toArray⟩) := by rw [cell_of_row W Bx 1 _ _ _ bX]; rfl
    have c2 : W.cell? ⟨Bx, 2, none⟩ = some (.int .i64 x.at') := by rw [cell_of_row W Bx 2 _ _ _ bX]; rfl
    gi_wp2_with (gi_at_builtin; refine wpListIn_append_own _ rfl _ _ 26 rfl w.heap.size 31 i0 (.agg #[.int .i64 0, .string ⟨#[]⟩, .int .i64 0]) 3 32 Tryd.underlying26 hi hz0 hz1 hz2 rfl (by decide) _ _ _ rfl (hown.alloc _) ⟨W.heap.size, 0, none⟩ 1 1 (tokC x) rfl rfl (cells_new _ _ _) (by simp [tokC, Value.oneCell']) (by unfold maxLen; omega) (by omega) (by have := hB.size; simp; omega) ?_; intro v' w1 hown' hgrow _; obtain ⟨g', cap', rfl⟩ := ownsRow_succ hown'; obtain ⟨hv1, hv2, hr2, hk2, hb2⟩ := bV.appended (by decide) hown (by omega) (Nat.le_refl _) hown' hgrow; have hc1 := hv1.cell; have hf1 := hv1.frozen)
    have bS2 : Boxed w1 (w.heap.size + 1) 9 (.string s) := (bS1.alloc _).kept hgrow (bS1.not_row (by decide) hown)
    have bS3 := bS2.other (B' := w.heap.size) (by omega) (.slice (some ⟨g', 0, none⟩) (pre.length + 1) cap')
    refine ⟨hk2.from _, ⟨hb2, Eq.trans bS3 (Eq.symm bS1)⟩, ⟨⟨_, hv2, ?_, trivial⟩, bS3⟩, hB.trans hb2⟩
    rw [tokCs_snoc, List.length_append]
    exact hr2
  case done =>
    rintro D xs W hD rfl ⟨⟨⟨v, bV, hown, _⟩, bS1⟩, hB⟩ hK
    have cV := bV.cell
    gi_wp2
    refine ⟨by simp, .inl ⟨_, _, rfl, run_takeDeferred hK, ?_⟩⟩
    refine ⟨_, results_tmp rfl _ _ _, v, rfl, ownsRow_putObj hown _ hK rfl, ?_⟩
    exact (hB0.trans hB).trans (belowK_b (w := w) (Nat.le_refl _) W D _ _ (by omega) hK rfl rfl)
  case stop =>
    rintro D c pre W _ _ h _
    exact h.elim

/-- lexer.Tokens. -/
theorem tokens_any (s : ByteArray) (hs : s.size < 4294967281) (w : World) (hT : Tabs w) :
    Calls Tryd.prog 13 #[.string s] w fun e W' => ∃ v, e = .returned v ∧ W'.ownsRow w.heap.size 31 3 v (toks (bl s) 0).length (tokCs (toks (bl s) 0)) ∧ Below w.heap.size w W' :=
  callsIn_wide.1 (tokens_in s hs w hT)
end Go.Proofs.YtolgoojlpmgblaaDoor

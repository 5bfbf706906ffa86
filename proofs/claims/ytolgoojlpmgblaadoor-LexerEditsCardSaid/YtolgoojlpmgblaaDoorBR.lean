/- position.At at a place that is no inner byte of a character. -/
import Derived.Test.YtolgoojlpmgblaaDoorBQ
namespace Go.Proofs.YtolgoojlpmgblaaDoor
open Go.RowKit

theorem two_set (w : World) (K : Nat) (x y a b : Value) (h0 : w.cell? ⟨K, 0, none⟩ = some x) (h1 : w.cell? ⟨K, 1, none⟩ = some y) :
    (w.setCell ⟨K, 0, none⟩ a).cell? ⟨K, 0, none⟩ = some a ∧ ((w.setCell ⟨K, 0, none⟩ a).setCell ⟨K, 1, none⟩ b).cell? ⟨K, 0, none⟩ = some a ∧ ((w.setCell ⟨K, 0, none⟩ a).setCell ⟨K, 1, none⟩ b).cell? ⟨K, 1, none⟩ = some b := by
  have e0 := World.cell?_setCell_same w ⟨K, 0, none⟩ a h0
  refine ⟨e0, ?_, ?_⟩
  · exact (World.cell?_setCell_other _ _ _ _ (by simp)).trans e0
  · exact World.cell?_setCell_same _ ⟨K, 1, none⟩ b (u := y) ((World.cell?_setCell_other _ _ _ _ (by simp)).trans h1)

set_option maxRecDepth 100000 in
set_option maxHeartbeats 2000000 in
theorem at_any (s : ByteArray) (n c a J : Nat) (w : World) (hA : At s n c a J) (hs : s.size ≤ 100000) :
    Calls Tryd.prog 29 #[.string s, .int .i64 n] w fun e w' => e = .returned (.tuple #[.agg #[.int .i64 c, .int .i64 (posn (s.extract a s.size) J).2], .int .i64 0]) ∧ Below w.heap.size w w' := by
  have HA := Lib.hid hA
  obtain ⟨U, hU⟩ : ∃ U, (posn (s.extract a s.size) J).2 = U := ⟨_, rfl⟩
  rw [hU]
  have HU := Lib.hid hU
  clear hU
  have hle := hA.le
  have hal := hA.ale
  have hcl := hA.lt
  have hll := lns_len (bl s) s.size
  have hcn := hA.count
  obtain ⟨L, hL⟩ : ∃ L, lns (bl s) s.size = L := ⟨_, rfl⟩
  have HLn := Lib.hid (show ∀ W, Calls Tryd.prog 43 #[.string s] W fun e w' => (∃ v, e = .returned v ∧ w'.ownsRow W.heap.size 3 1 v L.length (nvs L)) ∧ Below W.heap.size W w' from fun W => by rw [← hL]; exact lines_any s W (by omega))
  have hg := hA.get
  have hp := lns_sorted (bl s) s.size
  rw [hL] at hll hcl hcn hg hp
  have HG := Lib.hid hg; have HP := Lib.hid hp; have HCn := Lib.hid hcn
  clear hA hL hg hp hcn
  have h1 : decide ((n : Int) < 0) = false := by simp
  have h2 : decide (s.size < n) = false := by simp; omega
  go_enter Tryd.func29, Tryd.ntmps29
  go_wp2_with fail
  refine (HLn.out _).mono ?_
  rintro e w1 ⟨⟨v, rfl, hown⟩, hb1⟩
  have HB1 := Lib.hid (((Below.refl w.heap.size w).alloc (Nat.le_refl _) (.cells #[.int .i64 0, .int .i64 0] 45)).trans (hb1.mono (by simp)))
  obtain ⟨g, cap, rfl, hgb, hcells⟩ : ∃ g cap, v = .slice (some ⟨g, 0, none⟩) L.length cap ∧ g < w1.heap.size ∧ ∀ (i y : Nat), L[i]? = some y → w1.cell? ⟨g, i, none⟩ = some (.int .i64 (y : Int)) := by
    rcases hown.2 with ⟨_, h0⟩ | ⟨g, cap, cur, rfl, hb, hgg, _⟩
    · omega
    · refine ⟨g, cap, rfl, (Array.getElem?_eq_some_iff.1 hgg).1, fun i y hy => ?_⟩
      have := hown.cells (g := g) rfl i (.int .i64 (y : Int)) (by simp [nvs, hy])
      rwa [show ((⟨g, 0, none⟩ : Addr).add i) = ⟨g, i, none⟩ by unfold Addr.add; split <;> simp_all] at this
  have HC := Lib.hid hcells
  have hr1 : w1.cell? ⟨w.heap.size, 0, none⟩ = some (.int .i64 0) := by
    rw [hb1.cell (p := ⟨w.heap.size, 0, none⟩) (by simp), cell_of_row _ w.heap.size 0 _ _ _ (World.alloc_heap_new w _)]; rfl
  have hr2 : w1.cell? ⟨w.heap.size, 1, none⟩ = some (.int .i64 0) := by
    rw [hb1.cell (p := ⟨w.heap.size, 1, none⟩) (by simp), cell_of_row _ w.heap.size 1 _ _ _ (World.alloc_heap_new w _)]; rfl
  have hf1 : ∀ o, w1.frozen? ⟨w.heap.size, o, none⟩ = false := by
    intro o
    rw [hb1.frozen (p := ⟨w.heap.size, o, none⟩) (by simp)]
    exact frozen_of_row _ w.heap.size o _ _ (World.alloc_heap_new w _)
  have hz1 := hb1.size
  clear hown hb1 hcells
  go_wp2_with fail
  have hsr := search_any L HP.out n g cap w1 HC.out hgb (by omega)
  rw [HCn.out] at hsr
  refine hsr.mono ?_
  rintro e w2 ⟨rfl, hb2⟩
  have HB2 := Lib.hid (HB1.out.trans (hb2.mono HB1.out.size))
  have hz2 := hb2.size
  have hlt0 : w.heap.size < w1.heap.size := by simp at hz1; omega
  have hr1' : w2.cell? ⟨w.heap.size, 0, none⟩ = some (.int .i64 0) := (hb2.cell (p := ⟨w.heap.size, 0, none⟩) hlt0).trans hr1
  have hr2' : w2.cell? ⟨w.heap.size, 1, none⟩ = some (.int .i64 0) := (hb2.cell (p := ⟨w.heap.size, 1, none⟩) hlt0).trans hr2
  have hf2 : ∀ o, w2.frozen? ⟨w.heap.size, o, none⟩ = false := fun o => (hb2.frozen (p := ⟨w.heap.size, o, none⟩) hlt0).trans (hf1 o)
  have hca : w2.cell? ⟨g, c, none⟩ = some (.int .i64 (a : Int)) := (hb2.cell (p := ⟨g, c, none⟩) hgb).trans (HC.out c a HG.out)
  have hc0 : (0 : Int) ≤ c := by omega
  have hc1 : (c : Int) < L.length := by omega
  have ha0 : (0 : Int) ≤ a := by omega
  have ha1 : (a : Int) ≤ s.size := by omega
  have hwc : IntKind.i64.wrap (((c + 1 : Nat) : Int) - 1) = (c : Int) := by rw [IntWalk.i64_in _ (by omega)]; omega
  clear hsr hb2 hr1 hr2 hf1 hz1
  go_wp2_with fail
  have hpos := at_pos s n c a J HA.out
  have hJ := HA.out.reach
  have hsz : (s.extract a s.size).size = s.size - a := by simp
  have hst := HA.out.stop
  generalize hT : s.extract a s.size = t at *
  clear hT
  have HPos := Lib.hid hpos; have HJ := Lib.hid hJ; have HSt := Lib.hid hst
  have HU2 := Lib.hid HU.out
  clear hpos hJ hst HU
  have hK : w2.heap.size = w2.heap.size := rfl
  go_loopw [8] (fun u wr => ∃ j : Nat, j ≤ J ∧ u = .int .i64 ((posn t j).2 : Nat) ∧ wr.heap[w2.heap.size]? = some (.stringIter t (posn t j).1) ∧ Below w2.heap.size w2 wr) (fun _ wr => t.size - wr.iterPos w2.heap.size)
  case atStart => exact ⟨0, by omega, rfl, World.iter_heap w2 t 0, (Below.refl _ _).alloc (Nat.le_refl _) _⟩
  case round =>
    obtain ⟨j, hj, rfl, hit, hB⟩ := hrel
    obtain ⟨hp1, hp2⟩ := HPos.out j hj
    have hp3 := posn_le2 t j
    have hw := dec_width t (posn t j).1
    have hd := decode_le t (posn t j).1
    have hnx1 := dec_width t (posn t j).1
    have HStep := Lib.hid (show (posn t (j + 1)).1 = (posn t j).1 + (Utf8.decode t (posn t j).1).2 ∧ (posn t (j + 1)).2 = (posn t j).2 + un (Utf8.decode t (posn t j).1).1 from ⟨rfl, rfl⟩)
    have HJj := Lib.hid (show j = J → (posn t j).1 = n - a by intro e; rw [e]; exact HJ.out)
    have HJu := Lib.hid (show j = J → (posn t j).2 = U by intro e; rw [e]; exact HU2.out)
    generalize (posn t j).1 = p at *
    generalize (posn t j).2 = q at *
    have hun := un_pos (Utf8.decode t p).1
    by_cases hpl : p < t.size
    · have hnx : ∀ ty, (Instr.next (.pointer (some ⟨w2.heap.size, 0, none⟩)) true ty).run Tryd.prog wr = _ := fun ty => Lib.run_next_any_at wr w2.heap.size t p ty hit hpl
      generalize hdr : Utf8.decode t p = dr at *
      obtain ⟨r, m⟩ := dr
      simp only at hnx hw hd hun HStep
      have HB := Lib.hid (Lib.below_iterAt hB (Nat.le_refl _) t (p + m))
      have HIt := Lib.hid (Lib.iterAt_heap wr w2.heap.size t p (p + m) hit)
      have HIt0 := Lib.hid hit
      clear hdr hB hit
      generalize wr.iterAt w2.heap.size t (p + m) = W at *
      have hca' : W.cell? ⟨g, c, none⟩ = some (.int .i64 (a : Int)) := (HB.out.cell (p := ⟨g, c, none⟩) (show g < _ by omega)).trans hca
      have hf3 : ∀ o, W.frozen? ⟨w.heap.size, o, none⟩ = false := fun o => (HB.out.frozen (p := ⟨w.heap.size, o, none⟩) (show w.heap.size < _ by omega)).trans (hf2 o)
      have hs0 : W.cell? ⟨w.heap.size, 0, none⟩ = some (.int .i64 0) := (HB.out.cell (p := ⟨w.heap.size, 0, none⟩) (show w.heap.size < _ by omega)).trans hr1'
      have hs1 : W.cell? ⟨w.heap.size, 1, none⟩ = some (.int .i64 0) := (HB.out.cell (p := ⟨w.heap.size, 1, none⟩) (show w.heap.size < _ by omega)).trans hr2'
      have hwr : IntKind.i64.wrap ((a : Int) + (p : Int)) = (a : Int) + (p : Int) := IntWalk.i64_in _ (by omega)
      by_cases hjJ : j < J
      · have hlt := (hp2 hjJ).1
        have hq1 : ((a : Int) + (p : Int) == (n : Int)) = false := by rw [← Bool.not_eq_true, beq_iff_eq]; omega
        have hq2 : decide ((n : Int) < (a : Int) + (p : Int)) = false := by rw [decide_eq_false_iff_not]; omega
        clear hp1 hp2
        go_wp2_with fail
        refine (units_any r _ hd).mono ?_
        rintro e w3 ⟨rfl, rfl⟩
        go_wp2_with fail
        refine ⟨⟨j + 1, hjJ, by rw [HStep.out.2]; go_num, by rw [HStep.out.1]; exact HIt.out, HB.out⟩, ?_⟩
        simp only [World.iterPos, HIt.out, HIt0.out]
        omega
      · obtain rfl : j = J := by omega
        have hpe := HJj.out rfl
        obtain rfl : q = U := HJu.out rfl
        have hq1 : ((a : Int) + (p : Int) == (n : Int)) = true := by rw [beq_iff_eq]; omega
        clear hp1 hp2 hpe
        go_wp2_with fail
        refine bodyPost_ret (v := .tuple #[.agg #[.int .i64 c, .int .i64 q], .int .i64 0]) (by obtain ⟨g0, g1, g2⟩ := two_set W w.heap.size _ _ (.int .i64 c) (.int .i64 q) hs0 hs1; simp [results, Tryd.results29, go_sem, g0, g1, g2]) rfl ⟨rfl, ?_⟩
        have hBB : Below w.heap.size w W := HB2.out.trans (HB.out.mono HB2.out.size)
        exact (hBB.setCell (p := ⟨w.heap.size, 0, none⟩) (Nat.le_refl _) _).setCell (p := ⟨w.heap.size, 1, none⟩) (Nat.le_refl _) _
    · have hnx : ∀ ty, (Instr.next (.pointer (some ⟨w2.heap.size, 0, none⟩)) true ty).run Tryd.prog wr = _ := fun ty => Lib.run_next_end_at wr w2.heap.size t p ty hit hpl
      obtain rfl : j = J := by
        rcases Nat.lt_or_eq_of_le hj with h | h
        · have := (hp2 h).1; omega
        · exact h
      have hpe := HJj.out rfl
      obtain rfl : q = U := HJu.out rfl
      have HB := Lib.hid hB
      have hf3 : ∀ o, wr.frozen? ⟨w.heap.size, o, none⟩ = false := fun o => (HB.out.frozen (p := ⟨w.heap.size, o, none⟩) (show w.heap.size < _ by omega)).trans (hf2 o)
      have hs0 : wr.cell? ⟨w.heap.size, 0, none⟩ = some (.int .i64 0) := (HB.out.cell (p := ⟨w.heap.size, 0, none⟩) (show w.heap.size < _ by omega)).trans hr1'
      have hs1 : wr.cell? ⟨w.heap.size, 1, none⟩ = some (.int .i64 0) := (HB.out.cell (p := ⟨w.heap.size, 1, none⟩) (show w.heap.size < _ by omega)).trans hr2'
      have hq3 : decide (n < s.size) = false := by rw [decide_eq_false_iff_not]; omega
      clear hp1 hp2 hpe hB hit
      go_wp2_with fail
      refine bodyPost_ret (v := .tuple #[.agg #[.int .i64 c, .int .i64 q], .int .i64 0]) (by obtain ⟨g0, g1, g2⟩ := two_set wr w.heap.size _ _ (.int .i64 c) (.int .i64 q) hs0 hs1; simp [results, Tryd.results29, go_sem, g0, g1, g2]) rfl ⟨rfl, ?_⟩
      have hBB : Below w.heap.size w wr := HB2.out.trans (HB.out.mono HB2.out.size)
      exact (hBB.setCell (p := ⟨w.heap.size, 0, none⟩) (Nat.le_refl _) _).setCell (p := ⟨w.heap.size, 1, none⟩) (Nat.le_refl _) _
end Go.Proofs.YtolgoojlpmgblaaDoor

/- position.Offset at the position of such a place. -/
import Derived.Test.YtolgoojlpmgblaaDoorBR
namespace Go.Proofs.YtolgoojlpmgblaaDoor
open Go.RowKit

set_option maxRecDepth 100000 in
set_option maxHeartbeats 2000000 in
theorem offset_any (s : ByteArray) (n c a J : Nat) (w : World) (hA : At s n c a J) (hs : s.size ≤ 100000) :
    Calls Tryd.prog 30 #[.string s, .agg #[.int .i64 c, .int .i64 (posn (s.extract a s.size) J).2]] w fun e w' => e = .returned (.tuple #[.int .i64 n, .int .i64 0]) ∧ Below w.heap.size w w' := by
  have HA := Lib.hid hA
  obtain ⟨U, hU⟩ : ∃ U, (posn (s.extract a s.size) J).2 = U := ⟨_, rfl⟩
  rw [hU]
  have HU := Lib.hid hU
  have hub := posn_le2 (s.extract a s.size) J
  rw [hU, hA.reach] at hub
  clear hU
  have hle := hA.le
  have hal := hA.ale
  have hcl := hA.lt
  have hll := lns_len (bl s) s.size
  obtain ⟨L, hL⟩ : ∃ L, lns (bl s) s.size = L := ⟨_, rfl⟩
  have HLn := Lib.hid (show ∀ W, Calls Tryd.prog 43 #[.string s] W fun e w' => (∃ v, e = .returned v ∧ w'.ownsRow W.heap.size 3 1 v L.length (nvs L)) ∧ Below W.heap.size W w' from fun W => by rw [← hL]; exact lines_any s W (by omega))
  have hg := hA.get
  rw [hL] at hll hcl hg
  have HG := Lib.hid hg
  have HNl := Lib.hid hA.line
  clear hA hL hg
  have h1 : decide ((c : Int) < 0) = false := by simp
  have h2 : decide ((U : Int) < 0) = false := by simp
  have h3 : decide (L.length ≤ c) = false := by simp; omega
  go_enter Tryd.func30, Tryd.ntmps30
  go_wp2_with fail
  refine (HLn.out _).mono ?_
  rintro e w1 ⟨⟨v, rfl, hown⟩, hb1⟩
  have HB1 := Lib.hid (((Below.refl w.heap.size w).alloc (Nat.le_refl _) (.cells #[.int .i64 c, .int .i64 U] 45)).trans (hb1.mono (by simp)))
  obtain ⟨g, cap, rfl, hgb, hcells⟩ : ∃ g cap, v = .slice (some ⟨g, 0, none⟩) L.length cap ∧ g < w1.heap.size ∧ ∀ (i y : Nat), L[i]? = some y → w1.cell? ⟨g, i, none⟩ = some (.int .i64 (y : Int)) := by
    rcases hown.2 with ⟨_, h0⟩ | ⟨g, cap, cur, rfl, hb, hgg, _⟩
    · omega
    · refine ⟨g, cap, rfl, (Array.getElem?_eq_some_iff.1 hgg).1, fun i y hy => ?_⟩
      have := hown.cells (g := g) rfl i (.int .i64 (y : Int)) (by simp [nvs, hy])
      rwa [show ((⟨g, 0, none⟩ : Addr).add i) = ⟨g, i, none⟩ by unfold Addr.add; split <;> simp_all] at this
  have hca : w1.cell? ⟨g, c, none⟩ = some (.int .i64 (a : Int)) := hcells c a HG.out
  have hr1 : w1.cell? ⟨w.heap.size, 0, none⟩ = some (.int .i64 c) := by
    rw [hb1.cell (p := ⟨w.heap.size, 0, none⟩) (by simp), cell_of_row _ w.heap.size 0 _ _ _ (World.alloc_heap_new w _)]; rfl
  have hr2 : w1.cell? ⟨w.heap.size, 1, none⟩ = some (.int .i64 U) := by
    rw [hb1.cell (p := ⟨w.heap.size, 1, none⟩) (by simp), cell_of_row _ w.heap.size 1 _ _ _ (World.alloc_heap_new w _)]; rfl
  have hlt0 : w.heap.size < w1.heap.size := World.block_lt_of_cell? w1 _ hr1
  have hc0 : (0 : Int) ≤ c := by omega
  have hc1 : (c : Int) < L.length := by omega
  have ha0 : (0 : Int) ≤ a := by omega
  have ha1 : (a : Int) ≤ s.size := by omega
  clear hown hb1 hcells
  go_wp2_with fail
  have hpos := at_pos s n c a J HA.out
  have hJ := HA.out.reach
  have hsz : (s.extract a s.size).size = s.size - a := by simp
  have hnl : ∀ i (h : i < (s.extract a s.size).size), i < n - a → ((s.extract a s.size)[i]'h).toNat ≠ 10 := by
    intro i h he hi
    refine HNl.out (a + i) (by omega) (by omega) ?_
    have hb := bl_get (s.extract a s.size) i h
    rw [bl_extractn, List.getElem?_drop] at hb
    rw [List.getD_eq_getElem?_getD, hb]
    exact UInt8.toNat_inj.1 hi
  generalize hT : s.extract a s.size = t at *
  clear hT
  have HPos := Lib.hid hpos; have HJ := Lib.hid hJ; have HNl2 := Lib.hid hnl; have HU2 := Lib.hid HU.out
  clear hpos hJ hnl HU
  go_loopw [8] (fun u wr => ∃ j : Nat, j ≤ J ∧ u = .int .i64 ((posn t j).2 : Nat) ∧ wr.heap[w1.heap.size]? = some (.stringIter t (posn t j).1) ∧ Below w1.heap.size w1 wr) (fun _ wr => t.size - wr.iterPos w1.heap.size)
  case atStart => exact ⟨0, by omega, rfl, World.iter_heap w1 t 0, (Below.refl _ _).alloc (Nat.le_refl _) _⟩
  case round =>
    obtain ⟨j, hj, rfl, hit, hB⟩ := hrel
    obtain ⟨hp1, hp2⟩ := HPos.out j hj
    have hp3 := posn_le2 t j
    have hw := dec_width t (posn t j).1
    have hd := decode_le t (posn t j).1
    have HStep := Lib.hid (show (posn t (j + 1)).1 = (posn t j).1 + (Utf8.decode t (posn t j).1).2 ∧ (posn t (j + 1)).2 = (posn t j).2 + un (Utf8.decode t (posn t j).1).1 from ⟨rfl, rfl⟩)
    have HJj := Lib.hid (show j = J → (posn t j).1 = n - a by intro e; rw [e]; exact HJ.out)
    have HJu := Lib.hid (show j = J → (posn t j).2 = U by intro e; rw [e]; exact HU2.out)
    rw [HU2.out] at hp2
    have HTen := Lib.hid (decode_ten t (posn t j).1)
    generalize (posn t j).1 = p at *
    generalize (posn t j).2 = q at *
    have hun := un_pos (Utf8.decode t p).1
    by_cases hpl : p < t.size
    · have hnx : ∀ ty, (Instr.next (.pointer (some ⟨w1.heap.size, 0, none⟩)) true ty).run Tryd.prog wr = _ := fun ty => Lib.run_next_any_at wr w1.heap.size t p ty hit hpl
      have HTen2 := Lib.hid (fun h : p < n - a => fun e => HNl2.out p hpl h (HTen.out hpl e))
      generalize hdr : Utf8.decode t p = dr at *
      obtain ⟨r, m⟩ := dr
      simp only at hnx hw hd hun HStep HTen2
      have HB := Lib.hid (Lib.below_iterAt hB (Nat.le_refl _) t (p + m))
      have HIt := Lib.hid (Lib.iterAt_heap wr w1.heap.size t p (p + m) hit)
      have HIt0 := Lib.hid hit
      clear hdr hB hit HTen
      generalize wr.iterAt w1.heap.size t (p + m) = W at *
      have hs0 : W.cell? ⟨w.heap.size, 0, none⟩ = some (.int .i64 c) := (HB.out.cell (p := ⟨w.heap.size, 0, none⟩) (show w.heap.size < _ by omega)).trans hr1
      have hs1 : W.cell? ⟨w.heap.size, 1, none⟩ = some (.int .i64 U) := (HB.out.cell (p := ⟨w.heap.size, 1, none⟩) (show w.heap.size < _ by omega)).trans hr2
      have hwr : IntKind.i64.wrap ((a : Int) + (p : Int)) = (a : Int) + (p : Int) := IntWalk.i64_in _ (by omega)
      by_cases hjJ : j < J
      · have hlt := (hp2 hjJ).1
        have hlu := (hp2 hjJ).2
        have hne := HTen2.out hlt
        have hq1 : ((q : Int) == (U : Int)) = false := by rw [← Bool.not_eq_true, beq_iff_eq]; omega
        have hq2 : decide (U < q) = false := by clear hwr; rw [decide_eq_false_iff_not]; omega
        have hq3 : ((r : Int) == 10) = false := by rw [← Bool.not_eq_true, beq_iff_eq]; intro e; exact hne (by clear hwr; omega)
        clear hp1 hp2 hne HTen2
        go_wp2_with fail
        refine (units_any r _ hd).mono ?_
        rintro e w3 ⟨rfl, rfl⟩
        go_wp2_with fail
        refine ⟨⟨j + 1, hjJ, by rw [HStep.out.2]; go_num, by rw [HStep.out.1]; exact HIt.out, HB.out⟩, ?_⟩
        simp only [World.iterPos, HIt.out, HIt0.out]
        omega
      · obtain rfl : j = J := by omega
        have hpe := HJj.out rfl
        obtain rfl : q = U := HJu.out rfl
        have hq1 : ((q : Int) == (q : Int)) = true := by rw [beq_iff_eq]
        have hq2 : (a : Int) + (p : Int) = (n : Int) := by omega
        have HQ2 := Lib.hid hq2
        clear hp1 hp2 hpe hq2
        go_wp2_with fail
        go_ret2
        exact ⟨by rw [HQ2.out]; rfl, HB1.out.trans (HB.out.mono HB1.out.size)⟩
    · have hnx : ∀ ty, (Instr.next (.pointer (some ⟨w1.heap.size, 0, none⟩)) true ty).run Tryd.prog wr = _ := fun ty => Lib.run_next_end_at wr w1.heap.size t p ty hit hpl
      obtain rfl : j = J := by
        rcases Nat.lt_or_eq_of_le hj with h | h
        · have := (hp2 h).1; omega
        · exact h
      have hpe := HJj.out rfl
      obtain rfl : q = U := HJu.out rfl
      have HB := Lib.hid hB
      have hs0 : wr.cell? ⟨w.heap.size, 0, none⟩ = some (.int .i64 c) := (HB.out.cell (p := ⟨w.heap.size, 0, none⟩) (show w.heap.size < _ by omega)).trans hr1
      have hs1 : wr.cell? ⟨w.heap.size, 1, none⟩ = some (.int .i64 q) := (HB.out.cell (p := ⟨w.heap.size, 1, none⟩) (show w.heap.size < _ by omega)).trans hr2
      have hq1 : ((q : Int) == (q : Int)) = true := by rw [beq_iff_eq]
      have hsn : s.size = n := by omega
      have HSn := Lib.hid hsn
      clear hp1 hp2 hpe hB hit hsn
      go_wp2_with fail
      go_ret2
      exact ⟨by rw [HSn.out]; rfl, HB1.out.trans (HB.out.mono HB1.out.size)⟩
end Go.Proofs.YtolgoojlpmgblaaDoor

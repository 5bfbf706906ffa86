/- The examples of the section hold: lives returns true; old memory is as it was. -/
import Derived.Test.YtolgoojlpmgblaaDoorX
import Derived.WalkKit
import Derived.WalkSpells
import Derived.WalkLawsBesides
import Derived.Outline
import Derived.Lib.Hide
import Derived.Handy
namespace Go.Proofs.YtolgoojlpmgblaaDoor
open Go.RowKit

theorem live_toks : toks [120, 60, 45, 49, 32, 33, 121, 35, 122] 0 = [⟨2, [120], 0⟩, ⟨6, [60, 45], 1⟩, ⟨4, [49], 3⟩, ⟨0, [32], 4⟩, ⟨8, [33], 5⟩, ⟨2, [121], 6⟩, ⟨1, [35, 122], 7⟩] := by decide +kernel
theorem live_q1 : conE [97, 32, 98] = 0 := by decide +kernel
theorem live_q2 : conE [97, 10, 98] = 1 := by decide +kernel
theorem live_join : joinB [[108, 101, 116], [120], [61], [61], [35, 99], [49]] = [108, 101, 116, 32, 120, 61, 32, 61, 35, 99, 10, 49] := by decide +kernel

theorem tokens_live (w : World) (hT : Tabs w) : Calls Tryd.prog 13 #[.string { data := #[120, 60, 45, 49, 32, 33, 121, 35, 122] }] w fun e W' => ∃ g cap, e = .returned (.slice (some ⟨g, 0, none⟩) 7 cap) ∧
    (W'.cell? ⟨g, 0, none⟩ = some (.int .i64 2) ∧ W'.cell? ⟨g, 4, none⟩ = some (.string { data := #[60, 45] }) ∧ W'.cell? ⟨g, 6, none⟩ = some (.int .i64 4) ∧ W'.cell? ⟨g, 9, none⟩ = some (.int .i64 0) ∧ W'.cell? ⟨g, 12, none⟩ = some (.int .i64 8) ∧ W'.cell? ⟨g, 16, none⟩ = some (.string { data := #[121] }) ∧ W'.cell? ⟨g, 18, none⟩ = some (.int .i64 1) ∧ W'.cell? ⟨g, 20, none⟩ = some (.int .i64 7)) ∧ Below w.heap.size w W' := by
  refine (tokens_any _ (by decide) w hT).mono ?_
  rintro e W' ⟨v, rfl, hown, hb⟩
  rw [show bl { data := #[120, 60, 45, 49, 32, 33, 121, 35, 122] } = [120, 60, 45, 49, 32, 33, 121, 35, 122] from rfl, live_toks] at hown
  obtain ⟨g, cap, rfl, _⟩ := ownsRow_pos hown (by decide)
  obtain ⟨p, c, he, hr⟩ := reads_of_owns hown
  obtain ⟨g', hg, hc⟩ := hr (by decide)
  cases he
  cases hg
  exact ⟨g, cap, rfl, ⟨hc 0 _ rfl, hc 4 _ rfl, hc 6 _ rfl, hc 9 _ rfl, hc 12 _ rfl, hc 16 _ rfl, hc 18 _ rfl, hc 20 _ rfl⟩, hb⟩

theorem quote_live1 (w : World) (hT : Tabs w) : Calls Tryd.prog 24 #[.string { data := #[97, 32, 98] }] w fun e w' => e = .returned (.tuple #[.string { data := #[34, 97, 32, 98, 34] }, .int .i64 0]) ∧ Below w.heap.size w w' :=
  (quote_any _ w (by decide) hT).mono fun e w' ⟨⟨r, he, hr⟩, hb⟩ => ⟨by
    rw [show bl { data := #[97, 32, 98] } = [97, 32, 98] from rfl] at he hr
    rw [live_q1] at he
    unfold quoB at hr
    rw [live_q1, if_pos rfl] at hr
    have : r = { data := #[34, 97, 32, 98, 34] } := ba_ext.2 hr
    rw [he, this]; rfl, hb⟩
theorem quote_live2 (w : World) (hT : Tabs w) : Calls Tryd.prog 24 #[.string { data := #[97, 10, 98] }] w fun e w' => (∃ r : ByteArray, e = .returned (.tuple #[.string r, .int .i64 1])) ∧ Below w.heap.size w w' :=
  (quote_any _ w (by decide) hT).mono fun e w' ⟨⟨r, he, hr⟩, hb⟩ => ⟨⟨r, by
    rw [show bl { data := #[97, 10, 98] } = [97, 10, 98] from rfl, live_q2] at he
    exact he⟩, hb⟩
theorem join_live (B c : Nat) (w : World) (hB : w.heap[B]? = some (.cells (svs [[108, 101, 116], [120], [61], [61], [35, 99], [49]]).toArray 9)) (hT : Tabs w) :
    Calls Tryd.prog 17 #[.slice (some ⟨B, 0, none⟩) 6 c] w fun e w' => e = .returned (.string { data := #[108, 101, 116, 32, 120, 61, 32, 61, 35, 99, 10, 49] }) ∧ Below w.heap.size w w' := by
  refine (join_any _ [[108, 101, 116], [120], [61], [61], [35, 99], [49]] w ⟨_, _, rfl, fun _ => ⟨B, 0, rfl, fun i x hx => ?_⟩⟩ (by decide) (by decide) hT).mono ?_
  · rw [cell_of_row w B (0 + i) _ _ _ hB, Nat.zero_add]
    simp only [List.getElem?_toArray, svs, List.getElem?_map, hx, Option.map_some]
    rfl
  · rintro e w' ⟨⟨r, rfl, hr⟩, hb⟩
    rw [live_join] at hr
    have : r = { data := #[108, 101, 116, 32, 120, 61, 32, 61, 35, 99, 10, 49] } := ba_ext.2 hr
    exact ⟨by rw [this], hb⟩

set_option maxRecDepth 100000 in
set_option maxHeartbeats 2000000 in
theorem lives_any (w : World) (hT : Tabs w) : Calls Tryd.prog 15 #[] w fun e w' => e = .returned (.bool true) ∧ Below w.heap.size w w' := by
  have HT := Lib.hid hT; clear hT
  go_enter Tryd.func15, Tryd.ntmps15
  go_wp2_with fail
  refine (tokens_live _ HT.out).mono ?_
  rintro e w1 ⟨g, cap, rfl, ⟨c0, c4, c6, c9, c12, c16, c18, c20⟩, hb1⟩
  go_wp2_with fail
  refine (quote_live1 _ (HT.out.of_below hb1)).mono ?_
  rintro e w2 ⟨rfl, hb2⟩
  have hg := World.block_lt_of_cell? w1 _ c0
  have HB2 := Lib.hid (hb1.trans (hb2.mono hb1.size))
  have h12 := hb2.size
  have d0 := (hb2.cell (p := ⟨g, 0, none⟩) hg).trans c0
  have d4 := (hb2.cell (p := ⟨g, 4, none⟩) hg).trans c4
  have d6 := (hb2.cell (p := ⟨g, 6, none⟩) hg).trans c6
  have d9 := (hb2.cell (p := ⟨g, 9, none⟩) hg).trans c9
  have d12 := (hb2.cell (p := ⟨g, 12, none⟩) hg).trans c12
  have d16 := (hb2.cell (p := ⟨g, 16, none⟩) hg).trans c16
  have d18 := (hb2.cell (p := ⟨g, 18, none⟩) hg).trans c18
  have d20 := (hb2.cell (p := ⟨g, 20, none⟩) hg).trans c20
  clear c0 c4 c6 c9 c12 c16 c18 c20 hb1 hb2
  go_wp2_with fail
  refine (quote_live2 _ (HT.out.of_below HB2.out)).mono ?_
  rintro e w3 ⟨⟨r, rfl⟩, hb3⟩
  have hg2 : g < w2.heap.size := Nat.lt_of_lt_of_le hg h12
  have HB3 := Lib.hid (HB2.out.trans (hb3.mono HB2.out.size))
  have e0 := (hb3.cell (p := ⟨g, 0, none⟩) hg2).trans d0
  have e4 := (hb3.cell (p := ⟨g, 4, none⟩) hg2).trans d4
  have e6 := (hb3.cell (p := ⟨g, 6, none⟩) hg2).trans d6
  have e9 := (hb3.cell (p := ⟨g, 9, none⟩) hg2).trans d9
  have e12 := (hb3.cell (p := ⟨g, 12, none⟩) hg2).trans d12
  have e16 := (hb3.cell (p := ⟨g, 16, none⟩) hg2).trans d16
  have e18 := (hb3.cell (p := ⟨g, 18, none⟩) hg2).trans d18
  have e20 := (hb3.cell (p := ⟨g, 20, none⟩) hg2).trans d20
  clear d0 d4 d6 d9 d12 d16 d18 d20 hb3 hg hg2
  go_wp2_with fail
  have hB4 : Below w.heap.size w (w3.alloc (.cells (svs [[108, 101, 116], [120], [61], [61], [35, 99], [49]]).toArray 9)) := HB3.out.alloc HB3.out.size _
  have HB4 := Lib.hid hB4
  clear e0 e4 e6 e9 e12 e16 e18 e20
  refine (join_live w3.heap.size 6 (w3.alloc (.cells (svs [[108, 101, 116], [120], [61], [61], [35, 99], [49]]).toArray 9)) (World.alloc_heap_new w3 _) (HT.out.of_below hB4)).mono ?_
  rintro e w4 ⟨rfl, hb4⟩
  have HB5 := Lib.hid (HB4.out.trans (hb4.mono HB4.out.size))
  clear hb4 hB4
  go_wp2_with fail
  go_ret
  exact ⟨rfl, HB5.out⟩
end Go.Proofs.YtolgoojlpmgblaaDoor

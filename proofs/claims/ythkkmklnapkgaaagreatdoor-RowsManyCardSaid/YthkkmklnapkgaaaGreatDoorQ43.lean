import Derived.Test.YthkkmklnapkgaaaGreatDoorQ35
import Derived.Test.YthkkmklnapkgaaaGreatDoorQ40
import Derived.Test.YthkkmklnapkgaaaGreatDoorQ42
/- The law's example: lives. -/
namespace Go.Proofs.YthkkmklnapkgaaaGreatDoor
open Go.RowKit Go.Shelf Go.Lib

theorem field12 (a b c d e f g h i j k l : Value) (w : World) : (Instr.field 40 (.agg #[a, b, c, d, e, f, g, h, i, j, k, l]) 0).run Tryz.prog w = .ok a w := by
  simp [Instr.field, go_sem, part, asAgg]

theorem pair_bd {a b : Int} (h : -1000 ≤ a ∧ a ≤ 1000) : ∀ p ∈ [((1 : Int), (3 : Int)), (a, b)], -1000 ≤ p.1 ∧ p.1 ≤ 1000 := by
  intro p hp
  simp at hp
  rcases hp with rfl | rfl
  · decide
  · exact h
/-- One of the example's states. -/
def StIs (w : World) (l : List (Int × Int)) (e : Ending) (w' : World) : Prop := ∃ p cap, e = .returned (.slice p 2 cap) ∧ Sl relRd (fun _ => True) w' (.slice p 2 cap) (Law.st l) ∧ Below w.heap.size w w'
/-- What Check hands back at one of the example's states. -/
def CodeIs (w : World) (q : Int) (e : Ending) (w' : World) : Prop := ∃ a1 a2 a3 a4 a5 a6 a7 a8 a9 a10 a11 : Value, e = .returned (.agg #[.int .i64 q, a1, a2, a3, a4, a5, a6, a7, a8, a9, a10, a11]) ∧ Below w.heap.size w w'
theorem lives_check (S0 S1 : Nat → Prop) (cs : List Value) (lv : Value) (l : List (Int × Int)) (q : Int) (w : World) (hs : IsSc S0 w cs Law.sc) (hl : Sl relRd S1 w lv (Law.st l)) (hkw : KwTab w) (hll : l.length ≤ 1000) (hb : ∀ p ∈ l, -1000 ≤ p.1 ∧ p.1 ≤ 1000)
    (hi : incV (l.map fun p => Law.rT p.1 p.2) = true) (hq : ∀ f, FirstF Law.sc.tables.length (Law.cf l) (fun i => ((Law.sc.tables[i]?).getD Tbl.zero).name) f → f.code = q) :
    Calls Tryz.prog 8 #[.agg cs.toArray, lv] w (CodeIs w q) := by
  refine (checkOk S0 S1 Law.sc cs lv (Law.st l) _ _ _ w hs hl hkw (by decide) (Law.st_ok l hll hb)).mono ?_
  rintro e w' ⟨f, h1, _, cs', rfl, hf, hbw⟩
  obtain ⟨p3, k3, p4, k4, q3, l3, q4, l4, rfl, _⟩ := ft_cells hf
  have := hq f (h1 (Law.st_norm l hi))
  refine ⟨.string ⟨f.table.toArray⟩, .int .i64 f.row.kind, .int .i64 f.row.n, .string ⟨f.row.s.toArray⟩, .slice p3 f.row.names.length k3, .slice p4 f.row.kids.length k4, .int .i64 f.other.kind, .int .i64 f.other.n, .string ⟨f.other.s.toArray⟩, .slice q3 f.other.names.length l3, .slice q4 f.other.kids.length l4, ?_, hbw⟩
  rw [← this]
  rfl

set_option maxRecDepth 100000 in
set_option maxHeartbeats 4000000 in
theorem lives_any (w : World) (hkw : KwTab w) : Calls Tryz.prog 9 #[] w fun e w' => e = .returned (.bool true) ∧ Below w.heap.size w w' := by
  have mixed : (Tryz.prog).follows .mixedOrders = true := by kernel_rfl
  go_enter Tryz.func9, Tryz.ntmps9
  go_upto_region 6 with fail
  obtain ⟨W6, hW6⟩ : ∃ W6, (World.alloc (World.alloc (World.alloc (World.alloc (World.alloc (World.alloc (World.alloc (World.alloc (World.alloc (World.alloc (World.alloc (World.alloc w (.cells #[.int .i64 0, .string ⟨#[]⟩, .int .i64 0, .slice none 0 0, .slice none 0 0] 46)) (.cells #[.string ⟨#[107]⟩, .int .i64 0, .string ⟨#[]⟩, .int .i64 0, .slice none 0 0, .slice none 0 0] 61)) (.cells #[.string ⟨#[107]⟩] 9)) (.cells #[.string ⟨#[117]⟩, .slice (some ⟨w.heap.size + 1, 0, none⟩) 1 1, .slice (some ⟨w.heap.size + 1 + 1, 0, none⟩) 1 1, .slice none 0 0, .int .i64 2, .string ⟨#[]⟩, .int .i64 1, .string ⟨#[]⟩, .slice none 0 0, .slice none 0 0, .slice none 0 0, .int .i64 0, .int .i64 0] 59)) (.cells #[.int .i64 3, .string ⟨#[97]⟩, .int .i64 0, .string ⟨#[]⟩, .slice none 0 0, .slice none 0 0, .slice none 0 0, .int .i64 0, .int .i64 0, .int .i64 3, .string ⟨#[98]⟩, .int .i64 0, .string ⟨#[]⟩, .slice none 0 0, .slice none 0 0, .slice none 0 0, .int .i64 0, .int .i64 0] 54)) (.cells #[.int .i64 14, .string ⟨#[60]⟩, .int .i64 0, .string ⟨#[]⟩, .slice none 0 0, .slice none 0 0, .slice (some ⟨w.heap.size + 1 + 1 + 1 + 1, 0, none⟩) 2 2, .int .i64 0, .int .i64 0] 54)) (.cells #[.string ⟨#[97]⟩, .int .i64 0, .string ⟨#[]⟩, .int .i64 0, .slice none 0 0, .slice none 0 0, .string ⟨#[98]⟩, .int .i64 0, .string ⟨#[]⟩, .int .i64 0, .slice none 0 0, .slice none 0 0] 61)) (.cells #[.string ⟨#[97]⟩] 9)) (.cells #[.string ⟨#[98]⟩, .string ⟨#[117]⟩] 64)) (.cells #[.string ⟨#[116]⟩, .slice (some ⟨w.heap.size + 1 + 1 + 1 + 1 + 1 + 1, 0, none⟩) 2 2, .slice (some ⟨w.heap.size + 1 + 1 + 1 + 1 + 1 + 1 + 1, 0, none⟩) 1 1, .slice (some ⟨w.heap.size + 1 + 1 + 1 + 1 + 1 + 1 + 1 + 1, 0, none⟩) 1 1, .int .i64 14, .string ⟨#[60]⟩, .int .i64 0, .string ⟨#[]⟩, .slice none 0 0, .slice none 0 0, .slice (some ⟨w.heap.size + 1 + 1 + 1 + 1, 0, none⟩) 2 2, .int .i64 0, .int .i64 0] 59)) (.cells #[.string ⟨#[116]⟩, .slice (some ⟨w.heap.size + 1 + 1 + 1 + 1 + 1 + 1, 0, none⟩) 2 2, .slice (some ⟨w.heap.size + 1 + 1 + 1 + 1 + 1 + 1 + 1, 0, none⟩) 1 1, .slice (some ⟨w.heap.size + 1 + 1 + 1 + 1 + 1 + 1 + 1 + 1, 0, none⟩) 1 1, .int .i64 14, .string ⟨#[60]⟩, .int .i64 0, .string ⟨#[]⟩, .slice none 0 0, .slice none 0 0, .slice (some ⟨w.heap.size + 1 + 1 + 1 + 1, 0, none⟩) 2 2, .int .i64 0, .int .i64 0, .string ⟨#[117]⟩, .slice (some ⟨w.heap.size + 1, 0, none⟩) 1 1, .slice (some ⟨w.heap.size + 1 + 1, 0, none⟩) 1 1, .slice none 0 0, .int .i64 2, .string ⟨#[]⟩, .int .i64 1, .string ⟨#[]⟩, .slice none 0 0, .slice none 0 0, .slice none 0 0, .int .i64 0, .int .i64 0] 59)) (.cells #[.slice none 0 0, .slice (some ⟨w.heap.size + 1 + 1 + 1 + 1 + 1 + 1 + 1 + 1 + 1 + 1, 0, none⟩) 2 2] 26)) = W6 := ⟨_, rfl⟩
  have k1 : W6.heap[w.heap.size + 1]? = some (.cells #[.string ⟨#[107]⟩, .int .i64 0, .string ⟨#[]⟩, .int .i64 0, .slice none 0 0, .slice none 0 0] 61 (0, 0)) := by rw [← hW6]; exact hkeep (hkeep (hkeep (hkeep (hkeep (hkeep (hkeep (hkeep (hkeep (hkeep (hnew (by simp) _) _) _) _) _) _) _) _) _) _) _
  have k2 : W6.heap[w.heap.size + 1 + 1]? = some (.cells #[.string ⟨#[107]⟩] 9 (0, 0)) := by rw [← hW6]; exact hkeep (hkeep (hkeep (hkeep (hkeep (hkeep (hkeep (hkeep (hkeep (hnew (by simp) _) _) _) _) _) _) _) _) _) _
  have k4 : W6.heap[w.heap.size + 1 + 1 + 1 + 1]? = some (.cells #[.int .i64 3, .string ⟨#[97]⟩, .int .i64 0, .string ⟨#[]⟩, .slice none 0 0, .slice none 0 0, .slice none 0 0, .int .i64 0, .int .i64 0, .int .i64 3, .string ⟨#[98]⟩, .int .i64 0, .string ⟨#[]⟩, .slice none 0 0, .slice none 0 0, .slice none 0 0, .int .i64 0, .int .i64 0] 54 (0, 0)) := by rw [← hW6]; exact hkeep (hkeep (hkeep (hkeep (hkeep (hkeep (hkeep (hnew (by simp) _) _) _) _) _) _) _) _
  have k6 : W6.heap[w.heap.size + 1 + 1 + 1 + 1 + 1 + 1]? = some (.cells #[.string ⟨#[97]⟩, .int .i64 0, .string ⟨#[]⟩, .int .i64 0, .slice none 0 0, .slice none 0 0, .string ⟨#[98]⟩, .int .i64 0, .string ⟨#[]⟩, .int .i64 0, .slice none 0 0, .slice none 0 0] 61 (0, 0)) := by rw [← hW6]; exact hkeep (hkeep (hkeep (hkeep (hkeep (hnew (by simp) _) _) _) _) _) _
  have k7 : W6.heap[w.heap.size + 1 + 1 + 1 + 1 + 1 + 1 + 1]? = some (.cells #[.string ⟨#[97]⟩] 9 (0, 0)) := by rw [← hW6]; exact hkeep (hkeep (hkeep (hkeep (hnew (by simp) _) _) _) _) _
  have k8 : W6.heap[w.heap.size + 1 + 1 + 1 + 1 + 1 + 1 + 1 + 1]? = some (.cells #[.string ⟨#[98]⟩, .string ⟨#[117]⟩] 64 (0, 0)) := by rw [← hW6]; exact hkeep (hkeep (hkeep (hnew (by simp) _) _) _) _
  have k10 : W6.heap[w.heap.size + 1 + 1 + 1 + 1 + 1 + 1 + 1 + 1 + 1 + 1]? = some (.cells #[.string ⟨#[116]⟩, .slice (some ⟨w.heap.size + 1 + 1 + 1 + 1 + 1 + 1, 0, none⟩) 2 2, .slice (some ⟨w.heap.size + 1 + 1 + 1 + 1 + 1 + 1 + 1, 0, none⟩) 1 1, .slice (some ⟨w.heap.size + 1 + 1 + 1 + 1 + 1 + 1 + 1 + 1, 0, none⟩) 1 1, .int .i64 14, .string ⟨#[60]⟩, .int .i64 0, .string ⟨#[]⟩, .slice none 0 0, .slice none 0 0, .slice (some ⟨w.heap.size + 1 + 1 + 1 + 1, 0, none⟩) 2 2, .int .i64 0, .int .i64 0, .string ⟨#[117]⟩, .slice (some ⟨w.heap.size + 1, 0, none⟩) 1 1, .slice (some ⟨w.heap.size + 1 + 1, 0, none⟩) 1 1, .slice none 0 0, .int .i64 2, .string ⟨#[]⟩, .int .i64 1, .string ⟨#[]⟩, .slice none 0 0, .slice none 0 0, .slice none 0 0, .int .i64 0, .int .i64 0] 59 (0, 0)) := by rw [← hW6]; exact hkeep (hnew (by simp) _) _
  have k11 : W6.heap[w.heap.size + 1 + 1 + 1 + 1 + 1 + 1 + 1 + 1 + 1 + 1 + 1]? = some (.cells #[.slice none 0 0, .slice (some ⟨w.heap.size + 1 + 1 + 1 + 1 + 1 + 1 + 1 + 1 + 1 + 1, 0, none⟩) 2 2] 26 (0, 0)) := by rw [← hW6]; exact hnew (by simp) _
  have hb6 : Below w.heap.size w W6 := by rw [← hW6]; exact balS (balS (balS (balS (balS (balS (balS (balS (balS (balS (balS (bal1 w _) _) _) _) _) _) _) _) _) _) _) _
  rw [hW6]
  have hsc : IsSc (fun b => b < W6.heap.size) W6 [.slice none 0 0, .slice (some ⟨w.heap.size + 1 + 1 + 1 + 1 + 1 + 1 + 1 + 1 + 1 + 1, 0, none⟩) 2 2] Law.sc := by
    refine ⟨_, _, rfl, Sl.nil _ _ _, ?_⟩
    refine sl_blk (xs := Law.sc.tables) k10 (World.block_lt_some k10) ((Cs.one (r := tblRd) (c := [.string ⟨#[116]⟩, .slice (some ⟨w.heap.size + 1 + 1 + 1 + 1 + 1 + 1, 0, none⟩) 2 2, .slice (some ⟨w.heap.size + 1 + 1 + 1 + 1 + 1 + 1 + 1, 0, none⟩) 1 1, .slice (some ⟨w.heap.size + 1 + 1 + 1 + 1 + 1 + 1 + 1 + 1, 0, none⟩) 1 1, .int .i64 14, .string ⟨#[60]⟩, .int .i64 0, .string ⟨#[]⟩, .slice none 0 0, .slice none 0 0, .slice (some ⟨w.heap.size + 1 + 1 + 1 + 1, 0, none⟩) 2 2, .int .i64 0, .int .i64 0]) (x := Law.tT) ⟨_, _, _, _, rfl, by simp [Law.tT], ?_, ?_, ?_, ?_⟩).app (Cs.one (r := tblRd) (c := [.string ⟨#[117]⟩, .slice (some ⟨w.heap.size + 1, 0, none⟩) 1 1, .slice (some ⟨w.heap.size + 1 + 1, 0, none⟩) 1 1, .slice none 0 0, .int .i64 2, .string ⟨#[]⟩, .int .i64 1, .string ⟨#[]⟩, .slice none 0 0, .slice none 0 0, .slice none 0 0, .int .i64 0, .int .i64 0]) (x := Law.uT) ⟨_, _, _, _, rfl, by simp [Law.uT], ?_, ?_, Sl.nil _ _ _, yes_lit _ _ none none none 0 0 0⟩)) rfl rfl (by simp [Law.sc])
    · exact sl_blk (xs := Law.tT.columns) k6 (World.block_lt_some k6) ((Cs.one (r := colRd) (col_lit [97] 0 [] (by simp) (by simp))).app (Cs.one (r := colRd) (col_lit [98] 0 [] (by simp) (by simp)))) rfl rfl (by simp [Law.tT])
    · exact sl_blk (xs := Law.tT.key) k7 (World.block_lt_some k7) (str_lit [97] (by simp)) rfl rfl (by simp [Law.tT])
    · exact sl_blk (xs := Law.tT.refs) k8 (World.block_lt_some k8) (Cs.one (r := rfRd) (x := ⟨[98], [117]⟩) (c := [.string ⟨#[98]⟩, .string ⟨#[117]⟩]) ⟨rfl, by simp, by simp⟩) rfl rfl (by simp [Law.tT])
    · refine isEx_mk (nm := [60]) (s := []) (by simp) (by simp) (Sl.nil _ _ _) (Sl.nil _ _ _) ?_
      exact sl_blk (xs := [Gen.a, Gen.b]) k4 (World.block_lt_some k4) ((Cs.one (r := exRd) (x := Gen.var [97]) (show IsEx _ W6 [.int .i64 3, .string ⟨#[97]⟩, .int .i64 0, .string ⟨#[]⟩, .slice none 0 0, .slice none 0 0, .slice none 0 0, .int .i64 0, .int .i64 0] (Gen.var [97]) from isEx_mk (nm := [97]) (s := []) (by simp) (by simp) (Sl.nil _ _ _) (Sl.nil _ _ _) (Sl.nil _ _ _))).app (Cs.one (r := exRd) (x := Gen.var [98]) (show IsEx _ W6 [.int .i64 3, .string ⟨#[98]⟩, .int .i64 0, .string ⟨#[]⟩, .slice none 0 0, .slice none 0 0, .slice none 0 0, .int .i64 0, .int .i64 0] (Gen.var [98]) from isEx_mk (nm := [98]) (s := []) (by simp) (by simp) (Sl.nil _ _ _) (Sl.nil _ _ _) (Sl.nil _ _ _)))) rfl rfl (by simp)
    · exact sl_blk (xs := Law.uT.columns) k1 (World.block_lt_some k1) (Cs.one (r := colRd) (col_lit [107] 0 [] (by simp) (by simp))) rfl rfl (by simp [Law.uT])
    · exact sl_blk (xs := Law.uT.key) k2 (World.block_lt_some k2) (str_lit [107] (by simp)) rfl rfl (by simp [Law.uT])
  have c0 := cell_of_row _ _ 0 _ _ _ k11; have c1 := cell_of_row _ _ 1 _ _ _ k11
  simp only [List.getElem?_toArray, List.getElem?_cons_zero, List.getElem?_cons_succ] at c0 c1
  have HSc := Lib.hid hsc; have HB6 := Lib.hid hb6; have K11 := Lib.hid k11; have HK6 := Lib.hid (hkw.below hb6)
  have HEm : Hid (Calls Tryz.prog 12 #[.agg #[.slice none 0 0, .slice (some ⟨w.heap.size + 1 + 1 + 1 + 1 + 1 + 1 + 1 + 1 + 1 + 1, 0, none⟩) 2 2]] W6 (StateIs W6 [⟨[116], []⟩, ⟨[117], []⟩])) := Lib.hid ((empty_any _ Law.sc _ W6 hsc (by decide) (by decide)).mono (fun e w' ⟨p, cap, he, hst, hb⟩ => ⟨p, cap, he, hst.sl (by decide) (by decide) (fun _ => True) (fun _ _ => trivial) (fun _ _ _ => trivial), hb⟩))
  clear hsc hb6 hW6 hkw k1 k2 k4 k6 k7 k8 k10 k11
  go_wp2_with fail
  refine HEm.out.mono ?_
  rintro e w7 ⟨p7, cap7, rfl, hSl7, hb7⟩
  have HSl7 := Lib.hid hSl7; have HB7 := Lib.hid hb7
  clear hSl7 hb7 HEm
  go_wp2_with fail
  obtain ⟨W8, hW8⟩ : ∃ W8, (w7.alloc (.cells #[.string ⟨#[107]⟩] 9)).alloc (.cells #[.int .i64 0, .int .i64 3, .string ⟨#[]⟩, .slice none 0 0, .slice none 0 0] 34) = W8 := ⟨_, rfl⟩
  rw [hW8]
  have hb8 : Below w7.heap.size w7 W8 := by rw [← hW8]; exact bal2 _ _ _
  have hx8 : IsVal (fun _ => True) W8 [.int .i64 4, .int .i64 0, .string ⟨#[]⟩, .slice (some ⟨w7.heap.size, 0, none⟩) 1 1, .slice (some ⟨w7.heap.size + 1, 0, none⟩) 1 1] (Law.rU 3) := by
    refine isVal_mk (s := []) (by simp) ?_ ?_
    · exact sl_blk (xs := [[107]]) (show W8.heap[w7.heap.size]? = some _ by rw [← hW8]; exact heap_alloc2_old _ _ _) trivial (str_lit [107] (by simp)) rfl rfl (by simp)
    · exact sl_blk (xs := [vInt 3]) (show W8.heap[w7.heap.size + 1]? = some _ by rw [← hW8]; exact heap_alloc2_new _ _ _) trivial (Cs.one (r := valRd) (isVal_int _ W8 3)) rfl rfl (by simp)
  have HB8 := Lib.hid (HB7.out.thn hb8)
  have HI8 : Hid (Calls Tryz.prog 30 #[.slice p7 2 cap7, .string ⟨#[117]⟩, .agg #[.int .i64 4, .int .i64 0, .string ⟨#[]⟩, .slice (some ⟨w7.heap.size, 0, none⟩) 1 1, .slice (some ⟨w7.heap.size + 1, 0, none⟩) 1 1]] W8 (StateIs W8 [⟨[116], []⟩, ⟨[117], [Law.rU 3]⟩])) :=
    Lib.hid (insert_end _ _ _ [⟨[116], []⟩, ⟨[117], []⟩] [117] (Law.rU 3) _ W8 1 ⟨[117], []⟩ (HSl7.out.below hb8) hx8 (by decide) rfl (by simp) (by simp) (by simp))
  clear hb8 hx8 hW8
  refine HI8.out.mono ?_
  rintro e w9 ⟨p9, cap9, rfl, hSl9, hb9⟩
  have HSl9 := Lib.hid hSl9; have HB9 := Lib.hid (HB8.out.thn hb9)
  have HR9 : Hid (Calls Tryz.prog 31 #[.string ⟨#[97]⟩, .int .i64 1, .string ⟨#[98]⟩, .int .i64 3] w9 (NewVal w9 (Law.rT 1 3))) := Lib.hid (lrow_any [97] [98] 1 3 w9 (by simp) (by simp))
  clear hSl9 hb9 HI8
  go_wp2_with fail
  refine HR9.out.mono ?_
  rintro e w10 ⟨cx, rfl, hx10, hb10⟩
  obtain ⟨x3, m3, x4, m4, hcs, _⟩ := IsVal.cells hx10
  simp only [vcs] at hcs
  subst hcs
  have HB10 := Lib.hid (HB9.out.thn hb10)
  have HI10 : Hid (Calls Tryz.prog 30 #[.slice p9 2 cap9, .string ⟨#[116]⟩, .agg #[.int .i64 4, .int .i64 0, .string ⟨#[]⟩, .slice x3 2 m3, .slice x4 2 m4]] w10 (StIs w10 [(1, 3)])) :=
    Lib.hid (insert_end _ _ _ [⟨[116], []⟩, ⟨[117], [Law.rU 3]⟩] [116] (Law.rT 1 3) _ w10 0 ⟨[116], []⟩ (HSl9.out.below hb10) hx10 (by decide) rfl (by simp) (by simp) (by simp))
  clear hx10 hb10 HR9
  go_wp2_with fail
  refine HI10.out.mono ?_
  rintro e w11 ⟨p11, cap11, rfl, hSl11, hb11⟩
  have HSl11 := Lib.hid hSl11; have HB11 := Lib.hid (HB10.out.thn hb11)
  clear hSl11 hb11 HI10
  have HR0 : Hid (Calls Tryz.prog 31 #[.string ⟨#[97]⟩, .int .i64 1, .string ⟨#[98]⟩, .int .i64 4] w11 (NewVal w11 (Law.rT 1 4))) := Lib.hid (lrow_any [97] [98] 1 4 w11 (by simp) (by simp))
  go_wp2_with fail
  refine HR0.out.mono ?_
  rintro e w12 ⟨cx, rfl, hx, hbx⟩
  obtain ⟨y0, m0, z0, n0, hcs, _⟩ := IsVal.cells hx
  obtain rfl : cx = [.int .i64 4, .int .i64 0, .string ⟨#[]⟩, .slice y0 2 m0, .slice z0 2 n0] := hcs
  have HX0 := Lib.hid hx; have HB12 := Lib.hid (HB11.out.thn hbx); have HS12 := Lib.hid hbx
  clear hx hbx HR0
  have HR1 : Hid (Calls Tryz.prog 31 #[.string ⟨#[97]⟩, .int .i64 2, .string ⟨#[98]⟩, .int .i64 4] w12 (NewVal w12 (Law.rT 2 4))) := Lib.hid (lrow_any [97] [98] 2 4 w12 (by simp) (by simp))
  go_wp2_with fail
  refine HR1.out.mono ?_
  rintro e w13 ⟨cx, rfl, hx, hbx⟩
  obtain ⟨y1, m1, z1, n1, hcs, _⟩ := IsVal.cells hx
  obtain rfl : cx = [.int .i64 4, .int .i64 0, .string ⟨#[]⟩, .slice y1 2 m1, .slice z1 2 n1] := hcs
  have HX1 := Lib.hid hx; have HB13 := Lib.hid (HB12.out.thn hbx); have HS13 := Lib.hid hbx
  clear hx hbx HR1
  have HR2 : Hid (Calls Tryz.prog 31 #[.string ⟨#[97]⟩, .int .i64 5, .string ⟨#[98]⟩, .int .i64 3] w13 (NewVal w13 (Law.rT 5 3))) := Lib.hid (lrow_any [97] [98] 5 3 w13 (by simp) (by simp))
  go_wp2_with fail
  refine HR2.out.mono ?_
  rintro e w14 ⟨cx, rfl, hx, hbx⟩
  obtain ⟨y2, m2, z2, n2, hcs, _⟩ := IsVal.cells hx
  obtain rfl : cx = [.int .i64 4, .int .i64 0, .string ⟨#[]⟩, .slice y2 2 m2, .slice z2 2 n2] := hcs
  have HX2 := Lib.hid hx; have HB14 := Lib.hid (HB13.out.thn hbx); have HS14 := Lib.hid hbx
  clear hx hbx HR2
  go_upto_region 10 with fail
  obtain ⟨W15, hW15⟩ : ∃ W15, (w14.alloc (.cells #[.int .i64 4, .int .i64 0, .string ⟨#[]⟩, .slice y0 2 m0, .slice z0 2 n0, .int .i64 4, .int .i64 0, .string ⟨#[]⟩, .slice y1 2 m1, .slice z1 2 n1, .int .i64 4, .int .i64 0, .string ⟨#[]⟩, .slice y2 2 m2, .slice z2 2 n2] 34)).alloc (.cells #[.int .i64 11, .int .i64 12, .int .i64 13] 36) = W15 := ⟨_, rfl⟩
  have hb15 : Below w14.heap.size w14 W15 := by rw [← hW15]; exact bal2 _ _ _
  have hm15 : W15.heap[w14.heap.size]? = some (.cells #[.int .i64 4, .int .i64 0, .string ⟨#[]⟩, .slice y0 2 m0, .slice z0 2 n0, .int .i64 4, .int .i64 0, .string ⟨#[]⟩, .slice y1 2 m1, .slice z1 2 n1, .int .i64 4, .int .i64 0, .string ⟨#[]⟩, .slice y2 2 m2, .slice z2 2 n2] 34 (0, 0)) := by rw [← hW15]; exact heap_alloc2_old _ _ _
  have hn15 : W15.heap[w14.heap.size + 1]? = some (.cells #[.int .i64 11, .int .i64 12, .int .i64 13] 36 (0, 0)) := by rw [← hW15]; exact heap_alloc2_new _ _ _
  have HB15 := Lib.hid (HB14.out.thn hb15)
  have d0 := (HB15.out.cell (p := ⟨w.heap.size + 1 + 1 + 1 + 1 + 1 + 1 + 1 + 1 + 1 + 1 + 1, 0, none⟩) (World.block_lt_some K11.out)).trans c0
  have d1 := (HB15.out.cell (p := ⟨w.heap.size + 1 + 1 + 1 + 1 + 1 + 1 + 1 + 1 + 1 + 1 + 1, 1, none⟩) (World.block_lt_some K11.out)).trans c1
  have hb11 := ((HS12.out.thn HS13.out).thn HS14.out).thn hb15
  have HCk := Lib.hid (lives_check _ _ [.slice none 0 0, .slice (some ⟨w.heap.size + 1 + 1 + 1 + 1 + 1 + 1 + 1 + 1 + 1 + 1, 0, none⟩) 2 2] (.slice p11 2 cap11) [(1, 3)] 0 W15 (HSc.out.below HB15.out) (HSl11.out.below hb11) (HK6.out.below HB15.out) (by decide) (by decide) (Law.inc1 1 3) (fun f h => Law.code0 h))
  have HM15 := Lib.hid hm15; have HN15 := Lib.hid hn15; have HB11' := Lib.hid hb11
  have HXa := Lib.hid (IsVal.move (S' := fun _ => True) HX0.out (.of_below ((HS13.out.thn HS14.out).thn hb15)) (fun _ _ _ => trivial)); have HXb := Lib.hid (IsVal.move (S' := fun _ => True) HX1.out (.of_below (HS14.out.thn hb15)) (fun _ _ _ => trivial)); have HXc := Lib.hid (IsVal.move (S' := fun _ => True) HX2.out (.of_below hb15) (fun _ _ _ => trivial))
  rw [hW15]
  clear hb15 hm15 hn15 hb11 hW15 c0 c1
  go_wp2_with fail
  refine HCk.out.mono ?_
  rintro e w16 ⟨a1, a2, a3, a4, a5, a6, a7, a8, a9, a10, a11, rfl, hb16⟩
  have hfd := fun W => field12 (.int .i64 0) a1 a2 a3 a4 a5 a6 a7 a8 a9 a10 a11 W
  have HB16 := Lib.hid hb16
  clear hb16 HCk
  go_wp2_with fail
  go_loopw [9] (fun i wr => ∃ k : Nat, k ≤ 3 ∧ i = .int .i64 k ∧ Below W15.heap.size W15 wr) (fun i _ => 3 - (intOf i).toNat)
  case atStart => exact ⟨0, Nat.zero_le _, rfl, HB16.out⟩
  case round =>
    obtain ⟨k, hk3, rfl, hBr⟩ := hrel
    have HBr := Lib.hid hBr
    clear hBr
    by_cases hlt : k < 3
    · have hcase : ∃ (a b q : Int) (yy : Option Addr) (mm : Nat) (zz9 : Option Addr) (nn : Nat), (∀ (j : Nat) (u : Value), [.int .i64 4, .int .i64 0, .string ⟨#[]⟩, .slice yy 2 mm, .slice zz9 2 nn][j]? = some u → (#[.int .i64 4, .int .i64 0, .string ⟨#[]⟩, .slice y0 2 m0, .slice z0 2 n0, .int .i64 4, .int .i64 0, .string ⟨#[]⟩, .slice y1 2 m1, .slice z1 2 n1, .int .i64 4, .int .i64 0, .string ⟨#[]⟩, .slice y2 2 m2, .slice z2 2 n2] : Array Value)[k * 5 + j]? = some u) ∧ (#[.int .i64 11, .int .i64 12, .int .i64 13] : Array Value)[k]? = some (.int .i64 q) ∧
          IsVal (fun _ => True) W15 [.int .i64 4, .int .i64 0, .string ⟨#[]⟩, .slice yy 2 mm, .slice zz9 2 nn] (Law.rT a b) ∧ eqv (Law.rT 1 3) (Law.rT a b) = false ∧ decide (0 < cmpV (Law.rT 1 3) (Law.rT a b)) = false ∧ (-1000 ≤ a ∧ a ≤ 1000) ∧ incV ([(1, 3), (a, b)].map fun p => Law.rT p.1 p.2) = true ∧
          ∀ f, FirstF Law.sc.tables.length (Law.cf [(1, 3), (a, b)]) (fun i => ((Law.sc.tables[i]?).getD Tbl.zero).name) f → f.code = q := by
        match k, hlt with
      | 0, _ => exact ⟨1, 4, 11, y0, m0, z0, n0, fun j u hu => (by
          match j, hu with
          | 0, hu => exact hu
          | 1, hu => exact hu
          | 2, hu => exact hu
          | 3, hu => exact hu
          | 4, hu => exact hu), rfl, HXa.out, by decide, by decide, by decide, (Law.inc2 1 3 1 4 (by decide)), fun f h => Law.code1 h⟩
      | 1, _ => exact ⟨2, 4, 12, y1, m1, z1, n1, fun j u hu => (by
          match j, hu with
          | 0, hu => exact hu
          | 1, hu => exact hu
          | 2, hu => exact hu
          | 3, hu => exact hu
          | 4, hu => exact hu), rfl, HXb.out, by decide, by decide, by decide, (Law.inc2 1 3 2 4 (by decide)), fun f h => Law.code2 h⟩
      | 2, _ => exact ⟨5, 3, 13, y2, m2, z2, n2, fun j u hu => (by
          match j, hu with
          | 0, hu => exact hu
          | 1, hu => exact hu
          | 2, hu => exact hu
          | 3, hu => exact hu
          | 4, hu => exact hu), rfl, HXc.out, by decide, by decide, by decide, (Law.inc2 1 3 5 3 (by decide)), fun f h => Law.code3 h⟩
      obtain ⟨a, b, q, yy, mm, zz9, nn, hcx, hcq, hxv, hne, hgr, hab, hin, hcode⟩ := hcase
      have hi1 : (0 : Int) ≤ (k : Int) := by omega
      have hi2 : (k : Int) < 3 := by omega
      have hq : (q != q) = false := by simp
      have hM := (HBr.out.block _ (World.block_lt_some HM15.out)).trans HM15.out
      have hN := (HBr.out.block _ (World.block_lt_some HN15.out)).trans HN15.out
      have hS6 := HB15.out.thn HBr.out
      have hKr := (hS6.block _ (World.block_lt_some K11.out)).trans K11.out
      have HS : ∀ w', Below wr.heap.size wr w' → (fun w' => w'.cell? ⟨w.heap.size + 1 + 1 + 1 + 1 + 1 + 1 + 1 + 1 + 1 + 1 + 1, 0, none⟩ = some (.slice none 0 0) ∧ w'.cell? ⟨w.heap.size + 1 + 1 + 1 + 1 + 1 + 1 + 1 + 1 + 1 + 1 + 1, 1, none⟩ = some (.slice (some ⟨w.heap.size + 1 + 1 + 1 + 1 + 1 + 1 + 1 + 1 + 1 + 1, 0, none⟩) 2 2) ∧ w'.cell? ⟨w14.heap.size, k * 5, none⟩ = some (.int .i64 4) ∧ w'.cell? ⟨w14.heap.size, k * 5 + 1, none⟩ = some (.int .i64 0) ∧ w'.cell? ⟨w14.heap.size, k * 5 + 2, none⟩ = some (.string ⟨#[]⟩) ∧ w'.cell? ⟨w14.heap.size, k * 5 + 3, none⟩ = some (.slice yy 2 mm) ∧ w'.cell? ⟨w14.heap.size, k * 5 + 4, none⟩ = some (.slice zz9 2 nn) ∧ w'.cell? ⟨w14.heap.size + 1, k, none⟩ = some (.int .i64 q) ∧ Below wr.heap.size wr w') w' := by
        intro w' h
        have hm := (h.block _ (World.block_lt_some hM)).trans hM
        have hn := (h.block _ (World.block_lt_some hN)).trans hN
        have hk := (h.block _ (World.block_lt_some hKr)).trans hKr
        have e : ∀ (j : Nat) (u : Value), [.int .i64 4, .int .i64 0, .string ⟨#[]⟩, .slice yy 2 mm, .slice zz9 2 nn][j]? = some u → w'.cell? ⟨w14.heap.size, k * 5 + j, none⟩ = some u := fun j u hu => by rw [cell_of_row _ _ _ _ _ _ hm]; exact hcx j u hu
        exact ⟨by rw [cell_of_row _ _ _ _ _ _ hk]; rfl, by rw [cell_of_row _ _ _ _ _ _ hk]; rfl, e 0 _ rfl, e 1 _ rfl, e 2 _ rfl, e 3 _ rfl, e 4 _ rfl, by rw [cell_of_row _ _ _ _ _ _ hn]; exact hcq, h⟩
      have HB9 : ∀ w', (fun w' => w'.cell? ⟨w.heap.size + 1 + 1 + 1 + 1 + 1 + 1 + 1 + 1 + 1 + 1 + 1, 0, none⟩ = some (.slice none 0 0) ∧ w'.cell? ⟨w.heap.size + 1 + 1 + 1 + 1 + 1 + 1 + 1 + 1 + 1 + 1 + 1, 1, none⟩ = some (.slice (some ⟨w.heap.size + 1 + 1 + 1 + 1 + 1 + 1 + 1 + 1 + 1 + 1, 0, none⟩) 2 2) ∧ w'.cell? ⟨w14.heap.size, k * 5, none⟩ = some (.int .i64 4) ∧ w'.cell? ⟨w14.heap.size, k * 5 + 1, none⟩ = some (.int .i64 0) ∧ w'.cell? ⟨w14.heap.size, k * 5 + 2, none⟩ = some (.string ⟨#[]⟩) ∧ w'.cell? ⟨w14.heap.size, k * 5 + 3, none⟩ = some (.slice yy 2 mm) ∧ w'.cell? ⟨w14.heap.size, k * 5 + 4, none⟩ = some (.slice zz9 2 nn) ∧ w'.cell? ⟨w14.heap.size + 1, k, none⟩ = some (.int .i64 q) ∧ Below wr.heap.size wr w') w' → Below wr.heap.size wr w' := fun w' h => h.2.2.2.2.2.2.2.2
      have HX9 : ∀ w' w'', (fun w' => w'.cell? ⟨w.heap.size + 1 + 1 + 1 + 1 + 1 + 1 + 1 + 1 + 1 + 1 + 1, 0, none⟩ = some (.slice none 0 0) ∧ w'.cell? ⟨w.heap.size + 1 + 1 + 1 + 1 + 1 + 1 + 1 + 1 + 1 + 1 + 1, 1, none⟩ = some (.slice (some ⟨w.heap.size + 1 + 1 + 1 + 1 + 1 + 1 + 1 + 1 + 1 + 1, 0, none⟩) 2 2) ∧ w'.cell? ⟨w14.heap.size, k * 5, none⟩ = some (.int .i64 4) ∧ w'.cell? ⟨w14.heap.size, k * 5 + 1, none⟩ = some (.int .i64 0) ∧ w'.cell? ⟨w14.heap.size, k * 5 + 2, none⟩ = some (.string ⟨#[]⟩) ∧ w'.cell? ⟨w14.heap.size, k * 5 + 3, none⟩ = some (.slice yy 2 mm) ∧ w'.cell? ⟨w14.heap.size, k * 5 + 4, none⟩ = some (.slice zz9 2 nn) ∧ w'.cell? ⟨w14.heap.size + 1, k, none⟩ = some (.int .i64 q) ∧ Below wr.heap.size wr w') w' → Below w'.heap.size w' w'' → (fun w' => w'.cell? ⟨w.heap.size + 1 + 1 + 1 + 1 + 1 + 1 + 1 + 1 + 1 + 1 + 1, 0, none⟩ = some (.slice none 0 0) ∧ w'.cell? ⟨w.heap.size + 1 + 1 + 1 + 1 + 1 + 1 + 1 + 1 + 1 + 1 + 1, 1, none⟩ = some (.slice (some ⟨w.heap.size + 1 + 1 + 1 + 1 + 1 + 1 + 1 + 1 + 1 + 1, 0, none⟩) 2 2) ∧ w'.cell? ⟨w14.heap.size, k * 5, none⟩ = some (.int .i64 4) ∧ w'.cell? ⟨w14.heap.size, k * 5 + 1, none⟩ = some (.int .i64 0) ∧ w'.cell? ⟨w14.heap.size, k * 5 + 2, none⟩ = some (.string ⟨#[]⟩) ∧ w'.cell? ⟨w14.heap.size, k * 5 + 3, none⟩ = some (.slice yy 2 mm) ∧ w'.cell? ⟨w14.heap.size, k * 5 + 4, none⟩ = some (.slice zz9 2 nn) ∧ w'.cell? ⟨w14.heap.size + 1, k, none⟩ = some (.int .i64 q) ∧ Below wr.heap.size wr w') w'' := fun w' w'' h h2 => HS w'' ((HB9 w' h).thn h2)
      have HIk := Lib.hid (fun W' (h' : (fun w' => w'.cell? ⟨w.heap.size + 1 + 1 + 1 + 1 + 1 + 1 + 1 + 1 + 1 + 1 + 1, 0, none⟩ = some (.slice none 0 0) ∧ w'.cell? ⟨w.heap.size + 1 + 1 + 1 + 1 + 1 + 1 + 1 + 1 + 1 + 1 + 1, 1, none⟩ = some (.slice (some ⟨w.heap.size + 1 + 1 + 1 + 1 + 1 + 1 + 1 + 1 + 1 + 1, 0, none⟩) 2 2) ∧ w'.cell? ⟨w14.heap.size, k * 5, none⟩ = some (.int .i64 4) ∧ w'.cell? ⟨w14.heap.size, k * 5 + 1, none⟩ = some (.int .i64 0) ∧ w'.cell? ⟨w14.heap.size, k * 5 + 2, none⟩ = some (.string ⟨#[]⟩) ∧ w'.cell? ⟨w14.heap.size, k * 5 + 3, none⟩ = some (.slice yy 2 mm) ∧ w'.cell? ⟨w14.heap.size, k * 5 + 4, none⟩ = some (.slice zz9 2 nn) ∧ w'.cell? ⟨w14.heap.size + 1, k, none⟩ = some (.int .i64 q) ∧ Below wr.heap.size wr w') W') => (show Calls Tryz.prog 30 #[.slice p11 2 cap11, .string ⟨#[116]⟩, .agg #[.int .i64 4, .int .i64 0, .string ⟨#[]⟩, .slice yy 2 mm, .slice zz9 2 nn]] W' (StIs W' [(1, 3), (a, b)]) from insert_end _ _ _ (Law.st [(1, 3)]) [116] (Law.rT a b) _ W' 0 ⟨[116], [Law.rT 1 3]⟩ (HSl11.out.below (HB11'.out.thn (HBr.out.thn (HB9 W' h')))) (IsVal.move hxv (.of_below (HBr.out.thn (HB9 W' h'))) (fun _ _ h => h)) (by decide) rfl
        (by intro y hy; simp at hy; subst hy; exact hne) (by intro y hy; simp at hy; subst hy; exact hgr) (by intro r hr; simp [Law.st] at hr; rcases hr with rfl | rfl <;> simp)).mono (R' := fun e w2 => ∃ p cap, e = .returned (.slice p 2 cap) ∧ Sl relRd (fun _ => True) w2 (.slice p 2 cap) (Law.st [(1, 3), (a, b)]) ∧ (fun w' => w'.cell? ⟨w.heap.size + 1 + 1 + 1 + 1 + 1 + 1 + 1 + 1 + 1 + 1 + 1, 0, none⟩ = some (.slice none 0 0) ∧ w'.cell? ⟨w.heap.size + 1 + 1 + 1 + 1 + 1 + 1 + 1 + 1 + 1 + 1 + 1, 1, none⟩ = some (.slice (some ⟨w.heap.size + 1 + 1 + 1 + 1 + 1 + 1 + 1 + 1 + 1 + 1, 0, none⟩) 2 2) ∧ w'.cell? ⟨w14.heap.size, k * 5, none⟩ = some (.int .i64 4) ∧ w'.cell? ⟨w14.heap.size, k * 5 + 1, none⟩ = some (.int .i64 0) ∧ w'.cell? ⟨w14.heap.size, k * 5 + 2, none⟩ = some (.string ⟨#[]⟩) ∧ w'.cell? ⟨w14.heap.size, k * 5 + 3, none⟩ = some (.slice yy 2 mm) ∧ w'.cell? ⟨w14.heap.size, k * 5 + 4, none⟩ = some (.slice zz9 2 nn) ∧ w'.cell? ⟨w14.heap.size + 1, k, none⟩ = some (.int .i64 q) ∧ Below wr.heap.size wr w') w2) (by
        rintro e w2 ⟨p, cap, rfl, h3, h4⟩
        exact ⟨p, cap, rfl, h3, HX9 _ _ h' h4⟩))
      have HC2 := Lib.hid (fun W' v (h' : (fun w' => w'.cell? ⟨w.heap.size + 1 + 1 + 1 + 1 + 1 + 1 + 1 + 1 + 1 + 1 + 1, 0, none⟩ = some (.slice none 0 0) ∧ w'.cell? ⟨w.heap.size + 1 + 1 + 1 + 1 + 1 + 1 + 1 + 1 + 1 + 1 + 1, 1, none⟩ = some (.slice (some ⟨w.heap.size + 1 + 1 + 1 + 1 + 1 + 1 + 1 + 1 + 1 + 1, 0, none⟩) 2 2) ∧ w'.cell? ⟨w14.heap.size, k * 5, none⟩ = some (.int .i64 4) ∧ w'.cell? ⟨w14.heap.size, k * 5 + 1, none⟩ = some (.int .i64 0) ∧ w'.cell? ⟨w14.heap.size, k * 5 + 2, none⟩ = some (.string ⟨#[]⟩) ∧ w'.cell? ⟨w14.heap.size, k * 5 + 3, none⟩ = some (.slice yy 2 mm) ∧ w'.cell? ⟨w14.heap.size, k * 5 + 4, none⟩ = some (.slice zz9 2 nn) ∧ w'.cell? ⟨w14.heap.size + 1, k, none⟩ = some (.int .i64 q) ∧ Below wr.heap.size wr w') W') (hsl : Sl relRd (fun _ => True) W' v (Law.st [(1, 3), (a, b)])) => (lives_check _ _ [.slice none 0 0, .slice (some ⟨w.heap.size + 1 + 1 + 1 + 1 + 1 + 1 + 1 + 1 + 1 + 1, 0, none⟩) 2 2] v [(1, 3), (a, b)] q W' (HSc.out.below (HB15.out.thn (HBr.out.thn (HB9 W' h')))) hsl (HK6.out.below (HB15.out.thn (HBr.out.thn (HB9 W' h')))) (by simp) (pair_bd hab) hin hcode).mono (R' := fun e w2 => (∃ a1 a2 a3 a4 a5 a6 a7 a8 a9 a10 a11 : Value, e = .returned (.agg #[.int .i64 q, a1, a2, a3, a4, a5, a6, a7, a8, a9, a10, a11])) ∧ (fun w' => w'.cell? ⟨w.heap.size + 1 + 1 + 1 + 1 + 1 + 1 + 1 + 1 + 1 + 1 + 1, 0, none⟩ = some (.slice none 0 0) ∧ w'.cell? ⟨w.heap.size + 1 + 1 + 1 + 1 + 1 + 1 + 1 + 1 + 1 + 1 + 1, 1, none⟩ = some (.slice (some ⟨w.heap.size + 1 + 1 + 1 + 1 + 1 + 1 + 1 + 1 + 1 + 1, 0, none⟩) 2 2) ∧ w'.cell? ⟨w14.heap.size, k * 5, none⟩ = some (.int .i64 4) ∧ w'.cell? ⟨w14.heap.size, k * 5 + 1, none⟩ = some (.int .i64 0) ∧ w'.cell? ⟨w14.heap.size, k * 5 + 2, none⟩ = some (.string ⟨#[]⟩) ∧ w'.cell? ⟨w14.heap.size, k * 5 + 3, none⟩ = some (.slice yy 2 mm) ∧ w'.cell? ⟨w14.heap.size, k * 5 + 4, none⟩ = some (.slice zz9 2 nn) ∧ w'.cell? ⟨w14.heap.size + 1, k, none⟩ = some (.int .i64 q) ∧ Below wr.heap.size wr w') w2) (by
        rintro e w2 ⟨a1, a2, a3, a4, a5, a6, a7, a8, a9, a10, a11, rfl, h4⟩
        exact ⟨⟨a1, a2, a3, a4, a5, a6, a7, a8, a9, a10, a11, rfl⟩, HX9 _ _ h' h4⟩))
      have HHS := Lib.hid (HS wr.drew (Below.refl _ _).drew); have HB9' := Lib.hid HB9
      clear HS HB9 HX9 hcx hcq hxv hne hgr hab hin hcode hM hN hS6 hKr hfd d0 d1
      go_wp2_with fail
      go_region_held3 (fun w' => w'.cell? ⟨w.heap.size + 1 + 1 + 1 + 1 + 1 + 1 + 1 + 1 + 1 + 1 + 1, 0, none⟩ = some (.slice none 0 0) ∧ w'.cell? ⟨w.heap.size + 1 + 1 + 1 + 1 + 1 + 1 + 1 + 1 + 1 + 1 + 1, 1, none⟩ = some (.slice (some ⟨w.heap.size + 1 + 1 + 1 + 1 + 1 + 1 + 1 + 1 + 1 + 1, 0, none⟩) 2 2) ∧ w'.cell? ⟨w14.heap.size, k * 5, none⟩ = some (.int .i64 4) ∧ w'.cell? ⟨w14.heap.size, k * 5 + 1, none⟩ = some (.int .i64 0) ∧ w'.cell? ⟨w14.heap.size, k * 5 + 2, none⟩ = some (.string ⟨#[]⟩) ∧ w'.cell? ⟨w14.heap.size, k * 5 + 3, none⟩ = some (.slice yy 2 mm) ∧ w'.cell? ⟨w14.heap.size, k * 5 + 4, none⟩ = some (.slice zz9 2 nn) ∧ w'.cell? ⟨w14.heap.size + 1, k, none⟩ = some (.int .i64 q) ∧ Below wr.heap.size wr w') (first | with_reducible exact HHS.out | with_reducible exact hS18 | with_reducible exact hS17)
        (first
          | (go_at_call 30; refine (HIk.out _ (by assumption)).mono ?_; rintro e w17 ⟨p17, cap17, rfl, hs17, hS17⟩)
          | (go_at_call 8; refine (HC2.out _ _ (by assumption) hs17).mono ?_; rintro e w18 ⟨⟨a1, a2, a3, a4, a5, a6, a7, a8, a9, a10, a11, rfl⟩, hS18⟩; have hfd := fun W => field12 (.int .i64 q) a1 a2 a3 a4 a5 a6 a7 a8 a9 a10 a11 W))
      have HB18 := Lib.hid (HB9'.out _ hS18)
      clear hS18 hS17 hs17
      go_wp2_with fail
      go_roundw
      case measure => simp [intOf]; omega
      case rel => exact ⟨k + 1, by omega, by go_num, HBr.out.thn HB18.out⟩
    · obtain rfl : k = 3 := by omega
      go_wp2_with fail
      go_ret
      exact ⟨rfl, HB6.out.thn (HB15.out.thn HBr.out)⟩
end Go.Proofs.YthkkmklnapkgaaaGreatDoor

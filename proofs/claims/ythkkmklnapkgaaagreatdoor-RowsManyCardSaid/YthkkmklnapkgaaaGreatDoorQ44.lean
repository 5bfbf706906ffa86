import Derived.Test.YthkkmklnapkgaaaGreatDoorQ39
import Derived.Test.YthkkmklnapkgaaaGreatDoorQ43
/- The law: RowsMany. -/
namespace Go.Proofs.YthkkmklnapkgaaaGreatDoor
open Go.RowKit Go.Shelf Go.Lib

theorem isVal_text (S : Nat → Prop) (w : World) : IsVal S w [.int .i64 1, .int .i64 0, .string ⟨#[]⟩, .slice none 0 0, .slice none 0 0] (vText []) := isVal_mk (s := []) (by simp) (Sl.nil _ _ _) (Sl.nil _ _ _)

/-- What Check answers of many rows. -/
def ManyIs (w : World) (n : Nat) (e : Ending) (w' : World) : Prop := ∃ (fc : Int) (tb : ByteArray) (a2 a3 : Int) (a4 : ByteArray) (p5 : Option Addr) (m5 k5 : Nat) (p6 : Option Addr) (m6 k6 : Nat) (a7 a8 : Int) (a9 : ByteArray) (p10 : Option Addr) (m10 k10 : Nat) (p11 : Option Addr) (m11 k11 : Nat), e = .returned (.agg #[.int .i64 fc, .string tb, .int .i64 a2, .int .i64 a3, .string a4, .slice p5 m5 k5, .slice p6 m6 k6, .int .i64 a7, .int .i64 a8, .string a9, .slice p10 m10 k10, .slice p11 m11 k11]) ∧ (256 < n → fc = 4 ∧ tb = ⟨#[117]⟩) ∧ (n ≤ 256 → fc = 0) ∧ Below w.heap.size w w'
theorem many_check (S0 S1 : Nat → Prop) (cs : List Value) (lv : Value) (b : Int) (n : Nat) (w : World) (hs : IsSc S0 w cs Many.sc) (hl : Sl relRd S1 w lv (Many.st b n)) (hkw : KwTab w) (hb1 : -100000 ≤ b) (hb2 : b ≤ 100000) (hn : n ≤ 1000) :
    Calls Tryz.prog 8 #[.agg cs.toArray, lv] w (ManyIs w n) := by
  refine (checkOk S0 S1 Many.sc cs lv (Many.st b n) _ _ _ w hs hl hkw (by decide) (Many.st_ok b n hb1 hb2 hn)).mono ?_
  rintro e w' ⟨f, h1, _, cs', rfl, hf, hbw⟩
  obtain ⟨p3, k3, p4, k4, q3, l3, q4, l4, rfl, _⟩ := ft_cells hf
  have hF := h1 (Many.norm b n)
  exact ⟨f.code, ⟨f.table.toArray⟩, f.row.kind, f.row.n, ⟨f.row.s.toArray⟩, p3, f.row.names.length, k3, p4, f.row.kids.length, k4, f.other.kind, f.other.n, ⟨f.other.s.toArray⟩, q3, f.other.names.length, l3, q4, f.other.kids.length, l4, rfl,
    fun h => ⟨(Many.code_many h hF).1, by rw [(Many.code_many h hF).2]⟩, fun h => Many.code_few h hF, hbw⟩

set_option maxRecDepth 100000 in
set_option maxHeartbeats 4000000 in
theorem many_any (many base : Int) (w : World) (hkw : KwTab w) (hm1 : -9223372036854775808 ≤ many) (hm2 : many ≤ 9223372036854775807) (hf1 : -9223372036854775808 ≤ base) (hf2 : base ≤ 9223372036854775807) :
    Calls Tryz.prog 3 #[.int .i64 many, .int .i64 base] w fun e w' => e = .returned (.bool true) ∧ Below w.heap.size w w' := by
  have mixed : (Tryz.prog).follows .mixedOrders = true := by kernel_rfl
  have HA := Lib.hid (fun W => around_any many 13 W hm1 hm2 (by omega) (by omega))
  have hr := aroundI_rng many 13 (by omega)
  have HBd := Lib.hid (fun W => bound_any base 1000 W hf1 hf2 (by omega) (by omega))
  have hbr : -1000 ≤ boundI base 1000 ∧ boundI base 1000 ≤ 1000 := by
    have := aroundI_rng base (2 * 1000 + 1) (by omega)
    unfold boundI; omega
  generalize aroundI many 13 = r at HA hr
  generalize boundI base 1000 = b at HBd hbr
  obtain ⟨n, hn⟩ : ∃ n : Nat, (250 : Int) + r = (n : Int) := ⟨(250 + r).toNat, by omega⟩
  have hn1 : 250 ≤ n ∧ n ≤ 262 := by omega
  have hb1 : -1000 ≤ b := hbr.1
  have hb2 : b ≤ 1000 := hbr.2
  obtain ⟨i0, j1, j2, j3, j4⟩ := info_of (P := Tryz.prog) (t := 34) (z := .agg #[.int .i64 0, .int .i64 0, .string ⟨#[]⟩, .slice none 0 0, .slice none 0 0]) (n := 5) (b := 80) (by kernel_rfl)
  have HJ := Lib.hid j1; have HJ2 := Lib.hid j2; have HJ3 := Lib.hid j3; have HJ4 := Lib.hid j4
  clear j1 j2 j3 j4 hm1 hm2 hf1 hf2
  have HKw := Lib.hid hkw
  clear hkw
  go_enter Tryz.func3, Tryz.ntmps3
  go_wp2_with (go_at_call 4; refine (HA.out _).mono ?_; rintro e w' ⟨rfl, rfl⟩)
  obtain ⟨W1, hW1⟩ : ∃ W1, w.alloc (.cells #[.int .i64 0, .int .i64 1, .int .i64 0, .int .i64 1] 3) = W1 := ⟨_, rfl⟩
  have hb1' : Below w.heap.size w W1 := by rw [← hW1]; exact bal1 _ _
  have hx1 : W1.heap[w.heap.size]? = some (.cells #[.int .i64 0, .int .i64 1, .int .i64 0, .int .i64 1] 3 (0, 0)) := by rw [← hW1]; exact heap_alloc_new _ _
  have hs1 : Sl intRd (fun _ => True) W1 (.slice (some ⟨w.heap.size, 0, none⟩) 4 4) [0, 1, 0, 1] := sl_blk hx1 trivial (((Cs.one (r := intRd) (x := 0) rfl).app (Cs.one (r := intRd) (x := 1) rfl)).app ((Cs.one (r := intRd) (x := 0) rfl).app (Cs.one (r := intRd) (x := 1) rfl))) rfl rfl (by simp)
  have HSch := Lib.hid (schema_two _ _ [0, 1, 0, 1] W1 hs1 (by intro x hx; simp at hx; rcases hx with rfl | rfl | rfl | rfl <;> omega) (by decide) (by decide) (by decide) (by decide))
  have HB1 := Lib.hid hb1'
  rw [hW1]
  clear hW1 hb1' hx1 hs1
  refine HSch.out.mono ?_
  rintro e w2 ⟨cs2, rfl, hsc2, hb2'⟩
  have hsc2' := hsc2
  obtain ⟨uv, tv, rfl, hu2, ht2⟩ := hsc2'
  obtain ⟨up, uc, rfl⟩ : ∃ up uc, uv = .slice up 1 uc := by obtain ⟨a, c, h, _⟩ := hu2.len; exact ⟨a, c, h⟩
  obtain ⟨tp, tc, rfl⟩ : ∃ tp tc, tv = .slice tp 2 tc := by obtain ⟨a, c, h, _⟩ := ht2.len; exact ⟨a, c, h⟩
  have HB2 := Lib.hid (HB1.out.thn hb2'); have HSc2 := Lib.hid hsc2
  clear hsc2 hb2' hu2 ht2 HSch
  go_upto_region 4 with fail
  obtain ⟨W3, hW3⟩ : ∃ W3, w2.alloc (.cells #[.slice up 1 uc, .slice tp 2 tc] 26) = W3 := ⟨_, rfl⟩
  obtain ⟨W4, hW4⟩ : ∃ W4, W3.alloc (.cells #[.string ⟨#[117]⟩, .slice none 0 0] 31) = W4 := ⟨_, rfl⟩
  have hz3 : W3.heap.size = w2.heap.size + 1 := by rw [← hW3]; simp
  have hz4 : W4.heap.size = w2.heap.size + 1 + 1 := by rw [← hW4]; simp [hz3]
  have hg3 : W3.heap[w2.heap.size]? = some (.cells #[.slice up 1 uc, .slice tp 2 tc] 26 (0, 0)) := by rw [← hW3]; exact heap_alloc_new _ _
  have hg4 : W4.heap[w2.heap.size + 1]? = some (.cells #[.string ⟨#[117]⟩, .slice none 0 0] 31 (0, 0)) := by rw [← hW4]; exact hnew hz3 _
  have hb3 : Below w2.heap.size w2 W3 := by rw [← hW3]; exact bal1 _ _
  have hb4 : Below W3.heap.size W3 W4 := by rw [← hW4]; exact bal1 _ _
  rw [hW3]
  rw [hW4]
  have HZ3 := Lib.hid hz3; have HZ4 := Lib.hid hz4; have HG3 := Lib.hid hg3; have HG4 := Lib.hid hg4; have HB3 := Lib.hid hb3; have HB4 := Lib.hid hb4
  clear hW3 hW4 hz3 hz4 hg3 hg4 hb3 hb4 hn hr HA
  go_wp2_with fail
  go_loopw [8] (fun i wr => ∃ (k : Nat) (p : Option Addr) (cap : Nat) (css : List (List Value)), k ≤ n ∧ i = .int .i64 k ∧ wr.heap[w2.heap.size + 1]? = some (.cells #[.string ⟨#[117]⟩, .slice p k cap] 31 (0, 0)) ∧
    Own valRd 34 (fun x => w2.heap.size + 1 + 1 ≤ x) (w2.heap.size + 1 + 1) wr (.slice p k cap) (Many.rows b k) css ∧ Below W3.heap.size W3 wr) (fun i _ => n - (intOf i).toNat)
  case atStart => exact ⟨0, none, 0, [], Nat.zero_le _, rfl, HG4.out, Own.nil _ _ _ _ _, HB4.out⟩
  case round =>
    obtain ⟨k, p, cap, css, hkn, rfl, hG, hO, hBr⟩ := hrel
    have HG := Lib.hid hG; have HO := Lib.hid hO; have HBr := Lib.hid hBr
    clear hG hO hBr
    have hRl := World.block_lt_some HG.out
    by_cases hlt : k < n
    · have hi1 : (0 : Int) ≤ (k : Int) := by omega
      have hi2 : (k : Int) < (n : Int) := by omega
      have hi3 : (k : Int) ≤ 262 := by omega
      go_upto_region 8 with (go_at_call 6; refine (HBd.out _).mono ?_; rintro e w' ⟨rfl, rfl⟩)
      obtain ⟨V1, hV1⟩ : ∃ V1, wr.alloc (.cells #[.int .i64 0, .int .i64 (b + (k : Int)), .string ⟨#[]⟩, .slice none 0 0, .slice none 0 0] 34) = V1 := ⟨_, rfl⟩
      rw [hV1]
      have hbV : Below wr.heap.size wr V1 := by rw [← hV1]; exact bal1 _ _
      have hxV : V1.heap[wr.heap.size]? = some (.cells #[.int .i64 0, .int .i64 (b + (k : Int)), .string ⟨#[]⟩, .slice none 0 0, .slice none 0 0] 34 (0, 0)) := by rw [← hV1]; exact heap_alloc_new _ _
      have x0 := cell_of_row _ _ 0 _ _ _ hxV; have x1 := cell_of_row _ _ 1 _ _ _ hxV; have x2 := cell_of_row _ _ 2 _ _ _ hxV; have x3 := cell_of_row _ _ 3 _ _ _ hxV; have x4 := cell_of_row _ _ 4 _ _ _ hxV
      have hGV := (hbV.block _ hRl).trans HG.out
      have r1 := cell_of_row _ _ 1 _ _ _ hGV
      simp only [List.getElem?_toArray, List.getElem?_cons_zero, List.getElem?_cons_succ] at x0 x1 x2 x3 x4 r1
      have hz1 := World.block_lt_some hxV
      have hR1 := World.block_lt_some hGV
      obtain ⟨V2, hV2⟩ : ∃ V2, ((V1.alloc (.cells #[.string ⟨#[107]⟩, .string ⟨#[110]⟩] 9)).alloc (.cells #[.int .i64 0, .int .i64 (b + (k : Int)), .string ⟨#[]⟩, .slice none 0 0, .slice none 0 0, .int .i64 1, .int .i64 0, .string ⟨#[]⟩, .slice none 0 0, .slice none 0 0] 34)) = V2 := ⟨_, rfl⟩
      have hb2V : Below V1.heap.size V1 V2 := by rw [← hV2]; exact bal2 _ _ _
      have hs2 : V2.heap[V1.heap.size]? = some (.cells #[.string ⟨#[107]⟩, .string ⟨#[110]⟩] 9 (0, 0)) := by rw [← hV2]; exact heap_alloc2_old _ _ _
      have hv2 : V2.heap[V1.heap.size + 1]? = some (.cells #[.int .i64 0, .int .i64 (b + (k : Int)), .string ⟨#[]⟩, .slice none 0 0, .slice none 0 0, .int .i64 1, .int .i64 0, .string ⟨#[]⟩, .slice none 0 0, .slice none 0 0] 34 (0, 0)) := by rw [← hV2]; exact heap_alloc2_new _ _ _
      have hO2 := HO.out.below (hbV.thn hb2V)
      have hfr : ∀ g, V1.heap.size ≤ g → But (fun x => w2.heap.size + 1 + 1 ≤ x) (.slice p k cap) g := fun g hg => ⟨by show w2.heap.size + 1 + 1 ≤ g; omega, fun e => by
        have := (HO.out.row.lt g e.symm).2
        omega⟩
      have hx2 : valRd.R (But (fun x => w2.heap.size + 1 + 1 ≤ x) (.slice p k cap)) V2 [.int .i64 4, .int .i64 0, .string ⟨#[]⟩, .slice (some ⟨V1.heap.size, 0, none⟩) 2 2, .slice (some ⟨V1.heap.size + 1, 0, none⟩) 2 2] (Many.row b k) := by
        refine isVal_mk (s := []) (by simp) ?_ ?_
        · exact sl_blk hs2 (hfr _ (Nat.le_refl _)) (strs2 _ _ [107] [110] (by simp) (by simp)) rfl rfl (by simp)
        · exact sl_blk hv2 (hfr _ (by omega)) ((Cs.one (r := valRd) (isVal_int _ V2 (b + (k : Int)))).app (Cs.one (r := valRd) (isVal_text _ V2))) rfl rfl (by simp)
      have HO2 := Lib.hid hO2; have HX2 := Lib.hid hx2; have HBV2 := Lib.hid (hbV.thn hb2V)
      have HKl := Lib.hid (Many.rows_len b k)
      have hzz : w2.heap.size + 1 + 1 ≤ V2.heap.size := by have := HBV2.out.size; omega
      have hRV2 := Lib.hid (((hbV.thn hb2V).block _ hRl).trans HG.out)
      have hne := Lib.hid (show some (w2.heap.size + 1) ≠ (Value.slice p k cap).ownBlock from fun e => by have := (HO.out.row.lt _ e.symm).1; omega)
      clear hxV hGV hs2 hv2 hO2 hx2 hV1 hbV hb2V hfr
      go_upto_region 6 with (at_builtin; refine wpList_app (r := valRd) (by decide) rfl (.tmp 31) (.tmp 37) _ rfl 34 i0 (.agg #[.int .i64 0, .int .i64 0, .string ⟨#[]⟩, .slice none 0 0, .slice none 0 0]) 80 Tryz.underlying29 HJ.out HJ2.out HJ3.out HJ4.out rfl (by omega) (fun x => w2.heap.size + 1 + 1 ≤ x) (w2.heap.size + 1 + 1) V2 (.slice p k cap) (Many.rows b k) css [.int .i64 4, .int .i64 0, .string ⟨#[]⟩, .slice (some ⟨V1.heap.size, 0, none⟩) 2 2, .slice (some ⟨V1.heap.size + 1, 0, none⟩) 2 2] (Many.row b k) rfl HO2.out rfl HX2.out (by simp [Value.oneCell']) k HKl.out (by omega) hzz ?_; intro p7 cap7 css7 w7 hO7 hL7; have hc7 := (hL7.other _ (World.block_lt_some hRV2.out) hne.out).trans hRV2.out; have f7 := frozen_of_row _ _ 1 _ _ hc7; have k7 := cell_of_row _ _ 1 _ _ _ hc7; simp only [List.getElem?_toArray, List.getElem?_cons_zero, List.getElem?_cons_succ] at k7; have HC7 := Lib.hid hc7; have HO7 := Lib.hid hO7; have HL7 := Lib.hid hL7; clear hc7 hO7 hL7)
      go_wp2_with fail
      go_roundw
      case measure => simp [intOf]; omega
      case rel =>
        have hz3 := HZ3.out
        refine ⟨k + 1, p7, cap7, css7, by omega, by go_num, (heap_setCell_same _ _ _ _ _ _ HC7.out).trans rfl, ?_, ?_⟩
        · rw [Many.rows_snoc]
          refine HO7.out.move (Nat.le_refl _) (fun g hg h => heap_setCell_ne (fun e => ?_))
          have e' : g = w2.heap.size + 1 := e
          rcases h with h | h
          · have h' : w2.heap.size + 1 + 1 ≤ g := h
            omega
          · have := (HO7.out.row.lt _ h).1
            omega
        · exact ((HBr.out.thn HBV2.out).trans (HL7.out.below.mono (by omega))).setCell (p := ⟨w2.heap.size + 1, 1, none⟩) (by show W3.heap.size ≤ w2.heap.size + 1; omega) _
    · obtain rfl : k = n := by omega
      have hi1 : (0 : Int) ≤ (k : Int) := by omega
      have hi3 : (k : Int) ≤ 262 := by omega
      have r0 := cell_of_row _ _ 0 _ _ _ HG.out
      have r1 := cell_of_row _ _ 1 _ _ _ HG.out
      simp only [List.getElem?_toArray, List.getElem?_cons_zero, List.getElem?_cons_succ] at r0 r1
      go_upto_region 10 with fail
      obtain ⟨V9, hV9⟩ : ∃ V9, wr.alloc (.cells #[.string ⟨#[116]⟩, .slice none 0 0, .string ⟨#[117]⟩, .slice p k cap] 31) = V9 := ⟨_, rfl⟩
      have hb9 : Below wr.heap.size wr V9 := by rw [← hV9]; exact bal1 _ _
      have hx9 : V9.heap[wr.heap.size]? = some (.cells #[.string ⟨#[116]⟩, .slice none 0 0, .string ⟨#[117]⟩, .slice p k cap] 31 (0, 0)) := by rw [← hV9]; exact heap_alloc_new _ _
      rw [hV9]
      have hz3 := Lib.hid (show W3.heap.size = w2.heap.size + 1 from HZ3.out)
      have hb39 : Below W3.heap.size W3 V9 := HBr.out.thn hb9
      have hg9 : V9.heap[w2.heap.size]? = some (.cells #[.slice up 1 uc, .slice tp 2 tc] 26 (0, 0)) := (hb39.block _ (World.block_lt_some HG3.out)).trans HG3.out
      have hb29 : Below w2.heap.size w2 V9 := HB3.out.thn hb39
      have hS9 : Sl relRd (fun _ => True) V9 (.slice (some ⟨wr.heap.size, 0, none⟩) 2 2) (Many.st b k) := by
        refine sl_blk hx9 trivial ((Cs.one (r := relRd) (x := ⟨[116], []⟩) (c := [.string ⟨#[116]⟩, .slice none 0 0]) ⟨_, rfl, by simp, Sl.nil _ _ _⟩).app (Cs.one (r := relRd) (x := ⟨[117], Many.rows b k⟩) (c := [.string ⟨#[117]⟩, .slice p k cap]) ⟨_, rfl, by simp, ?_⟩)) rfl rfl (by simp [Many.st])
        exact (HO.out.below hb9).sl' (by rw [Many.rows_len]; omega) (fun _ _ => trivial) (fun _ _ _ => trivial)
      have hsc9 := HSc2.out.below hb29
      have HN := Lib.hid (normal'_any _ _ Many.sc _ _ (Many.st b k) id V9 hsc9 hS9 (by decide) (by decide) (by simp [Many.st]) (by
        intro r hr
        simp [Many.st] at hr
        rcases hr with rfl | rfl
        · simp
        · rw [Many.rows_len]; omega) (by
        intro o ho r hr
        rw [Many.nrm] at ho
        obtain rfl := Option.some.inj ho
        simp [Many.st] at hr
        rcases hr with rfl | rfl
        · exact Many.dist [] rfl
        · exact Many.dist _ (Many.inc b k)))
      have c0 := cell_of_row _ _ 0 _ _ _ hg9
      have c1 := cell_of_row _ _ 1 _ _ _ hg9
      simp only [List.getElem?_toArray, List.getElem?_cons_zero, List.getElem?_cons_succ] at c0 c1
      have HG9 := Lib.hid hg9; have HS9 := Lib.hid hS9; have HSc9 := Lib.hid hsc9
      have HB9 := Lib.hid (HB2.out.thn hb29)
      clear hb9 hx9 hb39 hg9 hb29 hS9 hsc9 hV9 r0 r1
      go_wp2_with fail
      refine HN.out.mono ?_
      rintro e w10 ⟨p10, cap10, rfl, -, hb10⟩
      have hq4 := Many.normal_many b k
      have hq0 := Many.normal_few b k
      generalize (normalF id Many.sc (Many.st b k)).1 = q1 at hq4 hq0 ⊢
      generalize (normalF id Many.sc (Many.st b k)).2.length = n10
      have d0 := (hb10.cell (p := ⟨w2.heap.size, 0, none⟩) (World.block_lt_some HG9.out)).trans c0
      have d1 := (hb10.cell (p := ⟨w2.heap.size, 1, none⟩) (World.block_lt_some HG9.out)).trans c1
      have HB10 := Lib.hid (HB9.out.thn hb10)
      have HCk := Lib.hid (many_check _ _ _ _ b k w10 (HSc9.out.below hb10) (HS9.out.below hb10) (HKw.out.below HB10.out) (by omega) (by omega) (by omega))
      have HQ4 := Lib.hid hq4; have HQ0 := Lib.hid hq0
      clear hb10 hq4 hq0 c0 c1 HN
      go_wp2_with fail
      refine HCk.out.mono ?_
      rintro e w11 ⟨fc, tb, a2, a3, a4, p5, m5, k5, p6, m6, k6, a7, a8, a9, g10, m10, k10, g11, m11, k11, rfl, hf4, hf0, hb11⟩
      have HB11 := Lib.hid (HB10.out.thn hb11)
      have HF4 := Lib.hid hf4; have HF0 := Lib.hid hf0
      clear hb11 hf4 hf0 HCk
      by_cases hbig : 256 < k
      · obtain ⟨rfl, rfl⟩ := HF4.out hbig
        obtain rfl := HQ4.out hbig
        have hbig' : (256 : Int) < (k : Int) := by omega
        clear HF4 HF0 HQ4 HQ0
        go_upto_region 12 with fail
        obtain ⟨W12, hW12⟩ : ∃ W12, w11.alloc (.cells #[.int .i64 4, .string ⟨#[117]⟩, .int .i64 a2, .int .i64 a3, .string a4, .slice p5 m5 k5, .slice p6 m6 k6, .int .i64 a7, .int .i64 a8, .string a9, .slice g10 m10 k10, .slice g11 m11 k11] 40) = W12 := ⟨_, rfl⟩
        have hb12 : Below w11.heap.size w11 W12 := by rw [← hW12]; exact bal1 _ _
        have hx12 : W12.heap[w11.heap.size]? = some (.cells #[.int .i64 4, .string ⟨#[117]⟩, .int .i64 a2, .int .i64 a3, .string a4, .slice p5 m5 k5, .slice p6 m6 k6, .int .i64 a7, .int .i64 a8, .string a9, .slice g10 m10 k10, .slice g11 m11 k11] 40 (0, 0)) := by rw [← hW12]; exact heap_alloc_new _ _
        rw [hW12]
        have e0 := cell_of_row _ _ 0 _ _ _ hx12
        have e1 := cell_of_row _ _ 1 _ _ _ hx12
        simp only [List.getElem?_toArray, List.getElem?_cons_zero, List.getElem?_cons_succ] at e0 e1
        have HB12 := Lib.hid (HB11.out.thn hb12)
        have HLv := Lib.hid (lives_any W12 (HKw.out.below HB12.out))
        clear hb12 hx12 hW12
        go_wp2_with fail
        refine HLv.out.mono ?_
        rintro e w13 ⟨rfl, hb13⟩
        go_wp2_with fail
        go_ret
        exact ⟨rfl, HB12.out.thn hb13⟩
      · obtain rfl := HF0.out (by omega)
        obtain rfl := HQ0.out (by omega)
        have hbig' : ¬ (256 : Int) < (k : Int) := by omega
        clear HF4 HF0 HQ4 HQ0
        go_upto_region 12 with fail
        obtain ⟨W12, hW12⟩ : ∃ W12, w11.alloc (.cells #[.int .i64 0, .string tb, .int .i64 a2, .int .i64 a3, .string a4, .slice p5 m5 k5, .slice p6 m6 k6, .int .i64 a7, .int .i64 a8, .string a9, .slice g10 m10 k10, .slice g11 m11 k11] 40) = W12 := ⟨_, rfl⟩
        have hb12 : Below w11.heap.size w11 W12 := by rw [← hW12]; exact bal1 _ _
        have hx12 : W12.heap[w11.heap.size]? = some (.cells #[.int .i64 0, .string tb, .int .i64 a2, .int .i64 a3, .string a4, .slice p5 m5 k5, .slice p6 m6 k6, .int .i64 a7, .int .i64 a8, .string a9, .slice g10 m10 k10, .slice g11 m11 k11] 40 (0, 0)) := by rw [← hW12]; exact heap_alloc_new _ _
        rw [hW12]
        have e0 := cell_of_row _ _ 0 _ _ _ hx12
        have e1 := cell_of_row _ _ 1 _ _ _ hx12
        simp only [List.getElem?_toArray, List.getElem?_cons_zero, List.getElem?_cons_succ] at e0 e1
        have HB12 := Lib.hid (HB11.out.thn hb12)
        have HLv := Lib.hid (lives_any W12 (HKw.out.below HB12.out))
        clear hb12 hx12 hW12
        go_wp2_with fail
        refine HLv.out.mono ?_
        rintro e w13 ⟨rfl, hb13⟩
        go_wp2_with fail
        go_ret
        exact ⟨rfl, HB12.out.thn hb13⟩
end Go.Proofs.YthkkmklnapkgaaaGreatDoor

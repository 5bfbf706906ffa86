import Derived.Test.YthkkmklnapkgaaaGreatDoorQ39
/- The generator of schemas, where it makes two tables and no reference. -/
namespace Go.Proofs.YthkkmklnapkgaaaGreatDoor
open Go.RowKit Go.Shelf Go.Lib

theorem hkeep {W : World} {b : Nat} {o : Obj} (h : W.heap[b]? = some o) (o' : Obj) : (W.alloc o').heap[b]? = some o := ((bal1 W o').block b (World.block_lt_some h)).trans h
theorem hnew {W : World} {n : Nat} (h : W.heap.size = n) (o : Obj) : (W.alloc o).heap[n]? = some o := by subst h; exact heap_alloc_new W o
theorem nil_sl {T : Type} (r : Rd T) (S : Nat → Prop) (w : World) (p : Option Addr) (c : Nat) : Sl r S w (.slice p 0 c) [] := ⟨p, c, rfl, by simp, fun h => absurd rfl h⟩
theorem yes_lit (S : Nat → Prop) (w : World) (p1 p2 p3 : Option Addr) (c1 c2 c3 : Nat) : IsEx S w [.int .i64 2, .string ⟨#[]⟩, .int .i64 1, .string ⟨#[]⟩, .slice p1 0 c1, .slice p2 0 c2, .slice p3 0 c3, .int .i64 0, .int .i64 0] Gen.yes :=
  isEx_mk (nm := []) (s := []) (by simp) (by simp) (nil_sl _ _ _ _ _) (nil_sl _ _ _ _ _) (nil_sl _ _ _ _ _)
theorem col_lit {S : Nat → Prop} {w : World} (nm : Bs) (k : Int) (tn : Bs) (h1 : nm.length ≤ 1000000) (h2 : tn.length ≤ 1000000) : colRd.R S w [.string ⟨nm.toArray⟩, .int .i64 k, .string ⟨tn.toArray⟩, .int .i64 0, .slice none 0 0, .slice none 0 0] ⟨nm, .mk k tn 0 [] []⟩ :=
  ⟨_, rfl, h1, isTy_mk h2 (Sl.nil _ _ _) (Sl.nil _ _ _)⟩
theorem ct_lit {S : Nat → Prop} {w : World} (nm : Bs) (b : Bool) (k : Int) (h1 : nm.length ≤ 1000000) : ctRd.R S w [.string ⟨nm.toArray⟩, .bool b, .int .i64 k, .string ⟨#[]⟩, .int .i64 0, .slice none 0 0, .slice none 0 0] ⟨nm, b, .mk k [] 0 [] []⟩ :=
  ⟨_, rfl, h1, isTy_mk (s := []) (by simp) (Sl.nil _ _ _) (Sl.nil _ _ _)⟩
theorem str_lit {S : Nat → Prop} {w : World} (a : Bs) (ha : a.length ≤ 1000000) : Cs strRd S w [[.string ⟨a.toArray⟩]] [a] := Cs.one (r := strRd) (x := a) (show strRd.R S w [.string ⟨a.toArray⟩] a from ⟨rfl, ha⟩)
theorem yes_cells {S : Nat → Prop} {w : World} {cs : List Value} (h : IsEx S w cs Gen.yes) : ∃ p1 c1 p2 c2 p3 c3, cs = [.int .i64 2, .string ⟨#[]⟩, .int .i64 1, .string ⟨#[]⟩, .slice p1 0 c1, .slice p2 0 c2, .slice p3 0 c3, .int .i64 0, .int .i64 0] := by
  obtain ⟨nv, bv, kv, rfl, _, _, hnv, hbv, hkv⟩ := isEx_iff.1 h
  obtain ⟨p1, c1, rfl, _⟩ := hnv.len
  obtain ⟨p2, c2, rfl, _⟩ := hbv.len
  obtain ⟨p3, c3, rfl, _⟩ := hkv.len
  exact ⟨p1, c1, p2, c2, p3, c3, rfl⟩
def NewEx (w : World) (x : Ex) (e : Ending) (w' : World) : Prop := ∃ cs, e = .returned (.agg cs.toArray) ∧ IsEx (fun b => w.heap.size ≤ b) w' cs x ∧ Below w.heap.size w w'
def NewSc (w : World) (x : Sc) (e : Ending) (w' : World) : Prop := ∃ cs, e = .returned (.agg cs.toArray) ∧ IsSc (fun b => w.heap.size ≤ b) w' cs x ∧ Below w.heap.size w w'

theorem balS {w W : World} (h : Below w.heap.size w W) (o : Obj) : Below w.heap.size w (W.alloc o) := h.alloc h.size o

set_option maxRecDepth 100000 in
set_option maxHeartbeats 1000000 in
theorem checks_yes (S : Nat → Prop) (v : Value) (l : List Int) (w : World) (hs : Sl intRd S w v l) (hi : Ints l) (hk : pickI l 0 13 = 0) :
    Calls Tryz.prog 10 #[v, .int .i64 0] w (NewEx w Gen.yes) := by
  have HP := Lib.hid (fun W (hb : Below w.heap.size w W) => pick_any S v l 0 13 W (hs.below hb) hi (by omega) (by omega))
  rw [hk] at HP
  obtain ⟨p, cap, rfl, _⟩ := hs.len
  clear hs hi hk
  go_enter Tryz.func10, Tryz.ntmps10
  go_wp2_with (go_at_call 11; refine (HP.out _ (balS (balS (balS (balS (balS (balS (balS (bal1 w _) _) _) _) _) _) _) _)).mono ?_; rintro e w' ⟨rfl, rfl⟩)
  refine bodyPost_ret (v := .agg #[.int .i64 2, .string ⟨#[]⟩, .int .i64 1, .string ⟨#[]⟩, .slice none 0 0, .slice none 0 0, .slice none 0 0, .int .i64 0, .int .i64 0]) (by simp [results, Tryz.results10, go_sem]) rfl ⟨[.int .i64 2, .string ⟨#[]⟩, .int .i64 1, .string ⟨#[]⟩, .slice none 0 0, .slice none 0 0, .slice none 0 0, .int .i64 0, .int .i64 0], rfl, ?_, balS (balS (balS (balS (balS (balS (balS (bal1 w _) _) _) _) _) _) _) _⟩
  exact isEx_mk (nm := []) (s := []) (by simp) (by simp) (Sl.nil _ _ _) (Sl.nil _ _ _) (Sl.nil _ _ _)

set_option maxRecDepth 100000 in
set_option maxHeartbeats 1000000 in
theorem schema_two (S : Nat → Prop) (v : Value) (l : List Int) (w : World) (hs : Sl intRd S w v l) (hi : Ints l) (hk : pickI l 0 13 = 0) (h1 : pickI l 1 3 = 1) (h2 : pickI l 2 3 = 0) (h3 : pickI l 3 2 = 1) :
    Calls Tryz.prog 5 #[v] w (NewSc w (Gen.schema 0 false false false)) := by
  have HP := Lib.hid (fun (i : Nat) (m : Int) (hm : 1 ≤ m) (hm2 : m ≤ 1000000000) W (hb : Below w.heap.size w W) => pick_any S v l i m W (hs.below hb) hi hm hm2)
  have HC := Lib.hid (fun W (hb : Below w.heap.size w W) => checks_yes S v l W (hs.below hb) hi hk)
  have HP1 : Hid (∀ W, Below w.heap.size w W → Calls Tryz.prog 11 #[v, .int .i64 1, .int .i64 3] W fun e w' => e = .returned (.int .i64 1) ∧ W = w') := Lib.hid (fun W hb => by have := HP.out 1 3 (by omega) (by omega) W hb; rw [h1] at this; exact this)
  have HP2 : Hid (∀ W, Below w.heap.size w W → Calls Tryz.prog 11 #[v, .int .i64 2, .int .i64 3] W fun e w' => e = .returned (.int .i64 0) ∧ W = w') := Lib.hid (fun W hb => by have := HP.out 2 3 (by omega) (by omega) W hb; rw [h2] at this; exact this)
  have HP3 : Hid (∀ W, Below w.heap.size w W → Calls Tryz.prog 11 #[v, .int .i64 3, .int .i64 2] W fun e w' => e = .returned (.int .i64 1) ∧ W = w') := Lib.hid (fun W hb => by have := HP.out 3 2 (by omega) (by omega) W hb; rw [h3] at this; exact this)
  obtain ⟨p, cap, rfl, _⟩ := hs.len
  clear hs hi hk h1 h2 h3 HP
  go_enter Tryz.func5, Tryz.ntmps5
  go_upto_region 4 with fail
  obtain ⟨W3, hW3⟩ : ∃ W3, ((((w.alloc (.cells #[.slice none 0 0, .slice none 0 0] 26)).alloc (.cells #[.int .i64 0, .string ⟨#[]⟩, .int .i64 0, .slice none 0 0, .slice none 0 0] 46)).alloc (.cells #[.int .i64 1, .string ⟨#[]⟩, .int .i64 0, .slice none 0 0, .slice none 0 0] 46)).alloc (.cells #[.string ⟨#[82, 101, 100]⟩, .bool false, .int .i64 0, .string ⟨#[]⟩, .int .i64 0, .slice none 0 0, .slice none 0 0, .string ⟨#[68, 97, 114, 107]⟩, .bool true, .int .i64 0, .string ⟨#[]⟩, .int .i64 0, .slice none 0 0, .slice none 0 0] 48)).alloc (.cells #[.string ⟨#[72, 117, 101]⟩, .slice (some ⟨w.heap.size + 1 + 1 + 1, 0, none⟩) 2 2] 51) = W3 := ⟨_, rfl⟩
  have g0 : W3.heap[w.heap.size]? = some (.cells #[.slice none 0 0, .slice none 0 0] 26 (0, 0)) := by rw [← hW3]; exact hkeep (hkeep (hkeep (hkeep (hnew rfl _) _) _) _) _
  have g1 : W3.heap[w.heap.size + 1]? = some (.cells #[.int .i64 0, .string ⟨#[]⟩, .int .i64 0, .slice none 0 0, .slice none 0 0] 46 (0, 0)) := by rw [← hW3]; exact hkeep (hkeep (hkeep (hnew (by simp) _) _) _) _
  have g2 : W3.heap[w.heap.size + 1 + 1]? = some (.cells #[.int .i64 1, .string ⟨#[]⟩, .int .i64 0, .slice none 0 0, .slice none 0 0] 46 (0, 0)) := by rw [← hW3]; exact hkeep (hkeep (hnew (by simp) _) _) _
  have g3 : W3.heap[w.heap.size + 1 + 1 + 1]? = some (.cells #[.string ⟨#[82, 101, 100]⟩, .bool false, .int .i64 0, .string ⟨#[]⟩, .int .i64 0, .slice none 0 0, .slice none 0 0, .string ⟨#[68, 97, 114, 107]⟩, .bool true, .int .i64 0, .string ⟨#[]⟩, .int .i64 0, .slice none 0 0, .slice none 0 0] 48 (0, 0)) := by rw [← hW3]; exact hkeep (hnew (by simp) _) _
  have g4 : W3.heap[w.heap.size + 1 + 1 + 1 + 1]? = some (.cells #[.string ⟨#[72, 117, 101]⟩, .slice (some ⟨w.heap.size + 1 + 1 + 1, 0, none⟩) 2 2] 51 (0, 0)) := by rw [← hW3]; exact hnew (by simp) _
  have hb3 : Below w.heap.size w W3 := by rw [← hW3]; exact balS (balS (balS (balS (bal1 w _) _) _) _) _
  have hz3 : W3.heap.size = w.heap.size + 1 + 1 + 1 + 1 + 1 := by rw [← hW3]; simp
  rw [hW3]
  clear hW3
  have HC3 := Lib.hid (HC.out (W3.alloc (.cells #[.string ⟨#[97]⟩] 9)) (balS hb3 _))
  have hk := hnew rfl (W := W3) (.cells #[.string ⟨#[97]⟩] 9)
  have HZ3 := Lib.hid hz3
  have G0 := Lib.hid g0; have G1 := Lib.hid g1; have G2 := Lib.hid g2; have G3 := Lib.hid g3; have G4 := Lib.hid g4; have GK := Lib.hid hk; have HB3 := Lib.hid hb3
  clear g0 g1 g2 g3 g4 hk hb3 hz3
  go_wp2_with (go_at_call 10; refine HC3.out.mono ?_; rintro e w5 ⟨cs5, rfl, hex5, hb5⟩; obtain ⟨p1, c1, p2, c2, p3, c3, rfl⟩ := yes_cells hex5; have HEx := Lib.hid hex5; have HB5 := Lib.hid hb5; clear hex5 hb5; have q0 := (HB5.out.block _ (World.block_lt_some (hkeep G0.out _))).trans (hkeep G0.out _); have q1 := (HB5.out.block _ (World.block_lt_some (hkeep G1.out _))).trans (hkeep G1.out _); have q2 := (HB5.out.block _ (World.block_lt_some (hkeep G2.out _))).trans (hkeep G2.out _); have q4 := (HB5.out.block _ (World.block_lt_some (hkeep G4.out _))).trans (hkeep G4.out _); have z00 := cell_of_row _ _ 0 _ _ _ q0; have z01 := cell_of_row _ _ 1 _ _ _ q0; have z10 := cell_of_row _ _ 0 _ _ _ q1; have z11 := cell_of_row _ _ 1 _ _ _ q1; have z12 := cell_of_row _ _ 2 _ _ _ q1; have z13 := cell_of_row _ _ 3 _ _ _ q1; have z14 := cell_of_row _ _ 4 _ _ _ q1; have z20 := cell_of_row _ _ 0 _ _ _ q2; have z21 := cell_of_row _ _ 1 _ _ _ q2; have z22 := cell_of_row _ _ 2 _ _ _ q2; have z23 := cell_of_row _ _ 3 _ _ _ q2; have z24 := cell_of_row _ _ 4 _ _ _ q2; have z40 := cell_of_row _ _ 0 _ _ _ q4; have z41 := cell_of_row _ _ 1 _ _ _ q4; have fz0 := frozen_of_row _ _ 0 _ _ q0; have fz1 := frozen_of_row _ _ 1 _ _ q0; simp only [List.getElem?_toArray, List.getElem?_cons_zero, List.getElem?_cons_succ] at z00 z01 z10 z11 z12 z13 z14 z20 z21 z22 z23 z24 z40 z41; have u0 := World.block_lt_some q0; have u1 := World.block_lt_some q1; have u2 := World.block_lt_some q2; have u4 := World.block_lt_some q4; have u3 : w.heap.size + 1 + 1 + 1 < w5.heap.size := (by omega); have v1 : w.heap.size ≠ w5.heap.size + 1 := (by omega); have v2 : w.heap.size ≠ w5.heap.size + 1 + 1 := (by omega); have v3 : w.heap.size ≠ w5.heap.size + 1 + 1 + 1 := (by omega); have v4 : w.heap.size ≠ w5.heap.size + 1 + 1 + 1 + 1 := (by omega); clear q0 q1 q2 q4)
  have HBw5 := Lib.hid ((balS HB3.out _).thn HB5.out)
  refine (HP1.out _ (balS (balS HBw5.out _) _)).mono ?_
  rintro e w' ⟨rfl, rfl⟩
  go_wp2_with fail
  refine (HP2.out _ (balS (balS (balS (balS (balS HBw5.out _) _) _) _) _)).mono ?_
  rintro e w' ⟨rfl, rfl⟩
  go_wp2_with fail
  obtain ⟨W8, hW8⟩ : ∃ W8, (World.alloc (World.alloc (World.alloc (World.alloc (World.alloc (World.alloc (World.alloc (World.alloc w5 (.cells #[.string ⟨#[116]⟩, .slice (some ⟨w5.heap.size + 1, 0, none⟩) 5 5, .slice (some ⟨W3.heap.size, 0, none⟩) 1 1, .slice none 0 0, .int .i64 2, .string ⟨#[]⟩, .int .i64 1, .string ⟨#[]⟩, .slice p1 0 c1, .slice p2 0 c2, .slice p3 0 c3, .int .i64 0, .int .i64 0] 59)) (.cells #[.string ⟨#[97]⟩, .int .i64 0, .string ⟨#[]⟩, .int .i64 0, .slice none 0 0, .slice none 0 0, .string ⟨#[98]⟩, .int .i64 0, .string ⟨#[]⟩, .int .i64 0, .slice none 0 0, .slice none 0 0, .string ⟨#[99]⟩, .int .i64 1, .string ⟨#[]⟩, .int .i64 0, .slice none 0 0, .slice none 0 0, .string ⟨#[100]⟩, .int .i64 2, .string ⟨#[]⟩, .int .i64 0, .slice none 0 0, .slice none 0 0, .string ⟨#[101]⟩, .int .i64 3, .string ⟨#[72, 117, 101]⟩, .int .i64 0, .slice none 0 0, .slice none 0 0] 61)) (.cells #[.string ⟨#[107]⟩, .int .i64 0, .string ⟨#[]⟩, .int .i64 0, .slice none 0 0, .slice none 0 0, .string ⟨#[110]⟩, .int .i64 1, .string ⟨#[]⟩, .int .i64 0, .slice none 0 0, .slice none 0 0] 61)) (.cells #[.string ⟨#[107]⟩] 9)) (.cells #[.string ⟨#[117]⟩, .slice (some ⟨w5.heap.size + 1 + 1, 0, none⟩) 2 2, .slice (some ⟨w5.heap.size + 1 + 1 + 1, 0, none⟩) 1 1, .slice none 0 0, .int .i64 2, .string ⟨#[]⟩, .int .i64 1, .string ⟨#[]⟩, .slice none 0 0, .slice none 0 0, .slice none 0 0, .int .i64 0, .int .i64 0] 59)) (.cells #[.string ⟨#[72, 117, 101]⟩, .slice (some ⟨w.heap.size + 1 + 1 + 1, 0, none⟩) 2 2] 51)) (.cells #[.string ⟨#[116]⟩, .slice (some ⟨w5.heap.size + 1, 0, none⟩) 5 5, .slice (some ⟨W3.heap.size, 0, none⟩) 1 1, .slice none 0 0, .int .i64 2, .string ⟨#[]⟩, .int .i64 1, .string ⟨#[]⟩, .slice p1 0 c1, .slice p2 0 c2, .slice p3 0 c3, .int .i64 0, .int .i64 0, .string ⟨#[117]⟩, .slice (some ⟨w5.heap.size + 1 + 1, 0, none⟩) 2 2, .slice (some ⟨w5.heap.size + 1 + 1 + 1, 0, none⟩) 1 1, .slice none 0 0, .int .i64 2, .string ⟨#[]⟩, .int .i64 1, .string ⟨#[]⟩, .slice none 0 0, .slice none 0 0, .slice none 0 0, .int .i64 0, .int .i64 0] 59)) (.cells #[.slice (some ⟨w5.heap.size + 1 + 1 + 1 + 1 + 1, 0, none⟩) 1 1, .slice (some ⟨w5.heap.size + 1 + 1 + 1 + 1 + 1 + 1, 0, none⟩) 2 2] 26)) = W8 := ⟨_, rfl⟩
  have k0 : W8.heap[w5.heap.size]? = some (.cells #[.string ⟨#[116]⟩, .slice (some ⟨w5.heap.size + 1, 0, none⟩) 5 5, .slice (some ⟨W3.heap.size, 0, none⟩) 1 1, .slice none 0 0, .int .i64 2, .string ⟨#[]⟩, .int .i64 1, .string ⟨#[]⟩, .slice p1 0 c1, .slice p2 0 c2, .slice p3 0 c3, .int .i64 0, .int .i64 0] 59 (0, 0)) := by rw [← hW8]; exact hkeep (hkeep (hkeep (hkeep (hkeep (hkeep (hkeep (hnew rfl _) _) _) _) _) _) _) _
  have k1 : W8.heap[w5.heap.size + 1]? = some (.cells #[.string ⟨#[97]⟩, .int .i64 0, .string ⟨#[]⟩, .int .i64 0, .slice none 0 0, .slice none 0 0, .string ⟨#[98]⟩, .int .i64 0, .string ⟨#[]⟩, .int .i64 0, .slice none 0 0, .slice none 0 0, .string ⟨#[99]⟩, .int .i64 1, .string ⟨#[]⟩, .int .i64 0, .slice none 0 0, .slice none 0 0, .string ⟨#[100]⟩, .int .i64 2, .string ⟨#[]⟩, .int .i64 0, .slice none 0 0, .slice none 0 0, .string ⟨#[101]⟩, .int .i64 3, .string ⟨#[72, 117, 101]⟩, .int .i64 0, .slice none 0 0, .slice none 0 0] 61 (0, 0)) := by rw [← hW8]; exact hkeep (hkeep (hkeep (hkeep (hkeep (hkeep (hnew (by simp) _) _) _) _) _) _) _
  have k2 : W8.heap[w5.heap.size + 1 + 1]? = some (.cells #[.string ⟨#[107]⟩, .int .i64 0, .string ⟨#[]⟩, .int .i64 0, .slice none 0 0, .slice none 0 0, .string ⟨#[110]⟩, .int .i64 1, .string ⟨#[]⟩, .int .i64 0, .slice none 0 0, .slice none 0 0] 61 (0, 0)) := by rw [← hW8]; exact hkeep (hkeep (hkeep (hkeep (hkeep (hnew (by simp) _) _) _) _) _) _
  have k3 : W8.heap[w5.heap.size + 1 + 1 + 1]? = some (.cells #[.string ⟨#[107]⟩] 9 (0, 0)) := by rw [← hW8]; exact hkeep (hkeep (hkeep (hkeep (hnew (by simp) _) _) _) _) _
  have k4 : W8.heap[w5.heap.size + 1 + 1 + 1 + 1]? = some (.cells #[.string ⟨#[117]⟩, .slice (some ⟨w5.heap.size + 1 + 1, 0, none⟩) 2 2, .slice (some ⟨w5.heap.size + 1 + 1 + 1, 0, none⟩) 1 1, .slice none 0 0, .int .i64 2, .string ⟨#[]⟩, .int .i64 1, .string ⟨#[]⟩, .slice none 0 0, .slice none 0 0, .slice none 0 0, .int .i64 0, .int .i64 0] 59 (0, 0)) := by rw [← hW8]; exact hkeep (hkeep (hkeep (hnew (by simp) _) _) _) _
  have k5 : W8.heap[w5.heap.size + 1 + 1 + 1 + 1 + 1]? = some (.cells #[.string ⟨#[72, 117, 101]⟩, .slice (some ⟨w.heap.size + 1 + 1 + 1, 0, none⟩) 2 2] 51 (0, 0)) := by rw [← hW8]; exact hkeep (hkeep (hnew (by simp) _) _) _
  have k6 : W8.heap[w5.heap.size + 1 + 1 + 1 + 1 + 1 + 1]? = some (.cells #[.string ⟨#[116]⟩, .slice (some ⟨w5.heap.size + 1, 0, none⟩) 5 5, .slice (some ⟨W3.heap.size, 0, none⟩) 1 1, .slice none 0 0, .int .i64 2, .string ⟨#[]⟩, .int .i64 1, .string ⟨#[]⟩, .slice p1 0 c1, .slice p2 0 c2, .slice p3 0 c3, .int .i64 0, .int .i64 0, .string ⟨#[117]⟩, .slice (some ⟨w5.heap.size + 1 + 1, 0, none⟩) 2 2, .slice (some ⟨w5.heap.size + 1 + 1 + 1, 0, none⟩) 1 1, .slice none 0 0, .int .i64 2, .string ⟨#[]⟩, .int .i64 1, .string ⟨#[]⟩, .slice none 0 0, .slice none 0 0, .slice none 0 0, .int .i64 0, .int .i64 0] 59 (0, 0)) := by rw [← hW8]; exact hkeep (hnew (by simp) _) _
  have k7 : W8.heap[w5.heap.size + 1 + 1 + 1 + 1 + 1 + 1 + 1]? = some (.cells #[.slice (some ⟨w5.heap.size + 1 + 1 + 1 + 1 + 1, 0, none⟩) 1 1, .slice (some ⟨w5.heap.size + 1 + 1 + 1 + 1 + 1 + 1, 0, none⟩) 2 2] 26 (0, 0)) := by rw [← hW8]; exact hnew (by simp) _
  have hb8 : Below w5.heap.size w5 W8 := by rw [← hW8]; exact balS (balS (balS (balS (balS (balS (balS (bal1 w5 _) _) _) _) _) _) _) _
  rw [hW8]
  have HB8 := Lib.hid hb8; have HBw8 := Lib.hid (HBw5.out.thn hb8)
  have hp3 := HP3.out W8 HBw8.out
  have y0 := (hb8.cell (p := ⟨w.heap.size, 0, none⟩) u0).trans z00; have y1 := (hb8.cell (p := ⟨w.heap.size, 1, none⟩) u0).trans z01
  have fy0 := (hb8.frozen (p := ⟨w.heap.size, 0, none⟩) u0).trans fz0; have fy1 := (hb8.frozen (p := ⟨w.heap.size, 1, none⟩) u0).trans fz1
  have s0 := cell_of_row _ _ 0 _ _ _ k7; have s1 := cell_of_row _ _ 1 _ _ _ k7
  simp only [List.getElem?_toArray, List.getElem?_cons_zero, List.getElem?_cons_succ] at s0 s1
  have K0 := Lib.hid k0; have K1 := Lib.hid k1; have K2 := Lib.hid k2; have K3 := Lib.hid k3; have K4 := Lib.hid k4; have K5 := Lib.hid k5; have K6 := Lib.hid k6; have K7 := Lib.hid k7
  clear hW8 k0 k1 k2 k3 k4 k5 k6 k7 hb8 z00 z01 z10 z11 z12 z13 z14 z20 z21 z22 z23 z24 z40 z41 fz0 fz1 v1 v2 v3 v4
  refine hp3.mono ?_
  rintro e w' ⟨rfl, rfl⟩
  go_wp2_with fail
  have hr8 : W8.heap[w.heap.size]? = some (.cells #[.slice none 0 0, .slice none 0 0] 26 (0, 0)) := (HB8.out.block _ u0).trans ((HB5.out.block _ (World.block_lt_some (hkeep G0.out _))).trans (hkeep G0.out _))
  generalize hWF : (W8.setCell _ _).setCell _ _ = WF
  have hrF : WF.heap[w.heap.size]? = some (.cells #[.slice (some ⟨w5.heap.size + 1 + 1 + 1 + 1 + 1, 0, none⟩) 1 1, .slice (some ⟨w5.heap.size + 1 + 1 + 1 + 1 + 1 + 1, 0, none⟩) 2 2] 26 (0, 0)) := by
    rw [← hWF]
    exact heap_setCell_same _ _ 1 _ _ _ (heap_setCell_same _ _ 0 _ _ _ hr8)
  have hoF : ∀ b, b ≠ w.heap.size → WF.heap[b]? = W8.heap[b]? := fun b hb => by rw [← hWF, heap_setCell_ne hb, heap_setCell_ne hb]
  have hbF : Below w.heap.size w WF := by rw [← hWF]; exact (HBw8.out.setCell (p := ⟨w.heap.size, 0, none⟩) (Nat.le_refl _) _).setCell (p := ⟨w.heap.size, 1, none⟩) (Nat.le_refl _) _
  have o1 := (hoF _ (by omega)).trans K1.out; have o2 := (hoF _ (by omega)).trans K2.out; have o3 := (hoF _ (by omega)).trans K3.out; have o5 := (hoF _ (by omega)).trans K5.out; have o6 := (hoF _ (by omega)).trans K6.out
  have oc := (hoF (w.heap.size + 1 + 1 + 1) (by omega)).trans ((HB8.out.block _ u3).trans ((HB5.out.block _ (World.block_lt_some (hkeep G3.out _))).trans (hkeep G3.out _)))
  have hlt3 := World.block_lt_some GK.out
  have h35 := HB5.out.size
  have hz3 := HZ3.out
  have okk := (hoF W3.heap.size (by omega)).trans ((HB8.out.block _ (by omega)).trans ((HB5.out.block _ hlt3).trans GK.out))
  have cF := fun j => cell_of_row _ _ j _ _ _ hrF
  have cF0 := cF 0; have cF1 := cF 1
  simp only [List.getElem?_toArray, List.getElem?_cons_zero, List.getElem?_cons_succ] at cF0 cF1
  refine bodyPost_ret (v := .agg #[.slice (some ⟨w5.heap.size + 1 + 1 + 1 + 1 + 1, 0, none⟩) 1 1, .slice (some ⟨w5.heap.size + 1 + 1 + 1 + 1 + 1 + 1, 0, none⟩) 2 2]) (by simp [results, Tryz.results5, go_sem, cF0, cF1]) rfl ⟨[.slice (some ⟨w5.heap.size + 1 + 1 + 1 + 1 + 1, 0, none⟩) 1 1, .slice (some ⟨w5.heap.size + 1 + 1 + 1 + 1 + 1 + 1, 0, none⟩) 2 2], rfl, ⟨_, _, rfl, ?_, ?_⟩, hbF⟩
  · refine sl_blk (xs := [Gen.hue]) o5 (by show w.heap.size ≤ _; omega) (Cs.one (r := smRd) (c := [.string ⟨#[72, 117, 101]⟩, .slice (some ⟨w.heap.size + 1 + 1 + 1, 0, none⟩) 2 2]) ⟨_, rfl, by simp [Gen.hue], ?_⟩) rfl rfl (by simp)
    exact sl_blk (xs := Gen.hue.ctors) oc (by show w.heap.size ≤ _; omega) ((Cs.one (r := ctRd) (ct_lit [82, 101, 100] false 0 (by simp))).app (Cs.one (r := ctRd) (ct_lit [68, 97, 114, 107] true 0 (by simp)))) rfl rfl (by simp [Gen.hue])
  · refine sl_blk (xs := (Gen.schema 0 false false false).tables) o6 (by show w.heap.size ≤ _; omega) ((Cs.one (r := tblRd) (x := ⟨[116], [⟨[97], Gen.whole⟩, ⟨[98], Gen.whole⟩, ⟨[99], Gen.text⟩, ⟨[100], Gen.yesno⟩, ⟨[101], Gen.hueT⟩], [[97]], [], Gen.yes⟩) ⟨_, _, _, _, rfl, by simp, ?_, ?_, Sl.nil _ _ _, yes_lit _ _ p1 p2 p3 c1 c2 c3⟩).app (Cs.one (r := tblRd) (x := ⟨[117], [⟨[107], Gen.whole⟩, ⟨[110], Gen.text⟩], [[107]], [], Gen.yes⟩) ⟨_, _, _, _, rfl, by simp, ?_, ?_, Sl.nil _ _ _, yes_lit _ _ none none none 0 0 0⟩)) rfl rfl (by simp [Gen.schema])
    · exact sl_blk o1 (by show w.heap.size ≤ _; omega) (((((Cs.one (r := colRd) (col_lit [97] 0 [] (by simp) (by simp))).app (Cs.one (r := colRd) (col_lit [98] 0 [] (by simp) (by simp)))).app (Cs.one (r := colRd) (col_lit [99] 1 [] (by simp) (by simp)))).app (Cs.one (r := colRd) (col_lit [100] 2 [] (by simp) (by simp)))).app (Cs.one (r := colRd) (col_lit [101] 3 [72, 117, 101] (by simp) (by simp)))) rfl rfl (by simp)
    · exact sl_blk okk (by show w.heap.size ≤ _; omega) (str_lit [97] (by simp)) rfl rfl (by simp)
    · exact sl_blk o2 (by show w.heap.size ≤ _; omega) ((Cs.one (r := colRd) (col_lit [107] 0 [] (by simp) (by simp))).app (Cs.one (r := colRd) (col_lit [110] 1 [] (by simp) (by simp)))) rfl rfl (by simp)
    · exact sl_blk o3 (by show w.heap.size ≤ _; omega) (str_lit [107] (by simp)) rfl rfl (by simp)
end Go.Proofs.YthkkmklnapkgaaaGreatDoor

/- The law LexerQuotes returns true. -/
import Derived.Test.YtolgoojlpmgblaaDoorBI
namespace Go.Proofs.YtolgoojlpmgblaaDoor
open Go.RowKit

set_option maxRecDepth 100000 in
set_option maxHeartbeats 4000000 in
theorem lexerQuotes_walk (s : ByteArray) (vl : Value) (zs : List Int) (w : World) (hs : s.size ≤ maxLen) (hv : IsInts w vl zs) (hl : zs.length ≤ maxLen) (hT : Tabs w) :
    Calls Tryd.prog 8 #[.string s, vl] w fun e w' => e = .returned (.bool true) ∧ Below w.heap.size w w' := by
  have HS := Lib.hid hs; have HV := Lib.hid hv; have HL := Lib.hid hl; have HT := Lib.hid hT
  clear hs hv hl hT
  go_enter Tryd.func8, Tryd.ntmps8
  go_wp2_with fail
  refine (short_any s 70 _ HS.out).mono ?_
  rintro e w1 ⟨⟨r1, rfl, hr, hr2⟩, rfl⟩
  go_wp2_with fail
  refine (text_any vl zs _ HV.out HL.out).mono ?_
  rintro e w2 ⟨⟨r2, rfl, hr3⟩, hb⟩
  have hSa := src_new (r1 := r1) (r2 := r2) hb HT.out
  obtain ⟨B, hB⟩ : ∃ B, w2.heap.size = B := ⟨_, rfl⟩
  rw [hB] at hSa
  obtain ⟨rs, hrs⟩ : ∃ rs : Nat → ByteArray, (fun k => if k = 0 then r1 else r2) = rs := ⟨_, rfl⟩
  have hrz : ∀ k, (rs k).size ≤ 408 := by intro k; rw [← hrs]; dsimp only; split <;> omega
  rw [hrs] at hSa
  have HSa := Lib.hid hSa; have HR := Lib.hid hrz
  clear hSa hrs hrz hb hr
  go_wp2_with fail
  try rw [hB]
  generalize w2.alloc (.cells #[.string r1, .string r2] 9) = wa at *
  clear hB
  go_loopw [6, 7, 8, 9, 10, 11, 12, 13, 14, 15, 16, 17, 18] (fun i _ _ _ _ _ _ _ _ _ _ _ _ wr => ∃ k : Nat, k ≤ 2 ∧ i = .int .i64 k ∧ Src w B rs wr) (fun i _ _ _ _ _ _ _ _ _ _ _ _ _ => 2 - (intOf i).toNat)
  case atStart => exact ⟨0, by omega, rfl, HSa.out⟩
  case round =>
    obtain ⟨k, hk, rfl, hS⟩ := hrel
    by_cases hlt : k < 2
    · obtain ⟨r, hr⟩ : ∃ r, rs k = r := ⟨_, rfl⟩
      have HRk := Lib.hid hr
      have hcell : ∀ w', Src w B rs w' → w'.cell? ⟨B, k, none⟩ = some (.string r) := fun w' h => by rw [← hr]; exact h.cell k hlt
      have HCell := Lib.hid hcell
      have hc := hcell _ hS
      have hrz : r.size ≤ 408 := by have := HR.out k; rwa [hr] at this
      have HS0 := Lib.hid hS; have HLt := Lib.hid hlt
      obtain ⟨E, hE⟩ : ∃ E, conE (bl r) = E := ⟨_, rfl⟩
      obtain ⟨U, hU⟩ : ∃ U, (unqB (bl r)).2 = U := ⟨_, rfl⟩
      obtain ⟨q, hq⟩ : ∃ q : ByteArray, ({ data := #[34] } ++ r ++ { data := #[34] } : ByteArray) = q := ⟨_, rfl⟩
      have hqb : bl q = 34 :: (bl r ++ [34]) := by rw [← hq, bl_append, bl_append]; simp [bl]
      have hqs : q.size = r.size + 2 := by have := congrArg List.length hqb; rw [bl_len] at this; simp [bl_len] at this; omega
      obtain ⟨V, hV⟩ : ∃ V, (unqB (bl q)).2 = V := ⟨_, rfl⟩
      have hQ1 : ∀ w, Tabs w → Calls Tryd.prog 24 #[.string r] w fun e w' => (∃ x : ByteArray, e = .returned (.tuple #[.string x, .int .i64 E]) ∧ bl x = quoB (bl r)) ∧ Below w.heap.size w w' := fun w h => by rw [← hE]; exact quote_any r w (by omega) h
      have hQ2 : ∀ w, Calls Tryd.prog 25 #[.string r] w fun e w' => (∃ x : ByteArray, e = .returned (.tuple #[.string x, .int .i64 E]) ∧ bl x = quoB (bl r)) ∧ w = w' := fun w => by rw [← hE]; exact refQuote_any r w (by omega)
      have hU1 : ∀ w, Tabs w → Calls Tryd.prog 26 #[.string r] w fun e w' => (∃ x : ByteArray, e = .returned (.tuple #[.string x, .int .i64 U]) ∧ bl x = (unqB (bl r)).1) ∧ Below w.heap.size w w' := fun w h => by rw [← hU]; exact unquote_any r w (by omega) h
      have hU2 : ∀ w, Calls Tryd.prog 27 #[.string r] w fun e w' => (∃ x : ByteArray, e = .returned (.tuple #[.string x, .int .i64 U]) ∧ bl x = (unqB (bl r)).1) ∧ Below w.heap.size w w' := fun w => by rw [← hU]; exact refUnquote_any r w (by omega)
      have hV1 : ∀ w, Tabs w → Calls Tryd.prog 26 #[.string q] w fun e w' => (∃ x : ByteArray, e = .returned (.tuple #[.string x, .int .i64 V]) ∧ bl x = (unqB (bl q)).1) ∧ Below w.heap.size w w' := fun w h => by rw [← hV]; exact unquote_any q w (by omega) h
      have hV2 : ∀ w, Calls Tryd.prog 27 #[.string q] w fun e w' => (∃ x : ByteArray, e = .returned (.tuple #[.string x, .int .i64 V]) ∧ bl x = (unqB (bl q)).1) ∧ Below w.heap.size w w' := fun w => by rw [← hV]; exact refUnquote_any q w (by omega)
      have hback : E = 0 → V = 0 ∧ (unqB (bl q)).1 = bl r := fun h => by
        have := unq_quo (bl r) (by rw [hE]; exact h)
        rw [← hqb] at this
        rw [← hV, this]; exact ⟨rfl, rfl⟩
      have hadd1 : ∀ w, (Op.stringOp .add { data := #[34] } r).run Tryd.prog w = .ok (.string ({ data := #[34] } ++ r)) w := fun w => run_string_add_sum w _ r (by show 1 + r.size ≤ _; omega)
      have hadd2 : ∀ w, (Op.stringOp .add ({ data := #[34] } ++ r) { data := #[34] }).run Tryd.prog w = .ok (.string q) w := fun w => by
        rw [run_string_add_sum w _ _ (by rw [ByteArray.size_append]; show 1 + r.size + 1 ≤ _; omega), hq]
      have HQ1 := Lib.hid hQ1; have HQ2 := Lib.hid hQ2; have HU1 := Lib.hid hU1; have HU2 := Lib.hid hU2; have HV1 := Lib.hid hV1; have HV2 := Lib.hid hV2; have HBack := Lib.hid hback
      clear hS hr hcell hE hU hq hqb hqs hV hQ1 hQ2 hU1 hU2 hV1 hV2 hback
      go_wp2_with fail
      refine (HQ1.out _ HS0.out.tabs).mono ?_
      rintro e w3 ⟨⟨x1, rfl, hx1⟩, hb3⟩
      have HS3 := Lib.hid (HS0.out.below hb3); have HX1 := Lib.hid hx1
      clear hb3 hx1 hc
      have hc := HCell.out _ HS3.out
      go_wp2_with fail
      refine (HQ2.out _).mono ?_
      rintro e w4 ⟨⟨x2, rfl, hx2⟩, rfl⟩
      obtain rfl : x2 = x1 := by rw [ba_ext, hx2, HX1.out]
      clear hx2
      go_wp2_with fail
      refine (HU1.out _ HS3.out.tabs).mono ?_
      rintro e w5 ⟨⟨x3, rfl, hx3⟩, hb5⟩
      have HS5 := Lib.hid (HS3.out.below hb5); have HX3 := Lib.hid hx3
      clear hb5 hx3 hc
      have hc := HCell.out _ HS5.out
      go_wp2_with fail
      refine (HU2.out _).mono ?_
      rintro e w6 ⟨⟨x4, rfl, hx4⟩, hb6⟩
      obtain rfl : x4 = x3 := by rw [ba_ext, hx4, HX3.out]
      have HS6 := Lib.hid (HS5.out.below hb6)
      clear hb6 hx4 hc
      have hc := HCell.out _ HS6.out
      go_wp2_with fail
      refine (HV1.out _ HS6.out.tabs).mono ?_
      rintro e w7 ⟨⟨x5, rfl, hx5⟩, hb7⟩
      have HS7 := Lib.hid (HS6.out.below hb7); have HX5 := Lib.hid hx5
      clear hb7 hx5 hc
      have hc := HCell.out _ HS7.out
      go_wp2_with fail
      refine (HV2.out _).mono ?_
      rintro e w8 ⟨⟨x6, rfl, hx6⟩, hb8⟩
      obtain rfl : x6 = x5 := by rw [ba_ext, hx6, HX5.out]
      have HS8 := Lib.hid (HS7.out.below hb8)
      clear hb8 hx6 hc
      have hc := HCell.out _ HS8.out
      by_cases h0 : E = 0
      · obtain ⟨hv0, hback⟩ := HBack.out h0
        obtain rfl : x6 = r := by rw [ba_ext, HX5.out, hback]
        subst h0 hv0
        clear hback
        go_wp2_with fail
        have hlt := HLt.out
        exact ⟨⟨k + 1, by omega, by go_num, HS8.out⟩, by simp [intOf]; omega⟩
      · have qE : ((E : Int) == 0) = false := by rw [← Bool.not_eq_true, beq_iff_eq]; omega
        clear h0
        go_wp2_with fail
        have hlt := HLt.out
        exact ⟨⟨k + 1, by omega, by go_num, HS8.out⟩, by simp [intOf]; omega⟩
    · go_wp2_with fail
      refine (lives_any _ hS.tabs).mono ?_
      rintro e w2 ⟨rfl, hb⟩
      have hB := hS.below hb
      go_wp2_with fail
      go_ret
      exact ⟨rfl, hB.blw⟩
end Go.Proofs.YtolgoojlpmgblaaDoor

/- The law LexerWhole returns true. -/
import Derived.Test.YtolgoojlpmgblaaDoorZ
import Derived.Test.YtolgoojlpmgblaaDoorLxB
import Derived.BigQuiet
import Derived.Deep.QuietTactic
import Derived.WalkKit
import Derived.WalkSpells
import Derived.WalkLawsBesides
import Derived.Outline
import Derived.Lib.Hide
import Derived.Handy
namespace Go.Proofs.YtolgoojlpmgblaaDoor
open Go.RowKit

theorem tokens_is (s : ByteArray) (hs : s.size < 4294967281) (w : World) (hT : Tabs w) :
    Calls Tryd.prog 13 #[.string s] w fun e w' => (∃ v, e = .returned v ∧ IsToks w' v (toks (bl s) 0)) ∧ Below w.heap.size w w' := by
  refine (tokens_any s hs w hT).mono ?_
  rintro e w' ⟨v, rfl, hown, hb⟩
  exact ⟨⟨v, rfl, reads_of_owns hown⟩, hb⟩

theorem IsToks.below {w w' : World} {v : Value} {ts : List Tok} (h : IsToks w v ts) (hb : Below w.heap.size w w') : IsToks w' v ts := by
  obtain ⟨p, cap, h1, h2⟩ := h
  refine ⟨p, cap, h1, fun hl => ?_⟩
  obtain ⟨g, e, hc⟩ := h2 hl
  exact ⟨g, e, fun j u hu => (hb.cell (p := ⟨g, j, none⟩) (World.block_lt_of_cell? w _ (hc j u hu))).trans (hc j u hu)⟩

/-- The cells of one token of a row. -/
theorem IsToks.at {w : World} {v : Value} {ts : List Tok} (h : IsToks w v ts) (k : Nat) (x : Tok) (hx : ts[k]? = some x) :
    ∃ g cap, v = .slice (some ⟨g, 0, none⟩) ts.length cap ∧ w.cell? ⟨g, k * 3, none⟩ = some (.int .i64 x.kind) ∧ w.cell? ⟨g, k * 3 + 1, none⟩ = some (.string ⟨x.text.toArray⟩) ∧ w.cell? ⟨g, k * 3 + 2, none⟩ = some (.int .i64 x.at') := by
  obtain ⟨p, cap, rfl, h2⟩ := h
  obtain ⟨g, rfl, hc⟩ := h2 (by have := (List.getElem?_eq_some_iff.1 hx).1; omega)
  obtain ⟨x0, x1, x2⟩ := tokCs_get ts k x hx
  exact ⟨g, cap, rfl, hc _ _ x0, hc _ _ x1, hc _ _ x2⟩

theorem IsToks.len {w : World} {v : Value} {ts : List Tok} (h : IsToks w v ts) : ∃ p cap, v = .slice p ts.length cap := by
  obtain ⟨p, cap, h1, _⟩ := h
  exact ⟨p, cap, h1⟩

set_option maxRecDepth 100000 in
set_option maxHeartbeats 2000000 in
theorem lexerWhole_walk (s : ByteArray) (vl : Value) (zs : List Int) (w : World) (hs : s.size ≤ maxLen) (hv : IsInts w vl zs) (hl : zs.length ≤ maxLen) (hT : Tabs w) :
    Calls Tryd.prog 4 #[.string s, vl] w fun e w' => e = .returned (.bool true) ∧ Below w.heap.size w w' := by
  have HS := Lib.hid (sources_any s vl zs w hs hv hl hT)
  clear hs hv hl hT
  go_enter Tryd.func4, Tryd.ntmps4
  go_wp2_with fail
  refine HS.out.mono ?_
  rintro e w1 ⟨⟨B, rs, rfl, hS, hR⟩, _⟩
  have HR := Lib.hid hR; clear hR
  go_wp2_with fail
  go_loopw [6, 7, 8, 9, 10] (fun i _ _ _ _ wr => ∃ k : Nat, k ≤ 2 ∧ i = .int .i64 k ∧ Src w B rs wr) (fun i _ _ _ _ _ => 2 - (intOf i).toNat)
  case atStart => exact ⟨0, by omega, rfl, hS⟩
  case round =>
    obtain ⟨k, hk, rfl, hS⟩ := hrel
    by_cases hlt : k < 2
    · obtain ⟨r, hr⟩ : ∃ r, rs k = r := ⟨_, rfl⟩
      have hc : wr.cell? ⟨B, k, none⟩ = some (.string r) := by rw [← hr]; exact hS.cell k hlt
      have hrs : r.size < 4294967281 := by have := HR.out k; rw [hr] at this; omega
      have hrc : r.size ≤ 340 := by have := HR.out k; rwa [hr] at this
      go_wp2_with fail
      refine (tokens_is r hrs _ hS.tabs).mono ?_
      rintro e w2 ⟨⟨v, rfl, hv⟩, hb2⟩
      have hS2 := hS.below hb2
      clear hS hb2 hc
      have hn := toks_count (bl r) 0
      rw [bl_len] at hn
      have HW := Lib.hid (toks_whole (bl r) 0)
      obtain ⟨ts, hts⟩ : ∃ ts, toks (bl r) 0 = ts := ⟨_, rfl⟩
      rw [hts] at hv hn HW
      obtain ⟨p, cap, rfl⟩ := hv.len
      go_wp2_with fail
      go_loopw [8, 9, 10] (fun wh i _ wr => ∃ (j : Nat) (u : ByteArray), j ≤ ts.length ∧ i = .int .i64 j ∧ wh = .string u ∧ bl u = pre ts j ∧ IsToks wr (.slice p ts.length cap) ts ∧ Src w B rs wr) (fun _ i _ _ => ts.length - (intOf i).toNat)
      case atStart => exact ⟨0, ByteArray.mk #[], by omega, rfl, rfl, by rw [pre_zero], hv, hS2⟩
      case round =>
        obtain ⟨j, u, hj, rfl, rfl, hu, hv, hS⟩ := hrel
        by_cases hjl : j < ts.length
        · obtain ⟨x, hx⟩ : ∃ x, ts[j]? = some x := ⟨_, List.getElem?_eq_getElem hjl⟩
          obtain ⟨g, cap', he, c0, c1, c2⟩ := hv.at j x hx
          obtain ⟨rfl, rfl⟩ : p = some ⟨g, 0, none⟩ ∧ cap' = cap := by cases he; exact ⟨rfl, rfl⟩
          clear he
          obtain ⟨e1, e2, e3⟩ := HW.out.2 j x hx
          rw [Nat.zero_add, ← hu, bl_len] at e1
          have hq : ((x.at' : Int) != (u.size : Int)) = false := by rw [e1]; simp
          obtain ⟨X, hX⟩ : ∃ X : ByteArray, (⟨x.text.toArray⟩ : ByteArray) = X := ⟨_, rfl⟩
          have hXb : bl X = x.text := by rw [← hX]
          have hps := pre_succ ts j x hx
          have hpl : (pre ts (j + 1)).length ≤ r.size := by
            have h1 := HW.out.1
            have h2 : pre ts ts.length = pre ts (j + 1) ++ ((ts.drop (j + 1)).map (·.text)).flatten := by
              unfold pre
              rw [List.take_length, ← List.flatten_append, ← List.map_append, List.take_append_drop]
            rw [h1] at h2
            have := congrArg List.length h2
            rw [bl_len, List.length_append] at this
            omega
          have hsum : u.size + X.size ≤ 340 := by rw [hps, List.length_append, ← hu, ← hXb, bl_len, bl_len] at hpl; omega
          have hXe : X.toList.isEmpty = false := by
            rw [← Bool.not_eq_true, List.isEmpty_iff]
            intro e
            rw [← hX, ByteArray.toList_mk] at e
            exact e2 e
          have hw2 : bl (u ++ X) = pre ts (j + 1) := by rw [bl_append, hps, hu, hXb]
          have hX3 : toks (bl X) 0 = [⟨x.kind, x.text, 0⟩] := by rw [hXb]; exact e3
          rw [hX] at c1
          have hjm : j < 4294967281 := by omega
          have HJ := Lib.hid hjl; have HX := Lib.hid hX; have HXb := Lib.hid hXb; have HU := Lib.hid hw2; have HX3 := Lib.hid hX3; have HV := Lib.hid hv; have HSr := Lib.hid hS
          have hXl : X.size < 4294967281 := by omega
          clear hX hXb hps hpl hw2 hX3 e2 e3 hu hv hS hrc hn
          go_wp2_with fail
          refine (tokens_is X hXl _ HSr.out.tabs).mono ?_
          rintro e w3 ⟨⟨v3, rfl, hv3⟩, hb3⟩
          rw [HX3.out] at hv3
          obtain ⟨g3, cap3, rfl, d0, d1, d2⟩ := hv3.at 0 _ rfl
          rw [HX.out] at d1
          have HS3 := Lib.hid (HSr.out.below hb3)
          have HV3 := Lib.hid (HV.out.below hb3)
          obtain ⟨_, _, he, c0, c1, c2⟩ := HV3.out.at j x hx
          cases he
          rw [HX.out] at c1
          have hq1 : ((x.kind : Int) != (x.kind : Int)) = false := by simp
          clear hv3 hb3 hx
          simp only [Nat.zero_mul, Nat.zero_add] at d0 d1 d2
          go_wp2_with fail
          go_quiet (fail)
          go_wp2_with fail
          rename_i nq
          have hjl := HJ.out
          exact ⟨⟨j + 1, _, by omega, by go_num, rfl, HU.out, HV3.out.below (below_drewN _ _), HS3.out.below (below_drewN _ _)⟩, by simp [intOf]; omega⟩
        · have hur : u = r := by
            rw [ba_ext, hu, show j = ts.length by omega]; exact HW.out.1
          have hcr := hS.cell k hlt
          rw [hr, ← hur] at hcr
          have HSr := Lib.hid hS
          have HR2 := Lib.hid hr
          have hge : ¬ (j : Int) < ts.length := by omega
          clear hS hv hu hur hr hrs hrc hn hts HW hjl hj
          go_wp2_with fail
          exact ⟨⟨k + 1, by omega, by go_num, HSr.out⟩, by simp [intOf]; omega⟩
    · go_wp2_with fail
      refine (lives_any _ hS.tabs).mono ?_
      rintro e w2 ⟨rfl, hb⟩
      have hB := hS.below hb
      go_wp2_with fail
      go_ret
      exact ⟨rfl, hB.blw⟩
end Go.Proofs.YtolgoojlpmgblaaDoor

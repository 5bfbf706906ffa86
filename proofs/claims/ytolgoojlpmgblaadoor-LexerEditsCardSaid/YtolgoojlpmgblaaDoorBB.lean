/- The law LexerLocal returns true. -/
import Derived.Test.YtolgoojlpmgblaaDoorBA
import Derived.Deep.RegionHeld3
namespace Go.Proofs.YtolgoojlpmgblaaDoor
open Go.RowKit

/-- Two rows of two strings each, and the tokens of one of them. -/
structure Two (w : World) (A B : Nat) (ra rb : Nat → ByteArray) (v : Value) (ts : List Tok) (w' : World) : Prop where
  a : Src w A ra w'
  b : Src w B rb w'
  x : IsToks w' v ts
theorem Two.below {w : World} {A B : Nat} {ra rb : Nat → ByteArray} {v : Value} {ts : List Tok} {a b : World} (h : Two w A B ra rb v ts a) (hb : Below a.heap.size a b) : Two w A B ra rb v ts b := ⟨h.a.below hb, h.b.below hb, h.x.below hb⟩
theorem two_drew {w : World} {A B k : Nat} {ra rb : Nat → ByteArray} {r1 r2 : ByteArray} {v : Value} {ts : List Tok} {a : World} (h : a.cell? ⟨A, k, none⟩ = some (.string r1) ∧ a.cell? ⟨B, k, none⟩ = some (.string r2) ∧ Two w A B ra rb v ts a) :
    a.drew.cell? ⟨A, k, none⟩ = some (.string r1) ∧ a.drew.cell? ⟨B, k, none⟩ = some (.string r2) ∧ Two w A B ra rb v ts a.drew := ⟨h.1, h.2.1, h.2.2.below (Below.refl _ _).drew⟩
theorem two_below {w : World} {A B k : Nat} {ra rb : Nat → ByteArray} {r1 r2 : ByteArray} {v : Value} {ts : List Tok} {a b : World} (h : a.cell? ⟨A, k, none⟩ = some (.string r1) ∧ a.cell? ⟨B, k, none⟩ = some (.string r2) ∧ Two w A B ra rb v ts a) (hb : Below a.heap.size a b) :
    b.cell? ⟨A, k, none⟩ = some (.string r1) ∧ b.cell? ⟨B, k, none⟩ = some (.string r2) ∧ Two w A B ra rb v ts b :=
  ⟨(hb.cell (p := ⟨A, k, none⟩) h.2.2.a.lt).trans h.1, (hb.cell (p := ⟨B, k, none⟩) h.2.2.b.lt).trans h.2.1, h.2.2.below hb⟩

theorem tok_eq_neq (x : Tok) (w : World) : (binOp .neq 31 (.agg #[.int .i64 x.kind, .string ⟨x.text.toArray⟩, .int .i64 x.at']) (.agg #[.int .i64 x.kind, .string ⟨x.text.toArray⟩, .int .i64 x.at'])).run Tryd.prog w = .ok (.bool false) w := by
  rw [tok_neq]; simp

theorem src_new {w : World} {w1 : World} {r1 r2 : ByteArray} (hb : Below w.heap.size w w1) (hT : Tabs w) :
    Src w w1.heap.size (fun k => if k = 0 then r1 else r2) (w1.alloc (.cells #[.string r1, .string r2] 9)) := by
  refine ⟨fun k hk => ?_, (hT.of_below hb).of_below ((Below.refl _ _).alloc (Nat.le_refl _) _), hb.alloc hb.size _, by simp⟩
  rw [cell_of_row _ w1.heap.size k _ _ _ (World.alloc_heap_new w1 _)]
  match k, hk with
  | 0, _ => rfl
  | 1, _ => rfl

set_option maxRecDepth 100000 in
set_option maxHeartbeats 2000000 in
theorem lexerLocal_walk (s t : ByteArray) (vl : Value) (zs : List Int) (vm : Value) (ys : List Int) (w : World) (hs : s.size ≤ maxLen) (ht : t.size ≤ maxLen) (hv : IsInts w vl zs) (hl : zs.length ≤ maxLen) (hv' : IsInts w vm ys) (hl' : ys.length ≤ maxLen) (hT : Tabs w) :
    Calls Tryd.prog 6 #[.string s, .string t, vl, vm] w fun e w' => e = .returned (.bool true) ∧ Below w.heap.size w w' := by
  have HS := Lib.hid hs; have HS' := Lib.hid ht; have HV := Lib.hid hv; have HV' := Lib.hid hv'; have HL := Lib.hid hl; have HL' := Lib.hid hl'; have HT := Lib.hid hT
  clear hs ht hv hl hv' hl' hT
  go_enter Tryd.func6, Tryd.ntmps6
  go_wp2_with fail
  refine (short_any s 40 _ HS.out).mono ?_
  rintro e w1 ⟨⟨r, rfl, hr, hr2⟩, rfl⟩
  go_wp2_with fail
  refine (source_any vl zs _ HV.out HL.out).mono ?_
  rintro e w2 ⟨⟨r2, rfl, hr3⟩, hb⟩
  go_wp2_with fail
  refine (short_any t 40 _ HS'.out).mono ?_
  rintro e w3 ⟨⟨r', rfl, hr', hr2'⟩, rfl⟩
  have hSa := src_new (r1 := r) (r2 := r2) hb HT.out
  obtain ⟨A, hA⟩ : ∃ A, w2.heap.size = A := ⟨_, rfl⟩
  rw [hA] at hSa
  have hlow : Below w.heap.size w (w2.alloc (.cells #[.string r, .string r2] 9)) := hb.alloc hb.size _
  obtain ⟨ra, hra⟩ : ∃ ra : Nat → ByteArray, (fun k => if k = 0 then r else r2) = ra := ⟨_, rfl⟩
  have hraz : ∀ k, (ra k).size ≤ 340 := by intro k; rw [← hra]; dsimp only; split <;> omega
  rw [hra] at hSa
  have HSa := Lib.hid hSa; have HLow := Lib.hid hlow; have HZa := Lib.hid hraz
  clear hSa hlow hra hraz hb
  go_wp2_with fail
  try rw [hA]
  generalize w2.alloc (.cells #[.string r, .string r2] 9) = wa at *
  clear hA
  refine (source_any vm ys _ (HV'.out.below HLow.out) HL'.out).mono ?_
  rintro e w4 ⟨⟨r2', rfl, hr3'⟩, hb4⟩
  have hSb := src_new (w := wa) (r1 := r') (r2 := r2') hb4 HSa.out.tabs
  have hSa2 : Src w A ra (w4.alloc (.cells #[.string r', .string r2'] 9)) := HSa.out.below (hb4.alloc hb4.size _)
  obtain ⟨rb, hrb⟩ : ∃ rb : Nat → ByteArray, (fun k => if k = 0 then r' else r2') = rb := ⟨_, rfl⟩
  have hrbz : ∀ k, (rb k).size ≤ 340 := by intro k; rw [← hrb]; dsimp only; split <;> omega
  obtain ⟨B, hB⟩ : ∃ B, w4.heap.size = B := ⟨_, rfl⟩
  rw [hrb, hB] at hSb
  replace hSb : Src w B rb (w4.alloc (.cells #[.string r', .string r2'] 9)) := ⟨hSb.cell, hSb.tabs, hSa2.blw, hSb.lt⟩
  have HSb := Lib.hid hSb; have HSa2 := Lib.hid hSa2; have HZb := Lib.hid hrbz
  clear hSb hSa2 hrb hrbz hb4
  go_wp2_with fail
  try rw [hB]
  generalize w4.alloc (.cells #[.string r', .string r2'] 9) = wb at *
  clear hB
  go_loopw [11, 12, 13, 14] (fun i _ _ _ wr => ∃ k : Nat, k ≤ 2 ∧ i = .int .i64 k ∧ Src w A ra wr ∧ Src w B rb wr) (fun i _ _ _ _ => 2 - (intOf i).toNat)
  case atStart => exact ⟨0, by omega, rfl, HSa2.out, HSb.out⟩
  case round =>
    obtain ⟨k, hk, rfl, hS, hS'⟩ := hrel
    by_cases hlt : k < 2
    · obtain ⟨a, ha⟩ : ∃ a, ra k = a := ⟨_, rfl⟩
      obtain ⟨b, hb⟩ : ∃ b, rb k = b := ⟨_, rfl⟩
      have hca : wr.cell? ⟨A, k, none⟩ = some (.string a) := by rw [← ha]; exact hS.cell k hlt
      have haz : a.size ≤ 340 := by have := HZa.out k; rwa [ha] at this
      have hbz : b.size ≤ 340 := by have := HZb.out k; rwa [hb] at this
      go_wp2_with fail
      refine (tokens_is a (by omega) _ hS.tabs).mono ?_
      rintro e w5 ⟨⟨v, rfl, hv⟩, hb5⟩
      have hT2 : Two w A B ra rb v (toks (bl a) 0) w5 := ⟨hS.below hb5, hS'.below hb5, hv⟩
      have hca2 : w5.cell? ⟨A, k, none⟩ = some (.string a) := by rw [← ha]; exact hT2.a.cell k hlt
      have hcb2 : w5.cell? ⟨B, k, none⟩ = some (.string b) := by rw [← hb]; exact hT2.b.cell k hlt
      have hn := toks_count (bl a) 0
      rw [bl_len] at hn
      have HW := Lib.hid (toks_local (bl a) (bl b) 0)
      have HWn := Lib.hid (toks_count (bl (a ++ b)) 0)
      rw [← bl_append] at HW
      obtain ⟨ts, hts⟩ : ∃ ts, toks (bl a) 0 = ts := ⟨_, rfl⟩
      obtain ⟨us, hus⟩ : ∃ us, toks (bl (a ++ b)) 0 = us := ⟨_, rfl⟩
      have hsum : a.size + b.size ≤ 680 := by omega
      have hapz : (a ++ b).size < 4294967281 := by rw [ByteArray.size_append]; omega
      have hTk : ∀ w, Tabs w → Calls Tryd.prog 13 #[.string (a ++ b)] w fun e w' => (∃ v, e = .returned v ∧ IsToks w' v us) ∧ Below w.heap.size w w' := fun w hw => by
        rw [← hus]; exact tokens_is (a ++ b) hapz w hw
      have HTk := Lib.hid hTk; clear hTk
      rw [hts, hus] at HW
      rw [hts] at hT2 hv hn
      have hnu : us.length ≤ 680 := by rw [← hus]; have := HWn.out; rw [bl_len, ByteArray.size_append] at this; omega
      obtain ⟨p, cap, rfl⟩ := hv.len
      have HSr := Lib.hid hS; have HSr' := Lib.hid hS'; have HA := Lib.hid ha; have HB := Lib.hid hb
      clear hca hS hS' hb5 hv hts hus ha hb
      have hadd : ∀ w, (Op.stringOp .add a b).run Tryd.prog w = .ok (.string (a ++ b)) w := fun w => run_string_add_sum w a b (by omega)
      go_wp2_with fail
      go_region_held3 (fun w' => w'.cell? ⟨A, k, none⟩ = some (.string a) ∧ w'.cell? ⟨B, k, none⟩ = some (.string b) ∧ Two w A B ra rb (.slice p ts.length cap) ts w') (first | exact two_drew ⟨by assumption, by assumption, by assumption⟩ | exact two_below (by assumption) (by assumption) | exact two_below ⟨by assumption, by assumption, by assumption⟩ (by assumption))
        (first | (go_at_call 13; refine (HTk.out _ (And.right (And.right (by assumption : _ ∧ _ ∧ Two w A B ra rb (.slice p ts.length cap) ts _))).a.tabs).mono ?_; rintro e w6 ⟨⟨v6, rfl, hv6⟩, hb6⟩))
      rename_i hHeld
      have hT3 := hHeld.2.2
      obtain ⟨q, cap', rfl⟩ := hv6.len
      have hle := HW.out.1
      have hnl : ¬ ((us.length : Int) < (ts.length : Int)) := by omega
      have HV6 := Lib.hid hv6; have HT3 := Lib.hid hT3
      clear hHeld hv6 hT3 hb6 hT2 hca2 hcb2 hadd
      go_wp2_with fail
      go_loopw [14] (fun i wr => ∃ j : Nat, i = .int .i64 j ∧ (j ≤ ts.length) ∧ IsToks wr (.slice q us.length cap') us ∧ Two w A B ra rb (.slice p ts.length cap) ts wr) (fun i _ => ts.length - (intOf i).toNat)
      case atStart => exact ⟨0, rfl, by omega, HV6.out, HT3.out⟩
      case round =>
        obtain ⟨j, rfl, hj, hu, hT⟩ := hrel
        have HU := Lib.hid hu; have HT4 := Lib.hid hT
        clear hu hT
        by_cases hj1 : j + 1 < ts.length
        · have hjm : j < 4294967281 := by omega
          have hj2 : (j : Int) + 1 < ts.length := by omega
          obtain ⟨x, hx⟩ : ∃ x, ts[j]? = some x := ⟨_, List.getElem?_eq_getElem (by omega)⟩
          have hy : us[j]? = some x := by rw [← HW.out.2 j hj1]; exact hx
          obtain ⟨g, cap1, he, c0, c1, c2⟩ := HT4.out.x.at j x hx
          obtain ⟨g', cap2, he', d0, d1, d2⟩ := HU.out.at j x hy
          obtain ⟨rfl, rfl⟩ : p = some ⟨g, 0, none⟩ ∧ cap1 = cap := by cases he; exact ⟨rfl, rfl⟩
          obtain ⟨rfl, rfl⟩ : q = some ⟨g', 0, none⟩ ∧ cap2 = cap' := by cases he'; exact ⟨rfl, rfl⟩
          clear he he' hx hy
          have hcmp := tok_eq_neq x
          have hgd := tok_guard
          go_wp2_with fail
          go_quiet (fail)
          go_wp2_with fail
          exact ⟨⟨j + 1, by go_num, by omega, HU.out.below (below_drewN _ _), HT4.out.below (below_drewN _ _)⟩, by simp [intOf]; omega⟩
        · have hj2 : ¬ (j : Int) + 1 < ts.length := by omega
          have hjm : j < 4294967281 := by omega
          go_wp2_with fail
          exact ⟨⟨k + 1, by omega, by go_num, HT4.out.a, HT4.out.b⟩, by simp [intOf]; omega⟩
    · go_wp2_with fail
      refine (lives_any _ hS.tabs).mono ?_
      rintro e w2 ⟨rfl, hb⟩
      have hB := hS.below hb
      go_wp2_with fail
      go_ret
      exact ⟨rfl, hB.blw⟩
end Go.Proofs.YtolgoojlpmgblaaDoor

/- The law LexerEdits returns true. -/
import Derived.Test.YtolgoojlpmgblaaDoorBS
import Derived.Test.YtolgoojlpmgblaaDoorBD
namespace Go.Proofs.YtolgoojlpmgblaaDoor
open Go.RowKit

theorem stopB_of (t : ByteArray) (n : Nat) (h : n = 0 ∨ Stop (bl t) n) : StopB t n := by
  have key : ∀ i (c : UInt8), (bl t)[i]? = some c → ∃ h : i < t.size, t[i]'h = c := by
    intro i c hc
    have hi : i < t.size := by have := (List.getElem?_eq_some_iff.1 hc).1; rwa [bl_len] at this
    rw [bl_get t i hi] at hc
    exact ⟨hi, Option.some.inj hc⟩
  rcases h with h | h | ⟨c, h, h2⟩ | ⟨m, c, h1, h, h2⟩
  · exact .inl h
  · exact .inr (.inl (by rw [h, bl_len]))
  · obtain ⟨h3, rfl⟩ := key n c h
    exact .inr (.inr (.inl ⟨h3, h2⟩))
  · obtain ⟨h3, rfl⟩ := key m c h
    exact .inr (.inr (.inr ⟨m, h3, h1, h2⟩))

theorem stop_drop (l : Bs) (n a : Nat) (ha : a ≤ n) (hn : n ≤ l.length) (h : n = 0 ∨ Stop l n) : n - a = 0 ∨ Stop (l.drop a) (n - a) := by
  by_cases h0 : n = a
  · exact .inl (by omega)
  refine .inr ?_
  rcases h with h | h | ⟨c, h, h2⟩ | ⟨m, c, h1, h, h2⟩
  · omega
  · exact .inl (by rw [List.length_drop, h])
  · exact .inr (.inl ⟨c, by rw [List.getElem?_drop, show a + (n - a) = n by omega]; exact h, h2⟩)
  · exact .inr (.inr ⟨m - a, c, by omega, by rw [List.getElem?_drop, show a + (m - a) = m by omega]; exact h, h2⟩)

theorem at_of_tok (r : ByteArray) (k : Nat) (x : Tok) (hx : (toks (bl r) 0)[k]? = some x) : ∃ c a J, At r x.at' c a J := by
  have hle : x.at' ≤ r.size := by have := toks_at_le (bl r) 0 x (List.mem_of_getElem? hx); rw [bl_len] at this; omega
  obtain ⟨c, a, h1, h2, h3, h4, h5⟩ := line_law (bl r) x.at' (by rw [bl_len]; exact hle)
  rw [bl_len] at h1 h2 h3
  have hs := toks_stops (bl r) 0 k x hx
  rw [Nat.sub_zero] at hs
  have hst : StopB (r.extract a r.size) (x.at' - a) := stopB_of _ _ (by rw [bl_extractn]; exact stop_drop (bl r) x.at' a h4 (by rw [bl_len]; exact hle) hs)
  obtain ⟨J, hJ⟩ := posn_reach (r.extract a r.size) (x.at' - a) (by simp; omega) hst
  exact ⟨c, a, J, hle, h1, h2, h3, h4, h5, hst, hJ⟩

theorem toks_none (l : Bs) (a : Nat) (h : toks l a = []) : l = [] := by
  cases l with
  | nil => rfl
  | cons c l => rw [toks_cons _ _ (by simp)] at h; cases h
theorem ba_nil (r : ByteArray) (h : bl r = []) : r = ⟨#[]⟩ := by
  obtain ⟨⟨l⟩⟩ := r
  have : l = [] := h
  rw [this]

set_option maxRecDepth 100000 in
set_option maxHeartbeats 4000000 in
theorem lexerEdits_walk (vl : Value) (zs : List Int) (at' : Int) (w : World) (hv : IsInts w vl zs) (hl : zs.length ≤ maxLen) (hk1 : -9223372036854775808 ≤ at' ∧ at' ≤ 9223372036854775807) (hT : Tabs w) :
    Calls Tryd.prog 9 #[vl, .int .i64 at'] w fun e w' => e = .returned (.bool true) ∧ Below w.heap.size w w' := by
  have HV := Lib.hid hv; have HL := Lib.hid hl; have HT := Lib.hid hT; have HK := Lib.hid hk1
  clear hv hl hT hk1
  go_enter Tryd.func9, Tryd.ntmps9
  go_wp2_with fail
  refine (source_any vl zs _ HV.out HL.out).mono ?_
  rintro e w1 ⟨⟨r, rfl, hr⟩, hb1⟩
  have HB1 := Lib.hid hb1
  have HT1 := Lib.hid (HT.out.of_below hb1)
  clear hb1
  go_wp2_with fail
  refine (tokens_is r (by omega) _ HT1.out).mono ?_
  rintro e w2 ⟨⟨v, rfl, hIs⟩, hb2⟩
  have HIs := Lib.hid hIs
  have HB2 := Lib.hid (HB1.out.trans (hb2.mono HB1.out.size))
  have HT2 := Lib.hid (HT1.out.of_below hb2)
  have hn := toks_count (bl r) 0
  rw [bl_len] at hn
  obtain ⟨ts, hts⟩ : ∃ ts, toks (bl r) 0 = ts := ⟨_, rfl⟩
  rw [hts] at hn HIs
  obtain ⟨p, cap, rfl⟩ := HIs.out.len
  have HTs := Lib.hid hts
  clear hIs hb2 hts
  by_cases h0 : ts.length = 0
  · have hnil : ts = [] := List.eq_nil_of_length_eq_zero h0
    have hre := ba_nil r (toks_none (bl r) 0 (HTs.out.trans hnil))
    subst hre
    subst hnil
    clear h0
    simp only [List.length_nil]
    go_wp2_with fail
    refine (lives_any _ HT2.out).mono ?_
    rintro e w3 ⟨rfl, hb3⟩
    go_wp2_with fail
    go_ret
    exact ⟨rfl, HB2.out.trans (hb3.mono HB2.out.size)⟩
  · have hq0 : ((ts.length : Int) == 0) = false := by rw [← Bool.not_eq_true, beq_iff_eq]; omega
    have hrng := aroundI_rng at' ts.length (by omega)
    obtain ⟨k, hk⟩ : ∃ k : Nat, aroundI at' ts.length = k := ⟨(aroundI at' ts.length).toNat, by omega⟩
    have hkl : k < ts.length := by omega
    have HAr := Lib.hid (show ∀ w, Calls Tryd.prog 28 #[.int .i64 at', .int .i64 ts.length] w fun e w' => e = .returned (.int .i64 k) ∧ w = w' by
      intro w; have := around_any at' ts.length w HK.out.1 HK.out.2 (by omega) (by omega); rwa [hk] at this)
    clear hk hrng h0
    obtain ⟨x, hx⟩ : ∃ x, ts[k]? = some x := ⟨_, List.getElem?_eq_getElem hkl⟩
    obtain ⟨g, cap', he, c0, c1, c2⟩ := HIs.out.at k x hx
    obtain ⟨rfl, rfl⟩ : p = some ⟨g, 0, none⟩ ∧ cap' = cap := by cases he; exact ⟨rfl, rfl⟩
    have hxr : (toks (bl r) 0)[k]? = some x := by rw [HTs.out]; exact hx
    obtain ⟨c, a, J, hA⟩ := at_of_tok r k x hxr
    have HLaw := Lib.hid (edits_law (bl r) k x hxr)
    have HA := Lib.hid hA
    have hnle := hA.le
    have HX := Lib.hid hx
    have hi1 : (0 : Int) ≤ (k : Int) := by omega
    have hi2 : (k : Int) < ts.length := by omega
    clear he hxr hA hx
    obtain ⟨xt, hxt⟩ : ∃ xt : ByteArray, (⟨x.text.toArray⟩ : ByteArray) = xt := ⟨_, rfl⟩
    rw [hxt] at c1
    obtain ⟨n, hn0⟩ : ∃ n, x.at' = n := ⟨_, rfl⟩
    rw [hn0] at c2 HA hnle HLaw
    obtain ⟨kd, hkd⟩ : ∃ kd, x.kind = kd := ⟨_, rfl⟩
    rw [hkd] at c0
    clear hxt hn0 hkd
    go_wp2_with fail
    refine (HAr.out _).mono ?_
    rintro e w3 ⟨rfl, rfl⟩
    go_wp2_with fail
    have HB3 := Lib.hid (HB2.out.alloc HB2.out.size (.cells #[.int .i64 kd, .string xt, .int .i64 n] 31))
    have HN3 := Lib.hid ((Below.refl w2.heap.size w2).alloc (Nat.le_refl _) (.cells #[.int .i64 kd, .string xt, .int .i64 n] 31))
    have d2 : (w2.alloc (.cells #[.int .i64 kd, .string xt, .int .i64 n] 31)).cell? ⟨w2.heap.size, 2, none⟩ = some (.int .i64 n) := by rw [cell_of_row _ w2.heap.size 2 _ _ _ (World.alloc_heap_new w2 _)]; rfl
    have hz3 : w2.heap.size < (w2.alloc (.cells #[.int .i64 kd, .string xt, .int .i64 n] 31)).heap.size := by simp
    clear c0 c1 c2
    generalize w2.alloc (.cells #[.int .i64 kd, .string xt, .int .i64 n] 31) = W3 at *
    refine (at_any r n c a J _ HA.out (by omega)).mono ?_
    rintro e w4 ⟨rfl, hb4⟩
    have hB4 := (Below.refl W3.heap.size W3).trans hb4
    have d4 : w4.cell? ⟨w2.heap.size, 2, none⟩ = some (.int .i64 n) := (hb4.cell (p := ⟨w2.heap.size, 2, none⟩) hz3).trans d2
    have HB4 := Lib.hid (HB3.out.trans (hb4.mono HB3.out.size))
    have HN4 := Lib.hid (HN3.out.trans (hb4.mono (Nat.le_of_lt hz3)))
    have hz4 := hb4.size
    clear hb4 hB4 d2
    obtain ⟨U, hU⟩ : ∃ U, (posn (r.extract a r.size) J).2 = U := ⟨_, rfl⟩
    have HOf := Lib.hid (show ∀ W, Calls Tryd.prog 30 #[.string r, .agg #[.int .i64 c, .int .i64 U]] W fun e w' => e = .returned (.tuple #[.int .i64 n, .int .i64 0]) ∧ Below W.heap.size W w' from fun W => by rw [← hU]; exact offset_any r n c a J W HA.out (by omega))
    rw [hU]
    clear hU
    go_wp2_with fail
    refine (HOf.out _).mono ?_
    rintro e w5 ⟨rfl, hb5⟩
    have hz5 := hb5.size
    simp at hz5
    have d5 : w5.cell? ⟨w2.heap.size, 2, none⟩ = some (.int .i64 n) := by
      rw [hb5.cell (p := ⟨w2.heap.size, 2, none⟩) (by simp; omega), World.cell?_alloc_lt _ _ _ (show w2.heap.size < _ by omega)]; exact d4
    have HB5 := Lib.hid ((HB4.out.alloc HB4.out.size (.cells #[.int .i64 c, .int .i64 U] 45)).trans (hb5.mono (by have := HB4.out.size; simp; omega)))
    have HN5 := Lib.hid ((HN4.out.alloc HN4.out.size (.cells #[.int .i64 c, .int .i64 U] 45)).trans (hb5.mono (by have := HN4.out.size; simp; omega)))
    clear hb5 d4
    go_wp2_with fail
    have HN := World.alloc_heap_new w5 (.cells #[.int .i64 n, .int .i64 n, .string ⟨#[10]⟩] 52)
    have hIns : Ins (w5.alloc (.cells #[.int .i64 n, .int .i64 n, .string ⟨#[10]⟩] 52)) w5.heap.size n := by
      refine ⟨?_, ?_, ?_⟩ <;> (rw [cell_of_row _ w5.heap.size _ _ _ _ HN]; rfl)
    clear HN
    refine (edit_ins r w5.heap.size n _ hIns hnle (by omega)).mono ?_
    rintro e w6 ⟨rfl, hb6⟩
    clear hIns
    have hz6 := hb6.size
    simp at hz6
    have d6 : w6.cell? ⟨w2.heap.size, 2, none⟩ = some (.int .i64 n) := by
      rw [hb6.cell (p := ⟨w2.heap.size, 2, none⟩) (by simp; omega), World.cell?_alloc_lt _ _ _ (show w2.heap.size < _ by omega)]; exact d5
    have HB6 := Lib.hid ((HB5.out.alloc HB5.out.size (.cells #[.int .i64 n, .int .i64 n, .string ⟨#[10]⟩] 52)).trans (hb6.mono (by have := HB5.out.size; simp; omega)))
    have HN6 := Lib.hid ((HN5.out.alloc HN5.out.size (.cells #[.int .i64 n, .int .i64 n, .string ⟨#[10]⟩] 52)).trans (hb6.mono (by have := HN5.out.size; simp; omega)))
    have HIs6 := Lib.hid (HIs.out.below HN6.out)
    have HT6 := Lib.hid (HT2.out.of_below HN6.out)
    clear hb6 d5
    obtain ⟨nx, hnx⟩ : ∃ nx : ByteArray, (⟨((bl r).take n ++ 10 :: (bl r).drop n).toArray⟩ : ByteArray) = nx := ⟨_, rfl⟩
    have hnb : bl nx = (bl r).take n ++ 10 :: (bl r).drop n := by rw [← hnx]
    have hnz : nx.size ≤ 341 := by
      rw [← bl_len, hnb]
      have := bl_len r
      simp only [List.length_append, List.length_take, List.length_cons, List.length_drop]
      omega
    rw [hnx]
    rw [← hnb, HTs.out] at HLaw
    have hn2 := toks_count (bl nx) 0
    rw [bl_len] at hn2
    obtain ⟨ns, hns⟩ : ∃ ns, toks (bl nx) 0 = ns := ⟨_, rfl⟩
    have HTok := Lib.hid (show ∀ w, Tabs w → Calls Tryd.prog 13 #[.string nx] w fun e w' => (∃ v, e = .returned v ∧ IsToks w' v ns) ∧ Below w.heap.size w w' from fun w hw => by rw [← hns]; exact tokens_is nx (by omega) w hw)
    rw [hns] at HLaw hn2
    clear hnx hnb hns hz3 hz4 hz5 hz6
    have hq9 : ((n : Int) != (n : Int)) = false := by simp
    go_wp2_with fail
    refine (solid_any _ ts _ HIs6.out (by omega)).mono ?_
    rintro e w7 ⟨⟨v7, rfl, hown7⟩, hb7⟩
    have hI7 : IsToks w7 v7 (solid ts) := reads_of_owns hown7
    have HB7 := Lib.hid (HB6.out.trans (hb7.mono HB6.out.size))
    have HT7 := Lib.hid (HT6.out.of_below hb7)
    have HI7 := Lib.hid hI7
    have hsl := solid_len_le ts
    clear hown7 hb7 hI7 d6
    go_wp2_with fail
    refine (HTok.out _ HT7.out).mono ?_
    rintro e w8 ⟨⟨v8, rfl, hI8⟩, hb8⟩
    have HB8 := Lib.hid (HB7.out.trans (hb8.mono HB7.out.size))
    have HT8 := Lib.hid (HT7.out.of_below hb8)
    have HI78 := Lib.hid (HI7.out.below hb8)
    have HI8 := Lib.hid hI8
    clear hb8 hI8
    go_wp2_with fail
    refine (solid_any _ ns _ HI8.out (by omega)).mono ?_
    rintro e w9 ⟨⟨v9, rfl, hown9⟩, hb9⟩
    have hI9 : IsToks w9 v9 (solid ns) := reads_of_owns hown9
    have HB9 := Lib.hid (HB8.out.trans (hb9.mono HB8.out.size))
    have HT9 := Lib.hid (HT8.out.of_below hb9)
    have HI79 := Lib.hid (HI78.out.below hb9)
    have HI9 := Lib.hid hI9
    have hsl2 := solid_len_le ns
    clear hown9 hb9 hI9
    generalize hsa : solid ts = sa at *
    generalize hsb : solid ns = sb at *
    have hlen : sb.length = sa.length := by have := congrArg List.length HLaw.out; simpa using this
    obtain ⟨pa, ca, rfl⟩ := HI79.out.len
    obtain ⟨pb, cb, rfl⟩ := HI9.out.len
    rw [hlen] at *
    clear hlen hsa hsb
    go_wp2_with fail
    have hlm : sa.length ≤ 1000 := by omega
    go_loopw [16] (fun i wr => ∃ j : Nat, j ≤ sa.length ∧ i = .int .i64 j ∧ Below w9.heap.size w9 wr) (fun i _ => sa.length - (intOf i).toNat)
    case atStart => exact ⟨0, by omega, rfl, Below.refl _ _⟩
    case round =>
      obtain ⟨j, hj, rfl, hB⟩ := hrel
      have HB := Lib.hid hB
      clear hB
      by_cases hjl : j < sa.length
      · obtain ⟨y, hy⟩ : ∃ y, sa[j]? = some y := ⟨_, List.getElem?_eq_getElem hjl⟩
        have hlw := congrArg (fun l => l[j]?) HLaw.out
        simp only [List.getElem?_map, hy, Option.map_some] at hlw
        obtain ⟨z, hz, hzy⟩ := Option.map_eq_some_iff.1 hlw
        simp only [Prod.mk.injEq] at hzy
        obtain ⟨ga, ca', hea, a0, a1, a2⟩ := (HI79.out.below HB.out).at j y hy
        obtain ⟨gb, cb', heb, b0, b1, b2⟩ := (HI9.out.below HB.out).at j z hz
        obtain ⟨rfl, rfl⟩ : pa = some ⟨ga, 0, none⟩ ∧ ca' = ca := by cases hea; exact ⟨rfl, rfl⟩
        obtain ⟨rfl, rfl⟩ : pb = some ⟨gb, 0, none⟩ ∧ cb' = cb := by simp only [Value.slice.injEq] at heb; exact ⟨heb.1, heb.2.2.symm⟩
        rw [hzy.1] at b0
        rw [hzy.2] at b1
        obtain ⟨X, hX⟩ : ∃ X : ByteArray, (⟨y.text.toArray⟩ : ByteArray) = X := ⟨_, rfl⟩
        rw [hX] at a1 b1
        have hqk : ((y.kind : Int) != (y.kind : Int)) = false := by rw [bne_eq_false_iff_eq]
        have hi1 : (0 : Int) ≤ (j : Int) := by omega
        have hi2 : (j : Int) < sa.length := by omega
        clear hX hzy hz hlw hy hea heb a2 b2
        go_wp2_with fail
        go_quiet (fail)
        go_wp2_with fail
        exact ⟨⟨j + 1, by omega, by go_num, HB.out.trans ((below_drewN _ _).mono HB.out.size)⟩, by simp [intOf]; omega⟩
      · go_wp2_with fail
        refine (lives_any _ (HT9.out.of_below HB.out)).mono ?_
        rintro e w10 ⟨rfl, hb10⟩
        go_wp2_with fail
        go_ret
        exact ⟨rfl, (HB9.out.trans (HB.out.mono HB9.out.size)).trans (hb10.mono (HB9.out.trans (HB.out.mono HB9.out.size)).size)⟩
end Go.Proofs.YtolgoojlpmgblaaDoor

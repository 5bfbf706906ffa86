/- The law LexerJoins returns true. -/
import Derived.Test.YtolgoojlpmgblaaDoorBF
namespace Go.Proofs.YtolgoojlpmgblaaDoor
open Go.RowKit

theorem IsStrs.len {w : World} {v : Value} {ls : List Bs} (h : IsStrs w v ls) : ∃ p cap, v = .slice p ls.length cap := by
  obtain ⟨p, cap, h1, _⟩ := h
  exact ⟨p, cap, h1⟩
theorem IsStrs.at {w : World} {p : Option Addr} {n cap : Nat} {ls : List Bs} (h : IsStrs w (.slice p n cap) ls) (k : Nat) (x : Bs) (hx : ls[k]? = some x) :
    ∃ b off, p = some ⟨b, off, none⟩ ∧ w.cell? ⟨b, off + k, none⟩ = some (.string ⟨x.toArray⟩) := by
  obtain ⟨p', cap', he, hc⟩ := h
  simp only [Value.slice.injEq] at he
  obtain ⟨b, off, e, hcell⟩ := hc (by have := (List.getElem?_eq_some_iff.1 hx).1; omega)
  exact ⟨b, off, he.1.trans e, hcell k x hx⟩

set_option maxRecDepth 100000 in
set_option maxHeartbeats 4000000 in
theorem lexerJoins_walk (vl : Value) (zs : List Int) (vr : Value) (raws : List Bs) (w : World) (hv : IsInts w vl zs) (hl : zs.length ≤ maxLen) (hr : IsStrs w vr raws) (hrl : raws.length ≤ maxLen) (hrx : ∀ x ∈ raws, x.length ≤ maxLen) (hT : Tabs w) :
    Calls Tryd.prog 5 #[vl, vr] w fun e w' => e = .returned (.bool true) ∧ Below w.heap.size w w' := by
  obtain ⟨i0, hi, hz0, hz1, hz2⟩ := info_parts info9
  have HV := Lib.hid hv; have HL := Lib.hid hl; have HR := Lib.hid hr; have HRl := Lib.hid hrl; have HRx := Lib.hid hrx; have HT := Lib.hid hT
  obtain ⟨pr, capr, rfl⟩ := hr.len
  clear hv hl hr hrl hrx hT
  go_enter Tryd.func5, Tryd.ntmps5
  go_wp2_with fail
  refine (words_any vl zs _ HV.out HL.out).mono ?_
  rintro e w1 ⟨⟨v1, ls, rfl, hv1, hls, hlx, hok⟩, hb1⟩
  have HB1 := Lib.hid hb1; have HV1 := Lib.hid hv1; have HLx := Lib.hid hlx; have HOk := Lib.hid hok
  obtain ⟨p1, cap1, rfl⟩ := hv1.len
  clear hb1 hv1 hlx hok
  go_wp2_with fail
  refine (join_any _ ls _ HV1.out (by omega) (fun x hx => by have := HLx.out x hx; omega) (HT.out.of_below HB1.out)).mono ?_
  rintro e w2 ⟨⟨r, rfl, hr⟩, hb2⟩
  have HR2 := Lib.hid hr
  have HB2 := Lib.hid (HB1.out.trans (hb2.mono HB1.out.size)); have HV2 := Lib.hid (HV1.out.below hb2)
  clear hr hb2
  go_wp2_with fail
  refine (refJoin_any _ ls _ HV2.out (by omega) (fun x hx => by have := HLx.out x hx; omega)).mono ?_
  rintro e w3 ⟨⟨r', rfl, hr'⟩, hb3⟩
  obtain rfl : r' = r := by rw [ba_ext, hr', HR2.out]
  have HB3 := Lib.hid (HB2.out.trans (hb3.mono HB2.out.size)); have HV3 := Lib.hid (HV2.out.below hb3)
  clear hr' hb3
  have hrs : r'.size ≤ 341000 := by
    rw [← bl_len, HR2.out]
    unfold joinB
    split
    · have := joinS_len ls (fun x hx => by have := HLx.out x hx; omega) []
      omega
    · simp
  go_wp2_with fail
  refine (tokens_is r' (by omega) _ (HT.out.of_below HB3.out)).mono ?_
  rintro e w4 ⟨⟨v4, rfl, hv4⟩, hb4⟩
  have HV4 := Lib.hid hv4
  have HB4 := Lib.hid (HB3.out.trans (hb4.mono HB3.out.size)); have HW4 := Lib.hid (HV3.out.below hb4)
  have hn4 := toks_count (bl r') 0
  rw [bl_len] at hn4
  clear hv4 hb4
  go_wp2_with fail
  refine (solid_any _ _ _ HV4.out (by omega)).mono ?_
  rintro e w5 ⟨⟨v5, rfl, hown5⟩, hb5⟩
  have hI5 : IsToks w5 v5 (solid (toks (bl r') 0)) := reads_of_owns hown5
  have htx : (solid (toks (bl r') 0)).map (·.text) = ls := by rw [HR2.out]; exact joined_all ls HOk.out 0
  obtain ⟨ts, hts⟩ : ∃ ts, solid (toks (bl r') 0) = ts := ⟨_, rfl⟩
  rw [hts] at hI5 htx
  have htl : ts.length = ls.length := by rw [← htx, List.length_map]
  have HI5 := Lib.hid hI5; have HTx := Lib.hid htx
  have HB5 := Lib.hid (HB4.out.trans (hb5.mono HB4.out.size)); have HW5 := Lib.hid (HW4.out.below hb5)
  obtain ⟨p5, cap5, rfl⟩ := HI5.out.len
  clear hI5 htx hts hb5 hown5 hn4
  rw [htl]
  have HTl := Lib.hid htl
  clear htl
  go_wp2_with fail
  go_loopw [8] (fun i wr => ∃ k : Nat, k ≤ ls.length ∧ i = .int .i64 k ∧ Below w5.heap.size w5 wr) (fun i _ => ls.length - (intOf i).toNat)
  case atStart => exact ⟨0, by omega, rfl, Below.refl _ _⟩
  case round =>
    obtain ⟨k, hk, rfl, hB⟩ := hrel
    by_cases hlt : k < ls.length
    · obtain ⟨x, hx⟩ : ∃ x, ls[k]? = some x := ⟨_, List.getElem?_eq_getElem hlt⟩
      have hy : ∃ y, ts[k]? = some y ∧ y.text = x := by
        have := HTx.out
        rw [← this, List.getElem?_map] at hx
        exact Option.map_eq_some_iff.1 hx
      obtain ⟨y, hy, rfl⟩ := hy
      obtain ⟨g, cap', he, c0, c1, c2⟩ := (HI5.out.below hB).at k y hy
      simp only [Value.slice.injEq] at he
      obtain ⟨rfl, _, rfl⟩ := he
      obtain ⟨b, off, rfl, d0⟩ := (HW5.out.below hB).at k _ hx
      have HJ := Lib.hid hlt; have HB := Lib.hid hB
      have hi1 : (0 : Int) ≤ (k : Int) := by omega
      have hi2 : (k : Int) < ls.length := by omega
      clear hx hy hB c0 c2
      go_wp2_with fail
      go_quiet (fail)
      go_wp2_with fail
      have hjl := HJ.out
      exact ⟨⟨k + 1, by omega, by go_num, HB.out.trans ((below_drewN _ _).mono HB.out.size)⟩, by simp [intOf]; omega⟩
    · have HB := Lib.hid hB; clear hB
      generalize hw6 : wr = w6 at *
      clear hw6
      go_wp2_with fail
      obtain ⟨ys, hys⟩ : ∃ ys, (raws.take 4).map (·.take 20) = ys := ⟨_, rfl⟩
      have hyl : ys.length = min 4 raws.length := by rw [← hys]; simp
      have hyx : ∀ j x, j < 4 → raws[j]? = some x → ys[j]? = some (x.take 20) := fun j x hj hx => by rw [← hys, List.getElem?_map, List.getElem?_take_of_lt hj, hx]; rfl
      have hy20 : ∀ y ∈ ys, y.length ≤ 20 := fun y hy => by
        rw [← hys] at hy
        obtain ⟨x, _, rfl⟩ := List.mem_map.1 hy
        simp only [List.length_take]; omega
      have hbw : Below w.heap.size w w6 := HB5.out.trans (HB.out.mono HB5.out.size)
      have HBw := Lib.hid hbw; have HYl := Lib.hid hyl; have HYx := Lib.hid hyx; have HY20 := Lib.hid hy20
      clear hys hyl hyx hy20 hbw
      go_loopw [9, 10] (fun o i wq => ∃ k : Nat, k ≤ raws.length ∧ k ≤ 4 ∧ i = .int .i64 k ∧ wq.ownsRow w6.heap.size 9 1 o k (svs (ys.take k)) ∧ Below w6.heap.size w6 wq) (fun _ i _ => 4 - (intOf i).toNat)
      case atStart => exact ⟨0, by omega, by omega, rfl, by simpa [svs] using World.ownsRow_nil _ _ _ _, Below.refl _ _⟩
      case round =>
        obtain ⟨j, hj, hj4, rfl, hown, hB⟩ := hrel
        have HO := Lib.hid hown; have HBq := Lib.hid hB
        clear hown hB
        by_cases hjr : j < raws.length
        · by_cases hj5 : j < 4
          · obtain ⟨x, hx⟩ : ∃ x, raws[j]? = some x := ⟨_, List.getElem?_eq_getElem hjr⟩
            have hyj := HYx.out j x hj5 hx
            have hxl := HRx.out x (List.mem_of_getElem? hx)
            obtain ⟨b, off, rfl, d0⟩ := (HR.out.below (HBw.out.trans (HBq.out.mono HBw.out.size))).at j _ hx
            have hi1 : (0 : Int) ≤ (j : Int) := by omega
            have hi2 : (j : Int) < raws.length := by omega
            have HYj := Lib.hid hyj; have HJ := Lib.hid hjr
            clear hx hyj
            go_wp2_with fail
            refine (short_any _ 20 _ (by show x.toArray.size ≤ _; simpa using hxl)).mono ?_
            rintro e w7 ⟨⟨r7, rfl, hr7, hr8⟩, rfl⟩
            have hr9 : (⟨(x.take 20).toArray⟩ : ByteArray) = r7 := by rw [ba_ext, hr7]
            have HR9 := Lib.hid hr9
            clear hr7 hr8 hr9
            go_wp2_with (at_builtin; refine wpList_append_own _ rfl _ _ 23 rfl w6.heap.size 9 i0 (.string ⟨#[]⟩) 1 16 Tryd.underlying23 hi hz0 hz1 hz2 rfl (by decide) _ _ _ rfl (HO.out.alloc _) ⟨wr.heap.size, 0, none⟩ 1 1 [.string r7] rfl rfl (cells_new _ _ _) (by simp [Value.oneCell']) (by unfold maxLen; omega) (by omega) (by have := HBq.out.size; simp; omega) ?_; intro v' w8 hown' hgrow _)
            refine ⟨⟨j + 1, by have := HJ.out; omega, by omega, by go_num, ?_, ?_⟩, by simp [intOf]; omega⟩
            · rw [List.take_add_one, HYj.out]
              simp only [Option.toList_some]
              rw [svs_snoc, HR9.out]; exact hown'
            · exact (HBq.out.alloc HBq.out.size _).grown hgrow (by have := HBq.out.size; simp; omega) (fun j e => (HO.out.lt j e).1)
          · have hjy : j = ys.length := by have := HYl.out; omega
            have hst := HO.out
            rw [hjy, List.take_length] at hst
            have HI := Lib.hid (isStrs_of_owns hst)
            have HBt := Lib.hid (HBw.out.trans (HBq.out.mono HBw.out.size))
            have hyn : ys.length ≤ 4 := by omega
            have hyt : ∀ y ∈ ys, y.length ≤ 1000 := fun y hy => by have := HY20.out y hy; omega
            have HYt := Lib.hid hyt
            obtain ⟨po, capo, rfl⟩ := HI.out.len
            have hi5 : ¬ (j : Int) < 4 := by omega
            clear hst hjy hyt
            go_wp2_with fail
            refine (join_any _ ys _ HI.out (by omega) HYt.out (HT.out.of_below HBt.out)).mono ?_
            rintro e w9 ⟨⟨ra, rfl, hra⟩, hb9⟩
            have HB9 := Lib.hid (HBt.out.trans (hb9.mono HBt.out.size)); have HI9 := Lib.hid (HI.out.below hb9)
            have HRa := Lib.hid hra
            clear hb9 hra
            go_wp2_with fail
            refine (refJoin_any _ ys _ HI9.out (by omega) HYt.out).mono ?_
            rintro e w10 ⟨⟨rb, rfl, hrb⟩, hb10⟩
            obtain rfl : rb = ra := by rw [ba_ext, hrb, HRa.out]
            have HB10 := Lib.hid (HB9.out.trans (hb10.mono HB9.out.size))
            clear hb10 hrb
            go_wp2_with fail
            refine (lives_any _ (HT.out.of_below HB10.out)).mono ?_
            rintro e w11 ⟨rfl, hb11⟩
            have HB11 := Lib.hid (HB10.out.trans (hb11.mono HB10.out.size))
            clear hb11
            go_wp2_with fail
            go_ret
            exact ⟨rfl, HB11.out⟩
        · have hjy : j = ys.length := by have := HYl.out; omega
          have hst := HO.out
          rw [hjy, List.take_length] at hst
          have HI := Lib.hid (isStrs_of_owns hst)
          have HBt := Lib.hid (HBw.out.trans (HBq.out.mono HBw.out.size))
          have hyn : ys.length ≤ 4 := by omega
          have hyt : ∀ y ∈ ys, y.length ≤ 1000 := fun y hy => by have := HY20.out y hy; omega
          have HYt := Lib.hid hyt
          obtain ⟨po, capo, rfl⟩ := HI.out.len
          have hi5 : ¬ (j : Int) < raws.length := by omega
          clear hst hjy hyt
          go_wp2_with fail
          refine (join_any _ ys _ HI.out (by omega) HYt.out (HT.out.of_below HBt.out)).mono ?_
          rintro e w9 ⟨⟨ra, rfl, hra⟩, hb9⟩
          have HB9 := Lib.hid (HBt.out.trans (hb9.mono HBt.out.size)); have HI9 := Lib.hid (HI.out.below hb9)
          have HRa := Lib.hid hra
          clear hb9 hra
          go_wp2_with fail
          refine (refJoin_any _ ys _ HI9.out (by omega) HYt.out).mono ?_
          rintro e w10 ⟨⟨rb, rfl, hrb⟩, hb10⟩
          obtain rfl : rb = ra := by rw [ba_ext, hrb, HRa.out]
          have HB10 := Lib.hid (HB9.out.trans (hb10.mono HB9.out.size))
          clear hb10 hrb
          go_wp2_with fail
          refine (lives_any _ (HT.out.of_below HB10.out)).mono ?_
          rintro e w11 ⟨rfl, hb11⟩
          have HB11 := Lib.hid (HB10.out.trans (hb11.mono HB10.out.size))
          clear hb11
          go_wp2_with fail
          go_ret
          exact ⟨rfl, HB11.out⟩
end Go.Proofs.YtolgoojlpmgblaaDoor

/- The reference's Words returns the tokens' texts of a generated source; the reference's Join is the plain model's. -/
import Derived.Test.YtolgoojlpmgblaaDoorBD
import Derived.Test.YtolgoojlpmgblaaDoorLxC
namespace Go.Proofs.YtolgoojlpmgblaaDoor
open Go.RowKit

theorem info9 : (Tryd.prog.info? 9).map (fun i => (i.zero, i.size, i.bytes)) = some (some (.string ⟨#[]⟩), 1, 16) := by kernel_rfl

theorem isStrs_of_owns {w : World} {B : Nat} {v : Value} {ls : List Bs} (h : w.ownsRow B 9 1 v ls.length (svs ls)) : IsStrs w v ls := by
  obtain ⟨p, cap, rfl, hc⟩ := reads_of_owns h
  refine ⟨p, cap, rfl, fun hl => ?_⟩
  obtain ⟨g, rfl, hcell⟩ := hc hl
  refine ⟨g, 0, rfl, fun i x hx => ?_⟩
  rw [Nat.zero_add]
  exact hcell i _ (by simp [svs, hx, sv])

theorem svs_snoc (l : List Bs) (x : Bs) : svs (l ++ [x]) = svs l ++ [.string ⟨x.toArray⟩] := by simp [svs, sv]

set_option maxRecDepth 100000 in
set_option maxHeartbeats 1000000 in
theorem words_any (vl : Value) (zs : List Int) (w : World) (hv : IsInts w vl zs) (hl : zs.length ≤ maxLen) :
    Calls Tryd.prog 16 #[vl] w fun e w' => (∃ v ls, e = .returned v ∧ IsStrs w' v ls ∧ ls.length ≤ 340 ∧ (∀ x ∈ ls, x.length ≤ 340) ∧ ls.all okTok = true) ∧ Below w.heap.size w w' := by
  obtain ⟨i0, hi, hz0, hz1, hz2⟩ := info_parts info9
  have HV := Lib.hid hv; have HL := Lib.hid hl
  clear hv hl
  go_enter Tryd.func16, Tryd.ntmps16
  go_wp2_with fail
  refine (source_any vl zs _ HV.out HL.out).mono ?_
  rintro e w1 ⟨⟨r, rfl, hr⟩, hb1⟩
  have HB1 := Lib.hid hb1; clear hb1
  go_wp2_with fail
  refine (tokens_ref r (by omega) _).mono ?_
  rintro e w2 ⟨v2, rfl, hown2, hb2⟩
  have HT2 := Lib.hid (show IsToks w2 v2 (toks (bl r) 0) from reads_of_owns hown2)
  have HB2 := Lib.hid (HB1.out.trans (hb2.mono HB1.out.size))
  have hn := toks_count (bl r) 0
  rw [bl_len] at hn
  clear hown2 hb2
  go_wp2_with fail
  refine (solid_any _ _ _ HT2.out (by omega)).mono ?_
  rintro e w3 ⟨⟨v3, rfl, hown3⟩, hb3⟩
  have hI3 : IsToks w3 v3 (solid (toks (bl r) 0)) := reads_of_owns hown3
  have HB3 := Lib.hid (HB2.out.trans (hb3.mono HB2.out.size))
  have hnl := solid_len_le (toks (bl r) 0)
  have HOk := Lib.hid (okTok_of_solid (bl r) 0)
  have htl : ∀ x ∈ solid (toks (bl r) 0), x.text.length ≤ 340 := fun x hx => by
    have := toks_text_le (bl r) 0 x (List.mem_filter.1 hx).1
    rw [bl_len] at this; omega
  obtain ⟨ts, hts⟩ : ∃ ts, solid (toks (bl r) 0) = ts := ⟨_, rfl⟩
  rw [hts] at hI3 hnl HOk htl
  have HTl := Lib.hid htl; have HI3 := Lib.hid hI3
  have hnt : ts.length ≤ 340 := by omega
  clear hts htl hI3 hown3 hb3 hnl hn hr
  obtain ⟨p, cap, rfl⟩ := HI3.out.len
  go_wp2_with fail
  go_loopw [4, 5] (fun o i wr => ∃ k : Nat, k ≤ ts.length ∧ i = .int .i64 k ∧ wr.ownsRow w3.heap.size 9 1 o k (svs ((ts.take k).map (·.text))) ∧ Below w3.heap.size w3 wr) (fun _ i _ => ts.length - (intOf i).toNat)
  case atStart => exact ⟨0, by omega, rfl, by simpa [svs] using World.ownsRow_nil _ _ _ _, Below.refl _ _⟩
  case round =>
    obtain ⟨k, hk, rfl, hown, hB⟩ := hrel
    have HO := Lib.hid hown; have HB := Lib.hid hB
    clear hown hB
    by_cases hlt : k < ts.length
    · obtain ⟨x, hx⟩ : ∃ x, ts[k]? = some x := ⟨_, List.getElem?_eq_getElem hlt⟩
      obtain ⟨g, cap', he, c0, c1, c2⟩ := (HI3.out.below HB.out).at k x hx
      simp only [Value.slice.injEq] at he
      obtain ⟨rfl, _, rfl⟩ := he
      have HX := Lib.hid hx; have HJ := Lib.hid hlt
      clear hx
      go_wp2_with (at_builtin; refine wpList_append_own _ rfl _ _ 23 rfl w3.heap.size 9 i0 (.string ⟨#[]⟩) 1 16 Tryd.underlying23 hi hz0 hz1 hz2 rfl (by decide) _ _ _ rfl (HO.out.alloc _) ⟨wr.heap.size, 0, none⟩ 1 1 [.string ⟨x.text.toArray⟩] rfl rfl (cells_new _ _ _) (by simp [Value.oneCell']) (by unfold maxLen; omega) (by omega) (by have := HB.out.size; simp; omega) ?_; intro v' w1 hown' hgrow _)
      refine ⟨⟨k + 1, by have := HJ.out; omega, by go_num, ?_, ?_⟩, by have := HJ.out; simp [intOf]; omega⟩
      · rw [List.take_add_one, HX.out]
        simp only [Option.toList_some, List.map_append, List.map_cons, List.map_nil]
        rw [svs_snoc]; exact hown'
      · exact (HB.out.alloc HB.out.size _).grown hgrow (by have := HB.out.size; simp; omega) (fun j e => (HO.out.lt j e).1)
    · have he : ts.take k = ts := List.take_of_length_le (by omega)
      have hkl : k = ts.length := by omega
      rw [he, hkl] at HO
      clear he hkl
      go_wp2_with fail
      go_ret
      refine ⟨⟨_, ts.map (·.text), rfl, isStrs_of_owns (by rw [List.length_map]; exact HO.out), by rw [List.length_map]; exact hnt, ?_, ?_⟩, HB3.out.trans (HB.out.mono HB3.out.size)⟩
      · intro x hx
        obtain ⟨y, hy, rfl⟩ := List.mem_map.1 hx
        exact HTl.out y hy
      · rw [List.all_eq_true]
        intro x hx
        obtain ⟨y, hy, rfl⟩ := List.mem_map.1 hx
        exact HOk.out y hy
end Go.Proofs.YtolgoojlpmgblaaDoor

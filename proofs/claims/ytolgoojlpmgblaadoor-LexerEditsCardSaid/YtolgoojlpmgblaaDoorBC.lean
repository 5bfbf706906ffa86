/- The reference's Solid returns the tokens that are not space, in a row of its own; the reference's Lines returns one start where no byte is 10. -/
import Derived.Test.YtolgoojlpmgblaaDoorBB
import Derived.Maps.AppendAt
import Derived.OwnWalk
namespace Go.Proofs.YtolgoojlpmgblaaDoor
open Go.RowKit

theorem solid_take (ts : List Tok) (k : Nat) (x : Tok) (h : ts[k]? = some x) : solid (ts.take (k + 1)) = solid (ts.take k) ++ if x.kind = 0 then [] else [x] := by
  unfold solid
  rw [List.take_add_one, h, List.filter_append]
  congr 1
  by_cases hk : x.kind = 0 <;> simp [hk]

theorem solid_len_le (ts : List Tok) : (solid ts).length ≤ ts.length := List.length_filter_le _ _

set_option maxRecDepth 100000 in
set_option maxHeartbeats 1000000 in
theorem solid_any (v : Value) (ts : List Tok) (w : World) (hv : IsToks w v ts) (hl : ts.length ≤ 1000000) :
    Calls Tryd.prog 19 #[v] w fun e w' => (∃ u, e = .returned u ∧ w'.ownsRow w.heap.size 31 3 u (solid ts).length (tokCs (solid ts))) ∧ Below w.heap.size w w' := by
  obtain ⟨i0, hi, hz0, hz1, hz2⟩ := info_parts info31
  have HV := Lib.hid hv
  obtain ⟨p, cap, rfl⟩ := hv.len
  clear hv
  go_enter Tryd.func19, Tryd.ntmps19
  go_wp2
  go_loopw [3, 4] (fun o i wr => ∃ k : Nat, k ≤ ts.length ∧ i = .int .i64 k ∧ wr.ownsRow w.heap.size 31 3 o (solid (ts.take k)).length (tokCs (solid (ts.take k))) ∧ Below w.heap.size w wr) (fun _ i _ => ts.length - (intOf i).toNat)
  case atStart => exact ⟨0, by omega, rfl, by simpa [solid, tokCs] using World.ownsRow_nil _ _ _ _, Below.refl _ _⟩
  case round =>
    obtain ⟨k, hk, rfl, hown, hB⟩ := hrel
    have HO := Lib.hid hown; have HB := Lib.hid hB
    clear hown hB
    by_cases hlt : k < ts.length
    · obtain ⟨x, hx⟩ : ∃ x, ts[k]? = some x := ⟨_, List.getElem?_eq_getElem hlt⟩
      obtain ⟨g, cap', he, c0, c1, c2⟩ := (HV.out.below HB.out).at k x hx
      obtain ⟨rfl, rfl⟩ : p = some ⟨g, 0, none⟩ ∧ cap' = cap := by cases he; exact ⟨rfl, rfl⟩
      have HSt := Lib.hid (solid_take ts k x hx)
      have hx2 : tokC x = [.int .i64 x.kind, .string ⟨x.text.toArray⟩, .int .i64 x.at'] := rfl
      have HX := Lib.hid hx2
      have hsl := solid_len_le (ts.take k)
      rw [List.length_take] at hsl
      have HSl := Lib.hid hsl
      clear he hx hx2 hsl
      by_cases hk0 : x.kind = 0
      · have hq : ((x.kind : Int) != 0) = false := by rw [hk0]; rfl
        have HK := Lib.hid hk0; clear hk0
        go_wp2_with fail
        have e : solid (ts.take (k + 1)) = solid (ts.take k) := by rw [HSt.out, HK.out]; simp
        refine ⟨⟨k + 1, by omega, by go_num, by rw [e]; exact HO.out, HB.out⟩, by simp [intOf]; omega⟩
      · have hq : ((x.kind : Int) != 0) = true := by rw [bne_iff_ne]; omega
        have HK := Lib.hid hk0; clear hk0
        go_wp2_with (at_builtin; refine wpList_append_own _ rfl _ _ 26 rfl w.heap.size 31 i0 (.agg #[.int .i64 0, .string ⟨#[]⟩, .int .i64 0]) 3 32 Tryd.underlying26 hi hz0 hz1 hz2 rfl (by decide) _ _ _ rfl (HO.out.alloc _) ⟨wr.heap.size, 0, none⟩ 1 1 [.int .i64 x.kind, .string ⟨x.text.toArray⟩, .int .i64 x.at'] rfl rfl (cells_new _ _ _) (by simp [Value.oneCell']) (by have := HSl.out; unfold maxLen; omega) (by have := HSl.out; omega) (by have := HB.out.size; simp; omega) ?_; intro v' w1 hown' hgrow _)
        have e : solid (ts.take (k + 1)) = solid (ts.take k) ++ [x] := by rw [HSt.out, if_neg HK.out]
        refine ⟨⟨k + 1, by omega, by go_num, ?_, ?_⟩, by simp [intOf]; omega⟩
        · rw [e, tokCs_snoc, HX.out, List.length_append]; exact hown'
        · exact (HB.out.alloc HB.out.size _).grown hgrow (by have := HB.out.size; simp; omega) (fun j e => (HO.out.lt j e).1)
    · have he : ts.take k = ts := List.take_of_length_le (by omega)
      rw [he] at HO
      go_wp2_with fail
      go_ret
      exact ⟨⟨_, rfl, HO.out⟩, HB.out⟩

theorem lines_one (s : ByteArray) (w : World) (hs : s.size < 4294967281) (h : (10 : UInt8) ∉ bl s) :
    Calls Tryd.prog 22 #[.string s] w fun e w' => (∃ p cap, e = .returned (.slice p 1 cap)) ∧ Below w.heap.size w w' := by
  have HN := Lib.hid h; clear h
  go_enter Tryd.func22, Tryd.ntmps22
  go_wp2_with fail
  go_loopw [3, 4] (fun o i wr => ∃ k : Nat, k ≤ s.size ∧ i = .int .i64 k ∧ o = .slice (some ⟨w.heap.size, 0, none⟩) 1 1 ∧ wr = w.alloc (.cells #[.int .i64 0] 3)) (fun _ i _ => s.size - (intOf i).toNat)
  case atStart => exact ⟨0, by omega, rfl, rfl, rfl⟩
  case round =>
    obtain ⟨k, hk, rfl, rfl, rfl⟩ := hrel
    by_cases hlt : k < s.size
    · have hb := bl_get s k hlt
      have hne : s[k] ≠ 10 := fun e => HN.out (by rw [← e]; exact List.mem_of_getElem? hb)
      have hq : ((s[k].toNat : Int) == 10) = false := by
        rw [← Bool.not_eq_true, beq_iff_eq]
        intro e
        apply hne
        apply UInt8.toNat_inj.1
        have : s[k].toNat = 10 := by omega
        rw [this]; rfl
      clear hb hne
      go_wp2_with fail
      exact ⟨⟨k + 1, by omega, by go_num, rfl, trivial⟩, by simp [intOf]; omega⟩
    · go_wp2_with fail
      go_ret
      exact ⟨⟨_, _, rfl⟩, (Below.refl _ _).alloc (Nat.le_refl _) _⟩
end Go.Proofs.YtolgoojlpmgblaaDoor

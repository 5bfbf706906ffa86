/- lexer.Join returns the joined text of the plain model; old memory is as it was. -/
import Derived.Test.YtolgoojlpmgblaaDoorW
import Derived.Lib.BufferRead
import Derived.OwnWalk
import Derived.WalkKit
import Derived.WalkSpells
import Derived.WalkLawsBesides
import Derived.Outline
import Derived.Lib.Hide
import Derived.Handy
namespace Go.Proofs.YtolgoojlpmgblaaDoor
open Go.RowKit

/-- Is a text one token, and no space? -/
def okTok (x : Bs) : Bool := decide (0 < x.length) && decide ((nxt x).2 = x.length) && decide ((nxt x).1 ≠ 0)
/-- The joined rest, behind a token. -/
def joinS : Bs → List Bs → Bs
  | _, [] => []
  | last, x :: t => (if last = [] then x else sepB last x ++ x) ++ joinS x t
def joinB (ls : List Bs) : Bs := if ls.all okTok then joinS [] ls else []

/-- The value v reads as the strings ls. -/
def IsStrs (w : World) (v : Value) (ls : List Bs) : Prop :=
  ∃ p cap, v = .slice p ls.length cap ∧ (0 < ls.length → ∃ b off, p = some ⟨b, off, none⟩ ∧ ∀ i x, ls[i]? = some x → w.cell? ⟨b, off + i, none⟩ = some (.string ⟨x.toArray⟩))
theorem IsStrs.below {w w' : World} {v : Value} {ls : List Bs} (h : IsStrs w v ls) (hb : Below w.heap.size w w') : IsStrs w' v ls := by
  obtain ⟨p, cap, h1, h3⟩ := h
  refine ⟨p, cap, h1, fun hl => ?_⟩
  obtain ⟨b, off, e, hc⟩ := h3 hl
  exact ⟨b, off, e, fun i z hz => (hb.cell (p := ⟨b, off + i, none⟩) (World.block_lt_of_cell? w _ (hc i z hz))).trans (hc i z hz)⟩

theorem ownsRow_pos {w : World} {B : Nat} {e : TypeId} {sz n : Nat} {v : Value} {xs : List Value} (h : w.ownsRow B e sz v n xs) (hn : 0 < n) : ∃ g cap, v = .slice (some ⟨g, 0, none⟩) n cap ∧ n ≤ cap := by
  rcases h.2 with ⟨_, h0⟩ | ⟨g, cap, cur, hv, _, _, hc, _⟩
  · omega
  · exact ⟨g, cap, hv, hc⟩

theorem info5 : (Tryd.prog.info? 5).map (fun i => (i.zero, i.size, i.bytes)) = some (some (.int .u8 0), 1, 1) := by kernel_rfl

/-- 'string(out)'. -/
theorem conv_out {w : World} {B : Nat} {v : Value} {l : Bs} (h : w.ownsRow B 5 1 v l.length (byteCells l)) : (convert 63 9 v).run Tryd.prog w = .ok (.string ⟨l.toArray⟩) w := by
  have hc := fun g => h.cells (g := g)
  rcases h.2 with ⟨rfl, h0⟩ | ⟨g, cap, cur, rfl, _⟩
  · obtain rfl : l = [] := List.eq_nil_of_length_eq_zero h0
    exact Lib.run_convert_nil_bytes w 63 9 5 0 Tryd.underlying63 Tryd.underlying5 Tryd.underlying9
  · refine run_convert_bytes_back w 63 9 5 ⟨g, 0, none⟩ cap l Tryd.underlying63 Tryd.underlying5 Tryd.underlying9 (fun j hj => hc g rfl j _ ?_)
    simp [byteCells, hj]

theorem byteCells_app (a b : Bs) : byteCells (a ++ b) = byteCells a ++ byteCells b := by simp [byteCells]
theorem join_eq (out : Bs) (last s P : ByteArray) (x : Bs) (ls : List Bs) (k : Nat) (hx : ls[k]? = some x) (hs : bl s = x) (hP : bl P = if bl last = [] then x else sepB (bl last) x ++ x)
    (h : out ++ joinS (bl last) (ls.drop k) = joinS [] ls) : (out ++ bl P) ++ joinS (bl s) (ls.drop (k + 1)) = joinS [] ls := by
  have hk := (List.getElem?_eq_some_iff.1 hx).1
  rw [List.drop_eq_getElem_cons hk, (List.getElem?_eq_some_iff.1 hx).2] at h
  rw [← h, joinS, hP, hs, List.append_assoc]
theorem join_all (x : Bs) (ls : List Bs) (k : Nat) (hx : ls[k]? = some x) (hok : okTok x = true) (h : (ls.take k).all okTok = true) : (ls.take (k + 1)).all okTok = true := by
  rw [List.take_add_one, hx]
  simp only [Option.toList_some, List.all_append, h, Bool.true_and, List.all_cons, List.all_nil, hok]

set_option maxRecDepth 100000 in
set_option maxHeartbeats 2000000 in
theorem join_any (v : Value) (ls : List Bs) (w : World) (hv : IsStrs w v ls) (hl : ls.length ≤ 1000) (hx : ∀ x ∈ ls, x.length ≤ 1000) (hT : Tabs w) :
    Calls Tryd.prog 17 #[v] w fun e w' => (∃ r : ByteArray, e = .returned (.string r) ∧ bl r = joinB ls) ∧ Below w.heap.size w w' := by
  obtain ⟨p, cap, rfl, hc⟩ := hv
  obtain ⟨N, hN⟩ : ∃ N, ls.length = N := ⟨_, rfl⟩
  rw [hN] at hl hc ⊢
  have HN := Lib.hid hN; have HC := Lib.hid hc; have HX := Lib.hid hx; have HT := Lib.hid hT
  clear hN hc hx hT
  obtain ⟨i0, hi, hz0, hz1, hz2⟩ := info_parts info5
  go_enter Tryd.func17, Tryd.ntmps17
  go_wp2_with fail
  go_loopw [3, 4, 6, 7, 8, 9, 10, 13] (fun o la _ _ _ _ _ i wr => ∃ (k : Nat) (out : Bs) (last : ByteArray), k ≤ N ∧ i = .int .i64 k ∧ la = .string last ∧ (ls.take k).all okTok = true ∧ out ++ joinS (bl last) (ls.drop k) = joinS [] ls ∧ out.length ≤ 1001 * k ∧ last.size ≤ 1000 ∧ (0 < last.size ↔ 0 < k) ∧ wr.ownsRow w.heap.size 5 1 o out.length (byteCells out) ∧ Below w.heap.size w wr) (fun _ _ _ _ _ _ _ i _ => N - (intOf i).toNat)
  case atStart => exact ⟨0, [], ⟨#[]⟩, Nat.zero_le _, rfl, rfl, by simp, rfl, by simp, by decide, by decide, World.ownsRow_nil _ _ _ _, Below.refl _ _⟩
  case round =>
    obtain ⟨k, out, last, hk, rfl, rfl, hok, hj, hol, hla, hlk, hown, hB⟩ := hrel
    obtain ⟨po, co, rfl, _⟩ := reads_of_owns hown
    have HOk := Lib.hid hok; have HJ := Lib.hid hj; have HO := Lib.hid hown; have HB := Lib.hid hB; have HLk := Lib.hid hlk
    clear hok hj hown hB hlk
    by_cases hlt : k < N
    · obtain ⟨x, hx⟩ : ∃ x, ls[k]? = some x := ⟨_, List.getElem?_eq_getElem (by have := HN.out; omega)⟩
      obtain ⟨b, off, rfl, hcc⟩ := HC.out (by omega)
      have hc0 := hcc k x hx
      have hxl := HX.out x (List.mem_of_getElem? hx)
      obtain ⟨s, hs⟩ : ∃ s : ByteArray, (⟨x.toArray⟩ : ByteArray) = s := ⟨_, rfl⟩
      have hbs : bl s = x := by rw [← hs]
      have hcell : wr.cell? ⟨b, off + k, none⟩ = some (.string s) := by rw [← hs]; exact (HB.out.cell (p := ⟨b, off + k, none⟩) (World.block_lt_of_cell? w _ hc0)).trans hc0
      have hsz : s.size ≤ 1000 := by rw [← bl_len, hbs]; exact hxl
      have HXk := Lib.hid hx; have HBs := Lib.hid hbs; have HCC := Lib.hid hcc
      clear hcc hc0 hxl hs hx hbs
      have hS : ∀ w, Tabs w → Calls Tryd.prog 38 #[.string s] w fun e w' => e = .returned (.tuple #[.int .i64 (nxt (bl s)).1, .bool (decide (0 < s.size) && decide ((nxt (bl s)).2 = s.size))]) ∧ Below w.heap.size w w' := fun w h => single_any s w (by omega) h
      obtain ⟨kk, hkk⟩ : ∃ kk, (nxt (bl s)).1 = kk := ⟨_, rfl⟩
      obtain ⟨is, his⟩ : ∃ is, (decide (0 < s.size) && decide ((nxt (bl s)).2 = s.size)) = is := ⟨_, rfl⟩
      have hokx : okTok x = (is && decide (kk ≠ 0)) := by
        unfold okTok; rw [← HBs.out, bl_len, his, hkk]
      rw [hkk, his] at hS
      have HS := Lib.hid hS; have HOx := Lib.hid hokx; have HIs := Lib.hid his
      clear hS hokx hkk his
      have HBad : Hid (okTok x = false → joinB ls = []) := Lib.hid (fun h => by
        unfold joinB
        rw [if_neg]
        intro ha
        have := List.all_eq_true.1 ha x (List.mem_of_getElem? HXk.out)
        rw [h] at this; cases this)
      cases is with
      | false =>
        have HE := Lib.hid (HBad.out (by rw [HOx.out]; rfl))
        go_wp2_with (go_at_call 38; refine (HS.out _ (HT.out.of_below HB.out)).mono ?_; rintro e w2 ⟨rfl, hw⟩)
        all_goals (go_ret; exact ⟨⟨_, rfl, by rw [HE.out]⟩, HB.out.trans (hw.mono HB.out.size)⟩)
      | true =>
        by_cases hk0 : kk = 0
        · have HE := Lib.hid (HBad.out (by rw [HOx.out, hk0]; rfl))
          have q0 : ((kk : Int) == 0) = true := by simpa using (by omega : (kk : Int) = 0)
          clear hk0
          go_wp2_with (go_at_call 38; refine (HS.out _ (HT.out.of_below HB.out)).mono ?_; rintro e w2 ⟨rfl, hw⟩)
          go_ret
          exact ⟨⟨_, rfl, by rw [HE.out]⟩, HB.out.trans (hw.mono HB.out.size)⟩
        · have q0 : ((kk : Int) == 0) = false := by simpa using (by omega : ¬ (kk : Int) = 0)
          have hs0 : 0 < s.size := by
            have := HIs.out; simp at this; omega
          have HOkx : Hid (okTok x = true) := Lib.hid (by rw [HOx.out]; simpa using hk0)
          clear hk0
          by_cases hl0 : last.size = 0
          · have hbl : bl last = [] := List.length_eq_zero_iff.1 (by rw [bl_len]; exact hl0)
            have hem : last.toList.isEmpty = true := by rw [Lib.toList_data]; show (bl last).isEmpty = true; rw [hbl]; rfl
            have HL0 := Lib.hid hbl; clear hl0 hbl
            go_wp2_with fail
            refine (HS.out _ (HT.out.of_below HB.out)).mono ?_
            rintro e w2 ⟨rfl, hw⟩
            have HB2 := Lib.hid (HB.out.trans (hw.mono HB.out.size)); have HO2 := Lib.hid (ownsRow_below HO.out hw)
            clear hw
            go_wp2_with (first | (at_builtin; refine wpList_append_zeros _ rfl _ _ 63 3 rfl w.heap.size 5 i0 Tryd.underlying63 Tryd.underlying3 hi hz0 hz1 hz2 _ out.length (byteCells out) rfl HO2.out s.size rfl (by omega) (by omega) HB2.out.size ?_; intro v' w4 hown' hgrow; obtain ⟨g, cap2, rfl, hcap⟩ := ownsRow_pos hown' (by omega)) | (refine wpList_copy_string _ rfl _ _ 63 9 rfl w.heap.size 5 i0 Tryd.underlying63 hi hz1 g out.length cap2 (cap2 - out.length) s rfl rfl (byteCells out) _ (by simp [byteCells]) hown' ?_; intro w5 hown5 hgrow5))
            have hg := (hown'.lt g rfl).1
            have hB5 := (HB2.out.grown hgrow HB2.out.size (fun j e => (HO2.out.lt j e).1)).grown hgrow5 (Nat.le_trans HB2.out.size hgrow.size) (fun j e => by cases e; exact hg)
            refine ⟨⟨k + 1, out ++ bl s, s, by omega, by go_num, rfl, join_all x ls k HXk.out HOkx.out HOk.out, join_eq out last s s x ls k HXk.out HBs.out (by rw [if_pos HL0.out]; exact HBs.out) HJ.out, ?_, hsz, ?_, ?_, hB5⟩, by simp [intOf]; omega⟩
            · rw [List.length_append, bl_len]; omega
            · constructor <;> omega
            · rw [byteCells_app, List.length_append, bl_len]; exact hown5
          · have hbl : bl last ≠ [] := by intro e; have := congrArg List.length e; rw [bl_len] at this; exact hl0 this
            have hem : last.toList.isEmpty = false := by
              rw [Lib.toList_data]; show (bl last).isEmpty = false
              cases h : bl last with
              | nil => exact absurd h hbl
              | cons => rfl
            have hSep : ∀ w, Tabs w → Calls Tryd.prog 39 #[.string last, .string s] w fun e w' => (∃ r : ByteArray, e = .returned (.string r) ∧ bl r = sepB (bl last) (bl s)) ∧ Below w.heap.size w w' := fun w h => separator_any last s w (by omega) (by omega) h
            have HSep := Lib.hid hSep
            have HL0 := Lib.hid hbl; clear hl0 hbl hSep
            go_wp2_with fail
            refine (HS.out _ (HT.out.of_below HB.out)).mono ?_
            rintro e w2 ⟨rfl, hw⟩
            have HB2 := Lib.hid (HB.out.trans (hw.mono HB.out.size)); have HO2 := Lib.hid (ownsRow_below HO.out hw)
            clear hw
            go_wp2_with fail
            refine (HSep.out _ (HT.out.of_below HB2.out)).mono ?_
            rintro e w3 ⟨⟨r, rfl, hr⟩, hw⟩
            have HB3 := Lib.hid (HB2.out.trans (hw.mono HB2.out.size)); have HO3 := Lib.hid (ownsRow_below HO2.out hw)
            clear hw
            have hrl := sepB_len (bl last) (bl s)
            rw [← hr, bl_len] at hrl
            have HR := Lib.hid hr; clear hr
            obtain ⟨P, hP⟩ : ∃ P, r ++ s = P := ⟨_, rfl⟩
            have hps : P.size = r.size + s.size := by rw [← hP]; exact ByteArray.size_append
            have hps1 : 1 ≤ P.size := by omega
            have hps2 : P.size ≤ 1001 := by omega
            have HBP : Hid (bl P = if bl last = [] then x else sepB (bl last) x ++ x) := Lib.hid (by
              rw [if_neg HL0.out, ← hP, bl_append, HR.out, HBs.out])
            clear hps
            go_wp2_with (first | (at_builtin; refine wpList_append_zeros _ rfl _ _ 63 3 rfl w.heap.size 5 i0 Tryd.underlying63 Tryd.underlying3 hi hz0 hz1 hz2 _ out.length (byteCells out) rfl HO3.out P.size rfl (by omega) (by omega) HB3.out.size ?_; intro v' w4 hown' hgrow; obtain ⟨g, cap2, rfl, hcap⟩ := ownsRow_pos hown' (by omega)) | (refine wpList_copy_string _ rfl _ _ 63 9 rfl w.heap.size 5 i0 Tryd.underlying63 hi hz1 g out.length cap2 (cap2 - out.length) P rfl rfl (byteCells out) _ (by simp [byteCells]) hown' ?_; intro w5 hown5 hgrow5))
            have hg := (hown'.lt g rfl).1
            have hB5 := (HB3.out.grown hgrow HB3.out.size (fun j e => (HO3.out.lt j e).1)).grown hgrow5 (Nat.le_trans HB3.out.size hgrow.size) (fun j e => by cases e; exact hg)
            refine ⟨⟨k + 1, out ++ bl P, s, by omega, by go_num, rfl, join_all x ls k HXk.out HOkx.out HOk.out, join_eq out last s P x ls k HXk.out HBs.out (HBP.out) HJ.out, ?_, hsz, ?_, ?_, hB5⟩, by simp [intOf]; omega⟩
            · rw [List.length_append, bl_len]; omega
            · constructor <;> omega
            · rw [byteCells_app, List.length_append, bl_len]; exact hown5
    · have hk1 : k = N := by omega
      have HJ2 : Hid (joinB ls = out) := Lib.hid (by
        have h1 := HOk.out
        have h2 := HJ.out
        rw [List.take_of_length_le (by have := HN.out; omega)] at h1
        rw [List.drop_eq_nil_of_le (by have := HN.out; omega)] at h2
        unfold joinB
        rw [if_pos h1, ← h2]
        simp [joinS])
      have hcv := conv_out HO.out
      go_wp2_with fail
      go_ret
      exact ⟨⟨_, rfl, by rw [HJ2.out]⟩, HB.out⟩
end Go.Proofs.YtolgoojlpmgblaaDoor

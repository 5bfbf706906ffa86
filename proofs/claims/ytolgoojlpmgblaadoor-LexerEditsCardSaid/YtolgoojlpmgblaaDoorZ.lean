/- sources makes the two texts; the law LexerTokens returns true. -/
import Derived.Test.YtolgoojlpmgblaaDoorY
import Derived.Deep.RegionHeld3
import Derived.WalkKit
import Derived.WalkSpells
import Derived.WalkLawsBesides
import Derived.Outline
import Derived.Lib.Hide
import Derived.Handy
namespace Go.Proofs.YtolgoojlpmgblaaDoor
open Go.RowKit

/-- What lasts in a law: two strings in a row, the tables, old memory. -/
structure Src (w : World) (B : Nat) (rs : Nat → ByteArray) (w' : World) : Prop where
  cell : ∀ k, k < 2 → w'.cell? ⟨B, k, none⟩ = some (.string (rs k))
  tabs : Tabs w'
  blw : Below w.heap.size w w'
  lt : B < w'.heap.size
theorem Src.below {w : World} {B : Nat} {rs : Nat → ByteArray} {a b : World} (h : Src w B rs a) (hb : Below a.heap.size a b) : Src w B rs b :=
  ⟨fun k hk => (hb.cell (p := ⟨B, k, none⟩) h.lt).trans (h.cell k hk), h.tabs.of_below hb, h.blw.trans (hb.mono h.blw.size), Nat.lt_of_lt_of_le h.lt hb.size⟩
theorem Src.drew {w : World} {B : Nat} {rs : Nat → ByteArray} {a : World} (h : Src w B rs a) : Src w B rs a.drew := h.below (Below.refl _ _).drew

theorem sources_any (s : ByteArray) (vl : Value) (zs : List Int) (w : World) (hs : s.size ≤ maxLen) (hv : IsInts w vl zs) (hl : zs.length ≤ maxLen) (hT : Tabs w) :
    Calls Tryd.prog 11 #[.string s, vl] w fun e w' => (∃ B rs, e = .returned (.slice (some ⟨B, 0, none⟩) 2 2) ∧ Src w B rs w' ∧ ∀ k, (rs k).size ≤ 340) ∧ True := by
  have HS := Lib.hid hs; have HV := Lib.hid hv; have HL := Lib.hid hl; have HT := Lib.hid hT
  clear hs hv hl hT
  go_enter Tryd.func11, Tryd.ntmps11
  go_wp2_with fail
  refine (short_any s 60 _ HS.out).mono ?_
  rintro e w1 ⟨⟨r, rfl, hr, hr2⟩, rfl⟩
  go_wp2_with fail
  refine (source_any vl zs _ HV.out HL.out).mono ?_
  rintro e w2 ⟨⟨r2, rfl, hr3⟩, hb⟩
  go_wp2_with fail
  go_ret
  refine ⟨⟨w2.heap.size, fun k => if k = 0 then r else r2, rfl, ⟨fun k hk => ?_, (HT.out.of_below hb).of_below ((Below.refl _ _).alloc (Nat.le_refl _) _), hb.alloc hb.size _, by simp⟩, fun k => ?_⟩, trivial⟩
  · rw [cell_of_row _ w2.heap.size k _ _ _ (World.alloc_heap_new w2 _)]
    match k, hk with
    | 0, _ => rfl
    | 1, _ => rfl
  · dsimp only; split <;> omega

theorem toks_count (l : Bs) (a : Nat) : (toks l a).length ≤ l.length := by
  obtain ⟨n, hn⟩ : ∃ n, l.length ≤ n := ⟨_, Nat.le_refl _⟩
  induction n generalizing l a with
  | zero => rw [List.eq_nil_of_length_eq_zero (by omega : l.length = 0)]; simp [toks_nil]
  | succ n ih =>
    cases l with
    | nil => simp [toks_nil]
    | cons x l =>
      rw [toks_cons _ _ (by simp)]
      have h1 := nxt_pos (x :: l) (by simp)
      have h2 := nxt_le (x :: l)
      have := ih ((x :: l).drop (nxt (x :: l)).2) (a + (nxt (x :: l)).2) (by simp only [List.length_drop] at hn ⊢; omega)
      simp only [List.length_drop, List.length_cons] at this h2 ⊢
      omega

theorem same_toks (r : ByteArray) (v2 v3 : Value) (w2 w3 : World) (B2 B3 : Nat) (hr : r.size ≤ 340) (h2 : w2.ownsRow B2 31 3 v2 (toks (bl r) 0).length (tokCs (toks (bl r) 0))) (h3 : w3.ownsRow B3 31 3 v3 (toks (bl r) 0).length (tokCs (toks (bl r) 0))) (hb : Below w2.heap.size w2 w3) :
    Calls Tryd.prog 12 #[v2, v3] w3 fun e w' => e = .returned (.bool true) ∧ Below w3.heap.size w3 w' := by
  have hn : (toks (bl r) 0).length ≤ 1000000 := by have := toks_count (bl r) 0; rw [bl_len] at this; omega
  refine (same_ref v2 v3 _ _ _ (reads_of_owns (ownsRow_below h2 hb)) (reads_of_owns h3) hn hn).mono ?_
  rintro e w' ⟨rfl, hb'⟩
  exact ⟨by simp, hb'⟩

theorem keep_drew {w : World} {B : Nat} {rs : Nat → ByteArray} {k : Nat} {r : ByteArray} {a : World} (h : a.cell? ⟨B, k, none⟩ = some (.string r) ∧ Src w B rs a) : a.drew.cell? ⟨B, k, none⟩ = some (.string r) ∧ Src w B rs a.drew := ⟨h.1, h.2.drew⟩
theorem keep_below {w : World} {B : Nat} {rs : Nat → ByteArray} {k : Nat} {r : ByteArray} {a b : World} (h : a.cell? ⟨B, k, none⟩ = some (.string r) ∧ Src w B rs a) (hb : Below a.heap.size a b) : b.cell? ⟨B, k, none⟩ = some (.string r) ∧ Src w B rs b :=
  ⟨(hb.cell (p := ⟨B, k, none⟩) h.2.lt).trans h.1, h.2.below hb⟩

set_option maxHeartbeats 1000000 in
theorem lexerTokens_walk (s : ByteArray) (vl : Value) (zs : List Int) (w : World) (hs : s.size ≤ maxLen) (hv : IsInts w vl zs) (hl : zs.length ≤ maxLen) (hT : Tabs w) :
    Calls Tryd.prog 3 #[.string s, vl] w fun e w' => e = .returned (.bool true) ∧ Below w.heap.size w w' := by
  have HS := Lib.hid (sources_any s vl zs w hs hv hl hT)
  clear hs hv hl hT
  go_enter Tryd.func3, Tryd.ntmps3
  go_wp2_with fail
  refine HS.out.mono ?_
  rintro e w1 ⟨⟨B, rs, rfl, hS, hR⟩, _⟩
  have HR := Lib.hid hR; clear hR
  go_wp2_with fail
  go_loopw [6] (fun i wr => ∃ k : Nat, k ≤ 2 ∧ i = .int .i64 k ∧ Src w B rs wr) (fun i _ => 2 - (intOf i).toNat)
  case atStart => exact ⟨0, by omega, rfl, hS⟩
  case round =>
    obtain ⟨k, hk, rfl, hS⟩ := hrel
    by_cases hlt : k < 2
    · obtain ⟨r, hr⟩ : ∃ r, rs k = r := ⟨_, rfl⟩
      have hc : wr.cell? ⟨B, k, none⟩ = some (.string r) := by rw [← hr]; exact hS.cell k hlt
      have hrs : r.size < 4294967281 := by have := HR.out k; rw [hr] at this; omega
      have hrc : r.size ≤ 340 := by have := HR.out k; rwa [hr] at this
      go_wp2_with fail
      go_region_held3 (fun w' => w'.cell? ⟨B, k, none⟩ = some (.string r) ∧ Src w B rs w') (first | exact keep_drew ⟨by assumption, by assumption⟩ | exact keep_below (by assumption) (by assumption) | exact keep_below ⟨by assumption, by assumption⟩ (by assumption))
        (first | (go_at_call 13; refine (tokens_any r hrs _ (Src.tabs (And.right (by assumption)))).mono ?_; rintro e w2 ⟨v2, rfl, hown2, hb2⟩) | (go_at_call 14; refine (tokens_ref r hrs _).mono ?_; rintro e w3 ⟨v3, rfl, hown3, hb3⟩) | (go_at_call 12; refine (same_toks r _ _ _ _ _ _ hrc hown2 hown3 hb3).mono ?_; rintro e w4 ⟨rfl, hb4⟩))
      rename_i hHeld
      have hS4 := hHeld.2
      clear hHeld
      go_wp2_with fail
      exact ⟨⟨k + 1, by omega, by go_num, hS4⟩, by simp [intOf]; omega⟩
    · go_wp2_with fail
      refine (lives_any _ hS.tabs).mono ?_
      rintro e w2 ⟨rfl, hb⟩
      have hB := hS.below hb
      go_wp2_with fail
      go_ret
      exact ⟨rfl, hB.blw⟩
end Go.Proofs.YtolgoojlpmgblaaDoor

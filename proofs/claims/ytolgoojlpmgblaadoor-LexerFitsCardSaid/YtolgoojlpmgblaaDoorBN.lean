/- The law LexerFits returns true. -/
import Derived.Test.YtolgoojlpmgblaaDoorBM
import Derived.Test.YtolgoojlpmgblaaDoorLxG
import Derived.Test.YtolgoojlpmgblaaDoorBD
namespace Go.Proofs.YtolgoojlpmgblaaDoor
open Go.RowKit

/-- The tables and the error variable; old memory. -/
structure Env (w0 w : World) : Prop where
  tabs : Tabs w
  err : RangeAt w
  blw : Below w0.heap.size w0 w
theorem Env.below {w0 a b : World} (h : Env w0 a) (hb : Below a.heap.size a b) : Env w0 b := ⟨h.tabs.of_below hb, h.err.below hb h.tabs.size, h.blw.trans (hb.mono h.blw.size)⟩
theorem Env.drewN {w0 a : World} (h : Env w0 a) (n : Nat) : Env w0 (a.drewN n) := h.below (below_drewN _ _)

/-- A token in a block of its own. -/
def TokAt (G : Nat) (a b c : Value) (w : World) : Prop := w.cell? ⟨G, 0, none⟩ = some a ∧ w.cell? ⟨G, 1, none⟩ = some b ∧ w.cell? ⟨G, 2, none⟩ = some c
theorem env_drew {w0 a : World} {G : Nat} {x y z : Value} (h : a.cell? ⟨G, 0, none⟩ = some x ∧ a.cell? ⟨G, 1, none⟩ = some y ∧ a.cell? ⟨G, 2, none⟩ = some z ∧ Env w0 a) :
    a.drew.cell? ⟨G, 0, none⟩ = some x ∧ a.drew.cell? ⟨G, 1, none⟩ = some y ∧ a.drew.cell? ⟨G, 2, none⟩ = some z ∧ Env w0 a.drew := ⟨h.1, h.2.1, h.2.2.1, h.2.2.2.below (Below.refl _ _).drew⟩
theorem env_below {w0 a b : World} {p q r : Addr} {x y z : Value} (h : a.cell? p = some x ∧ a.cell? q = some y ∧ a.cell? r = some z ∧ Env w0 a) (hb : Below a.heap.size a b) :
    b.cell? p = some x ∧ b.cell? q = some y ∧ b.cell? r = some z ∧ Env w0 b :=
  ⟨(hb.cell (World.block_lt_of_cell? a _ h.1)).trans h.1, (hb.cell (World.block_lt_of_cell? a _ h.2.1)).trans h.2.1, (hb.cell (World.block_lt_of_cell? a _ h.2.2.1)).trans h.2.2.1, h.2.2.2.below hb⟩

/-- A token with another kind. -/
def setk (m : Nat) (t : Tok) : Tok := { t with kind := m }
theorem tokCs_setk (l r : List Tok) (x : Tok) (m : Nat) : (tokCs (l ++ x :: r)).set (l.length * 3) (.int .i64 (m : Int)) = tokCs (l ++ setk m x :: r) := by
  have h1 : ∀ y : Tok, tokCs (l ++ y :: r) = tokCs l ++ (tokC y ++ tokCs r) := fun y => by simp [tokCs]
  rw [h1, h1, List.set_append, if_neg (by rw [tokCs_length]; omega), tokCs_length, Nat.sub_self]
  rfl

/-- The row that the law's loop works on: the first k tokens with another kind. -/
structure Mix (m : Nat) (ts : List Tok) (w0 : World) (B : Nat) (xv : Value) (k : Nat) (w : World) : Prop where
  row : w.ownsRow B 31 3 xv ts.length (tokCs ((ts.take k).map (setk m) ++ ts.drop k))
  env : Env w0 w
  low : w0.heap.size ≤ B
  old : Tabs w0 ∧ RangeAt w0

theorem Mix.below {m : Nat} {ts : List Tok} {w0 a b : World} {B k : Nat} {xv : Value} (h : Mix m ts w0 B xv k a) (hb : Below a.heap.size a b) : Mix m ts w0 B xv k b := ⟨ownsRow_below h.row hb, h.env.below hb, h.low, h.old⟩

theorem mix_at (m : Nat) (sb : List Tok) (j : Nat) (x : Tok) (hx : sb[j]? = some x) :
    ((sb.take j).map (setk m) ++ sb.drop j)[j]? = some x ∧ ((sb.take (j + 1)).map (setk m) ++ sb.drop (j + 1))[j]? = some (setk m x) ∧
      (tokCs ((sb.take j).map (setk m) ++ sb.drop j)).set (j * 3) (.int .i64 (m : Int)) = tokCs ((sb.take (j + 1)).map (setk m) ++ sb.drop (j + 1)) := by
  have hj : j < sb.length := (List.getElem?_eq_some_iff.1 hx).1
  have hl : ((sb.take j).map (setk m)).length = j := by simp; omega
  have hd : sb.drop j = x :: sb.drop (j + 1) := by
    rw [List.drop_eq_getElem_cons hj]
    rw [List.getElem?_eq_getElem hj] at hx
    cases hx; rfl
  have ht : (sb.take (j + 1)).map (setk m) ++ sb.drop (j + 1) = (sb.take j).map (setk m) ++ setk m x :: sb.drop (j + 1) := by
    rw [List.take_add_one, hx]; simp
  refine ⟨?_, ?_, ?_⟩
  · rw [hd, List.getElem?_append_right (by omega), hl]; simp
  · rw [ht, List.getElem?_append_right (by omega), hl]; simp
  · rw [ht, hd]
    have := tokCs_setk ((sb.take j).map (setk m)) (sb.drop (j + 1)) x m
    rw [hl] at this
    exact this

theorem Mix.at {m : Nat} {ts : List Tok} {w0 w : World} {B k cap : Nat} {p : Option Addr} (h : Mix m ts w0 B (.slice p ts.length cap) k w) (j : Nat) (y : Tok) (hy : ((ts.take k).map (setk m) ++ ts.drop k)[j]? = some y) :
    ∃ g, p = some ⟨g, 0, none⟩ ∧ w.cell? ⟨g, j * 3, none⟩ = some (.int .i64 y.kind) ∧ w.cell? ⟨g, j * 3 + 1, none⟩ = some (.string ⟨y.text.toArray⟩) ∧ w.cell? ⟨g, j * 3 + 2, none⟩ = some (.int .i64 y.at') := by
  have hl : ((ts.take k).map (setk m) ++ ts.drop k).length = ts.length := by simp; omega
  have hIs : IsToks w (.slice p ts.length cap) ((ts.take k).map (setk m) ++ ts.drop k) := by
    have := reads_of_owns h.row
    unfold IsToks
    rw [hl]; exact this
  obtain ⟨g, cap', he, c0, c1, c2⟩ := hIs.at j y hy
  simp only [Value.slice.injEq] at he
  exact ⟨g, he.1, c0, c1, c2⟩

theorem Mix.stored {m : Nat} {ts : List Tok} {w0 w : World} {B cap j g : Nat} (h : Mix m ts w0 B (.slice (some ⟨g, 0, none⟩) ts.length cap) j w) (x : Tok) (hx : ts[j]? = some x) :
    Mix m ts w0 B (.slice (some ⟨g, 0, none⟩) ts.length cap) (j + 1) (w.setCell ⟨g, j * 3, none⟩ (.int .i64 (m : Int))) := by
  obtain ⟨s1, s2⟩ := h.row.stored (j * 3) (.int .i64 (m : Int))
  rw [(mix_at m ts j x hx).2.2] at s1
  have hg := (h.row.lt g rfl).1
  have hb : Below w0.heap.size w0 (w.setCell ⟨g, j * 3, none⟩ (.int .i64 (m : Int))) := h.env.blw.setCell (p := ⟨g, j * 3, none⟩) (Nat.le_trans h.low hg) _
  exact ⟨s1, ⟨h.old.1.of_below hb, h.old.2.below hb h.old.1.size, hb⟩, h.low, h.old⟩

theorem mix_drew {m : Nat} {ts : List Tok} {w0 a : World} {B k : Nat} {xv : Value} {p q r : Addr} {x y z : Value} (h : a.cell? p = some x ∧ a.cell? q = some y ∧ a.cell? r = some z ∧ Mix m ts w0 B xv k a) :
    a.drew.cell? p = some x ∧ a.drew.cell? q = some y ∧ a.drew.cell? r = some z ∧ Mix m ts w0 B xv k a.drew := ⟨h.1, h.2.1, h.2.2.1, h.2.2.2.below (Below.refl _ _).drew⟩
theorem mix_below {m : Nat} {ts : List Tok} {w0 a b : World} {B k : Nat} {xv : Value} {p q r : Addr} {x y z : Value} (h : a.cell? p = some x ∧ a.cell? q = some y ∧ a.cell? r = some z ∧ Mix m ts w0 B xv k a) (hb : Below a.heap.size a b) :
    b.cell? p = some x ∧ b.cell? q = some y ∧ b.cell? r = some z ∧ Mix m ts w0 B xv k b :=
  ⟨(hb.cell (World.block_lt_of_cell? a _ h.1)).trans h.1, (hb.cell (World.block_lt_of_cell? a _ h.2.1)).trans h.2.1, (hb.cell (World.block_lt_of_cell? a _ h.2.2.1)).trans h.2.2.1, h.2.2.2.below hb⟩

set_option maxRecDepth 100000 in
set_option maxHeartbeats 4000000 in
theorem lexerFits_walk (word : ByteArray) (kd at' : Int) (vl : Value) (zs : List Int) (w : World) (hs : word.size ≤ maxLen) (hk1 : -9223372036854775808 ≤ kd ∧ kd ≤ 9223372036854775807) (hv : IsInts w vl zs) (hl : zs.length ≤ maxLen) (hT : Tabs w) (hE : RangeAt w) :
    Calls Tryd.prog 10 #[.string word, .int .i64 kd, .int .i64 at', vl] w fun e w' => e = .returned (.bool true) ∧ Below w.heap.size w w' := by
  have HS := Lib.hid hs; have HV := Lib.hid hv; have HL := Lib.hid hl; have HE := Lib.hid (show Env w w from ⟨hT, hE, Below.refl _ _⟩); have HK := Lib.hid hk1
  clear hs hv hl hT hE hk1
  go_enter Tryd.func10, Tryd.ntmps10
  go_wp2_with fail
  refine (short_any word 100 _ HS.out).mono ?_
  rintro e w1 ⟨⟨s, rfl, hr, hr2⟩, rfl⟩
  clear hr
  go_wp2_with fail
  have hB1 : Below w.heap.size w (w.alloc (.cells #[.int .i64 kd, .string s, .int .i64 at'] 31)) := (Below.refl _ _).alloc (Nat.le_refl _) _
  have c0 : (w.alloc (.cells #[.int .i64 kd, .string s, .int .i64 at'] 31)).cell? ⟨w.heap.size, 0, none⟩ = some (.int .i64 kd) := by rw [cell_of_row _ w.heap.size 0 _ _ _ (World.alloc_heap_new w _)]; rfl
  have c1 : (w.alloc (.cells #[.int .i64 kd, .string s, .int .i64 at'] 31)).cell? ⟨w.heap.size, 1, none⟩ = some (.string s) := by rw [cell_of_row _ w.heap.size 1 _ _ _ (World.alloc_heap_new w _)]; rfl
  have c2 : (w.alloc (.cells #[.int .i64 kd, .string s, .int .i64 at'] 31)).cell? ⟨w.heap.size, 2, none⟩ = some (.int .i64 at') := by rw [cell_of_row _ w.heap.size 2 _ _ _ (World.alloc_heap_new w _)]; rfl
  have hE1 := HE.out.below hB1
  clear hB1
  generalize w.heap.size = G at c0 c1 c2 ⊢
  generalize w.alloc (.cells #[.int .i64 kd, .string s, .int .i64 at'] 31) = W1 at *
  obtain ⟨K, hK⟩ : ∃ K, isKw (bl s) = K := ⟨_, rfl⟩
  obtain ⟨F, hF⟩ : ∃ F, fitsB kd (bl s) = F := ⟨_, rfl⟩
  have h32 : ∀ a, Env w a → Calls Tryd.prog 32 #[.string s] a fun e w' => e = .returned (.bool K) ∧ Below a.heap.size a w' := fun a h => by
    refine (isKeyword_any s a h.tabs).mono ?_
    rintro e w' ⟨rfl, q, rfl⟩
    exact ⟨by rw [hK], below_drewN _ _⟩
  have h33 : ∀ a, Calls Tryd.prog 33 #[.string s] a fun e w' => e = .returned (.bool K) ∧ Below a.heap.size a w' := fun a => by rw [← hK]; exact keyword_ref s a
  have h34 : ∀ a, Env w a → Calls Tryd.prog 34 #[.agg #[.int .i64 kd, .string s, .int .i64 at']] a fun e w' => e = .returned (.bool F) ∧ Below a.heap.size a w' := fun a h => by rw [← hF]; exact fits_any kd at' s a (by omega) h.tabs h.err
  have h35 : ∀ a, Calls Tryd.prog 35 #[.agg #[.int .i64 kd, .string s, .int .i64 at']] a fun e w' => e = .returned (.bool F) ∧ Below a.heap.size a w' := fun a => by rw [← hF]; exact refFits_any kd at' s a (by omega)
  have H32 := Lib.hid h32; have H33 := Lib.hid h33; have H34 := Lib.hid h34; have H35 := Lib.hid h35
  have hqK : (K != K) = false := by simp
  have hqF : (F != F) = false := by simp
  clear h32 h33 h34 h35 hK hF
  go_region_held3 (fun w' => w'.cell? ⟨G, 0, none⟩ = some (.int .i64 kd) ∧ w'.cell? ⟨G, 1, none⟩ = some (.string s) ∧ w'.cell? ⟨G, 2, none⟩ = some (.int .i64 at') ∧ Env w w') (first | exact env_drew ⟨by assumption, by assumption, by assumption, by assumption⟩ | exact env_below (by assumption) (by assumption) | exact env_below ⟨by assumption, by assumption, by assumption, by assumption⟩ (by assumption))
    (first | (go_at_call 32; refine (H32.out _ (And.right (And.right (And.right (by assumption : _ ∧ _ ∧ _ ∧ Env w _))))).mono ?_; rintro e w2 ⟨rfl, hb2⟩) | (go_at_call 33; refine (H33.out _).mono ?_; rintro e w3 ⟨rfl, hb3⟩) | (go_at_call 34; refine (H34.out _ (And.right (And.right (And.right (by assumption : _ ∧ _ ∧ _ ∧ Env w _))))).mono ?_; rintro e w4 ⟨rfl, hb4⟩) | (go_at_call 35; refine (H35.out _).mono ?_; rintro e w5 ⟨rfl, hb5⟩))
  rename_i hHeld
  have HE5 := Lib.hid hHeld.2.2.2
  clear hHeld hb2 hb3 hb4 hb5 c0 c1 c2 hE1 hqK hqF
  go_wp2_with fail
  refine (source_any vl zs _ (HV.out.below HE5.out.blw) HL.out).mono ?_
  rintro e w6 ⟨⟨r, rfl, hr⟩, hb6⟩
  have HE6 := Lib.hid (HE5.out.below hb6)
  clear hb6
  go_wp2_with fail
  refine (tokens_ref r (by omega) _).mono ?_
  rintro e w7 ⟨xv, rfl, hown7, hb7⟩
  have HE7 := Lib.hid (HE6.out.below hb7)
  have HOwn := Lib.hid (hown7.mono HE6.out.blw.size)
  have hn := toks_count (bl r) 0
  have HW := Lib.hid (toks_whole (bl r) 0).2
  have htl := toks_text_le (bl r) 0
  rw [bl_len] at hn htl
  obtain ⟨ts, hts⟩ : ∃ ts, toks (bl r) 0 = ts := ⟨_, rfl⟩
  rw [hts] at hn HW htl HOwn
  have HTl := Lib.hid htl
  have hrng := aroundI_rng kd 9 (by omega)
  obtain ⟨m, hm⟩ : ∃ m : Nat, aroundI kd 9 = m := ⟨(aroundI kd 9).toNat, by omega⟩
  have hA : ∀ w, Calls Tryd.prog 28 #[.int .i64 kd, .int .i64 9] w fun e w' => e = .returned (.int .i64 m) ∧ w = w' := by
    intro w; have := around_any kd 9 w HK.out.1 HK.out.2 (by omega) (by omega); rwa [hm] at this
  have HA := Lib.hid hA
  have hMx : Mix m ts w w.heap.size xv 0 w7 := ⟨by simpa using HOwn.out, HE7.out, Nat.le_refl _, ⟨HE.out.tabs, HE.out.err⟩⟩
  have HMx := Lib.hid hMx
  clear hown7 hb7 htl hts hA hm hrng hMx
  obtain ⟨px, capx, rfl⟩ : ∃ p cap, xv = .slice p ts.length cap := by
    rcases HOwn.out.2 with ⟨rfl, h0⟩ | ⟨g, cap, cur, rfl, _⟩
    · exact ⟨none, 0, by rw [h0]⟩
    · exact ⟨_, _, rfl⟩
  go_wp2_with fail
  go_loopw [12] (fun i wr => ∃ j : Nat, j ≤ ts.length ∧ i = .int .i64 j ∧ Mix m ts w w.heap.size (.slice px ts.length capx) j wr) (fun i _ => ts.length - (intOf i).toNat)
  case atStart => exact ⟨0, by omega, rfl, HMx.out⟩
  case round =>
    obtain ⟨j, hj, rfl, hM⟩ := hrel
    by_cases hjl : j < ts.length
    · obtain ⟨x, hx⟩ : ∃ x, ts[j]? = some x := ⟨_, List.getElem?_eq_getElem hjl⟩
      obtain ⟨m1, m2, _⟩ := mix_at m ts j x hx
      obtain ⟨g, rfl, c0, c1, c2⟩ := hM.at j x m1
      obtain ⟨e1, e2, e3⟩ := HW.out j x hx
      have hxl := HTl.out x (List.mem_of_getElem? hx)
      obtain ⟨X, hX⟩ : ∃ X : ByteArray, (⟨x.text.toArray⟩ : ByteArray) = X := ⟨_, rfl⟩
      have hXb : bl X = x.text := by rw [← hX]
      rw [hX] at c1
      have hXs : X.size < 4294967281 := by rw [← bl_len, hXb]; omega
      have hone := (toks_len_one x.text 0).1 (by rw [e3]; rfl)
      have hkx : (nxt x.text).1 = x.kind := by
        have := toks_one x.text 0 hone.1 hone.2
        rw [e3] at this
        simpa using this.symm
      obtain ⟨K, hK⟩ : ∃ K, isKw (bl X) = K := ⟨_, rfl⟩
      have h7 : ((x.kind : Int) == 7) = K := by
        rw [← hK, hXb, kw_kind x.text hone.1 hone.2, hkx, Bool.eq_iff_iff, beq_iff_eq, decide_eq_true_eq]; omega
      obtain ⟨F, hF⟩ : ∃ F, fitsB x.kind (bl X) = F := ⟨_, rfl⟩
      obtain ⟨F2, hF2⟩ : ∃ F2, fitsB m (bl X) = F2 := ⟨_, rfl⟩
      have h32 : ∀ a, Env w a → Calls Tryd.prog 32 #[.string X] a fun e w' => e = .returned (.bool K) ∧ Below a.heap.size a w' := fun a h => by
        refine (isKeyword_any X a h.tabs).mono ?_
        rintro e w' ⟨rfl, q, rfl⟩
        exact ⟨by rw [hK], below_drewN _ _⟩
      have h34 : ∀ a, Env w a → Calls Tryd.prog 34 #[.agg #[.int .i64 x.kind, .string X, .int .i64 x.at']] a fun e w' => e = .returned (.bool F) ∧ Below a.heap.size a w' := fun a h => by rw [← hF]; exact fits_any x.kind x.at' X a hXs h.tabs h.err
      have h35 : ∀ a, Calls Tryd.prog 35 #[.agg #[.int .i64 x.kind, .string X, .int .i64 x.at']] a fun e w' => e = .returned (.bool F) ∧ Below a.heap.size a w' := fun a => by rw [← hF]; exact refFits_any x.kind x.at' X a hXs
      have g34 : ∀ a, Env w a → Calls Tryd.prog 34 #[.agg #[.int .i64 m, .string X, .int .i64 x.at']] a fun e w' => e = .returned (.bool F2) ∧ Below a.heap.size a w' := fun a h => by rw [← hF2]; exact fits_any m x.at' X a hXs h.tabs h.err
      have g35 : ∀ a, Calls Tryd.prog 35 #[.agg #[.int .i64 m, .string X, .int .i64 x.at']] a fun e w' => e = .returned (.bool F2) ∧ Below a.heap.size a w' := fun a => by rw [← hF2]; exact refFits_any m x.at' X a hXs
      have HX := Lib.hid hX; have Hx := Lib.hid hx; have HM2 := Lib.hid m2; have HJ := Lib.hid hjl
      have H32 := Lib.hid h32; have H34 := Lib.hid h34; have H35 := Lib.hid h35; have G34 := Lib.hid g34; have G35 := Lib.hid g35
      have hqK : (K != K) = false := by simp
      have hqF : (F != F) = false := by simp
      have hqF2 : (F2 != F2) = false := by simp
      have hjm : j ≤ 340 := by omega
      have hi1 : (0 : Int) ≤ (j : Int) := by omega
      have hi2 : (j : Int) < ts.length := by omega
      clear h32 h34 h35 g34 g35 hK hF hF2 hX hXb hone hkx e1 e2 e3 m1 m2 hx hxl
      go_wp2_with fail
      go_region_held3 (fun w' => w'.cell? ⟨g, j * 3, none⟩ = some (.int .i64 x.kind) ∧ w'.cell? ⟨g, j * 3 + 1, none⟩ = some (.string X) ∧ w'.cell? ⟨g, j * 3 + 2, none⟩ = some (.int .i64 x.at') ∧ Mix m ts w w.heap.size (.slice (some ⟨g, 0, none⟩) ts.length capx) j w') (first | exact mix_drew ⟨by assumption, by assumption, by assumption, by assumption⟩ | exact mix_below (by assumption) (by assumption) | exact mix_below ⟨by assumption, by assumption, by assumption, by assumption⟩ (by assumption))
        (first | (go_at_call 32; refine (H32.out _ (And.right (And.right (And.right (by assumption : _ ∧ _ ∧ _ ∧ Mix m ts w w.heap.size (.slice (some ⟨g, 0, none⟩) ts.length capx) j _)))).env).mono ?_; rintro e w12 ⟨rfl, hb12⟩) | (go_at_call 34; refine (H34.out _ (And.right (And.right (And.right (by assumption : _ ∧ _ ∧ _ ∧ Mix m ts w w.heap.size (.slice (some ⟨g, 0, none⟩) ts.length capx) j _)))).env).mono ?_; rintro e w14 ⟨rfl, hb14⟩) | (go_at_call 35; refine (H35.out _).mono ?_; rintro e w15 ⟨rfl, hb15⟩))
      rename_i hHeld
      have HMr := Lib.hid hHeld.2.2.2
      have hfz := HMr.out.row.frozenAt (j * 3)
      have ck := hHeld.1
      clear hHeld hb12 hb14 hb15 c0 c1 c2 hM
      go_wp2_with fail
      refine (HA.out _).mono ?_
      rintro e w16 ⟨rfl, rfl⟩
      go_wp2_with fail
      have hMs := HMr.out.stored x Hx.out
      obtain ⟨g', he, d0, d1, d2⟩ := hMs.at j _ HM2.out
      cases he
      rw [show (setk m x).text = x.text from rfl, HX.out] at d1
      have d0' := d0
      have d2' := d2
      rw [show (setk m x).kind = m from rfl] at d0'
      rw [show (setk m x).at' = x.at' from rfl] at d2'
      clear d0 d2 ck hfz
      generalize w12.setCell ⟨g, j * 3, none⟩ (.int .i64 (m : Int)) = W3 at *
      go_region_held3 (fun w' => w'.cell? ⟨g, j * 3, none⟩ = some (.int .i64 m) ∧ w'.cell? ⟨g, j * 3 + 1, none⟩ = some (.string X) ∧ w'.cell? ⟨g, j * 3 + 2, none⟩ = some (.int .i64 x.at') ∧ Mix m ts w w.heap.size (.slice (some ⟨g, 0, none⟩) ts.length capx) (j + 1) w') (first | exact mix_drew ⟨by assumption, by assumption, by assumption, by assumption⟩ | exact mix_below (by assumption) (by assumption) | exact mix_below ⟨by assumption, by assumption, by assumption, by assumption⟩ (by assumption))
        (first | (go_at_call 34; refine (G34.out _ (And.right (And.right (And.right (by assumption : _ ∧ _ ∧ _ ∧ Mix m ts w w.heap.size (.slice (some ⟨g, 0, none⟩) ts.length capx) (j + 1) _)))).env).mono ?_; rintro e w24 ⟨rfl, hb24⟩) | (go_at_call 35; refine (G35.out _).mono ?_; rintro e w25 ⟨rfl, hb25⟩))
      rename_i hHeld2
      have HMe := Lib.hid hHeld2.2.2.2
      clear hHeld2 hMs d0' d1 d2'
      go_wp2_with fail
      have hjl := HJ.out
      exact ⟨⟨j + 1, by omega, by go_num, HMe.out⟩, by simp [intOf]; omega⟩
    · have HM := Lib.hid hM; clear hM
      go_wp2_with fail
      refine (lives_any _ HM.out.env.tabs).mono ?_
      rintro e w2 ⟨rfl, hb⟩
      have hB := HM.out.env.below hb
      go_wp2_with fail
      go_ret
      exact ⟨rfl, hB.blw⟩
end Go.Proofs.YtolgoojlpmgblaaDoor

/- The law LexerLines returns true. -/
import Derived.Test.YtolgoojlpmgblaaDoorBC
import Derived.Deep.Onto
namespace Go.Proofs.YtolgoojlpmgblaaDoor
open Go.RowKit

theorem isToks_nil (w : World) : IsToks w (.slice none 0 0) [] := ⟨none, 0, rfl, fun h => by simp at h⟩

theorem toks_at_le (l : Bs) (a : Nat) : ∀ x ∈ toks l a, x.at' ≤ a + l.length := by
  refine toks_ind (P := fun l a ts => ∀ x ∈ ts, x.at' ≤ a + l.length) ?_ ?_ l a
  · intro a x hx; cases hx
  · intro l a hl ih x hx
    rcases List.mem_cons.1 hx with e | e
    · subst e; exact Nat.le_add_right _ _
    · have := ih x e
      have h2 := nxt_le l
      rw [List.length_drop] at this
      omega

theorem toks_text_le (l : Bs) (a : Nat) : ∀ x ∈ toks l a, x.text.length ≤ l.length := by
  refine toks_ind (P := fun l a ts => ∀ x ∈ ts, x.text.length ≤ l.length) ?_ ?_ l a
  · intro a x hx; cases hx
  · intro l a hl ih x hx
    rcases List.mem_cons.1 hx with e | e
    · subst e; simp only [List.length_take]; omega
    · have := ih x e
      rw [List.length_drop] at this
      omega

theorem solid_shift (n : Nat) (ts : List Tok) : solid (ts.map (shift n)) = (solid ts).map (shift n) := by
  unfold solid
  rw [List.filter_map]
  rfl

theorem tokCs_length (l : List Tok) : (tokCs l).length = l.length * 3 := by
  induction l with
  | nil => rfl
  | cons x l ih => simp only [tokCs, List.flatMap_cons, List.length_append] at ih ⊢; simp [tokC, ih]; omega
theorem tokCs_app (l r : List Tok) : tokCs (l ++ r) = tokCs l ++ tokCs r := by simp [tokCs]

theorem tokCs_set (l r : List Tok) (x : Tok) (n : Nat) : (tokCs (l ++ x :: r)).set (l.length * 3 + 2) (.int .i64 ((x.at' + n : Nat) : Int)) = tokCs (l ++ shift n x :: r) := by
  have h1 : ∀ y : Tok, tokCs (l ++ y :: r) = tokCs l ++ (tokC y ++ tokCs r) := fun y => by simp [tokCs]
  rw [h1, h1, List.set_append, if_neg (by rw [tokCs_length]; omega), tokCs_length, show l.length * 3 + 2 - l.length * 3 = 2 by omega]
  rfl

theorem two_cells {w : World} {A B : Nat} {ra rb : Nat → ByteArray} {v : Value} {ts : List Tok} {a : World} {k : Nat} {r1 r2 : ByteArray} (h : Two w A B ra rb v ts a) (hk : k < 2) (h1 : ra k = r1) (h2 : rb k = r2) :
    a.cell? ⟨A, k, none⟩ = some (.string r1) ∧ a.cell? ⟨B, k, none⟩ = some (.string r2) := ⟨by rw [← h1]; exact h.a.cell k hk, by rw [← h2]; exact h.b.cell k hk⟩

/-- The rows that the law's inner loop works on: what is wanted, and the second text's tokens, each in a row of its own. -/
structure Work (n : Nat) (sa sb : List Tok) (w0 : World) (wv mv : Value) (k k2 : Nat) (w : World) : Prop where
  want : w.ownsRow w0.heap.size 31 3 wv (sa ++ (sb.take k).map (shift n)).length (tokCs (sa ++ (sb.take k).map (shift n)))
  more : w.ownsRow w0.heap.size 31 3 mv sb.length (tokCs ((sb.take k2).map (shift n) ++ sb.drop k2))
  apart : wv.ownBlock = none ∨ wv.ownBlock ≠ mv.ownBlock
  blw : Below w0.heap.size w0 w

/-- The token that stands at place k2. -/
theorem Work.at {n : Nat} {sa sb : List Tok} {w0 w : World} {wv : Value} {p : Option Addr} {cap k k2 : Nat} (h : Work n sa sb w0 wv (.slice p sb.length cap) k k2 w) (j : Nat) (y : Tok) (hy : ((sb.take k2).map (shift n) ++ sb.drop k2)[j]? = some y) :
    ∃ g, p = some ⟨g, 0, none⟩ ∧ w.cell? ⟨g, j * 3, none⟩ = some (.int .i64 y.kind) ∧ w.cell? ⟨g, j * 3 + 1, none⟩ = some (.string ⟨y.text.toArray⟩) ∧ w.cell? ⟨g, j * 3 + 2, none⟩ = some (.int .i64 y.at') := by
  have hl : ((sb.take k2).map (shift n) ++ sb.drop k2).length = sb.length := by simp; omega
  have hIs : IsToks w (.slice p sb.length cap) ((sb.take k2).map (shift n) ++ sb.drop k2) := by
    have := reads_of_owns h.more
    unfold IsToks
    rw [hl]; exact this
  obtain ⟨g, cap', he, c0, c1, c2⟩ := hIs.at j y hy
  simp only [Value.slice.injEq] at he
  exact ⟨g, he.1, c0, c1, c2⟩

theorem mid_at (n : Nat) (sb : List Tok) (j : Nat) (x : Tok) (hx : sb[j]? = some x) :
    ((sb.take j).map (shift n) ++ sb.drop j)[j]? = some x ∧ ((sb.take (j + 1)).map (shift n) ++ sb.drop (j + 1))[j]? = some (shift n x) ∧
      (tokCs ((sb.take j).map (shift n) ++ sb.drop j)).set (j * 3 + 2) (.int .i64 ((x.at' + n : Nat) : Int)) = tokCs ((sb.take (j + 1)).map (shift n) ++ sb.drop (j + 1)) := by
  have hj : j < sb.length := (List.getElem?_eq_some_iff.1 hx).1
  have hl : ((sb.take j).map (shift n)).length = j := by simp; omega
  have hd : sb.drop j = x :: sb.drop (j + 1) := by
    rw [List.drop_eq_getElem_cons hj]
    rw [List.getElem?_eq_getElem hj] at hx
    cases hx; rfl
  have ht : (sb.take (j + 1)).map (shift n) ++ sb.drop (j + 1) = (sb.take j).map (shift n) ++ shift n x :: sb.drop (j + 1) := by
    rw [List.take_add_one, hx]; simp
  refine ⟨?_, ?_, ?_⟩
  · rw [hd, List.getElem?_append_right (by omega), hl]; simp
  · rw [ht, List.getElem?_append_right (by omega), hl]; simp
  · rw [ht, hd]
    have := tokCs_set ((sb.take j).map (shift n)) (sb.drop (j + 1)) x n
    rw [hl] at this
    exact this

theorem Work.stored {n : Nat} {sa sb : List Tok} {w0 w : World} {wv : Value} {g cap j : Nat} (h : Work n sa sb w0 wv (.slice (some ⟨g, 0, none⟩) sb.length cap) j j w) (x : Tok) (hx : sb[j]? = some x) :
    Work n sa sb w0 wv (.slice (some ⟨g, 0, none⟩) sb.length cap) j (j + 1) (w.setCell ⟨g, j * 3 + 2, none⟩ (.int .i64 ((x.at' + n : Nat) : Int))).drew := by
  obtain ⟨s1, s2⟩ := h.more.stored (j * 3 + 2) (.int .i64 ((x.at' + n : Nat) : Int))
  rw [(mid_at n sb j x hx).2.2] at s1
  have hg := (h.more.lt g rfl).1
  refine ⟨?_, s1, h.apart, (h.blw.setCell (p := ⟨g, j * 3 + 2, none⟩) hg _).drew⟩
  exact (h.want.kept s2 h.apart).drew

theorem Work.grown {n : Nat} {sa sb : List Tok} {w0 w w' : World} {wv v' : Value} {mv : Value} {j : Nat} (h : Work n sa sb w0 wv mv j (j + 1) w) (o : Obj) (x : Tok) (hx : sb[j]? = some x)
    (hown : w'.ownsRow w0.heap.size 31 3 v' ((sa ++ (sb.take j).map (shift n)).length + 1) (tokCs (sa ++ (sb.take j).map (shift n)) ++ tokC (shift n x)))
    (hg : (w.alloc o).grownBy w' wv.ownBlock) (hat : v'.ownBlock = wv.ownBlock ∨ v'.ownBlock = some (w.alloc o).heap.size) : Work n sa sb w0 v' mv (j + 1) (j + 1) w' := by
  have ht : sa ++ (sb.take (j + 1)).map (shift n) = (sa ++ (sb.take j).map (shift n)) ++ [shift n x] := by rw [List.take_add_one, hx]; simp
  have hne : mv.ownBlock = none ∨ mv.ownBlock ≠ wv.ownBlock := by
    cases hm : mv.ownBlock with
    | none => exact .inl rfl
    | some q =>
      right
      rcases h.apart with e | e
      · rw [e]; simp
      · rw [hm] at e; exact fun e' => e e'.symm
  refine ⟨?_, (h.more.alloc o).kept hg hne, ?_, (h.blw.alloc h.blw.size o).grown hg (by have := h.blw.size; simp; omega) (fun k e => (h.want.lt k e).1)⟩
  · rw [ht, tokCs_snoc, List.length_append]; exact hown
  · rcases hat with e | e
    · rw [e]; exact h.apart
    · right
      rw [e]
      intro e'
      have := (h.more.lt _ e'.symm).2
      simp at this
      omega

set_option maxRecDepth 100000 in
set_option maxHeartbeats 4000000 in
theorem lexerLines_walk (s t : ByteArray) (vl : Value) (zs : List Int) (vm : Value) (ys : List Int) (w : World) (hs : s.size ≤ maxLen) (ht : t.size ≤ maxLen) (hv : IsInts w vl zs) (hl : zs.length ≤ maxLen) (hv' : IsInts w vm ys) (hl' : ys.length ≤ maxLen) (hT : Tabs w) :
    Calls Tryd.prog 7 #[.string s, .string t, vl, vm] w fun e w' => e = .returned (.bool true) ∧ Below w.heap.size w w' := by
  obtain ⟨i0, hi, hz0, hz1, hz2⟩ := info_parts info31
  have HS := Lib.hid hs; have HS' := Lib.hid ht; have HV := Lib.hid hv; have HV' := Lib.hid hv'; have HL := Lib.hid hl; have HL' := Lib.hid hl'; have HT := Lib.hid hT
  clear hs ht hv hl hv' hl' hT
  go_enter Tryd.func7, Tryd.ntmps7
  go_wp2_with fail
  refine (short_any s 40 _ HS.out).mono ?_
  rintro e w1 ⟨⟨r, rfl, hr, hr2⟩, rfl⟩
  go_wp2_with fail
  refine (source_any vl zs _ HV.out HL.out).mono ?_
  rintro e w2 ⟨⟨r2, rfl, hr3⟩, hb⟩
  go_wp2_with fail
  refine (short_any t 40 _ HS'.out).mono ?_
  rintro e w3 ⟨⟨r', rfl, hr', hr2'⟩, rfl⟩
  have hSa := src_new (r1 := r) (r2 := r2) hb HT.out
  obtain ⟨A, hA⟩ : ∃ A, w2.heap.size = A := ⟨_, rfl⟩
  rw [hA] at hSa
  have hlow : Below w.heap.size w (w2.alloc (.cells #[.string r, .string r2] 9)) := hb.alloc hb.size _
  obtain ⟨ra, hra⟩ : ∃ ra : Nat → ByteArray, (fun k => if k = 0 then r else r2) = ra := ⟨_, rfl⟩
  have hraz : ∀ k, (ra k).size ≤ 340 := by intro k; rw [← hra]; dsimp only; split <;> omega
  rw [hra] at hSa
  have HSa := Lib.hid hSa; have HLow := Lib.hid hlow; have HZa := Lib.hid hraz
  clear hSa hlow hra hraz hb
  go_wp2_with fail
  try rw [hA]
  generalize w2.alloc (.cells #[.string r, .string r2] 9) = wa at *
  clear hA
  refine (source_any vm ys _ (HV'.out.below HLow.out) HL'.out).mono ?_
  rintro e w4 ⟨⟨r2', rfl, hr3'⟩, hb4⟩
  have hSb := src_new (w := wa) (r1 := r') (r2 := r2') hb4 HSa.out.tabs
  have hSa2 : Src w A ra (w4.alloc (.cells #[.string r', .string r2'] 9)) := HSa.out.below (hb4.alloc hb4.size _)
  obtain ⟨rb, hrb⟩ : ∃ rb : Nat → ByteArray, (fun k => if k = 0 then r' else r2') = rb := ⟨_, rfl⟩
  have hrbz : ∀ k, (rb k).size ≤ 340 := by intro k; rw [← hrb]; dsimp only; split <;> omega
  obtain ⟨B, hB⟩ : ∃ B, w4.heap.size = B := ⟨_, rfl⟩
  rw [hrb, hB] at hSb
  replace hSb : Src w B rb (w4.alloc (.cells #[.string r', .string r2'] 9)) := ⟨hSb.cell, hSb.tabs, hSa2.blw, hSb.lt⟩
  have HSb := Lib.hid hSb; have HSa2 := Lib.hid hSa2; have HZb := Lib.hid hrbz
  clear hSb hSa2 hrb hrbz hb4
  go_wp2_with fail
  try rw [hB]
  generalize w4.alloc (.cells #[.string r', .string r2'] 9) = wb at *
  clear hB
  go_loopw [11, 12, 13, 14, 15, 16] (fun i _ _ _ _ _ wr => ∃ k : Nat, k ≤ 2 ∧ i = .int .i64 k ∧ Two w A B ra rb (.slice none 0 0) [] wr) (fun i _ _ _ _ _ _ => 2 - (intOf i).toNat)
  case atStart => exact ⟨0, by omega, rfl, HSa2.out, HSb.out, isToks_nil _⟩
  case round =>
    obtain ⟨k, hk, rfl, hS⟩ := hrel
    by_cases hlt : k < 2
    · obtain ⟨a, ha⟩ : ∃ a, ra k = a := ⟨_, rfl⟩
      obtain ⟨b, hb⟩ : ∃ b, rb k = b := ⟨_, rfl⟩
      have hca := (two_cells hS hlt ha hb).1
      have hcb := (two_cells hS hlt ha hb).2
      have haz : a.size ≤ 340 := by have := HZa.out k; rwa [ha] at this
      have hbz : b.size ≤ 340 := by have := HZb.out k; rwa [hb] at this
      obtain ⟨ab, hab⟩ : ∃ ab : ByteArray, (a ++ { data := #[10] } ++ b : ByteArray) = ab := ⟨_, rfl⟩
      have habl : bl ab = bl a ++ 10 :: bl b := by rw [← hab, bl_append, bl_append]; simp [bl]
      have habs : ab.size = a.size + 1 + b.size := by have := congrArg List.length habl; rw [bl_len, List.length_append, List.length_cons, bl_len, bl_len] at this; omega
      have hadd : ∀ w, (Op.stringOp .add a { data := #[10] }).run Tryd.prog w = .ok (.string (a ++ { data := #[10] })) w := fun w => run_string_add_sum w a _ (by show a.size + 1 ≤ _; omega)
      have hadd2 : ∀ w, (Op.stringOp .add (a ++ { data := #[10] }) b).run Tryd.prog w = .ok (.string ab) w := fun w => by
        rw [run_string_add_sum w _ b (by rw [ByteArray.size_append]; show a.size + 1 + b.size ≤ _; omega), hab]
      have hLn := toks_lines (bl a) (bl b) 0
      rw [← habl, Nat.zero_add, bl_len, show a.size + 1 = 0 + (a.size + 1) by omega, toks_shift, solid_shift] at hLn
      have HNl := Lib.hid (toks_no_nl (bl ab) 0)
      have htl : ∀ x ∈ solid (toks (bl ab) 0), x.text.length ≤ 1000 := fun x hx => by
        have := toks_text_le (bl ab) 0 x (List.mem_filter.1 hx).1
        rw [bl_len] at this; omega
      have HTl := Lib.hid htl; clear htl
      have hTk : ∀ w, Tabs w → Calls Tryd.prog 13 #[.string ab] w fun e w' => (∃ v, e = .returned v ∧ IsToks w' v (toks (bl ab) 0)) ∧ Below w.heap.size w w' := fun w hw => tokens_is ab (by omega) w hw
      have hcn : ∀ s : ByteArray, s.size ≤ 700 → (toks (bl s) 0).length ≤ 1000000 := fun s hs => by have := toks_count (bl s) 0; rw [bl_len] at this; omega
      have hnab := hcn ab (by omega)
      have hna := hcn a (by omega)
      have hnb := hcn b (by omega)
      have HTk := Lib.hid hTk; have HLn := Lib.hid hLn; have HSr := Lib.hid hS; have HA := Lib.hid ha; have HB := Lib.hid hb; have HAbs := Lib.hid habs; have HAbl := Lib.hid habl; have HLt := Lib.hid hlt
      have HNab := Lib.hid hnab; have HNa := Lib.hid hna; have HNb := Lib.hid hnb
      clear hTk hLn ha hb habs habl hab hcn hnab hna hnb
      go_wp2_with fail
      go_region_held3 (fun w' => w'.cell? ⟨A, k, none⟩ = some (.string a) ∧ w'.cell? ⟨B, k, none⟩ = some (.string b) ∧ Two w A B ra rb (.slice none 0 0) [] w') (first | exact two_drew ⟨by assumption, by assumption, by assumption⟩ | exact two_below (by assumption) (by assumption) | exact two_below ⟨by assumption, by assumption, by assumption⟩ (by assumption))
        (first | (go_at_call 13; refine (HTk.out _ (And.right (And.right (by assumption : _ ∧ _ ∧ Two w A B ra rb (.slice none 0 0) [] _))).a.tabs).mono ?_; rintro e w6 ⟨⟨v6, rfl, hv6⟩, hb6⟩) | (go_at_call 19; refine (solid_any _ _ _ hv6 HNab.out).mono ?_; rintro e w7 ⟨⟨vb, rfl, hown7⟩, hb7⟩))
      rename_i hHeld
      have hT7 := hHeld.2.2
      have HB7 := Lib.hid (reads_of_owns hown7)
      have HT7 := Lib.hid hT7; have HAdd := Lib.hid hadd; have HAdd2 := Lib.hid hadd2
      have c1 := (two_cells hT7 hlt HA.out HB.out).1
      clear hHeld hv6 hb6 hT7 hown7 hb7 hadd hadd2 hca hcb hS
      go_wp2_with fail
      refine (tokens_is a (by omega) _ HT7.out.a.tabs).mono ?_
      rintro e w8 ⟨⟨v8, rfl, hv8⟩, hb8⟩
      have HV8 := Lib.hid hv8; have HB8 := Lib.hid hb8
      clear hv8 hb8 c1
      go_wp2_with fail
      refine (solid_any _ _ _ HV8.out HNa.out).mono ?_
      rintro e w9 ⟨⟨wv, rfl, hown9⟩, hb9⟩
      have h79 := HB8.out.trans (hb9.mono HB8.out.size)
      have hT9 := HT7.out.below h79
      have c2 := (two_cells hT9 hlt HA.out HB.out).2
      have HO9 := Lib.hid (hown9.mono HB8.out.size)
      have H79 := Lib.hid h79; have HT9 := Lib.hid hT9
      clear hown9 hb9 h79 hT9 HB8 HV8
      go_wp2_with fail
      refine (tokens_is b (by omega) _ HT9.out.a.tabs).mono ?_
      rintro e w10 ⟨⟨v10, rfl, hv10⟩, hb10⟩
      have HV10 := Lib.hid hv10; have HB10 := Lib.hid hb10
      clear hv10 hb10 c2
      go_wp2_with fail
      refine (solid_any _ _ _ HV10.out HNb.out).mono ?_
      rintro e w11 ⟨⟨mv, rfl, hown11⟩, hb11⟩
      have h9b : Below w9.heap.size w9 w11 := HB10.out.trans (hb11.mono HB10.out.size)
      have hown9' := ownsRow_below HO9.out h9b
      have hap : wv.ownBlock = none ∨ wv.ownBlock ≠ mv.ownBlock := by
        cases hw : wv.ownBlock with
        | none => exact .inl rfl
        | some j =>
          refine .inr fun e => ?_
          have h1 := (HO9.out.lt j hw).2
          have h2 := (hown11.lt j e.symm).1
          have := HB10.out.size
          omega
      have h7b : Below w7.heap.size w7 w11 := H79.out.trans (h9b.mono H79.out.size)
      obtain ⟨sa, hsa⟩ : ∃ sa, solid (toks (bl a) 0) = sa := ⟨_, rfl⟩
      obtain ⟨sb, hsb⟩ : ∃ sb, solid (toks (bl b) 0) = sb := ⟨_, rfl⟩
      obtain ⟨sab, hsab⟩ : ∃ sab, solid (toks (bl ab) 0) = sab := ⟨_, rfl⟩
      have hlb := solid_len_le (toks (bl b) 0)
      have hla := solid_len_le (toks (bl a) 0)
      have hlab := solid_len_le (toks (bl ab) 0)
      have hnb := toks_count (bl b) 0
      have hna := toks_count (bl a) 0
      have hnab := toks_count (bl ab) 0
      rw [bl_len, HAbs.out] at hnab
      rw [bl_len] at hnb hna
      have hatb : ∀ x ∈ sb, x.at' ≤ 340 := fun x hx => by
        rw [← hsb] at hx
        have := toks_at_le (bl b) 0 x (List.mem_filter.1 hx).1
        rw [bl_len] at this
        omega
      rw [hsa] at hown9' hla
      rw [hsb] at hown11 hlb
      rw [hsab] at HB7 hlab HNl HTl
      rw [hsa, hsb, hsab] at HLn
      have hsbl : sb.length ≤ 340 := by omega
      have hsal : sa.length ≤ 340 := by omega
      have hsabl : sab.length ≤ 1000 := by omega
      have hwork : Work (a.size + 1) sa sb w7 wv mv 0 0 w11 := ⟨by simpa using hown9', by simpa using hown11.mono (Nat.le_trans H79.out.size HB10.out.size), hap, h7b⟩
      have HWk := Lib.hid hwork; have HAtb := Lib.hid hatb
      clear hown9' hown11 hap h7b h9b hb11 hsa hsb hsab hlb hla hlab hnb hna hnab hwork hatb HO9 H79 HT9 HB10 HV10 HNa HNb HNab HTk
      obtain ⟨pm, capm, rfl⟩ : ∃ p cap, mv = .slice p sb.length cap := by
        rcases HWk.out.more.2 with ⟨rfl, h0⟩ | ⟨g, cap, cur, rfl, _⟩
        · exact ⟨none, 0, by rw [h0]⟩
        · exact ⟨_, _, rfl⟩
      go_wp2_with fail
      go_loopw [13, 15] (fun wv k wr => ∃ j : Nat, j ≤ sb.length ∧ k = .int .i64 j ∧ Work (a.size + 1) sa sb w7 wv (.slice pm sb.length capm) j j wr) (fun _ k _ => sb.length - (intOf k).toNat)
      case atStart => exact ⟨0, by omega, rfl, HWk.out⟩
      case round =>
        obtain ⟨j, hj, rfl, hW⟩ := hrel
        by_cases hjl : j < sb.length
        · obtain ⟨x, hx⟩ : ∃ x, sb[j]? = some x := ⟨_, List.getElem?_eq_getElem hjl⟩
          obtain ⟨m1, m2, _⟩ := mid_at (a.size + 1) sb j x hx
          obtain ⟨g, rfl, c0, c1, c2⟩ := hW.at j x m1
          have hfz := hW.more.frozenAt (j * 3 + 2)
          have hca := (two_cells (HT7.out.below hW.blw) HLt.out HA.out HB.out).1
          have hxa : x.at' ≤ 340 := HAtb.out x (List.mem_of_getElem? hx)
          have hjm : j ≤ 340 := by omega
          have hle : (sa ++ (sb.take j).map (shift (a.size + 1))).length ≤ 680 := by simp; omega
          have HW := Lib.hid hW; have HX := Lib.hid hx; have HJ := Lib.hid hjl; have HM2 := Lib.hid m2; have HLe := Lib.hid hle
          clear hW hx m1 m2 hle
          go_wp2_with fail
          go_region
          have hW2 := HW.out.stored x HX.out
          have hcast : ((x.at' : Int) + (a.size : Int) + 1) = ((x.at' + (a.size + 1) : Nat) : Int) := by omega
          rw [hcast]
          generalize (wr.setCell ⟨g, j * 3 + 2, none⟩ (.int .i64 ((x.at' + (a.size + 1) : Nat) : Int))).drew = wn at *
          obtain ⟨g', he, d0, d1, d2⟩ := hW2.at j _ HM2.out
          cases he
          clear hcast hca c0 c1 c2 hfz
          have HW2 := Lib.hid hW2; clear hW2
          go_wp2_with (at_builtin; refine wpList_append_own_at _ rfl _ _ 26 rfl w7.heap.size 31 i0 (.agg #[.int .i64 0, .string ⟨#[]⟩, .int .i64 0]) 3 32 Tryd.underlying26 hi hz0 hz1 hz2 rfl (by decide) _ _ _ rfl (HW2.out.want.alloc _) ⟨wn.heap.size, 0, none⟩ 1 1 (tokC (shift (a.size + 1) x)) rfl rfl (cells_new _ _ _) (by simp [tokC, Value.oneCell']) (by have := HLe.out; unfold maxLen; omega) (by have := HLe.out; omega) (by have := HW2.out.blw.size; simp; omega) ?_; intro v' w1 hown' hgrow _ hat)
          have hjl := HJ.out
          exact ⟨⟨j + 1, by omega, by go_num, HW2.out.grown _ x HX.out hown' hgrow hat⟩, by simp [intOf]; omega⟩
        · obtain rfl : j = sb.length := by omega
          have hwant := hW.want
          have hsab : sa ++ (sb.take sb.length).map (shift (a.size + 1)) = sab := by rw [List.take_length]; exact HLn.out.symm
          rw [hsab] at hwant
          have HWt := Lib.hid (show IsToks wr _ sab from reads_of_owns hwant)
          have HBt := Lib.hid (IsToks.below (show IsToks w7 vb sab from HB7.out) hW.blw)
          have HT := Lib.hid (HT7.out.below hW.blw)
          clear hwant hsab hW
          go_wp2_with fail
          refine (same_ref vb _ sab sab _ HBt.out HWt.out (by omega) (by omega)).mono ?_
          rintro e w12 ⟨rfl, hb12⟩
          have hdec : decide (sab = sab) = true := by simp
          rw [hdec]
          have HT12 := Lib.hid (HT.out.below hb12)
          have HB12 := Lib.hid (HBt.out.below hb12)
          clear hb12 hdec
          obtain ⟨pb, capb, rfl⟩ := HB12.out.len
          go_wp2_with fail
          go_loopw [16] (fun i wr => ∃ j : Nat, j ≤ sab.length ∧ i = .int .i64 j ∧ IsToks wr (.slice pb sab.length capb) sab ∧ Two w A B ra rb (.slice none 0 0) [] wr) (fun i _ => sab.length - (intOf i).toNat)
          case atStart => exact ⟨0, by omega, rfl, HB12.out, HT12.out⟩
          case round =>
            obtain ⟨j, hj, rfl, hI, hT⟩ := hrel
            by_cases hjl : j < sab.length
            · obtain ⟨x, hx⟩ : ∃ x, sab[j]? = some x := ⟨_, List.getElem?_eq_getElem hjl⟩
              obtain ⟨g, cap1, he, c0, c1, c2⟩ := hI.at j x hx
              simp only [Value.slice.injEq] at he
              obtain ⟨rfl, _, rfl⟩ := he
              have hjm : j ≤ 1000 := by omega
              have hnl : (10 : UInt8) ∉ x.text := HNl.out x (List.mem_of_getElem? hx)
              have hxs : x.text.length ≤ 1000 := HTl.out x (List.mem_of_getElem? hx)
              have HI := Lib.hid hI; have HTt := Lib.hid hT; have HJ := Lib.hid hjl
              clear hI hT hx
              go_wp2_with fail
              refine (lines_one _ _ (by show x.text.toArray.size < _; simp; omega) (by rw [bl_mk]; exact hnl)).mono ?_
              rintro e w13 ⟨⟨p13, cap13, rfl⟩, hb13⟩
              have HI2 := Lib.hid (HI.out.below hb13); have HT2 := Lib.hid (HTt.out.below hb13)
              clear hb13
              go_wp2_with fail
              have hjl := HJ.out
              exact ⟨⟨j + 1, by omega, by go_num, HI2.out, HT2.out⟩, by simp [intOf]; omega⟩
            · go_wp2_with fail
              exact ⟨⟨k + 1, by omega, by go_num, hT⟩, by simp [intOf]; omega⟩
    · go_wp2_with fail
      refine (lives_any _ hS.a.tabs).mono ?_
      rintro e w2 ⟨rfl, hb⟩
      have hB := hS.a.below hb
      go_wp2_with fail
      go_ret
      exact ⟨rfl, hB.blw⟩
end Go.Proofs.YtolgoojlpmgblaaDoor

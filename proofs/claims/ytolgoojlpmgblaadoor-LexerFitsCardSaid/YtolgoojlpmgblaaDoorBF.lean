/- The reference's Join returns the joined text of the plain model. -/
import Derived.Test.YtolgoojlpmgblaaDoorBE
namespace Go.Proofs.YtolgoojlpmgblaaDoor
open Go.RowKit

theorem okTok_toks (x : Bs) : okTok x = true ↔ toks x 0 = [⟨(nxt x).1, x, 0⟩] ∧ (nxt x).1 ≠ 0 ∧ x ≠ [] := by
  unfold okTok
  simp only [Bool.and_eq_true, decide_eq_true_eq]
  constructor
  · rintro ⟨⟨hp, hl⟩, hk⟩
    have hne : x ≠ [] := by intro e; subst e; simp at hp
    exact ⟨toks_one x 0 hne hl, hk, hne⟩
  · rintro ⟨ht, hk, hne⟩
    have := (toks_len_one x 0).1 (by rw [ht]; rfl)
    exact ⟨⟨List.length_pos_iff.2 hne, this.2⟩, hk⟩

theorem joinS_len (ls : List Bs) (hx : ∀ x ∈ ls, x.length ≤ 1000) : ∀ last, (joinS last ls).length ≤ 1001 * ls.length := by
  induction ls with
  | nil => intro last; simp [joinS]
  | cons x t ih =>
    intro last
    have h1 := ih (fun y hy => hx y (by simp [hy])) x
    have h2 := hx x (by simp)
    have h3 := sepB_len last x
    rw [joinS, List.length_append, List.length_cons]
    split <;> (try rw [List.length_append]) <;> omega

/-- What has been joined so far. -/
structure Joined (ls : List Bs) (k : Nat) (prev : Bs) (u : ByteArray) : Prop where
  all : (ls.take k).all okTok = true
  eq : bl u ++ joinS prev (ls.drop k) = joinS [] ls
  len : u.size ≤ 1001 * k
  pr : k = 0 ∧ prev = [] ∨ ∃ m, k = m + 1 ∧ ls[m]? = some prev ∧ okTok prev = true

theorem Joined.next {ls : List Bs} {k : Nat} {prev : Bs} {u u' : ByteArray} (h : Joined ls k prev u) (x : Bs) (hx : ls[k]? = some x) (hok : okTok x = true) (hl : x.length ≤ 1000)
    (hu : bl u' = bl u ++ (if prev = [] then x else sepB prev x ++ x)) : Joined ls (k + 1) x u' := by
  refine ⟨join_all x ls k hx hok h.all, ?_, ?_, .inr ⟨k, rfl, hx, hok⟩⟩
  · have hk := (List.getElem?_eq_some_iff.1 hx).1
    have h2 := h.eq
    rw [List.drop_eq_getElem_cons hk, (List.getElem?_eq_some_iff.1 hx).2] at h2
    rw [← h2, joinS, hu, List.append_assoc]
  · have h1 := congrArg List.length hu
    have h3 := sepB_len prev x
    have h4 := h.len
    rw [bl_len, List.length_append, bl_len] at h1
    split at h1
    · omega
    · rw [List.length_append] at h1; omega

theorem not_all_join (ls : List Bs) (k : Nat) (x : Bs) (hx : ls[k]? = some x) (h : okTok x = false) : joinB ls = [] := by
  unfold joinB
  rw [if_neg]
  intro e
  rw [List.all_eq_true] at e
  have := e x (List.mem_of_getElem? hx)
  rw [h] at this; cases this

theorem cells2_drew {W a : World} {p q : Addr} {x y : Value} (h : a.cell? p = some x ∧ a.cell? q = some y ∧ Below W.heap.size W a) : a.drew.cell? p = some x ∧ a.drew.cell? q = some y ∧ Below W.heap.size W a.drew := ⟨h.1, h.2.1, h.2.2.drew⟩
theorem cells2_below {W a b : World} {p q : Addr} {x y : Value} (h : a.cell? p = some x ∧ a.cell? q = some y ∧ Below W.heap.size W a) (hb : Below a.heap.size a b) : b.cell? p = some x ∧ b.cell? q = some y ∧ Below W.heap.size W b :=
  ⟨(hb.cell (World.block_lt_of_cell? a _ h.1)).trans h.1, (hb.cell (World.block_lt_of_cell? a _ h.2.1)).trans h.2.1, h.2.2.trans (hb.mono h.2.2.size)⟩

/-- The text of the first token of two texts. -/
theorem both_head (x y : Bs) (hx : x ≠ []) : ∃ k t ts, toks (x ++ y) 0 = ⟨k, t, 0⟩ :: ts ∧ (t = x ↔ (nxt (x ++ y)).2 = x.length) := by
  refine ⟨_, _, _, toks_cons (x ++ y) 0 (by simp [hx]), ?_⟩
  have h1 := nxt_le (x ++ y)
  constructor
  · intro e
    have := congrArg List.length e
    rw [List.length_take] at this
    omega
  · intro e
    rw [e, List.take_left]

theorem toList_bl (Z : ByteArray) : Z.toList = bl Z := by
  obtain ⟨⟨d⟩⟩ := Z
  exact ByteArray.toList_mk d

theorem refTokens_is (s : ByteArray) (hs : s.size < 4294967281) (w : World) :
    Calls Tryd.prog 14 #[.string s] w fun e w' => (∃ v, e = .returned v ∧ IsToks w' v (toks (bl s) 0)) ∧ Below w.heap.size w w' := by
  refine (tokens_ref s hs w).mono ?_
  rintro e w' ⟨v, rfl, hown, hb⟩
  exact ⟨⟨v, rfl, reads_of_owns hown⟩, hb⟩

set_option maxRecDepth 100000 in
set_option maxHeartbeats 4000000 in
theorem refJoin_any (v : Value) (ls : List Bs) (w : World) (hv : IsStrs w v ls) (hl : ls.length ≤ 1000) (hx : ∀ x ∈ ls, x.length ≤ 1000) :
    Calls Tryd.prog 18 #[v] w fun e w' => (∃ r : ByteArray, e = .returned (.string r) ∧ bl r = joinB ls) ∧ Below w.heap.size w w' := by
  have HV := Lib.hid hv; have HX := Lib.hid hx
  obtain ⟨p, cap, rfl, _⟩ := hv
  clear hx
  go_enter Tryd.func18, Tryd.ntmps18
  go_wp2
  go_loopw [3, 4, 5, 6, 7] (fun o i _ _ _ wr => ∃ (k : Nat) (prev : Bs) (u : ByteArray), k ≤ ls.length ∧ i = .int .i64 k ∧ o = .string u ∧ Joined ls k prev u ∧ Below w.heap.size w wr) (fun _ i _ _ _ _ => ls.length - (intOf i).toNat)
  case atStart => exact ⟨0, [], ByteArray.mk #[], by omega, rfl, rfl, ⟨by simp, by show [] ++ joinS [] (ls.drop 0) = _; simp, Nat.zero_le _, .inl ⟨rfl, rfl⟩⟩, Below.refl _ _⟩
  case round =>
    obtain ⟨k, prev, u, hk, rfl, rfl, hJ, hB⟩ := hrel
    have HJ := Lib.hid hJ; have HB := Lib.hid hB
    clear hB
    by_cases hlt : k < ls.length
    · obtain ⟨x, hx⟩ : ∃ x, ls[k]? = some x := ⟨_, List.getElem?_eq_getElem hlt⟩
      have hxl := HX.out x (List.mem_of_getElem? hx)
      obtain ⟨_, _, he, hc⟩ := HV.out.below HB.out
      simp only [Value.slice.injEq] at he
      obtain ⟨rfl, _, rfl⟩ := he
      obtain ⟨b, off, rfl, hcell⟩ := hc (by omega)
      have hck := hcell k x hx
      obtain ⟨X, hX⟩ : ∃ X : ByteArray, (⟨x.toArray⟩ : ByteArray) = X := ⟨_, rfl⟩
      have hXb : bl X = x := by rw [← hX]
      rw [hX] at hck
      have hXs : X.size ≤ 1000 := by rw [← bl_len, hXb]; exact hxl
      have hTk : ∀ w, Calls Tryd.prog 14 #[.string X] w fun e w' => (∃ v, e = .returned v ∧ IsToks w' v (toks x 0)) ∧ Below w.heap.size w w' := fun w => by
        have := refTokens_is X (by omega) w
        rwa [hXb] at this
      have HTk := Lib.hid hTk; have HXb := Lib.hid hXb; have Hx := Lib.hid hx; have HK := Lib.hid hlt; have Hcell := Lib.hid hcell; have HXX := Lib.hid hX
      have hul := hJ.len
      have hum : u.size ≤ 1001000 := by omega
      clear hTk hXb hx hc hcell hX hJ hul
      go_wp2_with fail
      refine (HTk.out _).mono ?_
      rintro e w2 ⟨⟨v2, rfl, hv2⟩, hb2⟩
      have HB2 := Lib.hid (HB.out.trans (hb2.mono HB.out.size))
      have HB02 := Lib.hid hb2
      have hck2 := (hb2.cell (p := ⟨b, off + k, none⟩) (World.block_lt_of_cell? wr _ hck)).trans hck
      clear hb2 hck
      by_cases hok : okTok x = true
      · obtain ⟨hts, hk0, hne⟩ := (okTok_toks x).1 hok
        obtain ⟨kx, hkx⟩ : ∃ kx, (nxt x).1 = kx := ⟨_, rfl⟩
        rw [hkx] at hts hk0
        rw [hts] at hv2
        obtain ⟨g2, cap2, rfl, c0, c1, c2⟩ := hv2.at 0 _ rfl
        simp only [Nat.zero_mul, Nat.zero_add] at c0 c1 c2
        have hq0 : ((kx : Int) == 0) = false := by rw [← Bool.not_eq_true, beq_iff_eq]; omega
        have HOk := Lib.hid hok
        clear hok hts hk0 hv2 hkx c1 c2 hne
        rcases HJ.out.pr with ⟨rfl, hpz⟩ | ⟨m, rfl, hm, hpok⟩
        · have HP := Lib.hid hpz; clear hpz
          rw [Nat.add_zero] at hck2
          have hadd : ∀ w, (Op.stringOp .add u X).run Tryd.prog w = .ok (.string (u ++ X)) w := fun w => run_string_add_sum w u X (by omega)
          go_wp2_with fail
          have hn := HJ.out.next (u' := u ++ X) x Hx.out HOk.out (HX.out x (List.mem_of_getElem? Hx.out)) (by rw [bl_append, HXb.out, if_pos HP.out])
          exact ⟨⟨1, x, _, by have := HK.out; omega, by go_num, rfl, hn, HB2.out⟩, by have := HK.out; simp [intOf]; omega⟩
        · have hym := Hcell.out m prev hm
          have hym2 := (HB02.out.cell (p := ⟨b, off + m, none⟩) (World.block_lt_of_cell? wr _ hym)).trans hym
          obtain ⟨Y, hY⟩ : ∃ Y : ByteArray, (⟨prev.toArray⟩ : ByteArray) = Y := ⟨_, rfl⟩
          have hYb : bl Y = prev := by rw [← hY]
          rw [hY] at hym2
          have hYl := HX.out prev (List.mem_of_getElem? hm)
          have hYs : Y.size ≤ 1000 := by rw [← bl_len, hYb]; exact hYl
          obtain ⟨hty, hky0, hyne⟩ := (okTok_toks prev).1 hpok
          obtain ⟨ky, hky⟩ : ∃ ky, (nxt prev).1 = ky := ⟨_, rfl⟩
          rw [hky] at hty
          have hTy : ∀ w, Calls Tryd.prog 14 #[.string Y] w fun e w' => (∃ v, e = .returned v ∧ IsToks w' v [⟨ky, prev, 0⟩]) ∧ Below w.heap.size w w' := fun w => by
            have := refTokens_is Y (by omega) w
            rwa [hYb, hty] at this
          have HTy := Lib.hid hTy; have HYb := Lib.hid hYb; have Hm := Lib.hid hm; have HYY := Lib.hid hY; have HKy := Lib.hid hky; have HYne := Lib.hid hyne
          clear hTy hYb hm hY hpok hym hky hky0 hyne hty
          go_wp2_with fail
          refine (HTy.out _).mono ?_
          rintro e w3 ⟨⟨v3, rfl, hv3⟩, hb3⟩
          obtain ⟨g3, cap3, rfl, d0, d1, d2⟩ := hv3.at 0 _ rfl
          simp only [Nat.zero_mul, Nat.zero_add] at d0 d1 d2
          rw [HYY.out] at d1
          have hck3 := (hb3.cell (p := ⟨b, off + (m + 1), none⟩) (World.block_lt_of_cell? w2 _ hck2)).trans hck2
          have hym3 := (hb3.cell (p := ⟨b, off + m, none⟩) (World.block_lt_of_cell? w2 _ hym2)).trans hym2
          have HB3 := Lib.hid (HB2.out.trans (hb3.mono HB2.out.size))
          clear hb3 hck2 hym2 c0 hv3
          have hmk : m + 1 ≤ 1000 := by have := HK.out; omega
          have hadd : ∀ w, (Op.stringOp .add Y X).run Tryd.prog w = .ok (.string (Y ++ X)) w := fun w => run_string_add_sum w Y X (by omega)
          obtain ⟨kb, tb, tsb, hbt, hbe⟩ := both_head prev x HYne.out
          have hTb : ∀ w, Calls Tryd.prog 14 #[.string (Y ++ X)] w fun e w' => (∃ v, e = .returned v ∧ IsToks w' v (⟨kb, tb, 0⟩ :: tsb)) ∧ Below w.heap.size w w' := fun w => by
            have := refTokens_is (Y ++ X) (by rw [ByteArray.size_append]; omega) w
            rwa [bl_append, HYb.out, HXb.out, hbt] at this
          have HTb := Lib.hid hTb; have HBe := Lib.hid hbe
          clear hTb hbe hbt
          go_wp2_with fail
          have hB4 := HB3.out.alloc HB3.out.size (.cells #[.int .i64 ky, .string Y, .int .i64 0] 31)
          have hck4 : (w3.alloc (.cells #[.int .i64 ky, .string Y, .int .i64 0] 31)).cell? ⟨b, off + (m + 1), none⟩ = some (.string X) := (((Below.refl _ w3).alloc (Nat.le_refl _) _).cell (p := ⟨b, off + (m + 1), none⟩) (World.block_lt_of_cell? w3 _ hck3)).trans hck3
          have hym4 : (w3.alloc (.cells #[.int .i64 ky, .string Y, .int .i64 0] 31)).cell? ⟨b, off + m, none⟩ = some (.string Y) := (((Below.refl _ w3).alloc (Nat.le_refl _) _).cell (p := ⟨b, off + m, none⟩) (World.block_lt_of_cell? w3 _ hym3)).trans hym3
          have e0 : (w3.alloc (.cells #[.int .i64 ky, .string Y, .int .i64 0] 31)).cell? ⟨w3.heap.size, 0, none⟩ = some (.int .i64 ky) := by rw [cell_of_row _ w3.heap.size 0 _ _ _ (World.alloc_heap_new w3 _)]; rfl
          have e1 : (w3.alloc (.cells #[.int .i64 ky, .string Y, .int .i64 0] 31)).cell? ⟨w3.heap.size, 1, none⟩ = some (.string Y) := by rw [cell_of_row _ w3.heap.size 1 _ _ _ (World.alloc_heap_new w3 _)]; rfl
          clear hck3 hym3 d0 d1 d2
          generalize w3.heap.size = G at *
          generalize w3.alloc (.cells #[.int .i64 ky, .string Y, .int .i64 0] 31) = W4 at *
          have HB4 := Lib.hid hB4
          have hrf := Below.refl W4.heap.size W4
          have hi1 : (0 : Int) ≤ (m : Int) := by omega
          have hi2 : (m : Int) < ls.length := by have := HK.out; omega
          have hi3 : (0 : Int) ≤ (m : Int) + 1 := by omega
          have hi4 : (m : Int) + 1 < ls.length := by have := HK.out; omega
          have hw1 : IntKind.i64.wrap ((m : Int) + 1 - 1) = m := by rw [show (m : Int) + 1 - 1 = m by omega]; exact IntWalk.i64_in _ (by omega)
          have hw2 : IntKind.i64.wrap (m : Int) = m := IntWalk.i64_in _ (by omega)
          clear hB4
          go_region_held3 (fun w' => w'.cell? ⟨b, off + (m + 1), none⟩ = some (.string X) ∧ w'.cell? ⟨b, off + m, none⟩ = some (.string Y) ∧ Below W4.heap.size W4 w') (first | exact cells2_drew ⟨by assumption, by assumption, by assumption⟩ | exact cells2_below (by assumption) (by assumption) | exact cells2_below ⟨by assumption, by assumption, by assumption⟩ (by assumption))
            (first | (go_at_call 14; refine (HTb.out _).mono ?_; rintro e w5 ⟨⟨v5, rfl, hv5⟩, hb5⟩))
          rename_i hHeld
          obtain ⟨hX5, hY5, hb45⟩ := hHeld
          have f0 := (hb45.cell (p := ⟨G, 0, none⟩) (World.block_lt_of_cell? W4 _ e0)).trans e0
          have f1 := (hb45.cell (p := ⟨G, 1, none⟩) (World.block_lt_of_cell? W4 _ e1)).trans e1
          have HB5 := Lib.hid (HB4.out.trans (hb45.mono HB4.out.size))
          obtain ⟨g5, cap5, rfl, t0, t1, t2⟩ := hv5.at 0 _ rfl
          simp only [Nat.zero_mul, Nat.zero_add] at t0 t1 t2
          obtain ⟨T, hT⟩ : ∃ T : ByteArray, (⟨tb.toArray⟩ : ByteArray) = T := ⟨_, rfl⟩
          rw [hT] at t1
          have hTbl : bl T = tb := by rw [← hT]
          obtain ⟨n5, hn5⟩ : ∃ n5, (⟨kb, tb, 0⟩ :: tsb : List Tok).length = n5 + 1 := ⟨tsb.length, rfl⟩
          rw [hn5] at hv5 ⊢
          have hYp : 0 < Y.size := by rw [← bl_len, HYb.out]; exact List.length_pos_iff.2 HYne.out
          have hYh : (bl Y).head? = some (Y[0]'hYp) := by rw [bl_cons Y hYp]; rfl
          have HYh := Lib.hid hYh; have HTbl := Lib.hid hTbl
          clear hb45 hb5 hrf hv5 e0 e1 t0 t2 hT hTbl hYh hn5
          have hA : ∀ S : ByteArray, S.size = 1 → ∀ w, (Op.stringOp .add u S).run Tryd.prog w = .ok (.string (u ++ S)) w := fun S hS w => run_string_add_sum w u S (by omega)
          have hA2 : ∀ S : ByteArray, S.size = 1 → ∀ w, (Op.stringOp .add (u ++ S) X).run Tryd.prog w = .ok (.string (u ++ S ++ X)) w := fun S hS w => run_string_add_sum w _ X (by rw [ByteArray.size_append]; omega)
          have hA10 := hA { data := #[10] } rfl
          have hA10' := hA2 { data := #[10] } rfl
          have hA32 := hA { data := #[32] } rfl
          have hA32' := hA2 { data := #[32] } rfl
          have hA0 : ∀ w, (Op.stringOp .add u X).run Tryd.prog w = .ok (.string (u ++ X)) w := fun w => run_string_add_sum w u X (by omega)
          have fin : ∀ S : ByteArray, bl S = sepB prev x → Joined ls (m + 1 + 1) x (u ++ S ++ X) := fun S hS => HJ.out.next x Hx.out HOk.out (HX.out x (List.mem_of_getElem? Hx.out)) (by rw [if_neg HYne.out, bl_append, bl_append, hS, HXb.out, List.append_assoc])
          have fin0 : sepB prev x = [] → Joined ls (m + 1 + 1) x (u ++ X) := fun hS => HJ.out.next x Hx.out HOk.out (HX.out x (List.mem_of_getElem? Hx.out)) (by rw [if_neg HYne.out, bl_append, hS, HXb.out]; rfl)
          have HF := Lib.hid fin; have HF0 := Lib.hid fin0
          have hsep : sepB prev x = if ky = 1 ∨ (ky = 8 ∧ Y[0]'hYp = 34) then [10] else if (nxt (prev ++ x)).2 ≠ prev.length then [32] else [] := by
            unfold sepB
            rw [HKy.out, ← HYb.out, HYh.out]
            simp
          have HSep := Lib.hid hsep
          clear hA hA2 fin fin0 hsep hadd
          by_cases h1 : ky = 1
          · have q1 : ((ky : Int) == 1) = true := by rw [h1]; rfl
            have hs1 := HSep.out
            rw [if_pos (.inl h1)] at hs1
            have HS1 := Lib.hid hs1
            clear hs1 h1
            go_wp2_with fail
            exact ⟨⟨m + 1 + 1, x, _, by have := HK.out; omega, by go_num, rfl, HF.out _ HS1.out.symm, HB5.out⟩, by have := HK.out; simp [intOf]; omega⟩
          · have q1 : ((ky : Int) == 1) = false := by rw [← Bool.not_eq_true, beq_iff_eq]; omega
            have e34 := u8_eq (Y[0]'hYp) 34
            rw [show ((34 : UInt8).toNat : Int) = 34 from rfl] at e34
            by_cases h8 : ky = 8 ∧ Y[0]'hYp = 34
            · have q8 : ((ky : Int) == 8) = true := by rw [h8.1]; rfl
              have q9 : (((Y[0]'hYp).toNat : Int) == 34) = true := by rw [← e34]; simpa using h8.2
              have hs1 := HSep.out
              rw [if_pos (.inr h8)] at hs1
              have HS1 := Lib.hid hs1
              clear hs1 h8 e34 h1
              go_wp2_with fail
              exact ⟨⟨m + 1 + 1, x, _, by have := HK.out; omega, by go_num, rfl, HF.out _ HS1.out.symm, HB5.out⟩, by have := HK.out; simp [intOf]; omega⟩
            · have hs1 := HSep.out
              rw [if_neg (by rintro (h | h); exact h1 h; exact h8 h)] at hs1
              have q8 : ((ky : Int) == 8) = false ∨ (((ky : Int) == 8) = true ∧ (((Y[0]'hYp).toNat : Int) == 34) = false) := by
                by_cases hk8 : ky = 8
                · refine .inr ⟨by rw [hk8]; rfl, ?_⟩
                  rw [← e34, ← Bool.not_eq_true]
                  intro h
                  exact h8 ⟨hk8, by simpa using h⟩
                · refine .inl ?_
                  rw [← Bool.not_eq_true, beq_iff_eq]; omega
              by_cases hn : (nxt (prev ++ x)).2 = prev.length
              · have hTY : T = Y := by rw [ba_ext, HTbl.out, HYb.out]; exact HBe.out.2 hn
                have qT : (T.toList == Y.toList) = true := by rw [hTY]; simp
                rw [if_neg (by simpa using hn)] at hs1
                have HS1 := Lib.hid hs1
                clear hs1 h1 h8 e34 hn hTY
                rcases q8 with q8 | ⟨q8, q9⟩
                · go_wp2_with fail
                  go_quiet (fail)
                  go_wp2_with fail
                  exact ⟨⟨m + 1 + 1, x, _, by have := HK.out; omega, by go_num, rfl, HF0.out HS1.out, HB5.out.trans ((below_drewN _ _).mono HB5.out.size)⟩, by have := HK.out; simp [intOf]; omega⟩
                · go_wp2_with fail
                  go_quiet (fail)
                  go_wp2_with fail
                  exact ⟨⟨m + 1 + 1, x, _, by have := HK.out; omega, by go_num, rfl, HF0.out HS1.out, HB5.out.trans ((below_drewN _ _).mono HB5.out.size)⟩, by have := HK.out; simp [intOf]; omega⟩
              · have hTY : T ≠ Y := by
                  intro e
                  apply hn
                  apply HBe.out.1
                  rw [← HTbl.out, e, HYb.out]
                have qT : (T.toList == Y.toList) = false := by
                  rw [← Bool.not_eq_true, beq_iff_eq]
                  intro e
                  apply hTY
                  rw [ba_ext, ← toList_bl, ← toList_bl, e]
                rw [if_pos hn] at hs1
                have HS1 := Lib.hid hs1
                clear hs1 h1 h8 e34 hn hTY
                rcases q8 with q8 | ⟨q8, q9⟩
                · go_wp2_with fail
                  go_quiet (fail)
                  go_wp2_with fail
                  exact ⟨⟨m + 1 + 1, x, _, by have := HK.out; omega, by go_num, rfl, HF.out _ HS1.out.symm, HB5.out.trans ((below_drewN _ _).mono HB5.out.size)⟩, by have := HK.out; simp [intOf]; omega⟩
                · go_wp2_with fail
                  go_quiet (fail)
                  go_wp2_with fail
                  exact ⟨⟨m + 1 + 1, x, _, by have := HK.out; omega, by go_num, rfl, HF.out _ HS1.out.symm, HB5.out.trans ((below_drewN _ _).mono HB5.out.size)⟩, by have := HK.out; simp [intOf]; omega⟩
      · have hok' : okTok x = false := by simpa using hok
        have hj0 := not_all_join ls k x Hx.out hok'
        have HJ0 := Lib.hid hj0
        clear hj0
        by_cases hn1 : (toks x 0).length = 1
        · have hne := (toks_len_one x 0).1 hn1
          have hts := toks_one x 0 hne.1 hne.2
          have hk0 : (nxt x).1 = 0 := by
            apply Classical.byContradiction
            intro h
            exact hok ((okTok_toks x).2 ⟨hts, h, hne.1⟩)
          rw [hts, hk0] at hv2
          obtain ⟨g2, cap2, rfl, c0, c1, c2⟩ := hv2.at 0 _ rfl
          simp only [Nat.zero_mul, Nat.zero_add] at c0 c1 c2
          clear hok hok' hn1 hne hts hk0 hv2 c1 c2
          go_wp2_with fail
          go_ret
          exact ⟨⟨_, rfl, by rw [HJ0.out]⟩, HB2.out⟩
        · have hq : (((toks x 0).length : Int) != 1) = true := by rw [bne_iff_ne]; omega
          obtain ⟨p2, cap2, rfl⟩ := hv2.len
          obtain ⟨n2, hn2⟩ : ∃ n2, (toks x 0).length = n2 := ⟨_, rfl⟩
          rw [hn2] at hq ⊢
          clear hok hok' hn1 hv2 hn2
          go_wp2_with fail
          go_ret
          exact ⟨⟨_, rfl, by rw [HJ0.out]⟩, HB2.out⟩
    · obtain rfl : k = ls.length := by omega
      have h1 := hJ.eq
      have h2 := hJ.all
      have hres : bl u = joinB ls := by
        unfold joinB
        rw [List.take_length] at h2
        rw [if_pos h2, ← h1, List.drop_length, joinS, List.append_nil]
      have HR := Lib.hid hres
      clear h1 h2 hres hJ
      go_wp2_with fail
      go_ret
      exact ⟨⟨_, rfl, HR.out⟩, HB.out⟩
end Go.Proofs.YtolgoojlpmgblaaDoor

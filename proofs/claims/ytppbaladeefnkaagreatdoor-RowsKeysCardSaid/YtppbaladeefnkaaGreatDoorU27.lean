import Derived.Test.YtppbaladeefnkaaGreatDoorU25
set_option maxRecDepth 100000
set_option maxHeartbeats 400000000
namespace Go.Proofs.YtppbaladeefnkaaGreatDoor
open Go.RowKit Go.Shelf Go.Lib Tryz
theorem Bo {T : Type} {l : List T} {k : Nat} {x : T} (h : l[k]? = some x) : l.take (k + 1) = l.take k ++ [x] := by
 rw [List.take_add_one, h]; rfl
theorem Md (S S' : Nat → Prop) (av bv : Value) (a b : List Bs) (w : World) (ha : Sl Qp S w av a) (hb : Sl Qp S' w bv b) :
  Calls prog 175 #[av, bv] w fun e w' => e = .returned (.bool (decide (a = b))) ∧ Gr w w' := by
 obtain ⟨pa, ca, rfl, hla⟩ := ha.len
 obtain ⟨pb, cb, rfl, hlb⟩ := hb.len
 have HA := Qq ha; have HB := Qq hb
 clear ha hb
 obtain ⟨r, hr⟩ := eX (decide (a = b))
 rw [hr]
 have HR := Qq hr
 clear hr
 by_cases hl : a.length = b.length
 ·have hl0 : ((a.length : Int) != (b.length : Int)) = false := by simp [hl]
  have HL := Qq hl
  obtain ⟨n, hn⟩ := eX (a.length)
  have hm : b.length = n := by omega
  rw [hn] at HA hla; rw [hm] at HB hlb
  rw [hn, hm] at hl0
  have HN := Qq hn; have HM := Qq hm
  rw [hn, hm]
  clear hl hn hm
  go_enter func175, ntmps175
  go_wp2_with fail
  clear hl0
  go_loopw [5] (fun i wr => ∃ k : Nat, k ≤ n ∧ i = .int .i64 k ∧ Aside (a.take k = b.take k) ∧ Aside (Gr w wr)) (fun i _ => n - (intOf i).toNat)
  case atStart => exact ⟨0, Q8 _, rfl, rfl, Gr.refl _⟩
  obtain ⟨k, hk, rfl, ht, hBl⟩ := hrel
  have HBl := Qq (show Gr w wr from hBl); have HT := Qq (show a.take k = b.take k from ht)
  clear hBl ht
  by_cases hlt : k < n
  ·obtain ⟨x, hx⟩ : ∃ x, a[k]? = some x := ⟨_, Qx (by rw [HN.out]; exact hlt)⟩
   obtain ⟨y, hy⟩ : ∃ y, b[k]? = some y := ⟨_, Qx (by rw [HM.out]; exact hlt)⟩
   obtain ⟨ga, oa, rfl, c1, l1⟩ := (HA.out.below HBl.out.bl).str hx
   obtain ⟨gb, ob, rfl, c2, l2⟩ := (HB.out.below HBl.out.bl).str hy
   have HX := Qq hx; have HY := Qq hy
   have hi1 : (0 : Int) ≤ (k : Int) := by omega
   have hi2 : (k : Int) < n := by omega
   by_cases he : x = y
   ·subst he
    clear hx hy
    go_wp2_with fail
    go_quiet (fail)
    go_wp2_with fail
    go_roundw
    case rel => exact ⟨k + 1, by omega, by go_num, (show Aside _ from by show _ = _; rw [Bo HX.out, Bo HY.out, HT.out]), HBl.out.thn ⟨_, #[], by rw [Sort.grow_empty]⟩⟩
    case measure => simp [intOf]; omega
   have hq : (x == y) = false := by rw [beq_eq_false_iff_ne]; exact he
   have hq2 : (x != y) = true := by rw [bne_iff_ne]; exact he
   have hrf : r = false := by
    rw [← HR.out, decide_eq_false_iff_not]
    intro e; subst e; rw [hx] at hy; exact he (Qb hy)
   subst hrf
   clear hx hy he
   go_wp2_with fail
   go_quiet (fail)
   go_wp2_with fail
   go_ret
   exact ⟨rfl, HBl.out.thn ⟨_, #[], by rw [Sort.grow_empty]⟩⟩
  have hkn : k = n := by omega
  subst hkn
  have hrt : r = true := by
   rw [← HR.out, decide_eq_true_eq]
   have := HT.out
   rw [List.take_of_length_le (by rw [HN.out]; exact Q9 _), List.take_of_length_le (by rw [HM.out]; exact Q9 _)] at this
   exact this
  subst hrt
  go_wp2_with fail
  go_ret
  exact ⟨rfl, HBl.out⟩
 have hl0 : ((a.length : Int) != (b.length : Int)) = true := by rw [bne_iff_ne]; omega
 have hrf : r = false := by
  rw [← HR.out, decide_eq_false_iff_not]
  intro e; exact hl (by rw [e])
 subst hrf
 go_enter func175, ntmps175
 go_wp2_with fail
 go_ret
 exact ⟨rfl, Gr.refl _⟩
theorem Ey {T : Type} {p : T → Bool} {xs : List T} {k : Nat} {x : T} (hx : xs[k]? = some x) (hp : p x = true) (hne : ∀ (j : Nat) (y : T), j < k → xs[j]? = some y → p y = false) : atP p xs = some x := by
 have h := U9 hx hp hne
 rcases Xp p xs with ⟨h1, _⟩ | ⟨i, y, h1, h2, h3⟩
 ·rw [h] at h1; omega
 rw [h] at h1
 have : k = i := by omega
 subst this
 rw [hx] at h2; cases h2; exact h3
theorem Gl {T : Type} {p : T → Bool} {xs : List T} (hne : ∀ (j : Nat) (y : T), xs[j]? = some y → p y = false) : atP p xs = none := by
 have h := Xu hne
 rcases Xp p xs with ⟨_, h2⟩ | ⟨i, y, h1, _, _⟩
 ·exact h2
 rw [h] at h1; omega
theorem Px {s : Sc} {l : List Rel} {tn : Bs} {key : List Val} (h : Z0 s.tables tn = none ∨ key.length = 0) : Vx s l tn key = none := by
 unfold Vx
 rcases h with h | h
 ·rw [h]
 split
 ·rw [if_pos h]
 rfl
theorem Ph {s : Sc} {l : List Rel} {tn : Bs} {key : List Val} {T : Tbl} (h : Z0 s.tables tn = some T) (hk : 0 < key.length) : Vx s l tn key = atP (lkP T.key key) (Ye l tn) := by
 unfold Vx
 rw [h]
 rcases U6 l tn with ⟨h1, h2⟩ | ⟨i, r, h1, h2, h3⟩
 ·have : atP (fun r => decide (r.table = tn)) l = none := by
   rcases Xp (fun r : Rel => decide (r.table = tn)) l with ⟨_, h4⟩ | ⟨i, y, h4, _, _⟩
   ·exact h4
   rw [h2] at h4; omega
  rw [this]
  unfold Ye; rw [h1]; rfl
 have : atP (fun r => decide (r.table = tn)) l = some r := by
  rcases Xp (fun r : Rel => decide (r.table = tn)) l with ⟨h4, _⟩ | ⟨j, y, h4, h5, h6⟩
  ·rw [h2] at h4; omega
  rw [h2] at h4
  have : i = j := by omega
  subst this
  rw [h3] at h5; cases h5; exact h6
 rw [this]
 simp only
 rw [if_neg (by omega)]
 unfold Ye; rw [h1]; simp [List.getD_eq_getElem?_getD, h3]
def RLookIs (S : Nat → Prop) (w : World) (o : Option Val) (e : Ending) (w' : World) : Prop :=
 ∃ cs', e = .returned (.tuple #[.agg cs'.toArray, .bool o.isSome]) ∧ Qh S w' cs' (o.getD Val.zero) ∧ Below w.heap.size w w'
theorem Dm (S0 S1 S2 : Nat → Prop) (s : Sc) (cs : List Value) (lv : Value) (l : List Rel) (tn : Bs) (kv : Value) (key : List Val) (w : World) (hs : Yl S0 w cs s) (hl0 : Sl Z8 S1 w lv l) (hkv0 : Sl Ql S2 w kv key) (hkl : ∀ t ∈ s.tables, t.key.length ≤ 1000) :
  Calls prog 16 #[.agg cs.toArray, lv, sv tn, kv] w (RLookIs S1 w (Vx s l tn key)) := by
 have hl := hl0.up
 have HT := Qq (fun W (hb : Below w.heap.size w W) => Jp S0 s cs tn W (hs.below hb))
 have HRo := Qq (fun W (hb : Below w.heap.size w W) => Kt _ lv l tn W (hl.below hb))
 have HKV := Qq hkv0
 obtain ⟨uv, tv, rfl, hu, ht⟩ := hs
 obtain ⟨up, uc, rfl, _⟩ := hu.len
 obtain ⟨tp, tc, rfl, _⟩ := ht.len
 obtain ⟨kp, kc, rfl, hkl1⟩ := hkv0.len
 obtain ⟨rows, hrows⟩ := eX (Ye l tn)
 rw [hrows] at HRo
 have HRows := Qq hrows
 obtain ⟨res, hres⟩ := eX (Vx s l tn key)
 rw [hres]
 have HRes := Qq hres
 have hTk : ((Z0 s.tables tn).getD Tbl.zero).key.length ≤ 1000 := by
  cases h : Z0 s.tables tn with
  | none => exact Q8 _
  | some t => exact hkl t (List.mem_of_find?_eq_some h)
 obtain ⟨T, hT⟩ := eX ((Z0 s.tables tn).getD Tbl.zero)
 obtain ⟨b, hb⟩ := eX ((Z0 s.tables tn).isSome)
 have HTe := Qq hT; have HBe := Qq hb
 rw [hT] at hTk
 obtain ⟨kn, hkn⟩ := eX (key.length)
 rw [hkn] at HKV hkl1 ⊢
 have HKn := Qq hkn
 unfold O3 at HT
 rw [hT, hb] at HT
 clear hu ht hl0 hl hkv0 hrows hres hT hb hkl hkn
 unfold sv at HT HRo ⊢
 go_enter func16, ntmps16
 go_wp2_with fail
 refine (HT.out _ (Zv _ _ _)).mono ?_
 rintro e w1 ⟨ct, rfl, hvT, hb1⟩
 obtain ⟨cp9, cc9, kp9, kc9, rp9, rc9, k9, s19, n9, s29, p19, n19, c19, p29, n29, c29, p39, n39, c39, a9, z9, hcs, _⟩ := Zk hvT
 have HVT := Qq hvT
 simp only [tcs] at hcs
 subst hcs
 have hZ1 := (hb1.block (w.heap.size + 1) (by simp)).trans (Q6 w _ _)
 have HB1 := Qq ((Zv w _ _).thn hb1); have HZ1 := Qq hZ1
 have hlt1 := Qf hZ1
 clear hvT hb1 hZ1 HT
 go_upto_region 2 with fail
 obtain ⟨X, hX⟩ := eX (w1.heap.size)
 generalize hW2 : w1.alloc (.cells #[.string ⟨T.name.toArray⟩, .slice cp9 T.columns.length cc9, .slice kp9 T.key.length kc9, .slice rp9 T.refs.length rc9, .int .i64 k9, .string s19, .int .i64 n9, .string s29, .slice p19 n19 c19, .slice p29 n29 c29, .slice p39 n39 c39, .int .i64 a9, .int .i64 z9] 37) = w2
 have hb2 := eqB hW2 (Qo _ _)
 have hX2 : w2.heap[X]? = some (.cells #[.string ⟨T.name.toArray⟩, .slice cp9 T.columns.length cc9, .slice kp9 T.key.length kc9, .slice rp9 T.refs.length rc9, .int .i64 k9, .string s19, .int .i64 n9, .string s29, .slice p19 n19 c19, .slice p29 n29 c29, .slice p39 n39 c39, .int .i64 a9, .int .i64 z9] 37 (0, 0)) := by rw [← hW2, ← hX]; exact Qw _ _
 have hZ2 := kE hb2 hlt1 HZ1.out
 have HB2 := Qq (HB1.out.thn hb2); have HX2 := Qq hX2; have HZ2 := Qq hZ2
 have HVT2 := Qq (Qs.frame HVT.out (.of_below hb2))
 rw [hX] at hlt1 ⊢
 clear hW2 hb2 hX2 hZ2 hX HZ1 HVT
 have hXs := Qf HX2.out
 go_wp2_with (go_at_call 10; refine (HRo.out _ HB2.out).mono ?_; rintro e w' ⟨rp, rc, rfl, hrs, rfl⟩; have HRs := Qq hrs; clear hrs)
 obtain ⟨n, hn⟩ := eX (rows.length)
 obtain ⟨_, _, _, hln⟩ := HRs.out.len
 rw [hn] at HRs hln ⊢
 have HN := Qq hn
 clear hn
 by_cases hrun : b = true ∧ 0 < kn
 ·obtain ⟨rfl, hkn0⟩ := hrun
  have hsome : Z0 s.tables tn = some T := by
   have h1 := HBe.out; have h2 := HTe.out
   cases hq : Z0 s.tables tn with
   | none => rw [hq] at h1; cases h1
   | some v => rw [hq] at h2; rw [← h2]; rfl
  have hrl : res = atP (lkP T.key key) rows := by rw [← HRes.out, Ph hsome (by rw [HKn.out]; exact hkn0), HRows.out]
  have HRl := Qq hrl
  have hkn1 : (0 : Int) < (kn : Int) := by omega
  have hkn2 : decide (0 < kn) = true := by simpa using hkn0
  clear hsome hrl
  go_loopw [13, 14] (fun i _ wr => ∃ k : Nat, k ≤ n ∧ i = .int .i64 k ∧ Aside (∀ (j : Nat) (y : Val), j < k → rows[j]? = some y → lkP T.key key y = false) ∧ Aside (Below w2.heap.size w2 wr)) (fun i _ _ => n - (intOf i).toNat)
  case atStart => exact ⟨0, Q8 _, rfl, fun j _ hj => absurd hj (Nat.not_lt_zero _), Qz _ _⟩
  obtain ⟨k, hk, rfl, A, hBr⟩ := hrel
  have HBr := Qq (show Below w2.heap.size w2 wr from hBr)
  have HBw := Qq (HB2.out.thn HBr.out)
  clear hBr
  have HXr := Qq (kE HBr.out hXs HX2.out); have HZr := Qq (kB HBr.out HZ2.out)
  have hsr := HBr.out.size
  by_cases hlt : k < n
  ·have hi1 : (0 : Int) ≤ (k : Int) := by omega
   have hi2 : (k : Int) < (n : Int) := by omega
   have hi3 : decide (k < n) = true := by simpa using hlt
   obtain ⟨y, hy⟩ : ∃ y, rows[k]? = some y := ⟨_, Qx (by rw [HN.out]; exact hlt)⟩
   obtain ⟨rb, roff, q3, l3, q4, l4, rfl, hrb, hvy, e0, e1, e2, e3, e4⟩ := (HRs.out.below HBr.out).val hy
   have HVy := Qq hvy; have HY := Qq hy
   obtain ⟨x0, x1, x2, x3, x4, x5, x6, x7, x8, x9, x10, x11, x12⟩ := row13 HXr.out
   go_upto_region 6 with fail
   refine let_mvar% ?S1 := fun w' : World => w'.cell? ⟨X, 0, none⟩ = some (.string ⟨T.name.toArray⟩) ∧ w'.cell? ⟨X, 1, none⟩ = some (.slice cp9 T.columns.length cc9) ∧ w'.cell? ⟨X, 2, none⟩ = some (.slice kp9 T.key.length kc9) ∧ w'.cell? ⟨X, 3, none⟩ = some (.slice rp9 T.refs.length rc9) ∧ w'.cell? ⟨X, 4, none⟩ = some (.int .i64 k9) ∧ w'.cell? ⟨X, 5, none⟩ = some (.string s19) ∧ w'.cell? ⟨X, 6, none⟩ = some (.int .i64 n9) ∧ w'.cell? ⟨X, 7, none⟩ = some (.string s29) ∧ w'.cell? ⟨X, 8, none⟩ = some (.slice p19 n19 c19) ∧ w'.cell? ⟨X, 9, none⟩ = some (.slice p29 n29 c29) ∧ w'.cell? ⟨X, 10, none⟩ = some (.slice p39 n39 c39) ∧ w'.cell? ⟨X, 11, none⟩ = some (.int .i64 a9) ∧ w'.cell? ⟨X, 12, none⟩ = some (.int .i64 z9) ∧ w'.cell? ⟨rb, roff + k * 5, none⟩ = some (.int .i64 y.kind) ∧ w'.cell? ⟨rb, roff + k * 5 + 1, none⟩ = some (.int .i64 y.n) ∧ w'.cell? ⟨rb, roff + k * 5 + 2, none⟩ = some (.string ⟨y.s.toArray⟩) ∧ w'.cell? ⟨rb, roff + k * 5 + 3, none⟩ = some (.slice q3 y.names.length l3) ∧ w'.cell? ⟨rb, roff + k * 5 + 4, none⟩ = some (.slice q4 y.kids.length l4) ∧ Below wr.heap.size wr w'; ?_
   have HS : ∀ w', Below wr.heap.size wr w' → ?S1 w' := by
    intro w' h
    have hh : ∀ {b j : Nat} {u : Value}, b < wr.heap.size → wr.cell? ⟨b, j, none⟩ = some u → w'.cell? ⟨b, j, none⟩ = some u := fun hlt hc => kD h hlt hc
    have hXl : X < wr.heap.size := by omega
    exact ⟨hh hXl x0, hh hXl x1, hh hXl x2, hh hXl x3, hh hXl x4, hh hXl x5, hh hXl x6, hh hXl x7, hh hXl x8, hh hXl x9, hh hXl x10, hh hXl x11, hh hXl x12, hh hrb e0, hh hrb e1, hh hrb e2, hh hrb e3, hh hrb e4, h⟩
   have HSB : ∀ w', ?S1 w' → Below wr.heap.size wr w' := fun w' h => h.2.2.2.2.2.2.2.2.2.2.2.2.2.2.2.2.2.2
   have HC := Qq (fun W' (h' : ?S1 W') => (Us S0 (fun b => S1 b ∧ b < w.heap.size) T y [.string ⟨T.name.toArray⟩, .slice cp9 T.columns.length cc9, .slice kp9 T.key.length kc9, .slice rp9 T.refs.length rc9, .int .i64 k9, .string s19, .int .i64 n9, .string s29, .slice p19 n19 c19, .slice p29 n29 c29, .slice p39 n39 c39, .int .i64 a9, .int .i64 z9] [.int .i64 y.kind, .int .i64 y.n, .string ⟨y.s.toArray⟩, .slice q3 y.names.length l3, .slice q4 y.kids.length l4] W' (Qs.frame HVT2.out (.of_below (HBr.out.thn (HSB _ h')))) (HVy.out.move (.of_below (HSB _ h')) (fun _ _ h => h)) hTk).mono (R' := fun e w2 => ∃ p n cap, e = .returned (.slice p n cap) ∧ Sl Ql (fun _ => True) w2 (.slice p n cap) ((keyOf T.key y).getD []) ∧ ?S1 w2) (by
    rintro e w2 ⟨p, cap, rfl, h3, h4⟩
    exact ⟨p, _, cap, rfl, h3.mono (fun _ _ _ => trivial), HS _ ((HSB _ h').thn h4)⟩))
   have HE := Qq (fun W' p n cap (h' : ?S1 W') (h2 : Sl Ql (fun _ => True) W' (.slice p n cap) ((keyOf T.key y).getD [])) => (Km (fun _ => True) S2 (.slice p n cap) (.slice kp kn kc) ((keyOf T.key y).getD []) key W' h2 (HKV.out.below (HBw.out.thn (HSB _ h')))).mono (R' := fun e w2 => e = .returned (.bool (lkP T.key key y)) ∧ ?S1 w2) (by
    rintro e w2 ⟨rfl, h4⟩
    exact ⟨rfl, HS _ ((HSB _ h').thn h4.bl)⟩))
   have HS0 := Qq (HS wr.drew (Qz _ _).drew); have HSB' := Qq HSB
   obtain ⟨c, hc⟩ := eX (lkP T.key key y)
   rw [hc] at HE
   have HCc := Qq hc
   clear HS HSB hvy hy hc x0 x1 x2 x3 x4 x5 x6 x7 x8 x9 x10 x11 x12 e0 e1 e2 e3 e4
   go_cut [14] from 24 to 50 (fun t14 wx => t14 = .bool c ∧ Aside (Below wr.heap.size wr wx))
   case first =>
    go_region_held3 ?S1 (first | with_reducible exact HS0.out | with_reducible exact hS2 | with_reducible exact hS3)
     (first
      | (go_at_call 12; refine (HC.out _ (by assumption)).mono ?_; rintro e w5 ⟨kp2, kn2, kc2, rfl, hk2, hS2⟩)
      | (go_at_call 13; refine (HE.out _ _ _ _ (by assumption) hk2).mono ?_; rintro e w6 ⟨rfl, hS3⟩))
    all_goals
     go_wp2_with fail
     go_meet
     exact ⟨rfl, HSB'.out _ hS3⟩
   obtain ⟨rfl, hbc⟩ := hcut
   have HBc := Qq (show Below wr.heap.size wr wc from hbc)
   clear hbc HC HE HS0 HSB'
   cases c with
   | false =>
    go_wp2_with fail
    go_roundw
    case measure => simp [intOf]; omega
    case rel =>
     refine ⟨k + 1, by omega, by go_num, (show Aside _ from fun j z hj hz => ?_), HBr.out.thn HBc.out⟩
     by_cases e : j = k
     ·subst e
      have := HY.out
      rw [this] at hz
      cases hz
      exact HCc.out
     exact A.out j z (by omega) hz
   | true =>
    have hr0 : res = some y := by rw [HRl.out]; exact Ey HY.out HCc.out A.out
    subst hr0
    obtain ⟨rb', roff', u3, m3, u4, m4, he, hrb', hvy, e0, e1, e2, e3, e4⟩ := (HRs.out.below (HBr.out.thn HBc.out)).val HY.out
    simp only [Option.some.injEq, Addr.mk.injEq, and_true] at he
    obtain ⟨rfl, rfl⟩ := he
    have hZc := kB HBc.out HZr.out
    have HZc := Qq hZc; have HVyc := Qq hvy
    obtain ⟨z0, z1, z2, z3, z4⟩ := row5 hZc
    obtain ⟨f0, f1, f2, f3, f4⟩ := frz5 hZc
    clear hZc hvy A
    go_wp2_with fail
    show bodyPost _ _ _ _ _ (Zz wc (w.heap.size + 1) (.int .i64 y.kind) (.int .i64 y.n) (.string ⟨y.s.toArray⟩) (.slice u3 y.names.length m3) (.slice u4 y.kids.length m4))
    refine Q7 (v := .tuple #[.agg #[.int .i64 y.kind, .int .i64 y.n, .string ⟨y.s.toArray⟩, .slice u3 y.names.length m3, .slice u4 y.kids.length m4], .bool true]) (by simp [results, results16, go_sem, Qm HZc.out]) rfl ⟨_, rfl, ?_, Qn (HBw.out.thn HBc.out) (by omega)⟩
    exact Qh.move HVyc.out (fun b hb _ => Qt (by have := hb.2; omega)) (fun b _ hb => hb.1)
  have hkn' : k = n := by omega
  subst hkn'
  have hi3 : decide (k < k) = false := by simp
  have hr0 : res = none := by rw [HRl.out]; exact Gl (fun j y hy => A.out j y (by have := (Qj hy).1; have := HN.out; omega) hy)
  subst hr0
  have HZc := HZr
  obtain ⟨z0, z1, z2, z3, z4⟩ := row5 HZr.out
  obtain ⟨f0, f1, f2, f3, f4⟩ := frz5 HZr.out
  clear A hlt
  go_wp2_with fail
  show bodyPost _ _ _ _ _ (Zz wr (w.heap.size + 1) (.int .i64 0) (.int .i64 0) (.string ⟨#[]⟩) (.slice none 0 0) (.slice none 0 0))
  refine Q7 (v := .tuple #[.agg zV, .bool false]) (by simp [results, results16, go_sem, Qm HZr.out]) rfl ⟨_, rfl, Zl _ _, Qn HBw.out (by omega)⟩
 have hr0 : res = none := by
  rw [← HRes.out]
  refine Px ?_
  rw [HKn.out]
  cases hq : Z0 s.tables tn with
  | none => exact .inl rfl
  | some v =>
   have h1 := HBe.out
   rw [hq] at h1
   exact .inr (by have : b = true := h1.symm; by_cases h0 : 0 < kn; exact absurd ⟨this, h0⟩ hrun; omega)
 subst hr0
 go_loopw [13, 14] (fun i _ wr => i = .int .i64 0 ∧ w2 = wr) (fun _ _ _ => 0)
 case atStart => exact ⟨rfl, rfl⟩
 obtain ⟨rfl, rfl⟩ := hrel
 obtain ⟨z0, z1, z2, z3, z4⟩ := row5 HZ2.out
 obtain ⟨f0, f1, f2, f3, f4⟩ := frz5 HZ2.out
 have hsp : (0 < n ∧ b = true ∧ kn = 0) ∨ (0 < n ∧ b = false) ∨ n = 0 := by
  by_cases h1 : n = 0
  ·exact .inr (.inr h1)
  cases hbq : b with
  | false => exact .inr (.inl ⟨by omega, rfl⟩)
  | true => exact .inl ⟨by omega, rfl, by by_cases h0 : 0 < kn; exact absurd ⟨hbq, h0⟩ hrun; omega⟩
 clear hrun
 rcases hsp with ⟨h1, rfl, rfl⟩ | ⟨h1, rfl⟩ | rfl
 focus
  have g1 : (0 : Int) < (n : Int) := by omega
  have g2 : decide (0 < n) = true := by simpa using h1
  go_wp2_with fail
 rotate_left
 focus
  have g1 : (0 : Int) < (n : Int) := by omega
  have g2 : decide (0 < n) = true := by simpa using h1
  go_wp2_with fail
 rotate_left
 focus
  go_wp2_with fail
 all_goals
  show bodyPost _ _ _ _ _ (Zz w2 (w.heap.size + 1) (.int .i64 0) (.int .i64 0) (.string ⟨#[]⟩) (.slice none 0 0) (.slice none 0 0))
  refine Q7 (v := .tuple #[.agg zV, .bool false]) (by simp [results, results16, go_sem, Qm HZ2.out]) rfl ⟨_, rfl, Zl _ _, Qn HB2.out (by omega)⟩
def L6 (w : World) (l : List Rel) (e : Ending) (w' : World) : Prop := ∃ p cap rvs, e = .returned (.slice p l.length cap) ∧ Xg w.heap.size w' (.slice p l.length cap) l rvs ∧ Below w.heap.size w w'
structure Kl (w : World) (g n cap : Nat) (l : List Rel) (css0 : List (List Value)) (k : Nat) (rvs : List Value) (wx : World) : Prop where
 below : Below w.heap.size w wx
 len : rvs.length = k
 row : wx.ownsRow w.heap.size 57 2 (.slice (some ⟨g, 0, none⟩) n cap) n (Za (l.take k) rvs ++ css0.drop k).flatten
 rows : ∀ (i : Nat) (r : Rel) (rv : Value), i < k → l[i]? = some r → rvs[i]? = some rv → ∃ css, Own Ql 44 (fun b => b < w.heap.size) w.heap.size wx rv r.rows css
 apart : ∀ (i j : Nat) (a b : Value) (h : Nat), rvs[i]? = some a → rvs[j]? = some b → a.ownBlock = some h → b.ownBlock = some h → i = j
theorem Kl.next {w wr w4 : World} {g n cap : Nat} {l : List Rel} {css0 : List (List Value)} {k : Nat} {rvs : List Value} {r : Rel} {rv0 rv' : Value} {css : List (List Value)} (hM : Kl w g n cap l css0 k rvs wr) (hn : l.length = n) (hc0 : css0.length = n) (hc2 : ∀ c ∈ css0, c.length = 2)
  (hr : l[k]? = some r) (hc : css0[k]? = some [sv r.table, rv0]) (hb : Below wr.heap.size wr w4) (ho : Own Ql 44 (fun b => b < w.heap.size) wr.heap.size w4 rv' r.rows css) :
  Kl w g n cap l css0 (k + 1) (rvs ++ [rv']) (w4.setCell ⟨g, k * 2 + 1, none⟩ rv') := by
 subst hn
 have hk := (Qj hr).1
 have hg := hM.row.lt g rfl
 have hsz := hM.below.size
 have hlt : (l.take k).length = k := by rw [List.length_take]; omega
 have hst : (Za (l.take k) rvs).length = k := by rw [Vy (by rw [hlt]; exact hM.len), hlt]
 have hall : ∀ c ∈ Za (l.take k) rvs ++ css0.drop k, c.length = 2 := by
  intro c hcm
  rcases List.mem_append.1 hcm with h | h
  ·exact Ux c h
  exact hc2 c (List.mem_of_mem_drop h)
 have hat : (Za (l.take k) rvs ++ css0.drop k)[k]? = some [sv r.table, rv0] := by
  rw [List.getElem?_append_right (by omega), hst, Nat.sub_self, List.getElem?_drop, Nat.add_zero]; exact hc
 have hset : (Za (l.take k) rvs ++ css0.drop k).set k [sv r.table, rv'] = Za (l.take (k + 1)) (rvs ++ [rv']) ++ css0.drop (k + 1) := by
  have hd : css0.drop k = css0[k]'(by omega) :: css0.drop (k + 1) := List.drop_eq_getElem_cons (by omega)
  have hs : Za (l.take (k + 1)) (rvs ++ [rv']) = Za (l.take k) rvs ++ [[sv r.table, rv']] := by
   unfold Za
   rw [List.take_succ_eq_append_getElem hk, List.zipWith_append (by rw [hlt, hM.len])]
   rw [Qx hk] at hr
   rw [Qb hr]; rfl
  rw [hd, List.set_append_right _ _ (by omega), hst, Nat.sub_self, List.set_cons_zero, hs, List.append_assoc]; rfl
 have hne : ∀ h, rv'.ownBlock = some h → h ≠ g := fun h e => by have := (ho.row.lt h e).1; omega
 refine ⟨(hM.below.thn hb).setCell (p := ⟨g, k * 2 + 1, none⟩) hg.1 _, by rw [List.length_append, hM.len]; rfl, ?_, ?_, ?_⟩
 ·rw [← hset, ← Bh _ k _ rv0 rv' hall hat]
  exact ((Xw hM.row (Q9 _) (fun b _ hlt => hb.block b hlt)).stored (k * 2 + 1) rv').1
 ·intro i x u hi hx hu
  by_cases e : i = k
  ·subst e
   rw [List.getElem?_append_right (by rw [hM.len]; exact Q9 _), hM.len, Nat.sub_self] at hu
   simp at hu; subst hu
   rw [hr] at hx; cases hx
   refine ⟨css, ho.move (by omega) (fun b hb' h => Qg (fun e => ?_))⟩
   have e' : b = g := e
   rcases h with h | h
   ·have h' : b < w.heap.size := h; omega
   exact hne b h e'
  rw [List.getElem?_append_left (by rw [hM.len]; omega)] at hu
  obtain ⟨cs, hj⟩ := hM.rows i x u (by omega) hx hu
  have hu1 : u.ownBlock ≠ some g := Yz hM.row hj.row (by decide) rfl
  refine ⟨cs, hj.move (Q9 _) (fun b hb' h => ?_)⟩
  have : b ≠ g := by
   intro e'
   rcases h with h | h
   ·have h' : b < w.heap.size := h; omega
   exact hu1 (e' ▸ h)
  rw [Qg (fun e2 => this e2), hb.block b hb']
 intro i j a b h ha hb' h1 h2
 have hold : ∀ (i : Nat) (a : Value), i < k → rvs[i]? = some a → a.ownBlock = some h → h < wr.heap.size := by
  intro i a hi ha hh
  obtain ⟨x, hx⟩ : ∃ x, l[i]? = some x := ⟨_, Qx (by omega)⟩
  obtain ⟨cs, hj⟩ := hM.rows i x a hi hx ha
  exact (hj.row.lt h hh).2
 have hlast : ∀ (i : Nat) (a : Value), ¬ i < k → (rvs ++ [rv'])[i]? = some a → i = k ∧ a = rv' := by
  intro i a hi ha
  rw [List.getElem?_append_right (by rw [hM.len]; omega), hM.len] at ha
  have h0 := (Qj ha).1
  simp at h0
  have : i = k := by omega
  subst this
  simp at ha
  exact ⟨rfl, ha.symm⟩
 by_cases hi : i < k
 ·have ha' := ha
  rw [List.getElem?_append_left (by rw [hM.len]; exact hi)] at ha'
  by_cases hj : j < k
  ·rw [List.getElem?_append_left (by rw [hM.len]; exact hj)] at hb'
   exact hM.apart i j a b h ha' hb' h1 h2
  obtain ⟨rfl, rfl⟩ := hlast j b hj hb'
  have := hold i a hi ha' h1
  have := (ho.row.lt h h2).1
  omega
 obtain ⟨rfl, rfl⟩ := hlast i a hi ha
 by_cases hj : j < i
 ·rw [List.getElem?_append_left (by rw [hM.len]; exact hj)] at hb'
  have := hold j b hj hb' h2
  have := (ho.row.lt h h1).1
  omega
 obtain ⟨rfl, _⟩ := hlast j b hj hb'
 rfl
theorem Kl.done {w wr : World} {g n cap : Nat} {l : List Rel} {css0 : List (List Value)} {rvs : List Value} (hM : Kl w g n cap l css0 n rvs wr) (hn : l.length = n) (hc0 : css0.length = n) (htl : ∀ r ∈ l, r.table.length ≤ 1000000) : Xg w.heap.size wr (.slice (some ⟨g, 0, none⟩) n cap) l rvs := by
 subst hn
 have hrow := hM.row
 rw [List.take_of_length_le (Q9 _), List.drop_eq_nil_of_le (by omega), List.append_nil] at hrow
 refine ⟨hM.len, hrow, htl, fun i r rv hr hrv => ?_, hM.apart⟩
 obtain ⟨cs, hj⟩ := hM.rows i r rv (Qj hr).1 hr hrv
 refine ⟨cs, ⟨hj.row, hj.cs.move (.refl _ _) (fun b hb hS => ⟨⟨fun e => ?_, fun u hu e => ?_⟩, hS.2⟩)⟩⟩
 ·have h' : b < w.heap.size := hS.1
  have := (hrow.lt b e).1
  omega
 have h' : b < w.heap.size := hS.1
 obtain ⟨j, hju⟩ := List.getElem?_of_mem hu
 have hjl : j < l.length := by rw [← hM.len]; exact (Qj hju).1
 obtain ⟨cs', hj'⟩ := hM.rows j _ u hjl (Qx hjl) hju
 have := (hj'.row.lt b e).1
 omega
theorem Mg (S0 : Nat → Prop) (lv : Value) (l : List Rel) (w : World) (hl0 : Sl Z8 S0 w lv l) :
  Calls prog 53 #[lv] w (L6 w l) := by
 have hl : Sl Z8 (fun b => b < w.heap.size) w lv l := hl0.mono (fun b hb _ => hb)
 have HCl := Qq (cloneRel _ lv l w hl)
 obtain ⟨lp, lc, rfl, hll⟩ := hl.len
 clear hl0 hl
 obtain ⟨n, hn⟩ := eX (l.length)
 unfold Vi at HCl
 rw [hn] at HCl hll ⊢
 have HN := Qq hn
 clear hn
 go_enter func53, ntmps53
 go_wp2_with fail
 refine HCl.out.mono ?_
 rintro e w1 ⟨p, cap, css0, rfl, hO, hb1⟩
 have HO := Qq hO; have HB1 := Qq hb1
 clear hO hb1 HCl
 by_cases hn0 : n = 0
 ·subst hn0
  go_wp2_with fail
  go_loopw [10] (fun i wr => i = .int .i64 0 ∧ w1 = wr) (fun _ _ => 0)
  case atStart => exact ⟨rfl, rfl⟩
  obtain ⟨rfl, rfl⟩ := hrel
  go_wp2_with fail
  go_ret
  have hl0 : l = [] := List.eq_nil_of_length_eq_zero HN.out
  subst hl0
  refine ⟨p, cap, [], rfl, ⟨rfl, ?_, by simp, fun i r rv h => by simp at h, fun i j a b g h => by simp at h⟩, HB1.out⟩
  have h1 : w1.ownsRow w.heap.size 57 2 (.slice p 0 cap) 0 css0.flatten := HO.out.row
  have h2 : css0 = [] := List.eq_nil_of_length_eq_zero HO.out.cs.len
  rw [h2] at h1
  exact h1
 obtain ⟨g, cap', hv, hgB, hgs⟩ := HO.out.row.form (by rw [HN.out]; omega)
 simp only [Value.slice.injEq] at hv
 obtain ⟨rfl, -, rfl⟩ := hv
 go_wp2_with fail
 go_loopw [10] (fun i wr => ∃ (k : Nat) (rvs : List Value), k ≤ n ∧ i = .int .i64 k ∧ Kl w g n cap l css0 k rvs wr) (fun i _ => n - (intOf i).toNat)
 case atStart =>
  refine ⟨0, [], Q8 _, rfl, HB1.out, rfl, ?_, fun i r rv h => absurd h (Nat.not_lt_zero _), fun i j a b h ha => by simp at ha⟩
  have h1 : w1.ownsRow w.heap.size 57 2 (.slice (some ⟨g, 0, none⟩) n cap) l.length css0.flatten := HO.out.row
  rw [HN.out] at h1
  exact h1
 obtain ⟨k, rvs, hkn, rfl, hM⟩ := hrel
 have HM := Qq hM
 clear hM
 by_cases hlt : k < n
 ·have hi1 : (0 : Int) ≤ (k : Int) := by omega
  have hi2 : (k : Int) < (n : Int) := by omega
  obtain ⟨r, hr⟩ : ∃ r, l[k]? = some r := ⟨_, Qx (by rw [HN.out]; exact hlt)⟩
  obtain ⟨c, hc⟩ : ∃ c, css0[k]? = some c := ⟨_, Qx (by rw [HO.out.cs.len, HN.out]; exact hlt)⟩
  obtain ⟨rv, rfl, htl, hrv⟩ := HO.out.cs.R k c r hc hr
  obtain ⟨rp, rc, rfl, _⟩ := hrv.len
  have hst : (Za (l.take k) rvs).length = k := by rw [Vy (by rw [List.length_take, HM.out.len, HN.out]; omega), List.length_take, HN.out]; omega
  have hall : ∀ c ∈ Za (l.take k) rvs ++ css0.drop k, c.length = 2 := by
   intro c hcm
   rcases List.mem_append.1 hcm with h | h
   ·exact Ux c h
   exact HO.out.cs.all c (List.mem_of_mem_drop h)
  have hat : (Za (l.take k) rvs ++ css0.drop k)[k]? = some [sv r.table, .slice rp r.rows.length rc] := by
   rw [List.getElem?_append_right (by omega), hst, Nat.sub_self, List.getElem?_drop, Nat.add_zero]; exact hc
  have l0 := HM.out.row.cellAt (k * 2) (by omega)
  have l1 := HM.out.row.cellAt (k * 2 + 1) (by omega)
  rw [show (Za (l.take k) rvs ++ css0.drop k).flatten[k * 2]? = some (sv r.table) from Xv (k := 2) hall hat (j := 0) rfl] at l0
  rw [show (Za (l.take k) rvs ++ css0.drop k).flatten[k * 2 + 1]? = some (.slice rp r.rows.length rc) from Xv (k := 2) hall hat (j := 1) rfl] at l1
  unfold sv at l0
  have hrs : Sl Ql (fun b => b < w.heap.size) w (.slice rp r.rows.length rc) r.rows := (hrv.mono (S' := fun b => b < w.heap.size) (fun b _ hb => hb.1)).frame (fun b hb _ => (HB1.out.block b hb).symm)
  have HRs := Qq hrs; have HR := Qq hr; have HC := Qq hc
  have f1 := HM.out.row.frozenAt (k * 2 + 1)
  clear hr hc hrv hst hall hat hrs f1
  go_upto_region 5 with fail
  obtain ⟨W5, hW5⟩ := eX (wr.alloc (.cells #[.string ⟨r.table.toArray⟩, .slice rp r.rows.length rc] 57))
  rw [hW5]
  have hb5 := eqB hW5 (Qo _ _)
  have hX5 := eqH (b := wr.heap.size) hW5 (Qw _ _)
  have x1 := rA1 hX5
  have HB5 := Qq hb5
  have HCv := Qq (Hf _ _ _ W5 (HRs.out.below (HM.out.below.thn hb5)))
  clear hW5 hb5 hX5 l0 l1
  go_wp2_with fail
  refine HCv.out.mono ?_
  rintro e w6 ⟨p6, c6, css6, rfl, ho6, hb6⟩
  have hB6 := HB5.out.thn hb6
  have hrow6 := Xw HM.out.row (Q9 _) (fun b _ hlt => hB6.block b hlt)
  have f7 := hrow6.frozenAt (k * 2 + 1)
  have k7 := hrow6.cellAt (k * 2 + 1) (by omega)
  have HO6 := Qq (ho6.move (B' := wr.heap.size) HB5.out.size (fun _ _ _ => rfl)); have HB6 := Qq hB6
  obtain ⟨u7, hu7⟩ : ∃ u, (Za (l.take k) rvs ++ css0.drop k).flatten[k * 2 + 1]? = some u := by
   cases h : (Za (l.take k) rvs ++ css0.drop k).flatten[k * 2 + 1]? with
   | some u => exact ⟨u, rfl⟩
   | none =>
    have h2 := List.getElem?_eq_none_iff.1 h
    have := hrow6.1
    omega
  rw [hu7] at k7
  clear ho6 hb6 hB6 hrow6 hu7 x1 HCv
  go_wp2_with fail
  go_roundw
  case measure => simp [intOf]; omega
  case rel => exact ⟨k + 1, rvs ++ [.slice p6 r.rows.length c6], by omega, by go_num, HM.out.next HN.out (by rw [HO.out.cs.len]; exact HN.out) HO.out.cs.all HR.out HC.out HB6.out HO6.out⟩
 obtain rfl : k = n := by omega
 have hi2 : ¬ (k : Int) < (k : Int) := by omega
 go_wp2_with fail
 go_ret
 have htl : ∀ r ∈ l, r.table.length ≤ 1000000 := by
  intro r hr
  obtain ⟨i, hi⟩ := List.getElem?_of_mem hr
  have hil := (Qj hi).1
  obtain ⟨_, _, h, _⟩ := HO.out.cs.R i _ r (Qx (by rw [HO.out.cs.len]; exact hil)) hi
  exact h
 have hd := HM.out.done HN.out (by rw [HO.out.cs.len]; exact HN.out) htl
 refine ⟨some ⟨g, 0, none⟩, cap, rvs, by rw [HN.out]; rfl, by rw [HN.out]; exact hd, HM.out.below⟩
end Go.Proofs.YtppbaladeefnkaaGreatDoor

import Derived.Test.YtppbaladeefnkaaGreatDoorU09
set_option maxRecDepth 100000
set_option maxHeartbeats 400000000
namespace Go.Proofs.YtppbaladeefnkaaGreatDoor
open Go.RowKit Go.Shelf Go.Lib Go.WideMaps Go.Maps
def Zh (W : World) (R : Nat) (a0 a1 a2 a3 a4 a5 a6 a7 a8 a9 a10 a11 : Value) : World := ((((((((((((W.setCell ⟨R, 0, none⟩ a0).setCell ⟨R, 1, none⟩ a1).setCell ⟨R, 2, none⟩ a2).setCell ⟨R, 3, none⟩ a3).setCell ⟨R, 4, none⟩ a4).setCell ⟨R, 5, none⟩ a5).setCell ⟨R, 6, none⟩ a6).setCell ⟨R, 7, none⟩ a7).setCell ⟨R, 8, none⟩ a8).setCell ⟨R, 9, none⟩ a9).setCell ⟨R, 10, none⟩ a10).setCell ⟨R, 11, none⟩ a11)
theorem Gc {W : World} {R : Nat} {a0 a1 a2 a3 a4 a5 a6 a7 a8 a9 a10 a11 x0 x1 x2 x3 x4 x5 x6 x7 x8 x9 x10 x11 : Value} {t : TypeId} (h : W.heap[R]? = some (.cells #[x0, x1, x2, x3, x4, x5, x6, x7, x8, x9, x10, x11] t (0, 0))) : (Zh W R a0 a1 a2 a3 a4 a5 a6 a7 a8 a9 a10 a11).heap[R]? = some (.cells #[a0, a1, a2, a3, a4, a5, a6, a7, a8, a9, a10, a11] t (0, 0)) := by
 have hq9 := heap_setCell_same _ _ 0 _ _ a0 h; have hq9 := heap_setCell_same _ _ 1 _ _ a1 hq9; have hq9 := heap_setCell_same _ _ 2 _ _ a2 hq9; have hq9 := heap_setCell_same _ _ 3 _ _ a3 hq9; have hq9 := heap_setCell_same _ _ 4 _ _ a4 hq9; have hq9 := heap_setCell_same _ _ 5 _ _ a5 hq9; have hq9 := heap_setCell_same _ _ 6 _ _ a6 hq9; have hq9 := heap_setCell_same _ _ 7 _ _ a7 hq9; have hq9 := heap_setCell_same _ _ 8 _ _ a8 hq9; have hq9 := heap_setCell_same _ _ 9 _ _ a9 hq9; have hq9 := heap_setCell_same _ _ 10 _ _ a10 hq9; have hq9 := heap_setCell_same _ _ 11 _ _ a11 hq9
 simpa [Zh] using hq9
theorem Z9 {W : World} {R : Nat} {a0 a1 a2 a3 a4 a5 a6 a7 a8 a9 a10 a11 x0 x1 x2 x3 x4 x5 x6 x7 x8 x9 x10 x11 : Value} {t : TypeId} (h : W.heap[R]? = some (.cells #[x0, x1, x2, x3, x4, x5, x6, x7, x8, x9, x10, x11] t (0, 0))) (j : Nat) : (Zh W R a0 a1 a2 a3 a4 a5 a6 a7 a8 a9 a10 a11).cell? ⟨R, j, none⟩ = #[a0, a1, a2, a3, a4, a5, a6, a7, a8, a9, a10, a11][j]? :=
 Qk _ _ _ _ _ _ (Gc h)
theorem Yj {W : World} {R k : Nat} {a0 a1 a2 a3 a4 a5 a6 a7 a8 a9 a10 a11 : Value} (h : k ≠ R) : (Zh W R a0 a1 a2 a3 a4 a5 a6 a7 a8 a9 a10 a11).heap[k]? = W.heap[k]? := by
 unfold Zh
 repeat rw [Qg h]
theorem Z3 {B R : Nat} {w W : World} {a0 a1 a2 a3 a4 a5 a6 a7 a8 a9 a10 a11 : Value} (h : Below B w W) (hR : B ≤ R) : Below B w (Zh W R a0 a1 a2 a3 a4 a5 a6 a7 a8 a9 a10 a11) :=
 (((((((((((h.setCell (p := ⟨R, 0, none⟩) hR _).setCell (p := ⟨R, 1, none⟩) hR _).setCell (p := ⟨R, 2, none⟩) hR _).setCell (p := ⟨R, 3, none⟩) hR _).setCell (p := ⟨R, 4, none⟩) hR _).setCell (p := ⟨R, 5, none⟩) hR _).setCell (p := ⟨R, 6, none⟩) hR _).setCell (p := ⟨R, 7, none⟩) hR _).setCell (p := ⟨R, 8, none⟩) hR _).setCell (p := ⟨R, 9, none⟩) hR _).setCell (p := ⟨R, 10, none⟩) hR _).setCell (p := ⟨R, 11, none⟩) hR _
def Y0 (P : List Bs) (k : Bs) : Option Nat := P.findIdx? (fun y => decide (y = k))
theorem Ke (P : List Bs) (k s : Bs) : Y0 (P ++ [k]) s = (match Y0 P s with | some a => some a | none => if k = s then some P.length else none) := by
 unfold Y0
 rw [List.findIdx?_append]
 cases P.findIdx? (fun y => decide (y = s)) with
 | some a => rfl
 | none => by_cases h : k = s <;> simp [h]
def U1 (P : List Bs) (st : Nat × Nat) (k : Bs) : Nat × Nat := match Y0 P k with
 | none => st
 | some a => if a < st.1 then (a, P.length) else st
def ust (n : Nat) (ks : List Bs) : Nat → Nat × Nat
 | 0 => (n, 0)
 | i + 1 => U1 (ks.take i) (ust n ks i) (ks.getD i [])
theorem F6 {P : List Bs} {k : Bs} {a : Nat} (h : Y0 P k = some a) : a < P.length := by
 unfold Y0 at h
 rw [List.findIdx?_eq_some_iff_getElem] at h
 exact h.1
theorem ust_bd (n : Nat) (ks : List Bs) : ∀ i, i ≤ ks.length → (ust n ks i).1 = n ∨ ((ust n ks i).1 < i ∧ (ust n ks i).2 < i)
 | 0, _ => .inl rfl
 | i + 1, hi => by
  have ih := ust_bd n ks i (by omega)
  have hl : (ks.take i).length = i := by rw [List.length_take]; omega
  have e : ust n ks (i + 1) = U1 (ks.take i) (ust n ks i) (ks.getD i []) := rfl
  rw [e]
  generalize ust n ks i = st at ih ⊢
  unfold U1
  cases hf : Y0 (ks.take i) (ks.getD i []) with
  | none =>
   rcases ih with h | h
   ·exact .inl h
   exact .inr ⟨by show st.1 < i + 1; omega, by show st.2 < i + 1; omega⟩
  | some a =>
   have ha := F6 hf
   by_cases hlt : a < st.1
   ·simp only [if_pos hlt]
    exact .inr ⟨by omega, by omega⟩
   simp only [if_neg hlt]
   rcases ih with h | h
   ·exact .inl h
   exact .inr ⟨by omega, by omega⟩
def R3 (D : DataW Unit) (P : List Bs) : Prop := IsMap D ∧ ∀ s : Bs, Maps.has D (.string s) = (Y0 P s).isSome ∧ ∀ a, Y0 P s = some a → D.atKey (.string s) (.lit (.int .i64 0)) = .lit (.int .i64 (a : Nat))
theorem invD_nil : R3 (.map []) [] := ⟨isMap_empty, fun _ => ⟨rfl, fun _ h => by cases h⟩⟩
theorem keyLit (s : Bs) : WideAt.IsKeyLit (.string s) := by simp [WideAt.IsKeyLit]
theorem invD_new {D : DataW Unit} {P : List Bs} {k : Bs} (h : R3 D P) (hk : Y0 P k = none) : R3 (D.put (.string k) (.lit (.int .i64 (P.length : Nat)))) (P ++ [k]) := by
 refine ⟨h.1.put _ _, fun s => ?_⟩
 rw [Ke]
 by_cases hs : s = k
 ·subst hs
  rw [hk]
  simp only [if_true]
  refine ⟨has_put_same h.1 (keyLit _) _, fun a ha => ?_⟩
  cases ha
  exact atKey_put_same h.1 (keyLit _) _ _
 have hne : (Lit.string s) ≠ .string k := fun e => hs (by injection e)
 rw [has_put_other hne, atKey_put_other hne]
 have h2 := (h.2 s)
 cases hf : Y0 P s with
 | none => rw [hf] at h2; simp only [if_neg (fun e => hs (Eq.symm e))]; exact ⟨h2.1, fun a ha => by cases ha⟩
 | some a => rw [hf] at h2; exact h2
theorem Lg {D : DataW Unit} {P : List Bs} {k : Bs} {a : Nat} (h : R3 D P) (hk : Y0 P k = some a) : R3 D (P ++ [k]) := by
 refine ⟨h.1, fun s => ?_⟩
 rw [Ke]
 have h2 := h.2 s
 cases hf : Y0 P s with
 | some b => rw [hf] at h2; exact h2
 | none =>
  have hs : k ≠ s := fun e => by subst e; rw [hf] at hk; cases hk
  rw [hf] at h2
  simp only [if_neg hs]
  exact h2
theorem Hz {w w' : World} {k : TypeId} {R : Value → Option (DataW Unit × List MemPlace)} {b n : Nat} {D : DataW Unit} (h : w.ownsMap Tryz.prog k R b n D) (e : w'.heap[b]? = w.heap[b]?) : w'.ownsMap Tryz.prog k R b n D := by
 obtain ⟨es, c, h1, h2⟩ := h
 exact ⟨es, c, e.trans h1, h2⟩
theorem Fc {w : World} {k : TypeId} {R : Value → Option (DataW Unit × List MemPlace)} {b n : Nat} {D : DataW Unit} (h : w.ownsMap Tryz.prog k R b n D) : b < w.heap.size := by
 obtain ⟨es, c, h1, h2⟩ := h
 exact Qf h1
def kb (l : List Int) : Bs := (l.map Um).flatten
structure E9 (t : Tbl) (rows : List Val) (K : Val → List Int) : Prop where
 key : ∀ row ∈ rows, keyOf t.key row = some ((K row).map Ys)
 bd : ∀ row ∈ rows, ∀ x ∈ K row, -2305843009213693952 ≤ x ∧ x < 2305843009213693952
 len : ∀ row ∈ rows, (K row).length ≤ 3
def Uv (rows : List Val) (st : Nat × Nat) : Ft := if st.1 = rows.length then Ft.zero else ⟨11, [], rows.getD st.1 Val.zero, rows.getD st.2 Val.zero⟩
structure UMid (w W1 : World) (ks : List Bs) (k : Nat) (wr : World) : Prop where
 below : Below w.heap.size w wr
 keep : ∀ b, b < w.heap.size + 2 → wr.heap[b]? = W1.heap[b]?
 map : ∃ D, wr.ownsMap Tryz.prog 9 (plainElem Tryz.prog 3) (w.heap.size + 2) k D ∧ R3 D (ks.take k)
theorem law9 : Keyed Tryz.prog 9 := string_keyed Tryz.underlying9
theorem zero3 (w : World) : (zeroValue 3).run Tryz.prog w = .ok (.int .i64 0) w := by kernel_rfl
theorem N1 (S S' : Nat → Prop) (t : Tbl) (rows : List Val) (K : Val → List Int) (ct : List Value) (v : Value) (w : World) (ht : Qs.R S w ct t) (hv0 : Sl Ql S' w v rows) (hK : E9 t rows K) (hl : rows.length ≤ 100000) (hkl : t.key.length ≤ 1000) :
  Calls Tryz.prog 91 #[.agg ct.toArray, v] w (Jd S' w (Uv rows (ust rows.length (rows.map fun r => kb (K r)) rows.length))) := by
 have hmm := @run_makeMap Tryz.prog
 have hv := hv0.up
 have HKey := Qq (fun row cr (hm : row ∈ rows) W (hb : Below w.heap.size w W) (hr : Qh (fun b => S' b ∧ b < w.heap.size) W cr row) => (hK.key row hm) ▸ Fx S (fun b => S' b ∧ b < w.heap.size) t row ct cr W (Qs.frame ht (.of_below hb)) hr hkl)
 have HEnc := Qq (fun (n : Int) cs W (h0 : -2305843009213693952 ≤ n) (h1 : n < 2305843009213693952) (h : Qh (fun _ => True) W cs (Ys n)) => Nq _ n [] [] cs W h h0 h1)
 obtain ⟨cp0, cc0, kp0, kc0, rp0, rc0, k0, s1, n0, s2, p1, n1, c1, p2, n2, c2, p3, n3, c3, a0, z0, rfl, _, _, _, _, _⟩ := Zk ht
 obtain ⟨vp, vcap, rfl, _⟩ := hv.len
 unfold tcs at HKey ⊢
 have HV := Qq hv; have HKK := Qq hK
 obtain ⟨i5, j1, j2, j3, j4⟩ := Ze (P := Tryz.prog) (t := 5) (z := .int .u8 0) (n := 1) (b := 1) (by kernel_rfl)
 have HJ := Qq j1; have HJ2 := Qq j2; have HJ3 := Qq j3; have HJ4 := Qq j4
 clear ht hv hv0 hK j1 j2 j3 j4
 obtain ⟨ks, hks⟩ := eX ((rows.map fun r => kb (K r)))
 rw [hks]
 have hkn : ks.length = rows.length := by rw [← hks, List.length_map]
 obtain ⟨n, hn⟩ := eX (rows.length)
 rw [hn] at HV hl hkn ⊢
 have HN := Qq hn; have HKs := Qq hks; have HKN := Qq hkn
 clear hn hks hkn
 go_enter Tryz.func91, Tryz.ntmps91
 go_wp2_with fail
 generalize hW1 : ((w.alloc (.cells #[.string ⟨t.name.toArray⟩, .slice cp0 t.columns.length cc0, .slice kp0 t.key.length kc0, .slice rp0 t.refs.length rc0, .int .i64 k0, .string s1, .int .i64 n0, .string s2, .slice p1 n1 c1, .slice p2 n2 c2, .slice p3 n3 c3, .int .i64 a0, .int .i64 z0] 37)).alloc (.cells zF 94)).alloc (.map #[] 0) = W1
 have hM0 : UMid w W1 ks 0 W1 := by
  refine ⟨by rw [← hW1]; exact Xl _ _ _ _, fun _ _ => rfl, .map [], ?_, invD_nil⟩
  rw [← hW1]
  have e : ((w.alloc (.cells #[.string ⟨t.name.toArray⟩, .slice cp0 t.columns.length cc0, .slice kp0 t.key.length kc0, .slice rp0 t.refs.length rc0, .int .i64 k0, .string s1, .int .i64 n0, .string s2, .slice p1 n1 c1, .slice p2 n2 c2, .slice p3 n3 c3, .int .i64 a0, .int .i64 z0] 37)).alloc (.cells zF 94)).heap.size = w.heap.size + 2 := by simp
  rw [← e]
  exact World.ownsMap_made _ _ _ _
 have hX0 : W1.heap[w.heap.size]? = some (.cells #[.string ⟨t.name.toArray⟩, .slice cp0 t.columns.length cc0, .slice kp0 t.key.length kc0, .slice rp0 t.refs.length rc0, .int .i64 k0, .string s1, .int .i64 n0, .string s2, .slice p1 n1 c1, .slice p2 n2 c2, .slice p3 n3 c3, .int .i64 a0, .int .i64 z0] 37 (0, 0)) := by rw [← hW1, Below.heap_alloc _ _ _ (by simp; omega)]; exact Q5 _ _ _
 have hR0 : W1.heap[w.heap.size + 1]? = some (.cells zF 94 (0, 0)) := by rw [← hW1, Below.heap_alloc _ _ _ (by simp)]; exact Q6 _ _ _
 have HM0 := Qq hM0; have HX0 := Qq hX0; have HR0 := Qq hR0
 clear hM0 hX0 hR0 hW1
 go_loopw [6, 7, 21] (fun bst oth i wr => ∃ (k : Nat) (st : Nat × Nat), k ≤ n ∧ i = .int .i64 k ∧ Aside (ust n ks k = st) ∧ bst = .int .i64 (st.1 : Nat) ∧ oth = .int .i64 (st.2 : Nat) ∧ UMid w W1 ks k wr) (fun _ _ i _ => n - (intOf i).toNat)
 case atStart => exact ⟨0, (n, 0), Q8 _, rfl, rfl, rfl, rfl, HM0.out⟩
 obtain ⟨k, st, hk, rfl, hst, rfl, rfl, hM⟩ := hrel
 have HM := Qq hM; have HSt := Qq hst.out
 have hX := (hM.keep _ (by omega)).trans HX0.out
 have hR := (hM.keep _ (by omega)).trans HR0.out
 have hszr : w.heap.size + 2 < wr.heap.size := by
  obtain ⟨D, hD, _⟩ := hM.map
  exact Fc hD
 clear hst
 have hx0 : w.heap.size < wr.heap.size := by omega
 have hxn : w.heap.size ≠ wr.heap.size := by omega
 by_cases hlt : k < n
 ·have hi1 : (0 : Int) ≤ (k : Int) := by omega
  have hi2 : (k : Int) < (n : Int) := by omega
  obtain ⟨row, hrow⟩ : ∃ row, rows[k]? = some row := ⟨_, Qx (by rw [HN.out]; exact hlt)⟩
  obtain ⟨vb', voff, p3', k3', p4', k4', rfl, hvb, hvr, d0, d1, d2, d3, d4⟩ := (HV.out.below hM.below).val hrow
  obtain ⟨y0, y1, y2, y3, y4, y5, y6, y7, y8, y9, y10, y11, y12⟩ := row13 hX
  have hmem := Qy hrow
  have hKey5 := HKey.out row (vcs row p3' k3' p4' k4') hmem (wr.alloc (.cells #[.int .i64 row.kind, .int .i64 row.n, .string ⟨row.s.toArray⟩, .slice p3' row.names.length k3', .slice p4' row.kids.length k4'] 44)) (hM.below.thn (Qo _ _)) (hvr.move (.of_below (Qo _ _)) (fun _ _ h => h))
  have HKey5 := Qq hKey5
  have hbd := HKK.out.bd row hmem
  have hlen3 := HKK.out.len row hmem
  have hkey : ks[k]? = some (kb (K row)) := by rw [← HKs.out, List.getElem?_map, hrow]; rfl
  have HBd := Qq hbd; have HKs1 := Qq hkey
  clear hrow hvr hmem hKey5 hbd hkey hM hX hR
  obtain ⟨L, hL⟩ := eX (K row)
  rw [hL] at HKey5 HBd HKs1 hlen3
  clear hL
  go_wp2_with fail
  unfold vcs at HKey5
  refine HKey5.out.mono ?_
  rintro e w5 ⟨kp, kn, kcap, rfl, hkn5, hsl5, hb5⟩
  rw [Option.getD_some, List.length_map] at hkn5
  subst hkn5
  rw [Option.getD_some] at hsl5
  have hbr5 : Below wr.heap.size wr w5 := (Qo _ _).thn hb5
  have HSl5 := Qq (hsl5.mono (S' := fun _ => True) (fun _ _ _ => trivial)); have HBr5 := Qq hbr5
  have hsz5 := hbr5.size
  clear hsl5 hb5 hbr5 y0 y1 y2 y3 y4 y5 y6 y7 y8 y9 y10 y11 y12 d0 d1 d2 d3 d4
  go_wp2_with fail
  go_loopw [11, 31] (fun b j wv => ∃ (q : Nat) (bs : Bs) (p : Option Addr) (cap : Nat), q ≤ L.length ∧ j = .int .i64 q ∧ b = .slice p bs.length cap ∧ Aside (bs = kb (L.take q)) ∧ Below w5.heap.size w5 wv ∧ bs.length ≤ 20 * q ∧
   ∃ css, Own Xx 5 (fun _ => True) w5.heap.size wv (.slice p bs.length cap) bs css) (fun _ j _ => L.length - (intOf j).toNat)
  case atStart => exact ⟨0, [], none, 0, Q8 _, rfl, rfl, rfl, Qz _ _, by simp, [], Own.nil _ _ _ _ _⟩
  obtain ⟨q, bs, p, cap, hq, rfl, rfl, hE, hBv, hbl, css, hO⟩ := hrel
  have HBv := Qq hBv; have HO := Qq hO; have HE := Qq hE.out
  have hszv := hBv.size
  clear hBv hO hE
  by_cases hql : q < L.length
  ·have hi3 : (0 : Int) ≤ (q : Int) := by omega
   have hi4 : (q : Int) < (L.length : Int) := by omega
   obtain ⟨x, hx⟩ : ∃ x, L[q]? = some x := ⟨_, Qx hql⟩
   have hxv : (L.map Ys)[q]? = some (Ys x) := by rw [List.getElem?_map, hx]; rfl
   have hsv := (HSl5.out.below HBv.out).val hxv
   simp only [Ys, Val.kind, Val.n, Val.s, Val.names, Val.kids, List.length_nil] at hsv
   obtain ⟨ub, uoff, q3, l3, q4, l4, rfl, hub, huv, e0, e1, e2, e3, e4⟩ := hsv
   simp only [vcs, Val.kind, Val.n, Val.s, Val.names, Val.kids, List.length_nil] at huv
   have HX := Qq hx
   have hbx := HBd.out x (Qy hx)
   have hEn := HEnc.out x _ (wr.alloc (.cells #[.int .i64 0, .int .i64 x, .string ⟨#[]⟩, .slice q3 0 l3, .slice q4 0 l4] 44)) hbx.1 hbx.2 (Qh.move huv (.of_below (Qo _ _)) (fun _ _ h => h))
   have HEn := Qq hEn
   have hel := Hg hbx.1 hbx.2
   have hne : Um x ≠ [] := by
    unfold Um
    intro e
    have := congrArg List.length e
    rw [List.length_append] at this
    have h2 : vb (zz 0) = [0] := by rw [show zz 0 = 0 from rfl, Da (by omega)]; rfl
    rw [h2] at this
    simp at this
   have HNe := Qq hne
   clear hx hxv huv hbx hEn hne
   go_wp2_with fail
   refine HEn.out.mono ?_
   rintro e w6 ⟨ep, ecap, ecs, rfl, hO6, hb6⟩
   have hb6' : Below wr.heap.size wr w6 := (Qo _ _).thn hb6
   have hOv : Own Xx 5 (fun _ => True) w5.heap.size w6 (.slice p bs.length cap) bs css := HO.out.below hb6'
   have hY : Sl Xx (But (fun _ => True) (.slice p bs.length cap)) w6 (.slice ep (Um x).length ecap) (Um x) := by
    have hO6' : Own Xx 5 (fun _ => False) _ w6 (.slice ep (Um x).length ecap) (Um x) ecs := ⟨hO6.row, ⟨hO6.cs.len, fun i c y hc hy => hO6.cs.R i c y hc hy⟩⟩
    refine hO6'.sl (by omega) (fun b hb => ⟨trivial, fun e => ?_⟩) (fun b hb h => h.elim)
    have h1 := (HO.out.row.lt b e.symm).2
    have h2 : wr.heap.size + 1 ≤ b := by simpa using hb
    omega
   have HB6 := Qq hb6'; have HOv := Qq hOv; have HY := Qq hY
   have hsz6 := hb6'.size
   clear hO6 hb6 hb6' hOv hY e0 e1 e2 e3 e4
   go_wp2_with (at_builtin; refine Uo (r := Xx) (by decide) rfl (.tmp 35) (.tmp 37) _ rfl 5 i5 (.int .u8 0) 1 Tryz.underlying143 HJ.out HJ2.out HJ3.out HJ4.out rfl (by omega) (fun _ => True) w5.heap.size w6 (.slice p bs.length cap) bs css (Um x) ep (Um x).length ecap rfl HOv.out rfl HY.out rfl HNe.out Lk (by omega) (by omega) ?_; intro p7 cap7 css7 w7 hO7 hg7 hat7; have HO7 := Qq hO7; have HG7 := Qq hg7; clear hO7 hg7 hat7)
   go_roundw
   case measure => simp [intOf]; omega
   case rel =>
    refine ⟨q + 1, bs ++ Um x, p7, cap7, by omega, by go_num, by rw [List.length_append], (show Aside _ from ?_), (HBv.out.thn HB6.out).grown HG7.out (by omega) (fun g hg => (HOv.out.row.lt g hg).1), by rw [List.length_append]; omega, css7, by rw [List.length_append]; exact HO7.out⟩
    have : bs ++ Um x = kb (L.take (q + 1)) := by
     obtain ⟨hq', rfl⟩ := Qj HX.out
     rw [HE.out, List.take_succ_eq_append_getElem hq']
     unfold kb
     rw [List.map_append, List.flatten_append]
     simp only [List.map_cons, List.map_nil, List.flatten_cons, List.flatten_nil, List.append_nil]
    exact this
  have hqm : q = L.length := by omega
  subst hqm
  have hbs : bs = kb L := by rw [HE.out, List.take_of_length_le (Q9 _)]
  have hconv := conv_own HO.out
  obtain ⟨D, hD, hI⟩ := HM.out.map
  have hDv : wr.ownsMap Tryz.prog 9 (plainElem Tryz.prog 3) (w.heap.size + 2) k D := Hz hD (by rw [HBv.out.block _ (by omega), HBr5.out.block _ hszr])
  have hko : Go.keyOf Tryz.prog 9 (.string ⟨bs.toArray⟩) = some (.string bs) := keyOf_string_mk Tryz.underlying9 (by rw [Yh]; unfold maxLen; omega)
  have Qi : ∀ b, b < w.heap.size + 2 → wr.heap[b]? = W1.heap[b]? := fun b hb => by
   rw [HBv.out.block _ (by omega), HBr5.out.block _ (by omega)]
   exact HM.out.keep b hb
  have hbelow : Below w.heap.size w wr := HM.out.below.thn (HBr5.out.thn HBv.out)
  have hlk : (ks.take k).length = k := by rw [List.length_take, HKN.out]; omega
  have htk : ks.take (k + 1) = ks.take k ++ [bs] := by
   obtain ⟨hk', e⟩ := Qj HKs1.out
   rw [List.take_succ_eq_append_getElem hk', e, hbs]
  have hus : ust n ks (k + 1) = U1 (ks.take k) st bs := by
   show U1 (ks.take k) (ust n ks k) (ks.getD k []) = _
   rw [HSt.out, List.getD_eq_getElem?_getD, HKs1.out, Option.getD_some, hbs]
  have HD := Qq hDv; have HI := Qq hI; have HKO := Qq hko; have HKeep := Qq Qi; have HBel := Qq hbelow; have HLk := Qq hlk; have HTk := Qq htk; have HUs := Qq hus
  have hwf : (Lit.int .i64 (k : Int)).wf = true := WalkArith.wf_i64 (by omega)
  have HWf := Qq hwf
  clear hbs hD hI hDv hko Qi hbelow hlk htk hus hwf
  cases hf : Y0 (ks.take k) bs with
  | none =>
   have hhas : Maps.has D (.string bs) = false := by rw [(HI.out.2 bs).1, hf]; rfl
   have HF := Qq hf
   clear hf
   go_wp2_with (first | (at_lookup; refine wpList_lookup_own_ok_int _ rfl (.tmp 41) (.tmp 43) _ rfl 9 3 .i64 law9 Tryz.underlying142 Tryz.underlying3 (zero3 _) (w.heap.size + 2) k D rfl HD.out (.string ⟨bs.toArray⟩) (.string bs) rfl HKO.out ?_; intro c hat hwc; clear hat hwc) | (at_mapUpdate; refine wpList_mapUpdate_own _ rfl (.tmp 49) (.tmp 51) (.tmp 52) _ rfl 9 3 law9 Tryz.underlying142 _ (w.heap.size + 2) k D rfl HD.out (by unfold maxLen; omega) (.string ⟨bs.toArray⟩) (.int .i64 k) (.string bs) rfl rfl HKO.out _ [] (plainElem_int Tryz.underlying3 HWf.out) ?_; intro w8 hown8 hgrow8; have HO8 := Qq hown8; have HG8 := Qq hgrow8; clear hown8 hgrow8))
   go_roundw
   case measure => simp [intOf]; omega
   case rel =>
    have hlt2 := Fc HD.out
    refine ⟨k + 1, st, by omega, by go_num, (show Aside _ from ?_), rfl, rfl, ⟨HBel.out.grown HG8.out HBel.out.size (fun g hg => by have := Qb hg; omega), fun b hb => ?_, _, HO8.out, ?_⟩⟩
    ·have : ust n ks (k + 1) = st := by rw [HUs.out]; unfold U1; rw [HF.out]
     exact this
    ·rw [HG8.out.block b (by omega) (fun e => by have := Qb e; omega)]; exact HKeep.out b hb
    rw [HTk.out]
    have := invD_new HI.out HF.out
    rwa [HLk.out] at this
  | some a =>
   have hhas : Maps.has D (.string bs) = true := by rw [(HI.out.2 bs).1, hf]; rfl
   have HAt := Qq ((HI.out.2 bs).2 a hf)
   have hal := F6 hf
   rw [HLk.out] at hal
   have HF := Qq hf
   clear hf
   by_cases hab : a < st.1
   ·have hab' : (a : Int) < (st.1 : Int) := by omega
    go_wp2_with (at_lookup; refine wpList_lookup_own_ok_int _ rfl (.tmp 41) (.tmp 43) _ rfl 9 3 .i64 law9 Tryz.underlying142 Tryz.underlying3 (zero3 _) (w.heap.size + 2) k D rfl HD.out (.string ⟨bs.toArray⟩) (.string bs) rfl HKO.out ?_; intro c hat hwc; obtain rfl : c = (a : Int) := (by have h1 := hat.symm.trans HAt.out; simpa using h1); clear hat hwc)
    go_roundw
    case measure => simp [intOf]; omega
    case rel =>
     refine ⟨k + 1, (a, k), by omega, by go_num, (show Aside _ from ?_), rfl, rfl, ⟨HBel.out, HKeep.out, D, ?_, ?_⟩⟩
     ·have : ust n ks (k + 1) = (a, k) := by rw [HUs.out]; unfold U1; rw [HF.out]; simp only [if_pos hab, HLk.out]
      exact this
     ·obtain ⟨es, cl, h1, h2, h3, h4⟩ := HD.out
      exact ⟨es, cl, h1, h2, by omega, h4⟩
     rw [HTk.out]; exact Lg HI.out HF.out
   have hab' : ¬ ((a : Int) < (st.1 : Int)) := by omega
   go_wp2_with (at_lookup; refine wpList_lookup_own_ok_int _ rfl (.tmp 41) (.tmp 43) _ rfl 9 3 .i64 law9 Tryz.underlying142 Tryz.underlying3 (zero3 _) (w.heap.size + 2) k D rfl HD.out (.string ⟨bs.toArray⟩) (.string bs) rfl HKO.out ?_; intro c hat hwc; obtain rfl : c = (a : Int) := (by have h1 := hat.symm.trans HAt.out; simpa using h1); clear hat hwc)
   go_roundw
   case measure => simp [intOf]; omega
   case rel =>
    refine ⟨k + 1, st, by omega, by go_num, (show Aside _ from ?_), rfl, rfl, ⟨HBel.out, HKeep.out, D, ?_, ?_⟩⟩
    ·have : ust n ks (k + 1) = st := by rw [HUs.out]; unfold U1; rw [HF.out]; simp only [if_neg hab]
     exact this
    ·obtain ⟨es, cl, h1, h2, h3, h4⟩ := HD.out
     exact ⟨es, cl, h1, h2, by omega, h4⟩
    rw [HTk.out]; exact Lg HI.out HF.out
 have hkn' : k = n := by omega
 subst hkn'
 have fz := fun j => frozen_of_row _ _ j _ _ hR
 have rr := fun j => Qk _ _ j _ _ _ hR
 have r0 := rr 0; have f0 := fz 0; have r1 := rr 1; have f1 := fz 1; have r2 := rr 2; have f2 := fz 2; have r3 := rr 3; have f3 := fz 3; have r4 := rr 4; have f4 := fz 4; have r5 := rr 5; have f5 := fz 5; have r6 := rr 6; have f6 := fz 6; have r7 := rr 7; have f7 := fz 7; have r8 := rr 8; have f8 := fz 8; have r9 := rr 9; have f9 := fz 9; have r10 := rr 10; have f10 := fz 10; have r11 := rr 11; have f11 := fz 11
 simp only [List.getElem?_toArray, List.getElem?_cons_zero, List.getElem?_cons_succ] at r0 r1 r2 r3 r4 r5 r6 r7 r8 r9 r10 r11
 have HR := Qq hR
 have hbd := ust_bd k ks k (by rw [HKN.out]; exact Q9 _)
 rw [HSt.out] at hbd
 clear fz rr hR hX hM
 by_cases hz : st.1 = k
 ·have hq : ((st.1 : Int) == (k : Int)) = true := by rw [hz]; simp
  have hun : Uv rows (ust k ks k) = Ft.zero := by rw [HSt.out]; unfold Uv; rw [if_pos (by rw [HN.out]; exact hz)]
  have HUn := Qq hun
  clear hun hbd
  have HZ := Qq hz
  clear hz
  go_wp2_with fail
  show bodyPost _ _ _ _ _ (Zh wr _ _ _ _ _ _ _ _ _ _ _ _ _)
  refine Q7 (v := .agg zF) (by simp [results, Tryz.results91, go_sem, Z9 HR.out]) rfl ⟨[.int .i64 0, .string ⟨#[]⟩, .int .i64 0, .int .i64 0, .string ⟨#[]⟩, .slice none 0 0, .slice none 0 0, .int .i64 0, .int .i64 0, .string ⟨#[]⟩, .slice none 0 0, .slice none 0 0], rfl, by rw [HUn.out]; exact U5 _ _, Z3 HM.out.below (by omega)⟩
 obtain ⟨hb1, hb2⟩ := hbd.resolve_left hz
 have hq : ((st.1 : Int) == (k : Int)) = false := by rw [← Bool.not_eq_true, beq_iff_eq]; omega
 obtain ⟨x, hx⟩ : ∃ x, rows[st.1]? = some x := ⟨_, Qx (by rw [HN.out]; exact hb1)⟩
 obtain ⟨y, hy⟩ : ∃ y, rows[st.2]? = some y := ⟨_, Qx (by rw [HN.out]; exact hb2)⟩
 have hun : Uv rows (ust k ks k) = ⟨11, [], x, y⟩ := by
  rw [HSt.out]
  unfold Uv
  rw [if_neg (by rw [HN.out]; exact hz), List.getD_eq_getElem?_getD, List.getD_eq_getElem?_getD, hx, hy]; rfl
 have HUn := Qq hun
 obtain ⟨xb, xoff, p3', k3', p4', k4', rfl, hxb, hvx, d0, d1, d2, d3, d4⟩ := (HV.out.below HM.out.below).val hx
 obtain ⟨yb, yoff, q3', l3', q4', l4', he, hyb, hvy, e0, e1, e2, e3, e4⟩ := (HV.out.below HM.out.below).val hy
 obtain ⟨rfl, rfl, -⟩ : xb = yb ∧ xoff = yoff ∧ True := by simpa using he
 have hi1 : (0 : Int) ≤ (st.1 : Int) := by omega
 have hi2 : (st.1 : Int) < (k : Int) := by omega
 have hi3 : (0 : Int) ≤ (st.2 : Int) := by omega
 have hi4 : (st.2 : Int) < (k : Int) := by omega
 have HVX := Qq hvx; have HVY := Qq hvy
 clear hun hbd hz hx hy he hvx hvy hb1 hb2
 go_wp2_with fail
 go_region
 go_wp2_with fail
 obtain ⟨W, hW⟩ := eX (Zh wr (w.heap.size + 1) (.int .i64 11) (.string ⟨#[]⟩) (.int .i64 x.kind) (.int .i64 x.n) (.string ⟨x.s.toArray⟩) (.slice p3' x.names.length k3') (.slice p4' x.kids.length k4') (.int .i64 y.kind) (.int .i64 y.n) (.string ⟨y.s.toArray⟩) (.slice q3' y.names.length l3') (.slice q4' y.kids.length l4'))
 have q : ∀ j, W.cell? ⟨w.heap.size + 1, j, none⟩ = #[.int .i64 11, .string ⟨#[]⟩, .int .i64 x.kind, .int .i64 x.n, .string ⟨x.s.toArray⟩, .slice p3' x.names.length k3', .slice p4' x.kids.length k4', .int .i64 y.kind, .int .i64 y.n, .string ⟨y.s.toArray⟩, .slice q3' y.names.length l3', .slice q4' y.kids.length l4'][j]? := fun j => by rw [← hW]; exact Z9 HR.out j
 have hoth : ∀ b, b < w.heap.size → W.heap[b]? = wr.heap[b]? := fun b hb => by rw [← hW]; exact Yj (by omega)
 have hbel : Below w.heap.size w W := by rw [← hW]; exact Z3 HM.out.below (by omega)
 show bodyPost _ _ _ _ _ (World.drew (Zh wr (w.heap.size + 1) (.int .i64 11) (.string ⟨#[]⟩) (.int .i64 x.kind) (.int .i64 x.n) (.string ⟨x.s.toArray⟩) (.slice p3' x.names.length k3') (.slice p4' x.kids.length k4') (.int .i64 y.kind) (.int .i64 y.n) (.string ⟨y.s.toArray⟩) (.slice q3' y.names.length l3') (.slice q4' y.kids.length l4')))
 rw [hW]
 have HOth := Qq hoth; have HBel := Qq hbel
 have q0 := q 0; have q1 := q 1; have q2 := q 2; have q3 := q 3; have q4 := q 4; have q5 := q 5; have q6 := q 6; have q7 := q 7; have q8 := q 8; have q9 := q 9; have q10 := q 10; have q11 := q 11
 simp only [List.getElem?_toArray, List.getElem?_cons_zero, List.getElem?_cons_succ] at q0 q1 q2 q3 q4 q5 q6 q7 q8 q9 q10 q11
 clear hW hoth hbel q r0 r1 r2 r3 r4 r5 r6 r7 r8 r9 r10 r11 f0 f1 f2 f3 f4 f5 f6 f7 f8 f9 f10 f11
 refine Q7 (v := .agg #[.int .i64 11, .string ⟨#[]⟩, .int .i64 x.kind, .int .i64 x.n, .string ⟨x.s.toArray⟩, .slice p3' x.names.length k3', .slice p4' x.kids.length k4', .int .i64 y.kind, .int .i64 y.n, .string ⟨y.s.toArray⟩, .slice q3' y.names.length l3', .slice q4' y.kids.length l4']) (by simp [results, Tryz.results91, go_sem, q0, q1, q2, q3, q4, q5, q6, q7, q8, q9, q10, q11]) rfl ⟨[.int .i64 11, .string ⟨#[]⟩, .int .i64 x.kind, .int .i64 x.n, .string ⟨x.s.toArray⟩, .slice p3' x.names.length k3', .slice p4' x.kids.length k4', .int .i64 y.kind, .int .i64 y.n, .string ⟨y.s.toArray⟩, .slice q3' y.names.length l3', .slice q4' y.kids.length l4'], rfl, ?_, HBel.out.drew⟩
 rw [HUn.out]
 refine ⟨vcs x p3' k3' p4' k4', vcs y q3' l3' q4' l4', rfl, by simp, ?_, ?_⟩
 ·exact Qh.move (S' := S') HVX.out (fun b hb _ => HOth.out b hb.2) (fun _ _ h => h.1)
 exact Qh.move (S' := S') HVY.out (fun b hb _ => HOth.out b hb.2) (fun _ _ h => h.1)
end Go.Proofs.YtppbaladeefnkaaGreatDoor

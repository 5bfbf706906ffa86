import Derived.Test.YtppbaladeefnkaaGreatDoorU30
import Derived.Test.YtppbaladeefnkaaGreatDoorU32
set_option maxRecDepth 100000
set_option maxHeartbeats 400000000
namespace Go.Proofs.YtppbaladeefnkaaGreatDoor
open Go.RowKit Go.Shelf Go.Lib Tryz
def J8 (l : List Col) : List Bs × List Ty := l.foldl (fun A c => (Y3 A.1 (below A.1 c.name) c.name, Y3 A.2 (below A.1 c.name) c.type)) ([], [])
def Ec (t : Tbl) : Ty := .mk 5 [] 0 (J8 t.columns).1 (J8 t.columns).2
theorem Dx (l : List Col) (c : Col) : J8 (l ++ [c]) = (Y3 (J8 l).1 (below (J8 l).1 c.name) c.name, Y3 (J8 l).2 (below (J8 l).1 c.name) c.type) := by unfold J8; rw [List.foldl_append]; rfl
theorem Gv {T : Type} (l : List T) (i : Nat) (x : T) : (Y3 l i x).length = l.length + 1 := by unfold Y3; simp [List.length_take, List.length_drop]; omega
theorem N9 {T : Type} {l : List T} {i : Nat} {x y : T} (h : y ∈ Y3 l i x) : y ∈ l ∨ y = x := by
 unfold Y3 at h
 rcases List.mem_append.1 h with h | h
 ·exact .inl (List.mem_of_mem_take h)
 rcases List.mem_cons.1 h with h | h
 ·exact .inr h
 exact .inl (List.mem_of_mem_drop h)
theorem Fw : ∀ (k : Nat) (l : List Col), l.length = k → (J8 l).1.length = l.length ∧ (J8 l).2.length = l.length ∧ ∀ y ∈ (J8 l).2, ∃ c ∈ l, c.type = y
 | 0, l, h => by rw [List.eq_nil_of_length_eq_zero h]; exact ⟨rfl, rfl, fun y hy => by simp [J8] at hy⟩
 | k + 1, l, h => by
  obtain ⟨l', c, rfl⟩ : ∃ l' c, l = l' ++ [c] := ⟨l.dropLast, l.getLast (by intro e; subst e; simp at h), (List.dropLast_concat_getLast (by intro e; subst e; simp at h)).symm⟩
  obtain ⟨h1, h2, h3⟩ := Fw k l' (by simpa using h)
  rw [Dx]
  refine ⟨by rw [Gv, h1]; simp, by rw [Gv, h2]; simp, fun y hy => ?_⟩
  rcases N9 hy with hy | rfl
  ·obtain ⟨c', hc, e⟩ := h3 y hy
   exact ⟨c', by simp [hc], e⟩
  exact ⟨c, by simp, rfl⟩
theorem Fd {T : Type} {l : List T} {k : Nat} {x : T} (h : l[k]? = some x) : l.take (k + 1) = l.take k ++ [x] := by
 obtain ⟨h1, rfl⟩ := Qj h
 exact List.take_succ_eq_append_getElem h1
theorem Sl.col {S : Nat → Prop} {w : World} {p : Option Addr} {n cap : Nat} {xs : List Col} (h : Sl Yy S w (.slice p n cap) xs) {i : Nat} {x : Col} (hx : xs[i]? = some x) :
  ∃ b off tk ts tn t3 n3 l3 t4 n4 l4, p = some ⟨b, off, none⟩ ∧ S b ∧ b < w.heap.size ∧ x.name.length ≤ 1000000 ∧ Y5 S w [.int .i64 tk, .string ts, .int .i64 tn, .slice t3 n3 l3, .slice t4 n4 l4] x.type ∧ w.cell? ⟨b, off + i * 6, none⟩ = some (.string ⟨x.name.toArray⟩) ∧ w.cell? ⟨b, off + i * 6 + 1, none⟩ = some (.int .i64 tk) ∧ w.cell? ⟨b, off + i * 6 + 2, none⟩ = some (.string ts) ∧ w.cell? ⟨b, off + i * 6 + 3, none⟩ = some (.int .i64 tn) ∧ w.cell? ⟨b, off + i * 6 + 4, none⟩ = some (.slice t3 n3 l3) ∧ w.cell? ⟨b, off + i * 6 + 5, none⟩ = some (.slice t4 n4 l4) := by
 obtain ⟨b, off, cs, rfl, hb, hS, _, hr, hc⟩ := h.elem hx
 obtain ⟨tc, rfl, hn, ht⟩ := hr
 obtain ⟨tk, ts, tn, t3, n3, l3, t4, n4, l4, rfl⟩ := ht.cells
 simp only [show Yy.k = 6 from rfl] at hc
 exact ⟨b, off, tk, ts, tn, t3, n3, l3, t4, n4, l4, rfl, hS, hb, hn, ht, hc 0 _ rfl, hc 1 _ rfl, hc 2 _ rfl, hc 3 _ rfl, hc 4 _ rfl, hc 5 _ rfl⟩
theorem veil0 {P : Program} {id : Nat} {b : Bool} {Q : Exit → Act → World → Prop} {a : Act} {w : World} {o : Oper} {l : List Oper} (h : (Code.region id (List.toArray (veil o :: l)) b).wp P Q a w) : (Code.region id (List.toArray (o :: l)) b).wp P Q a w := h
def RowTIs (S : Nat → Prop) (w : World) (u : Ty) (m : Nat) (e : Ending) (w' : World) : Prop := ∃ p3 k3 p4 k4, e = .returned (.agg #[.int .i64 5, .string ⟨#[]⟩, .int .i64 0, .slice p3 m k3, .slice p4 m k4]) ∧ Y5 (fun b => S b ∨ w.heap.size ≤ b) w' [.int .i64 5, .string ⟨#[]⟩, .int .i64 0, .slice p3 m k3, .slice p4 m k4] u ∧ Below w.heap.size w w'
def Ev (S : Nat → Prop) (w W1 : World) (t : Tbl) (k : Nat) (wx : World) : Prop := ∃ p3 k3 p4 k4, k ≤ k3 ∧ k ≤ k4 ∧ wx.heap[w.heap.size + 2]? = some (.cells #[.int .i64 5, .string ⟨#[]⟩, .int .i64 0, .slice p3 k k3, .slice p4 k k4] 70 (0, 0)) ∧
 Sl Qp (fun b => (S b ∧ b < w.heap.size) ∨ w.heap.size + 3 ≤ b) wx (.slice p3 k k3) (J8 (t.columns.take k)).1 ∧ Sl Vs (fun b => (S b ∧ b < w.heap.size) ∨ w.heap.size + 3 ≤ b) wx (.slice p4 k k4) (J8 (t.columns.take k)).2 ∧ Below (w.heap.size + 2) W1 wx
theorem Og (S : Nat → Prop) (t : Tbl) (ct : List Value) (w : World) (ht0 : Qs.R S w ct t) (hcl : t.columns.length ≤ 1000) :
  Calls prog 111 #[.agg ct.toArray] w (RowTIs S w (Ec t) t.columns.length) := by
 have ht : Qs.R (fun b => S b ∧ b < w.heap.size) w ct t := Qs.mono ht0 (fun b hb h => ⟨h, hb⟩)
 obtain ⟨cp0, cc0, kp0, kc0, rp0, rc0, k0, s10, n0, s20, p10, n10, c10, p20, n20, c20, p30, n30, c30, a0, z0, rfl, _, hcol, _, _, _⟩ := Zk ht
 unfold tcs
 have HC := Qq hcol
 clear ht0 ht hcol
 obtain ⟨n, hn⟩ := eX (t.columns.length)
 rw [hn] at HC hcl ⊢
 have HN := Qq hn
 clear hn
 go_enter func111, ntmps111
 go_wp2_with fail
 generalize hW1 : ((w.alloc _).alloc _).alloc _ = W1
 have hb1 := eqB hW1 (Xl _ _ _ _)
 have hT1 := eqH (b := w.heap.size) hW1 (Zb _ _ _ _)
 have hZ1 := eqH (b := w.heap.size + 1) hW1 (Z7 _ _ _ _)
 have hQ1 := eqH (b := w.heap.size + 2) hW1 (Zw _ _ _ _)
 have hz1 : W1.heap.size = w.heap.size + 3 := by rw [← hW1]; simp
 have HB1 := Qq hb1; have HT1 := Qq hT1; have HZ1 := Qq hZ1; have HZS := Qq hz1
 have hst : Ev S w W1 t 0 W1 := ⟨none, 0, none, 0, Q9 _, Q9 _, hQ1, Sl.nil _ _ _, Sl.nil _ _ _, Qz _ _⟩
 clear hW1 hb1 hT1 hZ1 hQ1 hz1
 go_loopw [4] (fun i wr => ∃ k : Nat, k ≤ n ∧ i = .int .i64 k ∧ Aside (Ev S w W1 t k wr)) (fun i _ => n - (intOf i).toNat)
 case atStart => exact ⟨0, Q8 _, rfl, hst⟩
 clear hst
 obtain ⟨k, hk, rfl, hMid⟩ := hrel
 obtain ⟨p3, k3, p4, k4, hk3, hk4, hQ, hns, hks, hBr⟩ := hMid.out
 have hTr := kE hBr (by omega) HT1.out
 have hZr := kE hBr (by omega) HZ1.out
 have hbw : Below w.heap.size w wr := HB1.out.trans (hBr.mono (by omega))
 have hsr := hBr.size
 have hzs := HZS.out
 have HTr := Qq hTr; have HZr := Qq hZr; have HBr := Qq hBr; have HBw := Qq hbw; have HNs := Qq hns; have HKs := Qq hks; have HQ := Qq hQ
 have c1 := rA1 hTr
 clear hTr hZr hBr hbw hns hks hMid
 by_cases hlt : k < n
 ·have hi1 : (0 : Int) ≤ (k : Int) := by omega
  have hi2 : (k : Int) < (n : Int) := by omega
  obtain ⟨c, hc⟩ : ∃ c, t.columns[k]? = some c := ⟨_, Qx (by rw [HN.out]; exact hlt)⟩
  have hsn := Fd hc
  obtain ⟨cb, coff, tk, ts, tn, t3, n3, l3, t4, n4, l4, hcp, hcS, hcb, hcn, hcty, d0, d1, d2, d3, d4, d5⟩ := (HC.out.below HBw.out).col hc
  subst hcp
  have hcl2 := hcS.2
  have hll := Fw _ (t.columns.take k) rfl
  have hlk : (t.columns.take k).length = k := by rw [List.length_take, HN.out]; omega
  rw [hlk] at hll
  have HTy := Qq hcty; have HLL := Qq hll; have HSn := Qq hsn
  refine let_mvar% ?Lq1 := fun w' : World => w'.cell? ⟨w.heap.size, 1, none⟩ = some (.slice (some ⟨cb, coff, none⟩) n cc0) ∧ w'.cell? ⟨cb, coff + k * 6, none⟩ = some (.string ⟨c.name.toArray⟩) ∧ w'.cell? ⟨cb, coff + k * 6 + 1, none⟩ = some (.int .i64 tk) ∧ w'.cell? ⟨cb, coff + k * 6 + 2, none⟩ = some (.string ts) ∧ w'.cell? ⟨cb, coff + k * 6 + 3, none⟩ = some (.int .i64 tn) ∧ w'.cell? ⟨cb, coff + k * 6 + 4, none⟩ = some (.slice t3 n3 l3) ∧ w'.cell? ⟨cb, coff + k * 6 + 5, none⟩ = some (.slice t4 n4 l4); ?_
  have HSf := Qq (fun (w' : World) (h : Below wr.heap.size wr w') => (show ?Lq1 w' from ⟨kC h c1, kC h d0, kC h d1, kC h d2, kC h d3, kC h d4, kC h d5⟩))
  have HP : ∀ w' x0 x1 x2 x3 x4, ?Lq1 w' → ?Lq1 (Zz w' (w.heap.size + 2) x0 x1 x2 x3 x4) := fun w' x0 x1 x2 x3 x4 h => ⟨Qr (by omega) h.1, Qr (by omega) h.2.1, Qr (by omega) h.2.2.1, Qr (by omega) h.2.2.2.1, Qr (by omega) h.2.2.2.2.1, Qr (by omega) h.2.2.2.2.2.1, Qr (by omega) h.2.2.2.2.2.2⟩
  unfold Zz at HP
  have HP' := Qq HP
  have HS0 := Qq (HSf.out wr.drew (Qz _ _).drew)
  have hPut := Qq (fun W (hW : Below wr.heap.size wr W) => R2 (fun b => (S b ∧ b < w.heap.size) ∨ w.heap.size + 3 ≤ b) 5 ⟨#[]⟩ 0 (J8 (t.columns.take k)).1 (J8 (t.columns.take k)).2 k p3 k3 p4 k4 c.name c.type [.int .i64 tk, .string ts, .int .i64 tn, .slice t3 n3 l3, .slice t4 n4 l4] W (HNs.out.below hW) (HKs.out.below hW) HLL.out.1 HLL.out.2.1 (HTy.out.move (.of_below hW) (fun _ _ h => .inl h)) hk3 hk4 (by omega) hcn)
  unfold sv at hPut
  have hveil : ∀ o, veil o = o := fun _ => rfl
  obtain ⟨q0, q1, q2, q3, q4⟩ := row5 hQ
  have hQl := Qf hQ
  clear hcty hll hlk hsn HP hQ
  go_upto_region 5 with fail
  clear c1 d0 d1 d2 d3 d4 d5
  refine veil0 ?_
  go_region_held3 ?Lq1 (first | with_reducible exact HS0.out | with_reducible exact hS2 | with_reducible exact HP'.out _ _ _ _ _ _ hS2)
   (first
    | (go_at_call 138; refine (hPut.out _ (Qz _ _).drew).mono ?_; rintro e w7 ⟨r3, m3, r4, m4, rfl, hm3, hm4, hv7, hb7⟩; have hb7' := (Qz _ wr).drew.thn hb7; have hS2 := HSf.out w7 hb7'; have hQ7 := kE hb7' hQl HQ.out; have f0 := fA 0 hQ7; have y0 := Qk _ _ 0 _ _ _ hQ7; have f1 := fA 1 hQ7; have y1 := Qk _ _ 1 _ _ _ hQ7; have f2 := fA 2 hQ7; have y2 := Qk _ _ 2 _ _ _ hQ7; have f3 := fA 3 hQ7; have y3 := Qk _ _ 3 _ _ _ hQ7; have f4 := fA 4 hQ7; have y4 := Qk _ _ 4 _ _ _ hQ7; simp only [List.getElem?_toArray, List.getElem?_cons_zero, List.getElem?_cons_succ] at y0 y1 y2 y3 y4; have HQ7 := Qq hQ7; have HV7 := Qq hv7; have HB7 := Qq hb7'; clear hv7 hb7 hb7' hQ7))
  all_goals
   go_wp2_with fail
   go_roundw
   case measure => simp [intOf]; omega
   case rel =>
    refine ⟨k + 1, by omega, by go_num, (show Aside _ from ?_)⟩
    show Ev S w W1 t (k + 1) (Zz w7 (w.heap.size + 2) (.int .i64 5) (.string ⟨#[]⟩) (.int .i64 0) (.slice r3 (k + 1) m3) (.slice r4 (k + 1) m4))
    have hv7 := HV7.out
    have hs7 := HB7.out.size
    obtain ⟨nv, kv, hcs, _, hn7, hk7⟩ := Hc.1 hv7
    simp only [List.cons.injEq, and_true, true_and] at hcs
    obtain ⟨-, rfl, rfl⟩ := hcs
    have hset : ∀ b, ((fun b => (S b ∧ b < w.heap.size) ∨ w.heap.size + 3 ≤ b) b ∨ wr.heap.size ≤ b) → b ≠ w.heap.size + 2 := fun b hb => by
     rcases hb with (hb | hb) | hb
     ·have := hb.2; omega
     ·omega
     omega
    have hmono : ∀ b, ((fun b => (S b ∧ b < w.heap.size) ∨ w.heap.size + 3 ≤ b) b ∨ wr.heap.size ≤ b) → (fun b => (S b ∧ b < w.heap.size) ∨ w.heap.size + 3 ≤ b) b := fun b hb => by
     rcases hb with hb | hb
     ·exact hb
     exact .inr (by omega)
    refine ⟨r3, m3, r4, m4, hm3, hm4, Y9 HQ7.out, ?_, ?_, ?_⟩
    ·rw [HSn.out, Dx]
     exact (hn7.frame (fun b hb _ => Qt (hset b hb))).mono (fun b _ hb => hmono b hb)
    ·rw [HSn.out, Dx]
     exact (hk7.frame (fun b hb _ => Qt (hset b hb))).mono (fun b _ hb => hmono b hb)
    exact Qn (HBr.out.trans (HB7.out.mono (by omega))) (Q9 _)
 have hkn : k = n := by omega
 subst hkn
 have hfull : t.columns.take k = t.columns := List.take_of_length_le (by rw [HN.out]; exact Q9 _)
 rw [hfull] at HNs HKs
 obtain ⟨q0, q1, q2, q3, q4⟩ := row5 hQ
 obtain ⟨y0, y1, y2, y3, y4⟩ := row5 HZr.out
 obtain ⟨f0, f1, f2, f3, f4⟩ := frz5 HZr.out
 clear hQ hfull
 go_wp2_with fail
 show bodyPost _ _ _ _ _ (Zz wr (w.heap.size + 1) (.int .i64 5) (.string ⟨#[]⟩) (.int .i64 0) (.slice p3 k k3) (.slice p4 k k4))
 refine Q7 (v := .agg #[.int .i64 5, .string ⟨#[]⟩, .int .i64 0, .slice p3 k k3, .slice p4 k k4]) (by simp [results, results111, go_sem, Qm HZr.out]) rfl ⟨p3, k3, p4, k4, rfl, ?_, Qn HBw.out (by omega)⟩
 have hset : ∀ b, (fun b => (S b ∧ b < w.heap.size) ∨ w.heap.size + 3 ≤ b) b → b ≠ w.heap.size + 1 := fun b hb => by
  rcases hb with hb | hb
  ·have := hb.2; omega
  omega
 exact (Ug (s := []) (by simp) (HNs.out.frame (fun b hb _ => Qt (hset b hb))) (HKs.out.frame (fun b hb _ => Qt (hset b hb)))).move (.refl _ _) (fun b _ hb => by
  rcases hb with hb | hb
  ·exact .inl hb.1
  exact .inr (by omega))
theorem Vp.none {n : Nat} {cf : Nat → Nat → Ft} {nm : Nat → Bs} {f : Ft} (h : Vp n cf nm f) (hz : ∀ c i, c < 5 → i < n → (cf c i).code = 0) : f = Ft.zero := by
 rcases h with ⟨h, _⟩ | ⟨c, i, hc, hi, hne, _⟩
 ·exact h
 exact absurd (hz c i hc hi) hne
theorem Vp.at {n : Nat} {cf : Nat → Nat → Ft} {nm : Nat → Bs} {f : Ft} (h : Vp n cf nm f) (c0 i0 : Nat) (hc0 : c0 < 5) (hi0 : i0 < n) (hne0 : (cf c0 i0).code ≠ 0) (hb0 : ∀ c i, i < n → (c < c0 ∨ c = c0 ∧ i < i0) → (cf c i).code = 0) :
  f.code = (cf c0 i0).code ∧ f.table = nm i0 := by
 rcases h with ⟨_, h⟩ | ⟨c, i, hc, hi, hne, rfl, hb⟩
 ·exact absurd (h c0 i0 hc0 hi0) hne0
 have h1 : ¬ (c < c0 ∨ c = c0 ∧ i < i0) := fun h => hne (hb0 c i hi h)
 have h2 : ¬ (c0 < c ∨ c0 = c ∧ i0 < i) := fun h => hne0 (hb c0 i0 hi0 h)
 have e1 : c = c0 := by omega
 have e2 : i = i0 := by omega
 subst e1; subst e2
 exact ⟨rfl, rfl⟩
theorem srt_pw {T : Type} {cf : T → T → Int} {xs : List T} (h : xs.Pairwise fun x y => 0 ≤ cf y x) : Srt cf xs := by
 intro i j x y hij hx hy
 obtain ⟨hi, rfl⟩ := Qj hx
 obtain ⟨hj, rfl⟩ := Qj hy
 exact List.pairwise_iff_getElem.1 h i j hi hj hij
def K1 (v : Val) : List Int := match v.kids with
 | x :: _ => [x.n]
 | [] => []
def tyK : Ty → Int | .mk k _ _ _ _ => k
theorem B3 (x : Val) (y : Ty) (h : tyK y = 0 ∨ tyK y = 1 ∨ tyK y = 2) : Kg x y (x.kind == tyK y) := by
 obtain ⟨k, s, n, names, kids⟩ := y
 exact hasLeaf x k h s n names kids
namespace Law
def tT : Tbl := ⟨[116], [⟨[97], Gen.whole⟩, ⟨[98], Gen.whole⟩], [[97]], [⟨[98], [117]⟩], Gen.op [60] [Gen.a, Gen.b]⟩
def uT : Tbl := ⟨[117], [⟨[107], Gen.whole⟩], [[107]], [], Gen.yes⟩
def sc : Sc := ⟨[], [tT, uT]⟩
def rT (x y : Int) : Val := Vu [[97], [98]] [Ys x, Ys y]
def rU (x : Int) : Val := Vu [[107]] [Ys x]
def st (l : List (Int × Int)) : List Rel := [⟨[116], l.map fun p => rT p.1 p.2⟩, ⟨[117], [rU 3]⟩]
theorem wordA : Yt [97] := ⟨by decide, by decide, by intro c hc; simp at hc; subst hc; decide, by decide, by decide⟩
theorem wordB : Yt [98] := ⟨by decide, by decide, by intro c hc; simp at hc; subst hc; decide, by decide, by decide⟩
theorem wordK : Yt [107] := ⟨by decide, by decide, by intro c hc; simp at hc; subst hc; decide, by decide, by decide⟩
def Rj (v : Val) : Bool := match v.kids with
 | x :: y :: _ => decide (Z1 x y < 0)
 | _ => true
theorem tT_ok (l : List (Int × Int)) (hl : l.length ≤ 1000) (hb : ∀ p ∈ l, -1000 ≤ p.1 ∧ p.1 ≤ 1000) : Ha tT (l.map fun p => rT p.1 p.2) (fun _ => true) Rj K1 where
 srt := srt_pw (by decide)
 few := by decide
 some := by decide
 typed := by
  intro x hx
  obtain ⟨p, hp, rfl⟩ := List.mem_map.1 hx
  refine ⟨.record _ _ rfl ?_ ?_ ?_, ?_⟩
  ·intro y hy
   simp at hy
   rcases hy with rfl | rfl
   ·exact wordA
   exact wordB
  ·intro i a b ha hb
   match i, ha, hb with
   | 0, ha, hb => simp at ha hb; subst ha; subst hb; decide
   | i + 1, ha, hb => simp at hb
  ·intro k hk
   simp at hk
   rcases hk with rfl | rfl <;> exact .int _
  have := hasRec (rT p.1 p.2) [] [[97], [98]] [Gen.whole, Gen.whole] (fun x y => x.kind == tyK y) (fun x _ y hy => B3 x y (by
   simp at hy; subst hy; exact .inl rfl))
  exact this
 keys := ⟨fun r hr => by obtain ⟨p, hp, rfl⟩ := List.mem_map.1 hr; rfl, fun r hr x hx => by
  obtain ⟨p, hp, rfl⟩ := List.mem_map.1 hr
  have := hb p hp
  simp [K1, rT, Vu, Val.kids, Ys, Val.n] at hx
  subst hx; omega, fun r hr => by obtain ⟨p, hp, rfl⟩ := List.mem_map.1 hr; exact (by decide : 1 ≤ 3)⟩
 many := by rw [List.length_map]; omega
 key := by decide
 simple := by decide
 check := by
  intro x hx
  obtain ⟨p, hp, rfl⟩ := List.mem_map.1 hx
  refine ⟨?_, Q9 2⟩
  exact ev_less 0 [] [] [] Gen.a Gen.b 0 0 _ (Ys p.1) (Ys p.2) (ev_var [97] 0 [] [] [] [] 0 0 _ _ rfl) (ev_var [98] 0 [] [] [] [] 0 0 _ _ rfl)
theorem uT_ok : Ha uT [rU 3] (fun _ => true) (fun _ => true) K1 where
 srt := srt_pw (by decide)
 few := by decide
 some := by decide
 typed := by
  intro x hx
  simp at hx
  subst hx
  refine ⟨.record _ _ rfl ?_ ?_ ?_, ?_⟩
  ·intro y hy
   simp at hy
   subst hy
   exact wordK
  ·intro i a b ha hb
   simp at hb
  ·intro k hk
   simp at hk
   subst hk; exact .int _
  have := hasRec (rU 3) [] [[107]] [Gen.whole] (fun x y => x.kind == tyK y) (fun x _ y hy => B3 x y (by
   simp at hy; subst hy; exact .inl rfl))
  exact this
 keys := ⟨fun r hr => by simp at hr; subst hr; rfl, fun r hr x hx => by
  simp at hr; subst hr
  simp [K1, rU, Vu, Val.kids, Ys, Val.n] at hx
  subst hx; omega, fun r hr => by simp at hr; subst hr; decide⟩
 many := by decide
 key := by decide
 simple := by decide
 check := by
  intro x hx
  simp at hx
  subst hx
  refine ⟨?_, by decide⟩
  exact ev_bool [] 1 [] [] [] [] 0 0 _
def cf (l : List (Int × Int)) : Nat → Nat → Ft := cfOf sc (st l) (fun _ _ => true) (fun i => if i = 0 then Rj else fun _ => true) (fun _ => K1)
theorem st_ok (l : List (Int × Int)) (hl : l.length ≤ 1000) (hb : ∀ p ∈ l, -1000 ≤ p.1 ∧ p.1 ≤ 1000) (i : Nat) (t : Tbl) (r : Rel) (ht : sc.tables[i]? = some t) (hr : (st l)[i]? = some r) :
  Ha t r.rows ((fun _ _ => true : Nat → Val → Bool) i) ((fun i => if i = 0 then Rj else fun _ => true : Nat → Val → Bool) i) ((fun _ => K1 : Nat → Val → List Int) i) := by
 match i, ht, hr with
 | 0, ht, hr =>
  cases ht; cases hr
  exact tT_ok l hl hb
 | 1, ht, hr =>
  cases ht; cases hr
  exact uT_ok
 | i + 2, ht, hr => simp [sc] at ht
theorem cf_u (l : List (Int × Int)) (c : Nat) (hc : c < 5) : (cf l c 1).code = 0 := by
 match c, hc with
 | 0, _ => show (L2 [rU 3]).code = 0; rw [B9 (by decide)]; rfl
 | 1, _ => show (Xm 9 (fun _ => true) [rU 3]).code = 0; rw [U3 (fun _ _ => rfl)]; rfl
 | 2, _ =>
  show (Uv [rU 3] (ust [rU 3].length ([rU 3].map fun r => kb (K1 r)) [rU 3].length)).code = 0
  rw [Bt rfl (fun i j a b hij ha hb => by
   have h1 := (Qj hb).1
   simp at h1
   omega)]
  rfl
 | 3, _ => rfl
 | 4, _ => show (Xm 13 (fun _ => true) [rU 3]).code = 0; rw [U3 (fun _ _ => rfl)]; rfl
theorem Ni (l : List (Int × Int)) (hl : l.length ≤ 256) : (cf l 0 0).code = 0 := by
 show (L2 (l.map fun p => rT p.1 p.2)).code = 0
 rw [B9 (by rw [List.length_map]; exact hl)]; rfl
theorem Nm (l : List (Int × Int)) : (cf l 1 0).code = 0 := by
 show (Xm 9 (fun _ => true) (l.map fun p => rT p.1 p.2)).code = 0
 rw [U3 (fun _ _ => rfl)]; rfl
theorem kb1_inj {a b : Int} (h : kb [a] = kb [b]) : a = b := by
 unfold kb at h
 simp at h
 exact encI_inj h
theorem cf_t2 (l : List (Int × Int)) (hd : (l.map Prod.fst).Pairwise (· ≠ ·)) : (cf l 2 0).code = 0 := by
 show (Uv (l.map fun p => rT p.1 p.2) (ust (l.map fun p => rT p.1 p.2).length ((l.map fun p => rT p.1 p.2).map fun r => kb (K1 r)) (l.map fun p => rT p.1 p.2).length)).code = 0
 rw [Bt (by rw [List.length_map]) (fun i j a b hij ha hb => ?_)]
 ·rfl
 rw [List.map_map, List.getElem?_map] at ha hb
 cases hx : l[i]? with
 | none => rw [hx] at ha; cases ha
 | some x =>
  cases hy : l[j]? with
  | none => rw [hy] at hb; cases hb
  | some y =>
   rw [hx] at ha; rw [hy] at hb
   cases ha; cases hb
   intro e
   have e1 : x.1 = y.1 := kb1_inj e
   obtain ⟨hi, hx'⟩ := Qj hx
   obtain ⟨hj, hy'⟩ := Qj hy
   have := List.pairwise_iff_getElem.1 hd i j (by simpa using hi) (by simpa using hj) hij
   simp only [List.getElem_map] at this
   rw [hx', hy'] at this
   exact this e1
theorem cf_t2d (a x y : Int) : (cf [(a, x), (a, y)] 2 0).code = 11 := by
 show (Uv [rT a x, rT a y] (ust 2 [kb [a], kb [a]] 2)).code = 11
 generalize kb [a] = k
 have : ust 2 [k, k] 2 = (0, 1) := by
  show U1 [k] (U1 [] (2, 0) k) k = (0, 1)
  have h1 : Y0 [] k = none := rfl
  have h2 : Y0 [k] k = some 0 := by unfold Y0; simp
  unfold U1
  rw [h1]
  simp only [h2]
  rfl
 rw [this]
 rfl
theorem refT (l : List (Int × Int)) (a y : Int) : Gi sc (st l) ⟨[98], [117]⟩ (rT a y) = decide (y = 3) := by
 show (Vx sc (st l) [117] [Ys y]).isSome = _
 have h1 : Vx sc (st l) [117] [Ys y] = atP (lkP [[107]] [Ys y]) [rU 3] := rfl
 rw [h1]
 have h2 : lkP [[107]] [Ys y] (rU 3) = decide (y = 3) := by
  show eqL eqv [Ys 3] [Ys y] = _
  simp only [eqL, Bool.and_true]
  unfold eqv
  rw [decide_eq_decide]
  simp [key, Ys]
  exact eq_comm
 unfold atP
 by_cases h : y = 3
 ·subst h; simp [h2]
 simp [h2, h]
theorem cf_t3 (l : List (Int × Int)) (h : ∀ p ∈ l, p.2 = 3) : (cf l 3 0).code = 0 := by
 show (Yp sc (st l) (l.map fun p => rT p.1 p.2) [⟨[98], [117]⟩]).code = 0
 have : Xm 12 (Gi sc (st l) ⟨[98], [117]⟩) (l.map fun p => rT p.1 p.2) = Ft.zero := U3 (fun x hx => by
  obtain ⟨p, hp, rfl⟩ := List.mem_map.1 hx
  rw [refT, h p hp]; rfl)
 unfold Yp
 rw [this]
 rfl
theorem cf_t3d (a b y : Int) (hy : y ≠ 3) : (cf [(a, 3), (b, y)] 3 0).code = 12 := by
 show (Yp sc (st [(a, 3), (b, y)]) [rT a 3, rT b y] [⟨[98], [117]⟩]).code = 12
 have : (Xm 12 (Gi sc (st [(a, 3), (b, y)]) ⟨[98], [117]⟩) [rT a 3, rT b y]).code = 12 := by
  unfold Xm
  simp [List.findIdx?_cons, refT, hy]
 unfold Yp
 rw [this, if_neg (by decide)]
 exact this
theorem Nt (x y : Int) : Rj (rT x y) = decide (x < y) := by
 show decide (Z1 (Ys x) (Ys y) < 0) = _
 rw [decide_eq_decide]
 simp [Z1, Ys]
 exact Es
theorem cf_t4 (l : List (Int × Int)) (h : ∀ p ∈ l, p.1 < p.2) : (cf l 4 0).code = 0 := by
 show (Xm 13 Rj (l.map fun p => rT p.1 p.2)).code = 0
 rw [U3 (fun x hx => by
  obtain ⟨p, hp, rfl⟩ := List.mem_map.1 hx
  rw [Nt]; exact decide_eq_true (h p hp))]
 rfl
theorem cf_t4d (a b x y : Int) (h1 : a < x) (h2 : ¬ b < y) : (cf [(a, x), (b, y)] 4 0).code = 13 := by
 show (Xm 13 Rj [rT a x, rT b y]).code = 13
 unfold Xm
 simp [List.findIdx?_cons, Nt, h1, h2]
theorem st_norm (l : List (Int × Int)) (h : J3 (l.map fun p => rT p.1 p.2) = true) : Fe sc (st l) = true := by
 show (J3 (l.map fun p => rT p.1 p.2) && decide (([116] : Bs) = [116]) && ((J3 [rU 3] && decide (([117] : Bs) = [117])) && true)) = true
 rw [h]; rfl
theorem inc1 (a b : Int) : J3 ([(a, b)].map fun p => rT p.1 p.2) = true := rfl
theorem cmp_rT (a b c d : Int) : Z1 (rT a b) (rT c d) = thn (ord a c) (thn (ord b d) 0) := by
 simp [rT, Vu, Ys, Z1, Yg, U4, Zg, Vv, thn]
theorem inc2 (a b c d : Int) (h : a < c ∨ a = c ∧ b < d) : J3 ([(a, b), (c, d)].map fun p => rT p.1 p.2) = true := by
 show (decide (Z1 (rT a b) (rT c d) < 0) && true) = true
 rw [Bool.and_true, decide_eq_true_eq, cmp_rT]
 rcases h with h | ⟨rfl, h⟩
 ·have : ord a c = -1 := by unfold ord; rw [if_pos h]
  rw [this]; show (-1 : Int) < 0; omega
 rw [Vv, V0]
 have : ord b d = -1 := by unfold ord; rw [if_pos h]
 rw [this]; decide
theorem code0 {f : Ft} (h : Vp sc.tables.length (cf [(1, 3)]) (fun i => ((sc.tables[i]?).getD Tbl.zero).name) f) : f.code = 0 := by
 rw [h.none (fun c i hc hi => ?_)]
 ·rfl
 have hi' : i < 2 := hi
 match i, hi' with
 | 1, _ => exact cf_u _ c hc
 | 0, _ =>
  match c, hc with
  | 0, _ => exact Ni _ (by decide)
  | 1, _ => exact Nm _
  | 2, _ => exact cf_t2 _ (by decide)
  | 3, _ => exact cf_t3 _ (by decide)
  | 4, _ => exact cf_t4 _ (by decide)
theorem code1 {f : Ft} (h : Vp sc.tables.length (cf [(1, 3), (1, 4)]) (fun i => ((sc.tables[i]?).getD Tbl.zero).name) f) : f.code = 11 := by
 have h2 := cf_t2d 1 3 4
 rw [(h.at 2 0 (by decide) (by decide) (by rw [h2]; decide) (fun c i hi hb => ?_)).1, h2]
 have hi' : i < 2 := hi
 match i, hi' with
 | 1, _ => exact cf_u _ c (by omega)
 | 0, _ =>
  match c, hb with
  | 0, _ => exact Ni _ (by decide)
  | 1, _ => exact Nm _
  | c + 2, hb => omega
theorem code2 {f : Ft} (h : Vp sc.tables.length (cf [(1, 3), (2, 4)]) (fun i => ((sc.tables[i]?).getD Tbl.zero).name) f) : f.code = 12 := by
 have h2 := cf_t3d 1 2 4 (by decide)
 rw [(h.at 3 0 (by decide) (by decide) (by rw [h2]; decide) (fun c i hi hb => ?_)).1, h2]
 have hi' : i < 2 := hi
 match i, hi' with
 | 1, _ => exact cf_u _ c (by omega)
 | 0, _ =>
  match c, hb with
  | 0, _ => exact Ni _ (by decide)
  | 1, _ => exact Nm _
  | 2, _ => exact cf_t2 _ (by decide)
  | c + 3, hb => omega
theorem code3 {f : Ft} (h : Vp sc.tables.length (cf [(1, 3), (5, 3)]) (fun i => ((sc.tables[i]?).getD Tbl.zero).name) f) : f.code = 13 := by
 have h2 := cf_t4d 1 5 3 3 (by decide) (by decide)
 rw [(h.at 4 0 (by decide) (by decide) (by rw [h2]; decide) (fun c i hi hb => ?_)).1, h2]
 have hi' : i < 2 := hi
 match i, hi' with
 | 1, _ => exact cf_u _ c (by omega)
 | 0, _ =>
  match c, hb with
  | 0, _ => exact Ni _ (by decide)
  | 1, _ => exact Nm _
  | 2, _ => exact cf_t2 _ (by decide)
  | 3, _ => exact cf_t3 _ (by decide)
  | c + 4, hb => omega
end Law
def Ew (w : World) (l : List Rel) (e : Ending) (w' : World) : Prop := ∃ p cap, e = .returned (.slice p l.length cap) ∧ Sl Z8 (fun _ => True) w' (.slice p l.length cap) l ∧ Below w.heap.size w w'
theorem Je (S0 S1 : Nat → Prop) (lv : Value) (l : List Rel) (tn : Bs) (x : Val) (cx : List Value) (w : World) (i : Nat) (o : Rel) (hl0 : Sl Z8 S0 w lv l) (hx0 : Qh S1 w cx x) (hf : l.findIdx? (fun r => decide (r.table = tn)) = some i) (ho : l[i]? = some o)
  (hne : ∀ y ∈ o.rows, eqv y x = false) (hgr : ∀ y ∈ o.rows, decide (0 < Z1 y x) = false) (hrl : ∀ r ∈ l, r.rows.length ≤ 10000) :
  Calls prog 22 #[lv, sv tn, .agg cx.toArray] w (Ew w (l.set i ⟨o.table, o.rows ++ [x]⟩)) := by
 have hx : Qh (fun b => b < w.heap.size) w cx x := hx0.move (.refl _ _) (fun b hb _ => hb)
 have HCo := Qq (fun W (hb : Below w.heap.size w W) => Mg S0 lv l W (hl0.below hb))
 have hix : X6 (fun r => decide (r.table = tn)) l = i := by unfold X6; rw [hf]
 have HIx := Qq (fun v W (hs : Sl Z8 (fun _ => True) W v l) => Bg _ v l tn W hs)
 rw [hix] at HIx
 have hin : i < l.length := (Qj ho).1
 have hll : l.length ≤ 1000000 := by obtain ⟨_, _, _, h⟩ := hl0.len; exact h
 obtain ⟨lp, lc, rfl, _⟩ := hl0.len
 have HX := Qq hx; have HO := Qq ho; have HRL := Qq hrl
 have hor := hrl o (Qy ho)
 have hany : o.rows.any (fun v => eqv v x) = false := by rw [List.any_eq_false]; intro y hy; rw [hne y hy]; decide
 have hidx : X6 (fun v => decide (0 < Z1 v x)) o.rows = -1 := Xu (fun j y hy => hgr y (Qy hy))
 obtain ⟨x3, x3c, x4, x4c, hcs, _⟩ := Qh.cells hx
 simp only [vcs] at hcs
 have HB := Qq (fun v W (hb : Below w.heap.size w W) (hs : Sl Ql (fun _ => True) W v o.rows) (hc : ∀ j u, cx[j]? = some u → W.cell? ⟨w.heap.size, j, none⟩ = some u) (hR : w.heap.size < W.heap.size) => conFn Tryz.cfVal Ql isAgg44 sizeOf44 55 #[.pointer (some ⟨w.heap.size, 0, none⟩)] (enters_of func55 (by kernel_rfl) rfl) (fun _ => True) v o.rows W _ hs
  (ins1_any w.heap.size (fun _ => True) x cx o.rows W hc hR (hx.move (.of_below hb) (fun _ _ _ => trivial))))
 have HI := Qq (fun v W (hb : Below w.heap.size w W) (hs : Sl Ql (fun _ => True) W v o.rows) (hc : ∀ j u, cx[j]? = some u → W.cell? ⟨w.heap.size, j, none⟩ = some u) (hR : w.heap.size < W.heap.size) => Le Tryz.ixVal Ql isAgg44 sizeOf44 56 #[.pointer (some ⟨w.heap.size, 0, none⟩)] (enters_of func56 (by kernel_rfl) rfl) (fun _ => True) v o.rows W _ hs
  (ins2_any w.heap.size (fun _ => True) x cx o.rows W hc hR (hx.move (.of_below hb) (fun _ _ _ => trivial))))
 rw [hany] at HB
 rw [hidx] at HI
 subst hcs
 clear hx hx0 hl0 hf hix hne hgr hrl hany hidx ho
 unfold sv at HIx ⊢
 obtain ⟨n, hn⟩ := eX (l.length)
 unfold L6 at HCo
 rw [hn] at HCo hin hll ⊢
 have HN := Qq hn
 clear hn
 have hi3 : (0 : Int) ≤ (i : Int) := by omega
 have hi4 : (i : Int) < (n : Int) := by omega
 have hi5 : decide ((i : Int) < 0) = false := by simp
 go_enter func22, ntmps22
 go_wp2_with fail
 obtain ⟨W1, hW1⟩ := eX (w.alloc (.cells #[.int .i64 x.kind, .int .i64 x.n, .string ⟨x.s.toArray⟩, .slice x3 x.names.length x3c, .slice x4 x.kids.length x4c] 44))
 have hb1 := eqB hW1 (Qo _ _)
 have hX1 := eqH (b := w.heap.size) hW1 (Qw _ _)
 have HB1 := Qq hb1; have HX1 := Qq hX1
 rw [hW1]
 have hcp := HCo.out W1 hb1
 clear hW1 hb1 hX1
 refine hcp.mono ?_
 rintro e w2 ⟨p, cap, rvs, rfl, hSt2, hb2⟩
 obtain ⟨g, cap', hv, hgB, hgs⟩ := hSt2.row.form (by rw [HN.out]; omega)
 simp only [Value.slice.injEq] at hv
 obtain ⟨rfl, -, rfl⟩ := hv
 obtain ⟨rvi, hrvi⟩ : ∃ rvi, rvs[i]? = some rvi := ⟨_, Qx (by rw [hSt2.len, HN.out]; exact hin)⟩
 obtain ⟨css, hOwn⟩ := hSt2.rows i o rvi HO.out hrvi
 obtain ⟨rpi, rci, rfl⟩ := hOwn.form
 have HSt2 := Qq hSt2; have HB2 := Qq hb2; have HRvi := Qq hrvi
 have HIx2 := Qq (HIx.out _ w2 (hSt2.sl (by rw [HN.out]; omega) (fun r hr => by have := HRL.out r hr; omega) _ (fun _ _ => trivial) (fun _ _ _ => trivial)))
 clear hSt2 hb2 hOwn hrvi hcp HCo HIx
 go_wp2_with fail
 refine HIx2.out.mono ?_
 rintro e w3 ⟨rfl, hb3⟩
 have hSt3 := HSt2.out.below hb3
 have hX3 := kB hb3 (kE HB2.out (Qf HX1.out) HX1.out)
 obtain ⟨cur, hcur, -, hci⟩ := hSt3.at HO.out HRvi.out
 have c1 := Qk _ _ (i * 2 + 1) _ _ _ hcur
 rw [hci] at c1
 obtain ⟨css, hOwn⟩ := hSt3.rows i o _ HO.out HRvi.out
 have HBw3 := Qq (HB1.out.trans ((HB2.out.thn hb3).mono HB1.out.size))
 have HBf := Qq (HB.out _ w3 HBw3.out (hOwn.sl (by omega) (fun _ _ => trivial) (fun _ _ _ => trivial)) (fun j u hu => by rw [Qk _ _ j _ _ _ hX3]; simpa using hu) (Qf hX3))
 have HSt3 := Qq hSt3; have HX3 := Qq hX3
 clear hSt3 hX3 hcur hci hOwn hb3 cur HB
 go_wp2_with fail
 refine HBf.out.mono ?_
 rintro e w4 ⟨rfl, hb4⟩
 have hSt4 := HSt3.out.below hb4
 have hX4 := kB hb4 HX3.out
 obtain ⟨cur, hcur, -, hci⟩ := hSt4.at HO.out HRvi.out
 have c4 := Qk _ _ (i * 2 + 1) _ _ _ hcur
 rw [hci] at c4
 obtain ⟨css, hOwn⟩ := hSt4.rows i o _ HO.out HRvi.out
 have HBw4 := Qq (HBw3.out.thn hb4)
 have HIf := Qq (HI.out _ w4 HBw4.out (hOwn.sl (by omega) (fun _ _ => trivial) (fun _ _ _ => trivial)) (fun j u hu => by rw [Qk _ _ j _ _ _ hX4]; simpa using hu) (Qf hX4))
 have HSt4 := Qq hSt4; have HX4 := Qq hX4
 clear hSt4 hX4 hcur hci hOwn hb4 cur HI c1
 go_wp2_with fail
 refine HIf.out.mono ?_
 rintro e w5 ⟨rfl, hb5⟩
 have hSt5 := HSt4.out.below hb5
 have hX5 := kB hb5 HX4.out
 obtain ⟨cur, hcur, -, hci⟩ := hSt5.at HO.out HRvi.out
 have c5 := Qk _ _ (i * 2 + 1) _ _ _ hcur
 rw [hci] at c5
 have x0 := rA0 hX5; have x1 := rA1 hX5; have x2 := rA2 hX5; have x3' := rA3 hX5; have x4' := rA4 hX5
 obtain ⟨css, hOwn⟩ := hSt5.rows i o _ HO.out HRvi.out
 have HBw5 := Qq (HBw4.out.thn hb5)
 have hg5 := Qf hcur
 have hR5 := Qf hX5
 have hne1 : g ≠ w5.heap.size := by omega
 have hne2 : w.heap.size ≠ w5.heap.size := by omega
 have hne6 : some g ≠ (Value.slice rpi o.rows.length rci).ownBlock := fun e => Yz hSt5.row hOwn.row (by decide) rfl e.symm
 have HSt5 := Qq hSt5; have HOwn := Qq hOwn; have HCur := Qq hcur; have HCi := Qq hci
 have hxv : Qh (But (Hp (.slice (some ⟨g, 0, none⟩) n cap) rvs) (.slice rpi o.rows.length rci)) w5 [.int .i64 x.kind, .int .i64 x.n, .string ⟨x.s.toArray⟩, .slice x3 x.names.length x3c, .slice x4 x.kids.length x4c] x := by
  refine HX.out.move (.of_below HBw5.out) (fun b _ hb => ?_)
  have hb' : b < w.heap.size := hb
  have hB0 := HB1.out.size
  refine ⟨⟨fun e => ?_, fun u hu e => ?_⟩, fun e => ?_⟩
  ·have : g = b := Qb e
   omega
  ·obtain ⟨j, hj⟩ := List.getElem?_of_mem hu
   obtain ⟨y, hy⟩ : ∃ y, l[j]? = some y := ⟨_, Qx (by rw [← HSt5.out.len]; exact (Qj hj).1)⟩
   obtain ⟨_, ho2⟩ := HSt5.out.rows j y u hy hj
   have := (ho2.row.lt b e).1
   omega
  have := (HOwn.out.row.lt b e.symm).1
  omega
 have HXV := Qq hxv
 clear hSt5 hX5 hcur hci hOwn hb5 hxv c4
 obtain ⟨W8, hW8⟩ := eX ((w5.alloc (.cells #[.int .i64 x.kind, .int .i64 x.n, .string ⟨x.s.toArray⟩, .slice x3 x.names.length x3c, .slice x4 x.kids.length x4c] 44)).drew)
 have hb8 : Below w5.heap.size w5 W8 := by rw [← hW8]; exact (Qo _ _).drew
 have hX8 : W8.heap[w5.heap.size]? = some (.cells #[.int .i64 x.kind, .int .i64 x.n, .string ⟨x.s.toArray⟩, .slice x3 x.names.length x3c, .slice x4 x.kids.length x4c] 44 (0, 0)) := by rw [← hW8, heap_drew]; exact Qw _ _
 have hsz8 : W8.heap.size = w5.heap.size + 1 := by rw [← hW8]; simp
 have hY8 : Sl Ql (But (Hp (.slice (some ⟨g, 0, none⟩) n cap) rvs) (.slice rpi o.rows.length rci)) W8 (.slice (some ⟨w5.heap.size, 0, none⟩) 1 1) [x] := by
  refine ⟨_, 1, rfl, by simp, fun _ => ⟨w5.heap.size, 0, rfl, ?_, Qf hX8, fun j u hj => ?_⟩⟩
  ·refine ⟨⟨fun e => ?_, fun u hu e => ?_⟩, fun e => ?_⟩
   ·exact hne1 (Qb e)
   ·obtain ⟨j, hj⟩ := List.getElem?_of_mem hu
    obtain ⟨y, hy⟩ : ∃ y, l[j]? = some y := ⟨_, Qx (by rw [← HSt5.out.len]; exact (Qj hj).1)⟩
    obtain ⟨_, ho2⟩ := HSt5.out.rows j y u hy hj
    have := (ho2.row.lt _ e).2
    omega
   have := (HOwn.out.row.lt _ e.symm).2
   omega
  have h0 := (Qj hj).1
  simp at h0
  subst h0
  simp at hj
  subst hj
  refine ⟨_, fun j u hu => ?_, HXV.out.move (.of_below hb8) (fun _ _ h => h)⟩
  rw [Nat.zero_mul, Nat.zero_add, Qk _ _ j _ _ _ hX8]
  simpa using hu
 have HIns := Qq (insEnd _ W1.heap.size W8 (.slice rpi o.rows.length rci) o.rows css x (some ⟨w5.heap.size, 0, none⟩) 1 (HOwn.out.below hb8) hY8 (by omega) (by omega))
 have HHc := Qq (fun (w6 : World) (hg : W8.grownBy w6 (Value.slice rpi o.rows.length rci).ownBlock) => (hg.block g (by omega) hne6).trans ((hb8.block g hg5).trans HCur.out))
 have c8 := (hb8.cell (p := ⟨g, i * 2 + 1, none⟩) hg5).trans c5
 have HB8 := Qq hb8; have HSz8 := Qq hsz8
 have HW8 := Qq hW8
 clear hY8 hX8 hb8 hsz8
 go_wp2_with fail
 go_region_with (first | (go_at_call 58; refine HIns.out.mono ?_; rintro e w6 ⟨p6, c6, css6, rfl, hO6, hg6, ha6⟩; have hc6 := HHc.out w6 hg6; have f6 := frozen_of_row _ _ (i * 2 + 1) _ _ hc6; have k6 := Qk _ _ (i * 2 + 1) _ _ _ hc6; rw [HCi.out] at k6; have HO6 := Qq hO6; have HG6 := Qq hg6; have HA6 := Qq ha6; clear hc6 hO6 hg6 ha6))
 all_goals
  go_wp2_with fail
  go_ret
  have hO6 := HO6.out; have hA6 := HA6.out
  simp only [List.length_append, List.length_cons, List.length_nil, Nat.zero_add] at hO6 hA6
  have hP := (HSt5.out.below HB8.out).put' HN.out HO.out HRvi.out ⟨css6, hO6⟩ HG6.out (by
   rcases hA6 with h | h
   ·exact .inl h
   exact .inr fun g' e => by rw [h] at e; exact Nat.le_of_eq (Qb e))
  have hlen : (l.set i ⟨o.table, o.rows ++ [x]⟩).length = n := by rw [List.length_set]; exact HN.out
  have hrw : ∀ r ∈ l.set i ⟨o.table, o.rows ++ [x]⟩, r.rows.length ≤ 1000000 := by
   intro r hr
   rcases List.mem_or_eq_of_mem_set hr with h | rfl
   ·have := HRL.out r h; omega
   simp; omega
  refine ⟨some ⟨g, 0, none⟩, cap, by rw [hlen]; rfl, by rw [hlen]; exact hP.sl (by rw [hlen]; exact hll) hrw _ (fun _ _ => trivial) (fun _ _ _ => trivial), ?_⟩
  have hbw := HBw5.out.thn HB8.out
  have hB1 := HB1.out.size
  refine (hbw.grown HG6.out hbw.size (fun b hb => ?_)).setCell (p := ⟨g, i * 2 + 1, none⟩) (by show w.heap.size ≤ g; omega) _
  have := (HOwn.out.row.lt b hb).1
  omega
end Go.Proofs.YtppbaladeefnkaaGreatDoor

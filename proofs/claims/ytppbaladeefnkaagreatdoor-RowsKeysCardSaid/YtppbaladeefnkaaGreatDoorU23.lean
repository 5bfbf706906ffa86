import Derived.Test.YtppbaladeefnkaaGreatDoorU22
set_option maxRecDepth 100000
set_option maxHeartbeats 400000000
namespace Go.Proofs.YtppbaladeefnkaaGreatDoor
open Go.RowKit Go.Shelf Go.Lib Tryz
def Vc (A : List Bs × List Val) (p : Bs × Val) : List Bs × List Val := (Y3 A.1 (below A.1 p.1) p.1, Y3 A.2 (below A.1 p.1) p.2)
def Yk (z : List (Bs × Val)) : List Bs × List Val := z.foldl Vc ([], [])
theorem B7 (z : List (Bs × Val)) (p : Bs × Val) : Yk (z ++ [p]) = Vc (Yk z) p := by unfold Yk; rw [List.foldl_append]; rfl
theorem Rm {T : Type} (l : List T) (i : Nat) (x : T) : (Y3 l i x).length = l.length + 1 := by unfold Y3; simp [List.length_take, List.length_drop]; omega
theorem Xi (z : List (Bs × Val)) : (Yk z).1.length = z.length ∧ (Yk z).2.length = z.length := by
 have : ∀ (z : List (Bs × Val)) (A : List Bs × List Val), (z.foldl Vc A).1.length = A.1.length + z.length ∧ (z.foldl Vc A).2.length = A.2.length + z.length := by
  intro z
  induction z with
  | nil => intro A; exact ⟨rfl, rfl⟩
  | cons p z ih =>
   intro A
   obtain ⟨h1, h2⟩ := ih (Vc A p)
   rw [List.foldl_cons, h1, h2]
   unfold Vc
   simp only [Rm, List.length_cons]
   omega
 have := this z ([], [])
 simpa [Yk] using this
def RecIs (S : Nat → Prop) (w : World) (names : List Bs) (vals : List Val) (e : Ending) (w' : World) : Prop := Below w.heap.size w w' ∧
 ((∃ err : Int, err ≠ 0 ∧ e = .returned (.tuple #[.agg zV, .int .i64 err]) ∧ ¬ (names.length = vals.length ∧ ∀ (i j : Nat) (x : Bs), i < j → names[i]? = some x → names[j]? = some x → False)) ∨
  (∃ p3 k3 p4 k4, names.length = vals.length ∧ e = .returned (.tuple #[.agg (vcs (Vu (Yk (names.zip vals)).1 (Yk (names.zip vals)).2) p3 k3 p4 k4).toArray, .int .i64 0]) ∧ names.length ≤ k3 ∧ names.length ≤ k4 ∧
   Qh (fun b => S b ∨ w.heap.size ≤ b) w' (vcs (Vu (Yk (names.zip vals)).1 (Yk (names.zip vals)).2) p3 k3 p4 k4) (Vu (Yk (names.zip vals)).1 (Yk (names.zip vals)).2)))
def U0 (S : Nat → Prop) (w : World) (z : List (Bs × Val)) (wx : World) : Prop := Below w.heap.size w wx ∧ ∃ p3 k3 p4 k4, z.length ≤ k3 ∧ z.length ≤ k4 ∧
 wx.heap[w.heap.size + 1]? = some (.cells #[.int .i64 4, .int .i64 0, .string ⟨#[]⟩, .slice p3 z.length k3, .slice p4 z.length k4] 44 (0, 0)) ∧ Qh (fun b => (S b ∧ b < w.heap.size) ∨ w.heap.size + 2 ≤ b) wx (vcs (Vu (Yk z).1 (Yk z).2) p3 k3 p4 k4) (Vu (Yk z).1 (Yk z).2) ∧
 wx.heap[w.heap.size]? = some (.cells zV 44 (0, 0))
theorem Fv (z : List (Bs × Val)) (p3 : Option Addr) (k3 : Nat) (p4 : Option Addr) (k4 : Nat) : vcs (Vu (Yk z).1 (Yk z).2) p3 k3 p4 k4 = [.int .i64 4, .int .i64 0, .string ⟨#[]⟩, .slice p3 z.length k3, .slice p4 z.length k4] := by
 obtain ⟨h1, h2⟩ := Xi z
 unfold Vu
 rw [vcs_mk, h1, h2]
theorem U0.below {S : Nat → Prop} {w wr wx : World} {z : List (Bs × Val)} (h : U0 S w z wr) (hb : Below wr.heap.size wr wx) : U0 S w z wx := by
 obtain ⟨h1, p3, k3, p4, k4, h2, h3, h4, h5, h6⟩ := h
 exact ⟨h1.thn hb, p3, k3, p4, k4, h2, h3, kB hb h4, h5.move (.of_below hb) (fun _ _ h => h), kB hb h6⟩
theorem U0.next {S : Nat → Prop} {w wr w2 : World} {z : List (Bs × Val)} {name : Bs} {x : Val} {p3 : Option Addr} {k3 : Nat} {p4 : Option Addr} {k4 : Nat} (h : U0 S w z wr) (hb : Below wr.heap.size wr w2) (h3 : (Bk (Vu (Yk z).1 (Yk z).2) name x).names.length ≤ k3) (h4 : (Bk (Vu (Yk z).1 (Yk z).2) name x).kids.length ≤ k4)
  (hv : Qh (fun b => ((fun b => (S b ∧ b < w.heap.size) ∨ w.heap.size + 2 ≤ b)) b ∨ wr.heap.size ≤ b) w2 (vcs (Bk (Vu (Yk z).1 (Yk z).2) name x) p3 k3 p4 k4) (Bk (Vu (Yk z).1 (Yk z).2) name x)) :
  vcs (Bk (Vu (Yk z).1 (Yk z).2) name x) p3 k3 p4 k4 = [.int .i64 4, .int .i64 0, .string ⟨#[]⟩, .slice p3 (z.length + 1) k3, .slice p4 (z.length + 1) k4] ∧
  U0 S w (z ++ [(name, x)]) (Zz w2 (w.heap.size + 1) (.int .i64 4) (.int .i64 0) (.string ⟨#[]⟩) (.slice p3 (z.length + 1) k3) (.slice p4 (z.length + 1) k4)) := by
 have hu : Bk (Vu (Yk z).1 (Yk z).2) name x = Vu (Yk (z ++ [(name, x)])).1 (Yk (z ++ [(name, x)])).2 := by rw [B7]; rfl
 rw [hu] at h3 h4 hv ⊢
 have hc := Fv (z ++ [(name, x)]) p3 k3 p4 k4
 obtain ⟨hl1, hl2⟩ := Xi (z ++ [(name, x)])
 have hz : (z ++ [(name, x)]).length = z.length + 1 := by simp
 refine ⟨by rw [hc, hz], ?_⟩
 obtain ⟨hb0, p3', k3', p4', k4', _, _, h7, _, h9⟩ := h
 have hsz : w.heap.size + 1 < wr.heap.size := Qf h7
 have h7' := kE hb hsz h7
 have h9' := kB hb h9
 refine ⟨Qn (hb0.thn hb) (by omega), p3, k3, p4, k4, by rw [hz]; have : (Yk (z ++ [(name, x)])).1.length ≤ k3 := h3; omega, by rw [hz]; have : (Yk (z ++ [(name, x)])).2.length ≤ k4 := h4; omega, by rw [hz]; exact Y9 h7', ?_, by rw [Qt (by omega)]; exact h9'⟩
 refine (hv.move (S' := (fun b => (S b ∧ b < w.heap.size) ∨ w.heap.size + 2 ≤ b)) (.refl _ _) (fun b _ h => ?_)).move (fun b hS _ => Qt ?_) (fun b _ h => h)
 ·rcases h with h | h
  ·exact h
  exact .inr (by omega)
 rcases hS with h | h <;> omega
theorem Dc (S : Nat → Prop) (nv vv : Value) (names : List Bs) (vals : List Val) (w : World) (hn0 : Sl Qp S w nv names) (hv0 : Sl Ql S w vv vals) (hw : ∀ x ∈ names, Yt x) (hl : names.length ≤ 1000) :
  Calls prog 72 #[nv, vv] w (RecIs S w names vals) := by
 have hn := hn0.up
 have hv := hv0.up
 obtain ⟨np, nc, rfl, _⟩ := hn.len
 obtain ⟨vp, vc, rfl, hvl⟩ := hv.len
 have HNs := Qq hn; have HVs := Qq hv; have HW := Qq hw
 clear hn0 hv0 hn hv hw
 by_cases hlen : names.length = vals.length
 ·obtain ⟨n, hnn⟩ := eX (names.length)
  have hm : vals.length = n := by omega
  have HN := Qq hnn; have HM := Qq hm; have HLen := Qq hlen
  rw [hnn] at HNs hl ⊢
  rw [hm] at HVs hvl ⊢
  have hq : ((n : Int) != (n : Int)) = false := by simp
  clear hnn hm hlen
  go_enter func72, ntmps72
  go_wp2_with fail
  generalize hW1 : (w.alloc _).alloc _ = W1
  have hM1 : U0 S w ((names.zip vals).take 0) W1 := by
   refine ⟨by rw [← hW1]; exact Zv _ _ _, none, 0, none, 0, Q9 _, Q9 _, by rw [← hW1]; exact Q6 _ _ _, ?_, by rw [← hW1]; exact Q5 _ _ _⟩
   exact Zn (s := []) (by simp) (Sl.nil _ _ _) (Sl.nil _ _ _)
  have HM1 := Qq hM1
  clear hW1 hM1 hq
  go_loopw [7, 8] (fun i _ wr => ∃ k : Nat, k ≤ n ∧ i = .int .i64 k ∧ Aside (U0 S w ((names.zip vals).take k) wr) ∧ Aside (∀ (i j : Nat) (x : Bs), j < k → i < j → names[i]? = some x → names[j]? = some x → False)) (fun i _ _ => n - (intOf i).toNat)
  case atStart => exact ⟨0, Q8 _, rfl, HM1.out, fun i j x hj => absurd hj (Nat.not_lt_zero _)⟩
  obtain ⟨k, hk, rfl, hM, hD⟩ := hrel
  have hM' : U0 S w ((names.zip vals).take k) wr := hM
  have HMk := Qq hM'
  obtain ⟨hbw, p3, k3, p4, k4, h3, h4, hX, hvu, hZ⟩ := hM'
  have hzl : ((names.zip vals).take k).length = k := by rw [List.length_take, List.length_zip, HN.out, HM.out]; omega
  rw [hzl] at h3 h4 hX
  have HB := Qq hbw; have HX := Qq hX; have HVu := Qq hvu; have HZ := Qq hZ; have HZl := Qq hzl; have HD := Qq (show ∀ (i j : Nat) (x : Bs), j < k → i < j → names[i]? = some x → names[j]? = some x → False from hD)
  have hXl := Qf hX
  clear hM hD hbw hX hvu hZ hzl
  by_cases hlt : k < n
  ·have hi1 : (0 : Int) ≤ (k : Int) := by omega
   have hi2 : (k : Int) < (n : Int) := by omega
   obtain ⟨nm, hnm⟩ : ∃ y, names[k]? = some y := ⟨_, Qx (by rw [HN.out]; exact hlt)⟩
   obtain ⟨x, hx⟩ : ∃ y, vals[k]? = some y := ⟨_, Qx (by rw [HM.out]; exact hlt)⟩
   obtain ⟨nb, noff, rfl, hnc, hnml⟩ := (HNs.out.below HB.out).str hnm
   obtain ⟨vb, voff, q3, l3, q4, l4, rfl, hvb, hvx, d0, d1, d2, d3, d4⟩ := (HVs.out.below HB.out).val hx
   have hnb := Qv _ _ hnc
   have HF := Qq (fun W => Gw nm (HW.out nm (Qy hnm)) W)
   unfold sv at HF
   have HNm := Qq hnm; have HXx := Qq hx; have HVx := Qq hvx
   clear hnm hx hvx
   go_wp2_with (go_at_call 115; refine (HF.out _).mono ?_; rintro e w5 ⟨rfl, hb5⟩; have HB5 := Qq hb5; have hnc5 := (hb5.cell (p := ⟨nb, noff + k, none⟩) hnb).trans hnc; clear hb5)
   obtain ⟨W5, rfl⟩ : ∃ W5 : World, W5 = w5 := ⟨_, rfl⟩
   have hnb5 : nb < W5.heap.size := Qv _ _ hnc5
   have HNc5 := Qq hnc5; have HD4 := Qq (Qe d0 (Qe d1 (Qe d2 (Qe d3 d4))))
   clear hnc hnc5 d0 d1 d2 d3 d4
   go_loopw [8] (fun i wr2 => ∃ j : Nat, j ≤ k ∧ i = .int .i64 j ∧ Aside (∀ (i : Nat) (y : Bs), i < j → names[i]? = some y → (y == nm) = false) ∧ Aside (Below W5.heap.size W5 wr2)) (fun i _ => k - (intOf i).toNat)
   case atStart => exact ⟨0, Q8 _, rfl, fun i y hi => absurd hi (Nat.not_lt_zero _), Qz _ _⟩
   obtain ⟨j, hj, rfl, A, hBi⟩ := hrel
   have HBi := Qq (show Below W5.heap.size W5 wr from hBi)
   have HB9 := Qq (HB5.out.thn HBi.out)
   clear hBi
   have hnc := (HBi.out.cell (p := ⟨nb, noff + k, none⟩) hnb5).trans HNc5.out
   by_cases hlt2 : j < k
   ·have hj1 : (0 : Int) ≤ (j : Int) := by omega
    have hj2 : (j : Int) < (n : Int) := by omega
    have hj3 : (j : Int) < (k : Int) := by omega
    obtain ⟨y, hy⟩ : ∃ y, names[j]? = some y := ⟨_, Qx (by rw [HN.out]; omega)⟩
    obtain ⟨nb', noff', he, hyc, -⟩ := (HNs.out.below (HB.out.thn HB9.out)).str hy
    obtain ⟨rfl, rfl, -⟩ : nb = nb' ∧ noff = noff' ∧ True := by simpa using he
    have HY := Qq hy
    clear hy he
    by_cases heq : y = nm
    ·have hq : (y == nm) = true := by rw [heq]; simp
     have HEq := Qq heq
     have hZ9 := kB HB9.out HZ.out
     have HZ9 := Qq hZ9
     clear heq
     go_upto_region 12 with fail
     go_quiet (fail)
     clear hq hyc hnc
     have hZq : (wr.drewN nq).heap[w.heap.size]? = some (.cells zV 44 (0, 0)) := hZ9
     have HZq := Qq hZq
     obtain ⟨z0, z1, z2, z3, z4⟩ := row5 hZq
     obtain ⟨f0, f1, f2, f3, f4⟩ := frz5 hZq
     clear hZ9 hZq
     go_wp2_with fail
     show bodyPost _ _ _ _ _ (Zz (wr.drewN nq) w.heap.size (.int .i64 0) (.int .i64 0) (.string ⟨#[]⟩) (.slice none 0 0) (.slice none 0 0))
     refine Q7 (v := .tuple #[.agg zV, .int .i64 8]) (by simp [results, results72, go_sem, Qm HZq.out]) rfl ⟨Qn ((HB.out.thn HB9.out).thn (Zy _ _)) (Q9 _), .inl ⟨8, by decide, rfl, fun h => h.2 j k nm (by omega) (by rw [← HEq.out]; exact HY.out) HNm.out⟩⟩
    have hq : (y == nm) = false := by rw [← Bool.not_eq_true, beq_iff_eq]; exact heq
    have HQ := Qq hq
    clear heq
    go_wp2_with fail
    go_quiet (fail)
    go_wp2_with fail
    go_roundw
    case measure => simp [intOf]; omega
    case rel =>
     refine ⟨j + 1, by omega, by go_num, (show Aside _ from fun i z hi hz => ?_), HBi.out.thn (Zy _ _)⟩
     by_cases e : i = j
     ·subst e
      have := HY.out
      rw [this] at hz
      cases hz
      exact HQ.out
     exact A.out i z (by omega) hz
   have hjk : j = k := by omega
   subst hjk
   have hd := HMk.out.below HB9.out
   have hXr := kE HB9.out hXl HX.out
   obtain ⟨c0, c1, c2, c3, c4⟩ := row5 hXr
   obtain ⟨f0, f1, f2, f3, f4⟩ := frz5 hXr
   obtain ⟨d0', d1', d2', d3', d4'⟩ := HD4.out
   have d0 := (HB9.out.cell (p := ⟨vb, voff + j * 5, none⟩) hvb).trans d0'; have d1 := (HB9.out.cell (p := ⟨vb, voff + j * 5 + 1, none⟩) hvb).trans d1'; have d2 := (HB9.out.cell (p := ⟨vb, voff + j * 5 + 2, none⟩) hvb).trans d2'; have d3 := (HB9.out.cell (p := ⟨vb, voff + j * 5 + 3, none⟩) hvb).trans d3'; have d4 := (HB9.out.cell (p := ⟨vb, voff + j * 5 + 4, none⟩) hvb).trans d4'
   have HIn := Qq (fun W (hb : Below wr.heap.size wr W) => rins_any (fun b => (S b ∧ b < w.heap.size) ∨ w.heap.size + 2 ≤ b) (Vu (Yk ((names.zip vals).take j)).1 (Yk ((names.zip vals).take j)).2) x nm p3 k3 p4 k4 [.int .i64 x.kind, .int .i64 x.n, .string ⟨x.s.toArray⟩, .slice q3 x.names.length l3, .slice q4 x.kids.length l4] W (HVu.out.move (.of_below (HB9.out.thn hb)) (fun _ _ h => h)) (HVx.out.move (.of_below (HB9.out.thn hb)) (fun b _ h => .inl h)) (by have := (Xi ((names.zip vals).take j)).1; rw [HZl.out] at this; show (Yk ((names.zip vals).take j)).1.length ≤ k3; omega) (by have := (Xi ((names.zip vals).take j)).2; rw [HZl.out] at this; show (Yk ((names.zip vals).take j)).2.length ≤ k4; omega)
    (by have h1 := (Xi ((names.zip vals).take j)).1; have h2 := (Xi ((names.zip vals).take j)).2; show (Yk ((names.zip vals).take j)).1.length = (Yk ((names.zip vals).take j)).2.length; omega) (by have := (Xi ((names.zip vals).take j)).1; rw [HZl.out] at this; show (Yk ((names.zip vals).take j)).1.length ≤ 1000; omega) hnml)
   rw [Fv, HZl.out] at HIn
   unfold sv at HIn
   have HMd := Qq hd; have HXr := Qq hXr
   have hlt3 : w.heap.size + 1 < wr.heap.size := Qf hXr
   clear hd hXr d0' d1' d2' d3' d4'
   have hj2 : (j : Int) < (n : Int) := by omega
   have hj3 : ¬ (j : Int) < (j : Int) := by omega
   go_upto_region 14 with fail
   go_region_with (go_at_call 116; refine (HIn.out _ (Qz _ _).drew).mono ?_; rintro e w7 ⟨r3, m3, r4, m4, rfl, hk3, hk4, hv7, hb7⟩; have hn7 := HMd.out.next ((Qz _ wr).drew.thn hb7) hk3 hk4 hv7; rw [HZl.out] at hn7; obtain ⟨hcs7, hm7⟩ := hn7; rw [hcs7]; have HM7 := Qq hm7; have g0 := ((Qz _ wr).drew.thn hb7).frozen (p := ⟨w.heap.size + 1, 0, none⟩) hlt3 |>.trans f0; have g1 := ((Qz _ wr).drew.thn hb7).frozen (p := ⟨w.heap.size + 1, 1, none⟩) hlt3 |>.trans f1; have g2 := ((Qz _ wr).drew.thn hb7).frozen (p := ⟨w.heap.size + 1, 2, none⟩) hlt3 |>.trans f2; have g3 := ((Qz _ wr).drew.thn hb7).frozen (p := ⟨w.heap.size + 1, 3, none⟩) hlt3 |>.trans f3; have g4 := ((Qz _ wr).drew.thn hb7).frozen (p := ⟨w.heap.size + 1, 4, none⟩) hlt3 |>.trans f4; have e0 := ((Qz _ wr).drew.thn hb7).cell (p := ⟨w.heap.size + 1, 0, none⟩) hlt3 |>.trans c0; have e1 := ((Qz _ wr).drew.thn hb7).cell (p := ⟨w.heap.size + 1, 1, none⟩) hlt3 |>.trans c1; have e2 := ((Qz _ wr).drew.thn hb7).cell (p := ⟨w.heap.size + 1, 2, none⟩) hlt3 |>.trans c2; have e3 := ((Qz _ wr).drew.thn hb7).cell (p := ⟨w.heap.size + 1, 3, none⟩) hlt3 |>.trans c3; have e4 := ((Qz _ wr).drew.thn hb7).cell (p := ⟨w.heap.size + 1, 4, none⟩) hlt3 |>.trans c4; clear hk3 hk4 hv7 hb7 hm7 hcs7)
   all_goals
    go_wp2_with fail
    go_roundw
    case measure => simp [intOf]; omega
    case rel =>
     refine ⟨j + 1, by omega, by go_num, (show Aside _ from ?_), (show Aside _ from fun i j' z hj' hi h1 h2 => ?_)⟩
     ·have : (names.zip vals).take (j + 1) = (names.zip vals).take j ++ [(nm, x)] := by
       have hjl : j < (names.zip vals).length := by rw [List.length_zip, HN.out, HM.out]; omega
       rw [List.take_succ_eq_append_getElem hjl, List.getElem_zip]
       obtain ⟨_, e1⟩ := Qj HNm.out
       obtain ⟨_, e2⟩ := Qj HXx.out
       rw [e1, e2]
      show U0 S w _ _
      rw [this]; exact HM7.out
     by_cases e : j' = j
     ·subst e
      rw [HNm.out] at h2
      cases h2
      have := A.out i _ hi h1
      simp at this
     exact HD.out i j' z (by omega) hi h1 h2
  have hkn : k = n := by omega
  subst hkn
  have hz : (names.zip vals).take k = names.zip vals := List.take_of_length_le (by rw [List.length_zip, HN.out, HM.out]; omega)
  rw [hz] at HVu
  have hzl2 : (names.zip vals).length = k := by rw [List.length_zip, HN.out, HM.out]; omega
  have hc := Fv (names.zip vals) p3 k3 p4 k4
  rw [hzl2] at hc
  have HC := Qq hc
  obtain ⟨c0, c1, c2, c3, c4⟩ := row5 HX.out
  obtain ⟨z0, z1, z2, z3, z4⟩ := row5 HZ.out
  obtain ⟨f0, f1, f2, f3, f4⟩ := frz5 HZ.out
  clear hz hzl2 hc hlt
  go_wp2_with fail
  show bodyPost _ _ _ _ _ (Zz wr w.heap.size (.int .i64 4) (.int .i64 0) (.string ⟨#[]⟩) (.slice p3 k k3) (.slice p4 k k4))
  refine Q7 (v := .tuple #[.agg #[.int .i64 4, .int .i64 0, .string ⟨#[]⟩, .slice p3 k k3, .slice p4 k k4], .int .i64 0]) (by simp [results, results72, go_sem, Qm HZ.out]) rfl ⟨Qn HB.out (Q9 _), .inr ⟨p3, k3, p4, k4, HLen.out, by rw [HC.out], by rw [HN.out]; exact h3, by rw [HN.out]; exact h4, ?_⟩⟩
  refine HVu.out.move (fun b hS _ => Qt ?_) (fun b _ hS => ?_)
  ·rcases hS with h | h <;> omega
  rcases hS with h | h
  ·exact .inl h.1
  exact .inr (by omega)
 have hq : ((names.length : Int) != (vals.length : Int)) = true := by rw [bne_iff_ne]; omega
 have HLen := Qq hlen
 clear hlen
 go_enter func72, ntmps72
 go_wp2_with fail
 exact Q7 (v := .tuple #[.agg zV, .int .i64 1]) (by simp [results, results72, go_sem]) rfl ⟨Qo _ _, .inl ⟨1, by decide, rfl, fun h => HLen.out h.1⟩⟩
def Fz : List Bs := [[61, 61], [33, 61], [60], [60, 61], [43], [45], [42], [43, 43], [97, 110, 100], [111, 114], [110, 111, 116]]
structure Fb (k : Int) (nm : Bs) (names binds : List Bs) (n : Nat) : Prop where
 few : n ≤ 1000
 fewn : names.length ≤ 1000
 words : k = 6 → ∀ x ∈ names, Yt x
 one : k = 7 → names.length = 1 ∧ n = 2
 fld : k = 8 → 1 ≤ n
 two : k = 11 → n = 2
 three : k = 12 → n = 3
 mtch : k = 13 → n = names.length + 1 ∧ binds.length = names.length
 op : k = 14 → nm ∈ Fz ∧ n = if nm = [110, 111, 116] then 1 else 2
inductive WfE : Nat → Ex → Prop
 | mk (d : Nat) (k : Int) (nm : Bs) (n : Int) (s : Bs) (names binds : List Bs) (kids : List Ex) (a z : Int) (hn : Fb k nm names binds kids.length) (hk : ∀ x ∈ kids, WfE d x) : WfE (d + 1) (.mk k nm n s names binds kids a z)
theorem R8 (k : Int) (nm : Bs) (hk : k ≤ 5 ∨ k = 9) : Fb k nm [] [] 0 := ⟨by omega, by simp, fun h => by omega, fun h => by omega, fun h => by omega, fun h => by omega, fun h => by omega, fun h => by omega, fun h => by omega⟩
theorem Kv (d : Nat) (k : Int) (nm : Bs) (n : Int) (s : Bs) (hk : k ≤ 5 ∨ k = 9) : WfE (d + 1) (.mk k nm n s [] [] [] 0 0) := .mk _ _ _ _ _ _ _ _ _ _ (R8 k nm hk) (fun x h => by simp at h)
theorem wf_2 {d : Nat} {a b : Ex} (ha : WfE d a) (hb : WfE d b) : ∀ x ∈ [a, b], WfE d x := by
 intro x hx
 simp only [List.mem_cons, List.not_mem_nil, or_false] at hx
 rcases hx with rfl | rfl
 ·exact ha
 exact hb
theorem wf_1 {d : Nat} {a : Ex} (ha : WfE d a) : ∀ x ∈ [a], WfE d x := by
 intro x hx
 simp only [List.mem_cons, List.not_mem_nil, or_false] at hx
 subst hx; exact ha
theorem wf_3 {d : Nat} {a b c : Ex} (ha : WfE d a) (hb : WfE d b) (hc : WfE d c) : ∀ x ∈ [a, b, c], WfE d x := by
 intro x hx
 simp only [List.mem_cons, List.not_mem_nil, or_false] at hx
 rcases hx with rfl | rfl | rfl
 ·exact ha
 ·exact hb
 exact hc
theorem Yu {d : Nat} {o : Bs} {a b : Ex} (ho : o ∈ Fz ∧ o ≠ [110, 111, 116]) (ha : WfE d a) (hb : WfE d b) : WfE (d + 1) (Gen.op o [a, b]) :=
 .mk _ _ _ _ _ _ _ _ _ _ ⟨by simp, by simp, fun h => by omega, fun h => by omega, fun h => by omega, fun h => by omega, fun h => by omega, fun h => by omega, fun _ => ⟨ho.1, by rw [if_neg ho.2]; rfl⟩⟩ (wf_2 ha hb)
theorem wf_not {d : Nat} {a : Ex} (ha : WfE d a) : WfE (d + 1) (Gen.op [110, 111, 116] [a]) :=
 .mk _ _ _ _ _ _ _ _ _ _ ⟨by simp, by simp, fun h => by omega, fun h => by omega, fun h => by omega, fun h => by omega, fun h => by omega, fun h => by omega, fun _ => ⟨by simp [Fz], by simp⟩⟩ (wf_1 ha)
theorem Yx (d : Nat) (x : Bs) : WfE (d + 1) (Gen.var x) := Kv _ _ _ _ _ (by omega)
theorem F7 (d : Nat) (n : Int) : WfE (d + 1) (Gen.int n) := Kv _ _ _ _ _ (by omega)
theorem Kc (d : Nat) (n : Int) : WfE (d + 1) (Gen.bool n) := Kv _ _ _ _ _ (by omega)
theorem wf_str (d : Nat) (x : Bs) : WfE (d + 1) (Gen.str x) := Kv _ _ _ _ _ (by omega)
theorem word_x : ∀ x ∈ ([[121], [120]] : List Bs), Yt x := by
 intro x hx
 simp only [List.mem_cons, List.not_mem_nil, or_false] at hx
 rcases hx with rfl | rfl
 all_goals exact ⟨by decide, by decide, by decide, by decide, by decide⟩
theorem wf_rec (d : Nat) : WfE (d + 2) Gen.rec :=
 .mk _ _ _ _ _ _ _ _ _ _ ⟨by simp, by simp, fun _ => word_x, fun h => by omega, fun h => by omega, fun h => by omega, fun h => by omega, fun h => by omega, fun h => by omega⟩ (wf_2 (Yx _ _) (Yx _ _))
theorem wf_wth (d : Nat) : WfE (d + 3) Gen.wth :=
 .mk _ _ _ _ _ _ _ _ _ _ ⟨by simp, by simp, fun h => by omega, fun _ => ⟨rfl, rfl⟩, fun h => by omega, fun h => by omega, fun h => by omega, fun h => by omega, fun h => by omega⟩ (wf_2 (wf_rec _) (F7 _ _))
theorem wf_fld {d : Nat} (x : Bs) {a : Ex} (ha : WfE d a) : WfE (d + 1) (.mk 8 x 0 [] [] [] [a] 0 0) :=
 .mk _ _ _ _ _ _ _ _ _ _ ⟨by simp, by simp, fun h => by omega, fun h => by omega, fun _ => by simp, fun h => by omega, fun h => by omega, fun h => by omega, fun h => by omega⟩ (wf_1 ha)
theorem Nl {d : Nat} {a b : Ex} (ha : WfE d a) (hb : WfE d b) : WfE (d + 1) (.mk 9 [] 0 [] [] [] [a, b] 0 0) :=
 .mk _ _ _ _ _ _ _ _ _ _ ⟨by simp, by simp, fun h => by omega, fun h => by omega, fun h => by omega, fun h => by omega, fun h => by omega, fun h => by omega, fun h => by omega⟩ (wf_2 ha hb)
theorem wf_check : ∀ k : Nat, WfE 8 (Gen.check k)
 | 0 => Kc _ _
 | 1 => Kc _ _
 | 2 => Kc _ _
 | 3 => Yu (by decide) (Yx _ _) (Yu (by decide) (Yx _ _) (Yu (by decide) (F7 _ _) (F7 _ _)))
 | 4 => Yu (by decide) (Yx _ _) (Yu (by decide) (Yx _ _) (wf_str _ _))
 | 5 => .mk _ _ _ _ _ _ _ _ _ _ ⟨by simp, by simp, fun h => by omega, fun h => by omega, fun h => by omega, fun h => by omega, fun _ => rfl, fun h => by omega, fun h => by omega⟩ (wf_3 (Yx _ _) (Yu (by decide) (Yx _ _) (Yx _ _)) (Yu (by decide) (Yx _ _) (Yx _ _)))
 | 6 => .mk _ _ _ _ _ _ _ _ _ _ ⟨by simp, by simp, fun h => by omega, fun h => by omega, fun h => by omega, fun h => by omega, fun h => by omega, fun _ => ⟨rfl, rfl⟩, fun h => by omega⟩ (wf_3 (Yx _ _) (Kc _ _) (Yu (by decide) (Yx _ _) (Yx _ _)))
 | 7 => Yu (by decide) (wf_fld _ (wf_wth _)) (wf_fld _ (wf_rec _))
 | 8 => .mk _ _ _ _ _ _ _ _ _ _ ⟨by simp, by simp, fun h => by omega, fun h => by omega, fun h => by omega, fun _ => rfl, fun h => by omega, fun h => by omega, fun h => by omega⟩ (wf_2 (Yu (by decide) (Yx _ _) (Yx _ _)) (Yu (by decide) (Yu (by decide) (Yx _ _) (F7 _ _)) (wf_not (Yx _ _))))
 | 9 => Yu (by decide) (Yu (by decide) (Yx _ _) (Yx _ _)) (wf_str _ _)
 | 10 => Yu (by decide) (Yx _ _) (Yu (by decide) (Yx _ _) (Yx _ _))
 | 11 => Yu (by decide) (Nl (Yx _ _) (Yx _ _)) (Nl (F7 _ _) (Yx _ _))
 | (k + 12) => .mk _ _ _ _ _ _ _ _ _ _ ⟨by simp, by simp, fun h => by omega, fun h => by omega, fun h => by omega, fun h => by omega, fun h => by omega, fun h => by omega, fun h => by omega⟩ (wf_1 (Kv _ _ _ _ _ (by omega)))
theorem wf_yes (d : Nat) : WfE (d + 1) Gen.yes := Kc _ _
end Go.Proofs.YtppbaladeefnkaaGreatDoor

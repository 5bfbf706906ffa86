import Derived.Test.YthkkmklnapkgaaaGreatDoorQ22
import Derived.Test.YthkkmklnapkgaaaGreatDoorQ20
import Derived.Defers
import Derived.Recover
import Derived.Laws.Pointers
/- rows.evaluate at a comparison. -/
namespace Go.Proofs.YthkkmklnapkgaaaGreatDoor
open Go.RowKit Go.Shelf Go.Lib

set_option maxRecDepth 100000 in
set_option maxHeartbeats 4000000 in
theorem ev_less (n : Int) (s : Bs) (names binds : List Bs) (x y : Ex) (a z : Int) (env : List (Bs × Val)) (u v : Val) (hx : EvV x env u) (hy : EvV y env v) : EvV (.mk 14 [60] n s names binds [x, y] a z) env (truV (decide (cmpV u v < 0))) := by
  intro S0 S' cs p w hex he0
  have he : IsEnv (fun b => S0 b ∧ b < w.heap.size) w p env := he0.move (.refl _ _) (fun b hb h => ⟨h, hb⟩)
  obtain ⟨nv, bv, kv, rfl, _, _, hn, hb, hk⟩ := isEx_iff.1 hex
  obtain ⟨np, nc, rfl, _⟩ := hn.len
  obtain ⟨bp, bc, rfl, _⟩ := hb.len
  obtain ⟨kp, kc, rfl, _⟩ := hk.len
  obtain ⟨q, rfl⟩ := he.ptr
  have HE := Lib.hid he; have HK := Lib.hid hk; have HX := Lib.hid hx; have HY := Lib.hid hy
  clear hex he he0 hn hb hk hx hy
  unfold sv
  obtain ⟨r, hr⟩ : ∃ r, truV (decide (cmpV u v < 0)) = r := ⟨_, rfl⟩
  rw [hr]
  have HRes := Lib.hid hr
  clear hr
  rw [show [x, y].length = 2 from rfl]
  show Calls Tryz.prog 59 #[.agg #[.int .i64 14, .string ⟨#[60]⟩, .int .i64 n, .string ⟨s.toArray⟩, .slice np names.length nc, .slice bp binds.length bc, .slice kp 2 kc, .int .i64 a, .int .i64 z], .pointer q] w (ValAt S0 w r)
  go_enter Tryz.func59, Tryz.ntmps59
  go_upto_region 3 with fail
  generalize hW3 : ((w.alloc _).alloc _).alloc _ = w3
  have hb3 : Below w.heap.size w w3 := by rw [← hW3]; exact bal3 _ _ _ _
  have h0 : w3.heap[w.heap.size]? = some (.cells #[.int .i64 14, .string ⟨#[60]⟩, .int .i64 n, .string ⟨s.toArray⟩, .slice np names.length nc, .slice bp binds.length bc, .slice kp 2 kc, .int .i64 a, .int .i64 z] 54 (0, 0)) := by rw [← hW3]; exact heap_alloc3_old _ _ _ _
  have h1 : w3.heap[w.heap.size + 1]? = some (.cells #[.pointer q] 106 (0, 0)) := by rw [← hW3]; exact heap_alloc3_mid' _ _ _ _
  have h2 : w3.heap[w.heap.size + 1 + 1]? = some (.cells #[.int .i64 0, .int .i64 0, .string ⟨#[]⟩, .slice none 0 0, .slice none 0 0] 34 (0, 0)) := by rw [← hW3]; exact heap_alloc3_new _ _ _ _
  have hsz : w.heap.size + 1 + 1 < w3.heap.size := World.block_lt_some h2
  have HKid := Lib.hid (fun (k : Nat) e t (hke : [x, y][k]? = some e) (hev : EvV e env t) W (hbw : Below w3.heap.size w3 W) => kid_any w.heap.size (w.heap.size + 1) k (fun b => S0 b ∧ b < w.heap.size) S' kp kc [x, y] e (.pointer q) env t W
    ((cell_of_row _ _ 6 _ _ _ ((hbw.block _ (World.block_lt_some h0)).trans h0)).trans rfl) ((HK.out.below hb3).below hbw) ((cell_of_row _ _ 0 _ _ _ ((hbw.block _ (World.block_lt_some h1)).trans h1)).trans rfl) ((HE.out.move (.of_below hb3) (fun _ _ h => h)).move (.of_below hbw) (fun _ _ h => h)) hke hev)
  have HL := Lib.hid (less_any 95 #[.pointer (some ⟨w.heap.size, 0, none⟩), .pointer (some ⟨w.heap.size + 1, 0, none⟩)] (enters_of Tryz.func95 (by kernel_rfl) rfl) (fun b => S0 b ∧ b < w.heap.size) u v w3 (fun b hb => by have := hb.2; omega)
    (HKid.out 0 x u rfl HX.out) (HKid.out 1 y v rfl HY.out))
  rw [HRes.out] at HL
  have c0 := cell_of_row _ _ 0 _ _ _ h0
  have c1 := cell_of_row _ _ 1 _ _ _ h0
  have c6 := cell_of_row _ _ 6 _ _ _ h0
  simp only [List.getElem?_toArray, List.getElem?_cons_zero, List.getElem?_cons_succ] at c0 c1 c6
  have H2 := Lib.hid h2; have HB3 := Lib.hid hb3
  clear h0 h1 h2 hb3 hW3 HE HK HX HY HKid HRes
  go_wp2_with fail
  refine HL.out.mono ?_
  rintro e w4 ⟨cr, rfl, hr4, hb4⟩
  obtain ⟨q3, l3, q4, l4, hcs, _⟩ := IsVal.cells hr4
  simp only [vcs] at hcs
  subst hcs
  have hR := (hb4.block _ (World.block_lt_some H2.out)).trans H2.out
  have HB4 := Lib.hid (HB3.out.thn hb4); have HV4 := Lib.hid hr4; have HR := Lib.hid hR
  have fz := fun j => frozen_of_row _ _ j _ _ hR
  have f0 := fz 0; have f1 := fz 1; have f2 := fz 2; have f3 := fz 3; have f4 := fz 4
  have rr := fun j => cell_of_row _ _ j _ _ _ hR
  have r0 := rr 0; have r1 := rr 1; have r2 := rr 2; have r3 := rr 3; have r4 := rr 4
  simp only [List.getElem?_toArray, List.getElem?_cons_zero, List.getElem?_cons_succ] at r0 r1 r2 r3 r4
  clear fz rr hr4 hb4 hR
  go_wp2_with fail
  show bodyPost _ _ _ _ _ (put5 w4 (w.heap.size + 1 + 1) (.int .i64 r.kind) (.int .i64 r.n) (.string ⟨r.s.toArray⟩) (.slice q3 r.names.length l3) (.slice q4 r.kids.length l4))
  refine bodyPost_ret (v := .agg #[.int .i64 r.kind, .int .i64 r.n, .string ⟨r.s.toArray⟩, .slice q3 r.names.length l3, .slice q4 r.kids.length l4]) (by simp [results, Tryz.results59, go_sem, put5_cell HR.out]) rfl ⟨_, rfl, ?_, put5_below HB4.out (by omega)⟩
  exact IsVal.move HV4.out (fun b hb _ => put5_other (by have := hb.2; omega)) (fun _ _ h => h.1)
end Go.Proofs.YthkkmklnapkgaaaGreatDoor

/- slices.Contains at []int; rows.simple. -/
namespace Go.Proofs.YthkkmklnapkgaaaGreatDoor
open Go.RowKit Go.Shelf Go.Lib

theorem Sl.int {S : Nat → Prop} {w : World} {p : Option Addr} {n cap : Nat} {xs : List Int} (h : Sl intRd S w (.slice p n cap) xs) {i : Nat} {x : Int} (hx : xs[i]? = some x) :
    ∃ b off, p = some ⟨b, off, none⟩ ∧ w.cell? ⟨b, off + i, none⟩ = some (.int .i64 x) ∧ True := by
  obtain ⟨p', c', h1, _, h3⟩ := h
  simp only [Value.slice.injEq] at h1
  obtain ⟨rfl, _, _⟩ := h1
  obtain ⟨b, off, e, _, _, hc⟩ := h3 (by intro e; subst e; simp at hx)
  obtain ⟨cs, h4, h5⟩ := hc i x hx
  refine ⟨b, off, e, ?_, trivial⟩
  have := h4 0 (.int .i64 x) (by rw [h5]; rfl)
  rwa [Nat.add_zero, show intRd.k = 1 from rfl, Nat.mul_one] at this

/-- slices.Index at []int. -/
theorem intIdx_any (S : Nat → Prop) (v : Value) (l : List Int) (x : Int) (w : World) (hs : Sl intRd S w v l) :
    Calls Tryz.prog 121 #[v, .int .i64 x] w fun e w' => e = .returned (.int .i64 (idxP (fun y => decide (y = x)) l)) ∧ w = w' := by
  obtain ⟨p, cap, rfl, hl⟩ := hs.len
  have HS := Lib.hid hs
  clear hs
  obtain ⟨n, hn⟩ : ∃ n, l.length = n := ⟨_, rfl⟩
  rw [hn] at HS hl; rw [hn]
  have HN := Lib.hid hn
  clear hn
  go_enter Tryz.func121, Tryz.ntmps121
  go_wp2_with fail
  go_loop [8] (fun i => ∃ k : Nat, k ≤ n ∧ i = .int .i64 k ∧ Aside (∀ (j : Nat) (y : Int), j < k → l[j]? = some y → decide (y = x) = false)) (fun i => n - (intOf i).toNat)
  case atStart => exact ⟨0, Nat.zero_le _, rfl, fun j _ hj => absurd hj (Nat.not_lt_zero _)⟩
  case round =>
    obtain ⟨k, hk, rfl, A⟩ := hrel
    by_cases hlt : k < n
    · have hi1 : (0 : Int) ≤ (k : Int) := by omega
      have hi2 : (k : Int) < (n : Int) := by omega
      obtain ⟨y, hy⟩ : ∃ y, l[k]? = some y := ⟨_, List.getElem?_eq_getElem (by rw [HN.out]; exact hlt)⟩
      obtain ⟨b, off, rfl, hc, -⟩ := HS.out.int hy
      have HY := Lib.hid hy
      clear hy
      by_cases he : y = x
      · have hq : (x == y) = true := by rw [he]; simp
        have hq2 : decide (x = y) = true := by rw [he]; simp
        have HE := Lib.hid he
        clear he
        go_wp2_with fail
        go_ret
        refine ⟨?_, rfl⟩
        rw [idxP_hit HY.out (by rw [HE.out]; simp) A.out]
        rfl
      · have hq : (x == y) = false := by rw [← Bool.not_eq_true, beq_iff_eq]; exact fun e => he e.symm
        have hq2 : decide (x = y) = false := by simpa using fun e => he e.symm
        have HE := Lib.hid he
        clear he
        go_wp2_with fail
        go_round
        case measure => simp [intOf]; omega
        case rel =>
          refine ⟨k + 1, by omega, by go_num, (show Aside _ from fun j z hj hz => ?_)⟩
          by_cases e : j = k
          · subst e
            have := HY.out
            rw [this] at hz
            cases hz
            simpa using HE.out
          · exact A.out j z (by omega) hz
    · have hltz : ¬ (k : Int) < (n : Int) := by omega
      have : k = n := by omega
      subst this
      go_wp2_with fail
      go_ret
      refine ⟨?_, rfl⟩
      rw [idxP_miss (fun j y hy => A.out j y (by have := (List.getElem?_eq_some_iff.1 hy).1; have := HN.out; omega) hy)]
      rfl
theorem intHas_any (S : Nat → Prop) (v : Value) (l : List Int) (x : Int) (w : World) (hs : Sl intRd S w v l) :
    Calls Tryz.prog 91 #[v, .int .i64 x] w fun e w' => e = .returned (.bool (l.any fun y => decide (y = x))) ∧ w = w' := by
  rw [← idxP_nonneg]
  have HI := Lib.hid (fun W => intIdx_any S v l x W)
  have HS := Lib.hid hs
  clear hs
  generalize idxP _ l = i at HI ⊢
  go_enter Tryz.func91, Tryz.ntmps91
  go_wp2_with (go_at_call 121; refine (HI.out _ HS.out).mono ?_; rintro e w' ⟨rfl, rfl⟩)
  go_ret
  exact ⟨rfl, rfl⟩

mutual
/-- No calls, comprehensions, holes. -/
def simpF : Ex → Bool
  | .mk k _ _ _ _ _ kids _ _ => !([4, 10, 15, 16].any fun y => decide (y = k)) && simpFs kids
def simpFs : List Ex → Bool
  | [] => true
  | e :: l => simpF e && simpFs l
end
theorem simpFs_all (l : List Ex) : simpFs l = !(l.any fun e => !simpF e) := by
  induction l with
  | nil => rfl
  | cons e l ih => simp only [simpFs, ih, List.any_cons, Bool.not_or, Bool.not_not]

/-- rows.simple says it of an expression. -/
def SimpAt (e : Ex) : Prop := ∀ (S : Nat → Prop) (cs : List Value) (w : World), IsEx S w cs e →
  Calls Tryz.prog 56 #[.agg cs.toArray] w fun r w' => r = .returned (.bool (simpF e)) ∧ Below w.heap.size w w'

theorem simp1_any (S : Nat → Prop) (kids : List Ex) (ih : ∀ x ∈ kids, SimpAt x) (w : World) : PredRd Tryz.prog 93 #[] exRd S kids (fun e => !simpF e) w := by
  intro W x cs hb hx hr
  have HI := Lib.hid (fun W' (h' : Below W.heap.size W W') => ih x hx S cs W' (exRd.frame hr (.of_below h')))
  obtain ⟨k, s1, n, s2, p1, n1, c1, p2, n2, c2, p3, n3, c3, a, z, hcs⟩ := IsEx.cells (show IsEx S W cs x from hr)
  subst hcs
  show Calls Tryz.prog 93 #[.agg #[.int .i64 k, .string s1, .int .i64 n, .string s2, .slice p1 n1 c1, .slice p2 n2 c2, .slice p3 n3 c3, .int .i64 a, .int .i64 z]] W (fun e w' => e = .returned (.bool (!simpF x)) ∧ Below W.heap.size W w')
  generalize simpF x = b at HI ⊢
  clear hb hx hr ih
  go_enter Tryz.func93, Tryz.ntmps93
  go_wp2_with (go_at_call 56; refine (HI.out _ (bal1 _ _)).mono ?_; rintro e w' ⟨rfl, hw⟩)
  go_ret
  exact ⟨rfl, (bal1 _ _).thn hw⟩

theorem sl_ints4 (w : World) (a b c d : Int) (g : Nat) (E : TypeId) (h : w.heap[g]? = some (.cells #[.int .i64 a, .int .i64 b, .int .i64 c, .int .i64 d] E (0, 0))) : Sl intRd (fun _ => True) w (.slice (some ⟨g, 0, none⟩) 4 4) [a, b, c, d] := by
  refine Sl.of_css (r := intRd) (xs := [a, b, c, d]) (css := [[.int .i64 a], [.int .i64 b], [.int .i64 c], [.int .i64 d]]) (by simp) ?_ trivial (World.block_lt_some h) (fun j u hu => ?_)
  · exact (Cs.one (r := intRd) rfl).app ((Cs.one (r := intRd) rfl).app ((Cs.one (r := intRd) rfl).app (Cs.one (r := intRd) rfl)))
  · rw [Nat.zero_add, cell_of_row _ _ _ _ _ _ h]
    simpa using hu

set_option maxRecDepth 100000 in
set_option maxHeartbeats 2000000 in
theorem simpAt_of (k : Int) (nm : Bs) (n : Int) (s : Bs) (names binds : List Bs) (kids : List Ex) (a z : Int) (ih : ∀ x ∈ kids, SimpAt x) : SimpAt (.mk k nm n s names binds kids a z) := by
  intro S cs w h
  obtain ⟨nv, bv, kv, rfl, hm, hs, hn, hb, hk⟩ := isEx_iff.1 h
  obtain ⟨np, nc, rfl, _⟩ := hn.len
  obtain ⟨bp, bc, rfl, _⟩ := hb.len
  obtain ⟨kp, kc, rfl, hkl⟩ := hk.len
  have HC := Lib.hid (fun W (hb : Below w.heap.size w W) => conFn Tryz.cfExpr exRd Tryz.isAgg54 Tryz.sizeOf54 93 #[] (enters_of Tryz.func93 (by kernel_rfl) rfl) S (.slice kp kids.length kc) kids W (fun e => !simpF e) (hk.below hb) (simp1_any S kids ih W))
  have HI := Lib.hid (fun W g (h : W.heap[g]? = some (.cells #[.int .i64 4, .int .i64 10, .int .i64 15, .int .i64 16] 3 (0, 0))) => intHas_any _ (.slice (some ⟨g, 0, none⟩) 4 4) [4, 10, 15, 16] k W (sl_ints4 W 4 10 15 16 g _ h))
  have hF : simpF (.mk k nm n s names binds kids a z) = (!([4, 10, 15, 16].any fun y => decide (y = k)) && !(kids.any fun e => !simpF e)) := by rw [simpF, simpFs_all]
  rw [hF]
  obtain ⟨q, hq⟩ : ∃ q, ([4, 10, 15, 16].any fun y => decide (y = k)) = q := ⟨_, rfl⟩
  obtain ⟨q2, hq2⟩ : ∃ q, (kids.any fun e => !simpF e) = q := ⟨_, rfl⟩
  rw [hq] at HI
  rw [hq2] at HC
  rw [hq, hq2]
  clear hF hq hq2 h hn hb hk ih
  unfold sv
  cases q
  · rw [Bool.not_false, Bool.true_and]
    go_enter Tryz.func56, Tryz.ntmps56
    go_wp2_with fail
    refine (HI.out _ (w.heap.size + 1) (heap_alloc2_new _ _ _)).mono ?_
    rintro e w1 ⟨rfl, rfl⟩
    go_wp2_with (go_at_call 92; refine (HC.out _ (bal2 _ _ _)).mono ?_; rintro e w' ⟨rfl, hw⟩)
    go_ret
    exact ⟨rfl, (bal2 _ _ _).thn hw⟩
  · go_enter Tryz.func56, Tryz.ntmps56
    go_wp2_with fail
    refine (HI.out _ (w.heap.size + 1) (heap_alloc2_new _ _ _)).mono ?_
    rintro e w1 ⟨rfl, rfl⟩
    go_wp2_with fail
    go_ret
    exact ⟨rfl, bal2 _ _ _⟩

theorem simpAt : ∀ x : Ex, SimpAt x
  | .mk k nm n s names binds kids a z => simpAt_of k nm n s names binds kids a z fun x _ => simpAt x
termination_by x => SizeOf.sizeOf x
decreasing_by
  have := List.sizeOf_lt_of_mem ‹_ ∈ kids›
  simp only [Ex.mk.sizeOf_spec]
  omega
end Go.Proofs.YthkkmklnapkgaaaGreatDoor

/- rows.satisfies: whether a row satisfies the check of its table. -/
namespace Go.Proofs.YthkkmklnapkgaaaGreatDoor
open Go.RowKit Go.Shelf Go.Lib

set_option maxRecDepth 100000 in
set_option maxHeartbeats 1000000 in
theorem sat1_idle (p : Addr) (w : World) :
    CallsD Tryz.prog 57 #[.pointer (some p)] .returning w fun e u' w' => e = .returned (.tuple #[]) ∧ u' = .returning ∧ w' = w := by
  refine callsD_of_wpS Tryz.func57 rfl fun c₀ cs hu => ?_
  apply wpS_seq
  apply wpS_region
  simp [wpOpsS, go_sem, recoverD, hu, Tryz.ntmps57, Exit.thenS]
  rw [show (#[Value.pointer (some p)] ++ (Array.replicate 9 undef).setIfInBounds 3 Value.nilIface) = #[.pointer (some p), undef, undef, undef, .nilIface, undef, undef, undef, undef, undef] from rfl]
  refine wpS_of_wp ?_
  go_wp2_with fail
  cases c₀
  simp_all [bodyPostS, results, Tryz.results57]

/-- The bindings of a row, the innermost first. -/
def envOf (v : Val) : List (Bs × Val) := (v.names.zip v.kids).reverse
theorem zip_take_len (l : List Bs) (m : List Val) : l.zip (m.take l.length) = l.zip m := by
  induction l generalizing m with
  | nil => rfl
  | cons a l ih => cases m with
    | nil => rfl
    | cons b m => simp [ih]
theorem zip_snoc (l : List Bs) (m : List Val) (k : Nat) (x : Bs) (u : Val) (hx : l[k]? = some x) (hu : m[k]? = some u) : ((l.take (k + 1)).zip (m.take (k + 1))).reverse = (x, u) :: ((l.take k).zip (m.take k)).reverse := by
  rw [List.take_add_one, List.take_add_one, hx, hu]
  have h1 : k < l.length := (List.getElem?_eq_some_iff.1 hx).1
  have h2 : k < m.length := (List.getElem?_eq_some_iff.1 hu).1
  rw [List.zip_append (by rw [List.length_take, List.length_take]; omega)]
  simp

set_option maxRecDepth 100000 in
set_option maxHeartbeats 2000000 in
theorem sat_ok (S0 S1 : Nat → Prop) (t : Tbl) (v : Val) (ct cr : List Value) (b : Bool) (w : World) (ht0 : tblRd.R S0 w ct t) (hr0 : IsVal S1 w cr v) (hsi : simpF t.check = true) (hev : EvV t.check (envOf v) (truV b)) (hln : v.names.length ≤ v.kids.length) :
    Calls Tryz.prog 29 #[.agg ct.toArray, .agg cr.toArray] w fun e w' => e = .returned (.bool b) ∧ Below w.heap.size w w' := by
  have hmf : ∀ (fn : Fn) (first cap : Array Value) (w : World), (Instr.makeFunc fn first cap).run Tryz.prog w = .ok (.func fn first cap) w := fun _ _ _ _ => rfl
  have ht : tblRd.R (fun b => b < w.heap.size) w ct t := tblRd.mono ht0 (fun b hb _ => hb)
  have hr : IsVal (fun b => b < w.heap.size) w cr v := hr0.move (.refl _ _) (fun b hb _ => hb)
  obtain ⟨cp9, cc9, kp9, kc9, rp9, rc9, k9, s19, n9, s29, p19, n19, c19, p29, n29, c29, p39, n39, c39, a9, z9, hcs, _, _, _, _, hex⟩ := tbl_cells ht
  simp only [tcs] at hcs
  subst hcs
  obtain ⟨p3, k3, p4, k4, hcs, hnm, hkd, _⟩ := IsVal.cells hr
  simp only [vcs] at hcs
  subst hcs
  have HSi := Lib.hid (fun W (hb : Below w.heap.size w W) => hsi ▸ simpAt t.check _ _ W (IsEx.move hex (.of_below hb) (fun _ _ h => h)))
  have HEv := Lib.hid (fun p W (hb : Below w.heap.size w W) (he : IsEnv (fun _ => True) W p (envOf v)) => hev (fun _ => True) _ _ p W (IsEx.move hex (.of_below hb) (fun _ _ h => h)) he)
  have HNm := Lib.hid hnm; have HKd := Lib.hid hkd
  obtain ⟨n, hn⟩ : ∃ n, v.names.length = n := ⟨_, rfl⟩
  have hnl : n ≤ 1000000 := by rw [← hn]; obtain ⟨_, _, _, h⟩ := hnm.len; exact h
  rw [hn] at HNm hln ⊢
  have HN := Lib.hid hn; have HLn := Lib.hid hln
  clear ht ht0 hr hr0 hex hnm hkd hsi hev hn hln
  go_enter_defers Tryz.func29, Tryz.ntmps29
  go_wp2_with fail
  refine (HSi.out _ (bal3 _ _ _ _)).mono ?_
  rintro e w1 ⟨rfl, hb1⟩
  have h0 := (hb1.block w.heap.size (by simp; omega)).trans (heap_alloc3_old w _ _ _)
  have h1 := (hb1.block (w.heap.size + 1) (by simp)).trans (heap_alloc3_mid' w _ _ _)
  have h2 := (hb1.block (w.heap.size + 1 + 1) (by simp)).trans (heap_alloc3_new w _ _ _)
  have HB1 := Lib.hid ((bal3 w _ _ _).thn hb1)
  have H0 := Lib.hid h0; have H1 := Lib.hid h1; have H2 := Lib.hid h2
  have x3 := cell_of_row _ _ 3 _ _ _ h1; have x4 := cell_of_row _ _ 4 _ _ _ h1
  simp only [List.getElem?_toArray, List.getElem?_cons_zero, List.getElem?_cons_succ] at x3 x4
  clear hb1 h0 h1 h2 HSi
  go_wp2_with fail
  go_loopw [5, 16] (fun p i wr => ∃ k : Nat, k ≤ n ∧ i = .int .i64 k ∧ IsEnv (fun _ => True) wr p ((v.names.take k).zip (v.kids.take k)).reverse ∧ Below w1.heap.size w1 wr) (fun _ i _ => n - (intOf i).toNat)
  case atStart => exact ⟨0, Nat.zero_le _, rfl, by simp only [List.take_zero, List.zip_nil_left, List.reverse_nil]; exact .nil, Below.refl _ _⟩
  case round =>
    obtain ⟨k, hkn, rfl, hE, hBr⟩ := hrel
    have HBr := Lib.hid hBr
    have HBw := Lib.hid (HB1.out.thn hBr)
    have HA0 := Lib.hid ((hBr.block _ (World.block_lt_some H0.out)).trans H0.out)
    have HA2 := Lib.hid ((hBr.block _ (World.block_lt_some H2.out)).trans H2.out)
    have y4 := cell_of_row _ _ 4 _ _ _ ((hBr.block _ (World.block_lt_some H1.out)).trans H1.out)
    simp only [List.getElem?_toArray, List.getElem?_cons_zero, List.getElem?_cons_succ] at y4
    obtain ⟨q, rfl⟩ := hE.ptr
    have HE := Lib.hid hE
    clear hBr hE
    by_cases hlt : k < n
    · have hi1 : (0 : Int) ≤ (k : Int) := by omega
      have hi2 : (k : Int) < (n : Int) := by omega
      have hkv : k < v.kids.length := by have := HLn.out; omega
      have hi3 : (k : Int) < (v.kids.length : Int) := by omega
      obtain ⟨x, hx⟩ : ∃ x, v.names[k]? = some x := ⟨_, List.getElem?_eq_getElem (by rw [HN.out]; exact hlt)⟩
      obtain ⟨u, hu⟩ : ∃ u, v.kids[k]? = some u := ⟨_, List.getElem?_eq_getElem hkv⟩
      obtain ⟨nb, noff, rfl, hnc, hxl⟩ := (HNm.out.below HBw.out).str hx
      obtain ⟨kb, koff, q3, l3, q4, l4, rfl, hkb, hvu, d0, d1, d2, d3, d4⟩ := (HKd.out.below HBw.out).val hu
      have HZ := Lib.hid (zip_snoc v.names v.kids k x u hx hu)
      have HXL := Lib.hid hxl; have HVU := Lib.hid hvu
      clear hx hu hvu hxl hkv
      go_wp2_with fail
      go_roundw
      case measure => simp [intOf]; omega
      case rel =>
        refine ⟨k + 1, by omega, by go_num, ?_, HBr.out.alloc (by have := HBr.out.size; omega) _⟩
        rw [HZ.out]
        exact .cons _ q x u q3 l3 q4 l4 _ trivial (heap_alloc_new _ _) HXL.out (IsVal.move HVU.out (.of_below (bal1 _ _)) (fun _ _ _ => trivial)) (HE.out.move (.of_below (bal1 _ _)) (fun _ _ h => h))
    · have hke : k = n := by omega
      have hd : decide ((k : Int) < (n : Int)) = false := by simpa using hlt
      have hz : ((v.names.take k).zip (v.kids.take k)).reverse = envOf v := by
        unfold envOf
        rw [hke, ← HN.out, List.take_length, zip_take_len]
      rw [hz] at HE
      have HEV := Lib.hid (HEv.out (.pointer q) wr HBw.out HE.out)
      have z4 := cell_of_row _ _ 4 _ _ _ HA0.out; have z5 := cell_of_row _ _ 5 _ _ _ HA0.out; have z6 := cell_of_row _ _ 6 _ _ _ HA0.out; have z7 := cell_of_row _ _ 7 _ _ _ HA0.out; have z8 := cell_of_row _ _ 8 _ _ _ HA0.out; have z9' := cell_of_row _ _ 9 _ _ _ HA0.out; have z10 := cell_of_row _ _ 10 _ _ _ HA0.out; have z11 := cell_of_row _ _ 11 _ _ _ HA0.out; have z12 := cell_of_row _ _ 12 _ _ _ HA0.out
      simp only [List.getElem?_toArray, List.getElem?_cons_zero, List.getElem?_cons_succ] at z4 z5 z6 z7 z8 z9' z10 z11 z12
      clear hz hke HE HEv
      go_wp2_with fail
      refine HEV.out.mono ?_
      rintro e w5 ⟨cs', rfl, hv5, hb5⟩
      have HTr := Lib.hid (truth_ok b _ cs' w5 hv5)
      obtain ⟨q3, l3, q4, l4, hcs, _⟩ := IsVal.cells hv5
      simp only [vcs] at hcs
      subst hcs
      have HA5 := Lib.hid ((hb5.block _ (World.block_lt_some HA2.out)).trans HA2.out)
      have HB5 := Lib.hid (HBw.out.thn hb5)
      clear hv5 hb5
      go_wp2_with fail
      refine HTr.out.mono ?_
      rintro e w6 ⟨rfl, hb6⟩
      have hA6 := (hb6.block _ (World.block_lt_some HA5.out)).trans HA5.out
      have HB6 := Lib.hid (HB5.out.thn hb6)
      have f0 := frozen_of_row _ _ 0 _ _ hA6; have r0 := cell_of_row _ _ 0 _ _ _ hA6
      simp only [List.getElem?_toArray, List.getElem?_cons_zero] at r0
      have HA6 := Lib.hid hA6
      clear hb6 hA6
      go_wp2_with fail
      refine leaves_cons (f := 57) (args := #[.pointer (some ⟨w.heap.size + 1 + 1, 0, none⟩)]) (by simp) (by simp [go_sem]) ?_
      refine (sat1_idle ⟨w.heap.size + 1 + 1, 0, none⟩ _).mono ?_
      rintro e u' w'' ⟨rfl, rfl, rfl⟩
      have hc : (w6.setCell ⟨w.heap.size + 1 + 1, 0, none⟩ (.bool b)).cell? ⟨w.heap.size + 1 + 1, 0, none⟩ = some (.bool b) := by
        rw [cell_of_row _ _ 0 _ _ _ (heap_setCell_same _ _ _ _ _ _ HA6.out)]
        rfl
      have hb : Below w.heap.size w (w6.setCell ⟨w.heap.size + 1 + 1, 0, none⟩ (.bool b)) := HB6.out.setCell (by show w.heap.size ≤ w.heap.size + 1 + 1; omega) _
      refine ⟨.bool b, by simp [results, Tryz.results29, go_sem, hc], rfl, hb⟩
end Go.Proofs.YthkkmklnapkgaaaGreatDoor

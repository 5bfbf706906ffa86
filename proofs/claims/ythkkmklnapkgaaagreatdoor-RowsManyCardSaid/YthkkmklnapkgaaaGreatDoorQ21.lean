import Derived.Test.YthkkmklnapkgaaaGreatDoorQ20
import Derived.Deep.LoopGhost
import Derived.Deep.RegionHeld3
/- rows.must, of, truth, boolean, where there is a value. -/
namespace Go.Proofs.YthkkmklnapkgaaaGreatDoor
open Go.RowKit Go.Shelf Go.Lib

/-- The value v is handed back; what it refers to lies in S. -/
def ValAt (S : Nat → Prop) (w : World) (v : Val) (e : Ending) (w' : World) : Prop := ∃ cs', e = .returned (.agg cs'.toArray) ∧ IsVal S w' cs' v ∧ Below w.heap.size w w'
def truV (b : Bool) : Val := .mk 2 (if b then 1 else 0) [] [] []
theorem isVal_tru (S : Nat → Prop) (w : World) (b : Bool) : IsVal S w [.int .i64 2, .int .i64 (if b then 1 else 0), .string ⟨#[]⟩, .slice none 0 0, .slice none 0 0] (truV b) :=
  isVal_mk (s := []) (by simp) (Sl.nil _ _ _) (Sl.nil _ _ _)

theorem must_ok (w : World) : Calls Tryz.prog 97 #[.bool true] w fun e w' => e = .returned (.tuple #[]) ∧ w = w' := by
  go_enter Tryz.func97, Tryz.ntmps97
  go_wp2_with fail
  go_end0
  exact ⟨rfl, rfl⟩

theorem boolean_any (b : Bool) (S : Nat → Prop) (w : World) : Calls Tryz.prog 98 #[.bool b] w (ValAt S w (truV b)) := by
  cases b
  · go_enter Tryz.func98, Tryz.ntmps98
    go_wp2_with fail
    generalize hW : w.alloc _ = W
    have hb : Below w.heap.size w W := by rw [← hW]; exact bal1 _ _
    have hR : W.heap[w.heap.size]? = some (.cells #[.int .i64 2, .int .i64 0, .string ⟨#[]⟩, .slice none 0 0, .slice none 0 0] 34 (0, 0)) := by rw [← hW]; exact heap_alloc_new _ _
    refine bodyPost_ret (v := .agg #[.int .i64 2, .int .i64 0, .string ⟨#[]⟩, .slice none 0 0, .slice none 0 0]) (by simp [results, Tryz.results98, go_sem, cell_of_row _ _ _ _ _ _ hR]) rfl ⟨_, rfl, isVal_tru _ _ false, hb⟩
  · go_enter Tryz.func98, Tryz.ntmps98
    go_wp2_with fail
    generalize hW : w.alloc _ = W
    have hb : Below w.heap.size w W := by rw [← hW]; exact bal1 _ _
    have hR : W.heap[w.heap.size]? = some (.cells #[.int .i64 2, .int .i64 1, .string ⟨#[]⟩, .slice none 0 0, .slice none 0 0] 34 (0, 0)) := by rw [← hW]; exact heap_alloc_new _ _
    refine bodyPost_ret (v := .agg #[.int .i64 2, .int .i64 1, .string ⟨#[]⟩, .slice none 0 0, .slice none 0 0]) (by simp [results, Tryz.results98, go_sem, cell_of_row _ _ _ _ _ _ hR]) rfl ⟨_, rfl, isVal_tru _ _ true, hb⟩

theorem of_ok (k : Int) (S : Nat → Prop) (v : Val) (cs : List Value) (w : World) (h : IsVal S w cs v) (hk : v.kind = k) : Calls Tryz.prog 94 #[.int .i64 k, .agg cs.toArray] w fun e w' => e = .returned (.agg cs.toArray) ∧ Below w.heap.size w w' := by
  have HM := Lib.hid must_ok
  obtain ⟨p3, k3, p4, k4, hcs, _⟩ := IsVal.cells h
  simp only [vcs] at hcs
  subst hcs
  subst hk
  clear h
  go_enter Tryz.func94, Tryz.ntmps94
  go_wp2_with (go_at_call 97; refine (HM.out _).mono ?_; rintro e w' ⟨rfl, rfl⟩)
  generalize hW : (w.alloc _).alloc _ = W
  have hb : Below w.heap.size w W := by rw [← hW]; exact bal2 _ _ _
  have hR : W.heap[w.heap.size + 1]? = some (.cells #[.int .i64 v.kind, .int .i64 v.n, .string ⟨v.s.toArray⟩, .slice p3 v.names.length k3, .slice p4 v.kids.length k4] 34 (0, 0)) := by rw [← hW]; exact heap_alloc2_new _ _ _
  refine bodyPost_ret (v := .agg #[.int .i64 v.kind, .int .i64 v.n, .string ⟨v.s.toArray⟩, .slice p3 v.names.length k3, .slice p4 v.kids.length k4]) (by simp [results, Tryz.results94, go_sem, cell_of_row _ _ _ _ _ _ hR]) rfl ⟨rfl, hb⟩

theorem fld1 (a b c d e : Value) (w : World) : (Instr.field 34 (.agg #[a, b, c, d, e]) 1).run Tryz.prog w = .ok b w := by
  simp [Instr.field, go_sem, part, asAgg]

set_option maxRecDepth 100000 in
theorem truth_ok (b : Bool) (S : Nat → Prop) (cs : List Value) (w : World) (h : IsVal S w cs (truV b)) : Calls Tryz.prog 58 #[.agg cs.toArray] w fun e w' => e = .returned (.bool b) ∧ Below w.heap.size w w' := by
  have HO := Lib.hid (fun W (hb : Below w.heap.size w W) => of_ok 2 S (truV b) cs W (IsVal.move h (.of_below hb) (fun _ _ h => h)) rfl)
  obtain ⟨p3, k3, p4, k4, hcs, _⟩ := IsVal.cells h
  simp only [vcs] at hcs
  subst hcs
  clear h
  have hk : (truV b).kind = 2 := rfl
  have hn : ((truV b).n == 1) = b := by cases b <;> rfl
  generalize truV b = v at hk hn HO ⊢
  subst hn
  rw [hk] at HO ⊢
  clear hk
  have HO2 : Hid (∀ W, Below w.heap.size w W → Calls Tryz.prog 94 #[.int .i64 2, .agg #[.int .i64 2, .int .i64 v.n, .string ⟨v.s.toArray⟩, .slice p3 v.names.length k3, .slice p4 v.kids.length k4]] W fun e w' => e = .returned (.agg #[.int .i64 2, .int .i64 v.n, .string ⟨v.s.toArray⟩, .slice p3 v.names.length k3, .slice p4 v.kids.length k4]) ∧ Below W.heap.size W w') := HO
  clear HO
  have hf := fld1 (.int .i64 2) (.int .i64 v.n) (.string ⟨v.s.toArray⟩) (.slice p3 v.names.length k3) (.slice p4 v.kids.length k4)
  go_enter Tryz.func58, Tryz.ntmps58
  go_wp2_with (go_at_call 94; refine (HO2.out _ (bal1 _ _)).mono ?_; rintro e w' ⟨rfl, hw⟩)
  go_ret
  exact ⟨rfl, (bal1 _ _).thn hw⟩
end Go.Proofs.YthkkmklnapkgaaaGreatDoor

/- rows.evaluate: a truth value, a variable. -/
namespace Go.Proofs.YthkkmklnapkgaaaGreatDoor
open Go.RowKit Go.Shelf Go.Lib

/-- The bindings of a row, the innermost first. -/
inductive IsEnv (S : Nat → Prop) (w : World) : Value → List (Bs × Val) → Prop
  | nil : IsEnv S w (.pointer none) []
  | cons (b : Nat) (outer : Option Addr) (x : Bs) (v : Val) (p3 : Option Addr) (k3 : Nat) (p4 : Option Addr) (k4 : Nat) (env : List (Bs × Val)) (hS : S b) (h0 : w.heap[b]? = some (.cells #[.pointer outer, .string ⟨x.toArray⟩, .int .i64 v.kind, .int .i64 v.n, .string ⟨v.s.toArray⟩, .slice p3 v.names.length k3, .slice p4 v.kids.length k4] 108 (0, 0)))
      (hx : x.length ≤ 1000000) (hv : IsVal S w (vcs v p3 k3 p4 k4) v) (ho : IsEnv S w (.pointer outer) env) : IsEnv S w (.pointer (some ⟨b, 0, none⟩)) ((x, v) :: env)
theorem IsEnv.move {S S' : Nat → Prop} {w w' : World} {p : Value} {env : List (Bs × Val)} (h : IsEnv S w p env) (hA : Agree S w w') (hS : ∀ b, b < w.heap.size → S b → S' b) : IsEnv S' w' p env := by
  induction h with
  | nil => exact .nil
  | cons b outer x v p3 k3 p4 k4 env hSb h0 hx hv ho ih => exact .cons b outer x v p3 k3 p4 k4 env (hS b (World.block_lt_some h0) hSb) ((hA b hSb (World.block_lt_some h0)).trans h0) hx (hv.move hA hS) ih
theorem IsEnv.ptr {S : Nat → Prop} {w : World} {p : Value} {env : List (Bs × Val)} (h : IsEnv S w p env) : ∃ q, p = .pointer q := by cases h <;> exact ⟨_, rfl⟩

theorem heap_alloc3_mid' (w : World) (A B C : Obj) : (((w.alloc A).alloc B).alloc C).heap[w.heap.size + 1]? = some B :=
  ((bal1 ((w.alloc A).alloc B) C).block (w.heap.size + 1) (by simp)).trans (heap_alloc2_new w A B)
theorem heap_alloc3_old (w : World) (A B C : Obj) : (((w.alloc A).alloc B).alloc C).heap[w.heap.size]? = some A :=
  ((bal1 ((w.alloc A).alloc B) C).block w.heap.size (by simp; omega)).trans (heap_alloc2_old w A B)
/-- The expression has the value under the bindings. -/
def EvV (e : Ex) (env : List (Bs × Val)) (v : Val) : Prop := ∀ (S S' : Nat → Prop) (cs : List Value) (p : Value) (w : World), IsEx S' w cs e → IsEnv S w p env → Calls Tryz.prog 59 #[.agg cs.toArray, p] w (ValAt S w v)

set_option maxRecDepth 100000 in
set_option maxHeartbeats 2000000 in
theorem ev_bool (nm : Bs) (n : Int) (s : Bs) (names binds : List Bs) (kids : List Ex) (a z : Int) (env : List (Bs × Val)) : EvV (.mk 2 nm n s names binds kids a z) env (truV (n == 1)) := by
  intro S S' cs p w hx he
  obtain ⟨nv, bv, kv, rfl, _, _, hn, hb, hk⟩ := isEx_iff.1 hx
  obtain ⟨np, nc, rfl, _⟩ := hn.len
  obtain ⟨bp, bc, rfl, _⟩ := hb.len
  obtain ⟨kp, kc, rfl, _⟩ := hk.len
  obtain ⟨q, rfl⟩ := he.ptr
  have HB := Lib.hid (boolean_any (n == 1) (fun b => S b ∧ b < w.heap.size))
  clear hx he hn hb hk
  unfold sv
  go_enter Tryz.func59, Tryz.ntmps59
  obtain ⟨v, hv⟩ : ∃ v, truV (n == 1) = v := ⟨_, rfl⟩
  rw [hv] at HB ⊢
  clear hv
  go_wp2_with fail
  refine (HB.out _).mono ?_
  rintro e w1 ⟨cs', rfl, hv1, hb1⟩
  obtain ⟨q3, l3, q4, l4, hcs, _⟩ := IsVal.cells hv1
  simp only [vcs] at hcs
  subst hcs
  have HR1 := Lib.hid ((hb1.block (w.heap.size + 1 + 1) (by simp)).trans (heap_alloc3_new w _ _ _))
  have HB1 := Lib.hid ((bal3 w _ _ _).thn hb1); have HV1 := Lib.hid hv1
  have fz := fun j => frozen_of_row _ _ j _ _ HR1.out
  have f0 := fz 0; have f1 := fz 1; have f2 := fz 2; have f3 := fz 3; have f4 := fz 4
  have rr := fun j => cell_of_row _ _ j _ _ _ HR1.out
  have r0 := rr 0; have r1 := rr 1; have r2 := rr 2; have r3 := rr 3; have r4 := rr 4
  simp only [List.getElem?_toArray, List.getElem?_cons_zero, List.getElem?_cons_succ] at r0 r1 r2 r3 r4
  clear fz rr hv1 hb1
  go_wp2_with fail
  show bodyPost _ _ _ _ _ (put5 w1 (w.heap.size + 1 + 1) (.int .i64 v.kind) (.int .i64 v.n) (.string ⟨v.s.toArray⟩) (.slice q3 v.names.length l3) (.slice q4 v.kids.length l4))
  refine bodyPost_ret (v := .agg #[.int .i64 v.kind, .int .i64 v.n, .string ⟨v.s.toArray⟩, .slice q3 v.names.length l3, .slice q4 v.kids.length l4]) (by simp [results, Tryz.results59, go_sem, put5_cell HR1.out]) rfl ⟨_, rfl, ?_, put5_below HB1.out (by omega)⟩
  exact IsVal.move HV1.out (fun b hb _ => put5_other (by have := hb.2; omega)) (fun _ _ h => h.1)

set_option maxRecDepth 100000 in
set_option maxHeartbeats 2000000 in
theorem ev_var (nm : Bs) (n : Int) (s : Bs) (names binds : List Bs) (kids : List Ex) (a z : Int) (env : List (Bs × Val)) (v : Val) (hlk : lookE nm env = some v) : EvV (.mk 3 nm n s names binds kids a z) env v := by
  intro S0 S' cs p w hx he0
  have he : IsEnv (fun b => S0 b ∧ b < w.heap.size) w p env := he0.move (.refl _ _) (fun b hb h => ⟨h, hb⟩)
  obtain ⟨nv, bv, kv, rfl, _, _, hn, hb, hk⟩ := isEx_iff.1 hx
  obtain ⟨np, nc, rfl, _⟩ := hn.len
  obtain ⟨bp, bc, rfl, _⟩ := hb.len
  obtain ⟨kp, kc, rfl, _⟩ := hk.len
  obtain ⟨q, rfl⟩ := he.ptr
  have HE := Lib.hid he; have HLK := Lib.hid hlk
  clear hx he he0 hn hb hk hlk
  unfold sv
  go_enter Tryz.func59, Tryz.ntmps59
  go_upto_region 3 with fail
  generalize hW3 : ((w.alloc _).alloc _).alloc _ = w3
  have hb3 : Below w.heap.size w w3 := by rw [← hW3]; exact bal3 _ _ _ _
  have h0 : w3.heap[w.heap.size]? = some (.cells #[.int .i64 3, .string ⟨nm.toArray⟩, .int .i64 n, .string ⟨s.toArray⟩, .slice np names.length nc, .slice bp binds.length bc, .slice kp kids.length kc, .int .i64 a, .int .i64 z] 54 (0, 0)) := by rw [← hW3]; exact heap_alloc3_old _ _ _ _
  have h1 : w3.heap[w.heap.size + 1]? = some (.cells #[.pointer q] 106 (0, 0)) := by rw [← hW3]; exact heap_alloc3_mid' _ _ _ _
  have h2 : w3.heap[w.heap.size + 1 + 1]? = some (.cells #[.int .i64 0, .int .i64 0, .string ⟨#[]⟩, .slice none 0 0, .slice none 0 0] 34 (0, 0)) := by rw [← hW3]; exact heap_alloc3_new _ _ _ _
  have c0 := cell_of_row _ _ 0 _ _ _ h0; have d0 := cell_of_row _ _ 0 _ _ _ h1
  simp only [List.getElem?_toArray, List.getElem?_cons_zero] at c0 d0
  have H0 := Lib.hid h0; have H2 := Lib.hid h2; have HB3 := Lib.hid hb3; have HE3 := Lib.hid (HE.out.move (.of_below hb3) (fun _ _ h => h))
  clear h0 h1 h2 hb3 hW3 HE
  go_wp2_with fail
  go_loopg [7] env.length (fun k p wr => ∃ env', k = env'.length ∧ IsEnv (fun b => S0 b ∧ b < w.heap.size) wr p env' ∧ Aside (lookE nm env' = some v) ∧ Below w3.heap.size w3 wr)
  case atStart => exact ⟨env, rfl, HE3.out, HLK.out, Below.refl _ _⟩
  case round =>
    obtain ⟨env', rfl, hE, hL, hBr⟩ := hrel
    cases hE with
    | nil => cases hL.out
    | cons b outer x u p3 k3 p4 k4 rest hS hb0 hxl hu ho =>
      have c1 := cell_of_row _ _ 1 _ _ _ ((hBr.block _ (World.block_lt_some H0.out)).trans H0.out)
      have x0 := cell_of_row _ _ 0 _ _ _ hb0; have x1 := cell_of_row _ _ 1 _ _ _ hb0; have x2 := cell_of_row _ _ 2 _ _ _ hb0; have x3 := cell_of_row _ _ 3 _ _ _ hb0; have x4 := cell_of_row _ _ 4 _ _ _ hb0; have x5 := cell_of_row _ _ 5 _ _ _ hb0; have x6 := cell_of_row _ _ 6 _ _ _ hb0
      simp only [List.getElem?_toArray, List.getElem?_cons_zero, List.getElem?_cons_succ] at c1 x0 x1 x2 x3 x4 x5 x6
      have hR := (hBr.block _ (World.block_lt_some H2.out)).trans H2.out
      have HR := Lib.hid hR; have HU := Lib.hid hu; have HO := Lib.hid ho; have HBr := Lib.hid hBr; have HSb := Lib.hid hS
      have hL2 := hL.out
      by_cases hxn : x = nm
      · have hvu : u = v := by
          have h : (if x = nm then some u else lookE nm rest) = some v := hL2
          rw [if_pos hxn] at h; exact Option.some.inj h
        have HVU := Lib.hid hvu
        subst hxn
        have fz := fun j => frozen_of_row _ _ j _ _ hR
        have f0 := fz 0; have f1 := fz 1; have f2 := fz 2; have f3 := fz 3; have f4 := fz 4
        have rr := fun j => cell_of_row _ _ j _ _ _ hR
        have r0 := rr 0; have r1 := rr 1; have r2 := rr 2; have r3 := rr 3; have r4 := rr 4
        simp only [List.getElem?_toArray, List.getElem?_cons_zero, List.getElem?_cons_succ] at r0 r1 r2 r3 r4
        clear hL hL2 hBr hR hu ho hb0 fz rr hvu hS
        go_wp2_with fail
        go_quiet (fail)
        go_wp2_with fail
        have HR5 := Lib.hid (((below_drewN wr nq).block _ (World.block_lt_some HR.out)).trans HR.out)
        show bodyPost _ _ _ _ _ (put5 (wr.drewN nq) (w.heap.size + 1 + 1) (.int .i64 u.kind) (.int .i64 u.n) (.string ⟨u.s.toArray⟩) (.slice p3 u.names.length k3) (.slice p4 u.kids.length k4))
        refine bodyPost_ret (v := .agg #[.int .i64 u.kind, .int .i64 u.n, .string ⟨u.s.toArray⟩, .slice p3 u.names.length k3, .slice p4 u.kids.length k4]) (by simp [results, Tryz.results59, go_sem, put5_cell HR5.out]) rfl ⟨_, rfl, ?_, put5_below ((HB3.out.thn HBr.out).thn (below_drewN wr nq)) (by omega)⟩
        rw [← HVU.out]
        exact IsVal.move HU.out (fun b hb _ => put5_other (by have := hb.2; omega)) (fun _ _ h => h.1)
      · have hL3 : lookE nm rest = some v := by
          have h : (if x = nm then some u else lookE nm rest) = some v := hL2
          rw [if_neg hxn] at h; exact h
        have HL3 := Lib.hid hL3
        have hq : (x == nm) = false := by simpa using hxn
        clear hL hL2 hL3 hBr hR hu ho hb0 hxn hS
        go_wp2_with fail
        go_quiet (fail)
        go_wp2_with fail
        go_roundg rest.length
        case measure => simp
        case rel => exact ⟨rest, rfl, HO.out.move (.of_below (below_drewN wr nq)) (fun _ _ h => h), HL3.out, HBr.out.thn (below_drewN wr nq)⟩
end Go.Proofs.YthkkmklnapkgaaaGreatDoor

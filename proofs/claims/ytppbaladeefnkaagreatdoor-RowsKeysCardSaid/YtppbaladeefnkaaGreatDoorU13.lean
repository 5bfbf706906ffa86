import Derived.Test.YtppbaladeefnkaaGreatDoorU11
set_option maxRecDepth 100000
set_option maxHeartbeats 400000000
namespace Go.Proofs.YtppbaladeefnkaaGreatDoor
open Go.RowKit Go.Shelf Go.Lib Tryz
def Xm (code : Int) (p : Val → Bool) (rows : List Val) : Ft := match rows.findIdx? (fun r => !p r) with
 | none => Ft.zero
 | some i => ⟨code, [], rows.getD i Val.zero, Val.zero⟩
theorem bad1_any (h : Nat) (lbh : Array Value) (eh : ∀ args w, (callFunc h args).run prog w = .ok (.enter h args) w) (G : Nat) (S : Nat → Prop) (rows : List Val) (p : Val → Bool) (w : World) (hp : Xt prog h lbh Ql S rows p w) (hc : w.cell? ⟨G, 0, none⟩ = some (.func (.func h) #[] lbh)) :
  Xt prog 122 #[.pointer (some ⟨G, 0, none⟩)] Ql S rows (fun r => !p r) w := by
 intro W x cs hb hx hr
 have hc' : W.cell? ⟨G, 0, none⟩ = some (.func (.func h) #[] lbh) := (hb.cell (p := ⟨G, 0, none⟩) (Qv w _ hc)).trans hc
 have hlt := Qv W _ hc'
 have hG : G < W.heap.size := hlt
 have HP := Qq (fun W' (h' : Below W.heap.size W W') => hp W' x cs (hb.thn h') hx (Ql.frame hr (.of_below h')))
 obtain ⟨p3, k3, p4, k4, hcs, _⟩ := Qh.cells (show Qh S W cs x from hr)
 simp only [vcs] at hcs
 subst hcs
 show Calls prog 122 #[.agg #[.int .i64 x.kind, .int .i64 x.n, .string ⟨x.s.toArray⟩, .slice p3 x.names.length k3, .slice p4 x.kids.length k4], .pointer (some ⟨G, 0, none⟩)] W (fun e w' => e = .returned (.bool (!p x)) ∧ Below W.heap.size W w')
 generalize p x = b at HP ⊢
 clear hp hc hb hx hr hlt
 go_enter func122, ntmps122
 go_wp2_with (go_at_fn h; refine (HP.out _ (Qo _ _)).mono ?_; rintro e w' ⟨rfl, hw⟩)
 go_ret
 exact ⟨rfl, (Qo _ _).thn hw⟩
theorem Et (code : Int) (h : Nat) (lbh : Array Value) (eh : ∀ args w, (callFunc h args).run prog w = .ok (.enter h args) w) (S0 : Nat → Prop) (v : Value) (rows : List Val) (p : Val → Bool) (w : World) (hv0 : Sl Ql S0 w v rows) (hp : Xt prog h lbh Ql (fun b => S0 b ∧ b < w.heap.size) rows p w) :
  Calls prog 87 #[.int .i64 code, v, .func (.func h) #[] lbh] w (Jd S0 w (Xm code p rows)) := by
 have hv := hv0.up
 obtain ⟨vp, vcap, rfl, hl⟩ := hv.len
 have HI := Qq (fun W (hb : Below w.heap.size w W) (hc : W.cell? ⟨w.heap.size, 0, none⟩ = some (.func (.func h) #[] lbh)) => Le Tryz.ixVal Ql isAgg44 sizeOf44 122 #[.pointer (some ⟨w.heap.size, 0, none⟩)] (enters_of func122 (by kernel_rfl) rfl) _ _ rows W _ (hv.below hb)
  (bad1_any h lbh eh w.heap.size _ rows p W (fun W' x cs h1 h2 h3 => hp W' x cs (hb.thn h1) h2 h3) hc))
 have HV := Qq hv
 clear hv hv0 hp
 have hB : ∃ r, Xm code p rows = r := ⟨_, rfl⟩
 obtain ⟨r, hr⟩ := hB
 rw [hr]
 have hidx : X6 (fun r => !p r) rows = (match rows.findIdx? (fun r => !p r) with | some i => (i : Int) | none => -1) := by unfold X6; cases rows.findIdx? (fun r => !p r) <;> rfl
 cases hf : rows.findIdx? (fun r => !p r) with
 | none =>
  have hr0 : r = Ft.zero := by rw [← hr]; unfold Xm; rw [hf]
  rw [hf] at hidx
  simp only at hidx
  rw [hidx] at HI
  have HR := Qq hr0
  clear hr0 hr hidx hf
  go_enter func87, ntmps87
  go_wp2_with fail
  refine (HI.out _ (Zv _ _ _) (by simp)).mono ?_
  rintro e w5 ⟨rfl, hw⟩
  have hR5 := (hw.block (w.heap.size + 1) (by simp)).trans (Q6 w _ _)
  have fz := fun j => frozen_of_row _ _ j _ _ hR5
  have rr := fun j => Qk _ _ j _ _ _ hR5
  have f0 := fz 0; have f1 := fz 1; have f2 := fz 2; have f3 := fz 3; have f4 := fz 4; have f5 := fz 5; have f6 := fz 6; have f7 := fz 7; have f8 := fz 8; have f9 := fz 9; have f10 := fz 10; have f11 := fz 11
  have r0 := rr 0; have r1 := rr 1; have r2 := rr 2; have r3 := rr 3; have r4 := rr 4; have r5 := rr 5; have r6 := rr 6; have r7 := rr 7; have r8 := rr 8; have r9 := rr 9; have r10 := rr 10; have r11 := rr 11
  simp only [List.getElem?_toArray, List.getElem?_cons_zero, List.getElem?_cons_succ] at r0 r1 r2 r3 r4 r5 r6 r7 r8 r9 r10 r11
  have HB5 := Qq ((Zv w _ _).thn hw); have HR5 := Qq hR5
  clear fz rr hR5 hw
  go_wp2_with fail
  obtain ⟨W, hW⟩ := eX (Zh w5 (w.heap.size + 1) (.int .i64 0) (.string ⟨#[]⟩) (.int .i64 0) (.int .i64 0) (.string ⟨#[]⟩) (.slice none 0 0) (.slice none 0 0) (.int .i64 0) (.int .i64 0) (.string ⟨#[]⟩) (.slice none 0 0) (.slice none 0 0))
  have q : ∀ j, W.cell? ⟨w.heap.size + 1, j, none⟩ = zF[j]? := fun j => by rw [← hW]; exact Z9 HR5.out j
  have hbel : Below w.heap.size w W := by rw [← hW]; exact Z3 HB5.out (by omega)
  show bodyPost _ _ _ _ _ (Zh w5 (w.heap.size + 1) (.int .i64 0) (.string ⟨#[]⟩) (.int .i64 0) (.int .i64 0) (.string ⟨#[]⟩) (.slice none 0 0) (.slice none 0 0) (.int .i64 0) (.int .i64 0) (.string ⟨#[]⟩) (.slice none 0 0) (.slice none 0 0))
  rw [hW]
  have HBel := Qq hbel
  have q0 := q 0; have q1 := q 1; have q2 := q 2; have q3 := q 3; have q4 := q 4; have q5 := q 5; have q6 := q 6; have q7 := q 7; have q8 := q 8; have q9 := q 9; have q10 := q 10; have q11 := q 11
  simp only [List.getElem?_toArray, List.getElem?_cons_zero, List.getElem?_cons_succ] at q0 q1 q2 q3 q4 q5 q6 q7 q8 q9 q10 q11
  clear hW hbel q r0 r1 r2 r3 r4 r5 r6 r7 r8 r9 r10 r11 f0 f1 f2 f3 f4 f5 f6 f7 f8 f9 f10 f11
  refine Q7 (v := .agg zF) (by simp [results, results87, go_sem, q0, q1, q2, q3, q4, q5, q6, q7, q8, q9, q10, q11]) rfl ⟨[.int .i64 0, .string ⟨#[]⟩, .int .i64 0, .int .i64 0, .string ⟨#[]⟩, .slice none 0 0, .slice none 0 0, .int .i64 0, .int .i64 0, .string ⟨#[]⟩, .slice none 0 0, .slice none 0 0], rfl, by rw [HR.out]; exact U5 _ _, HBel.out⟩
 | some i =>
  obtain ⟨hil, _, _⟩ := List.findIdx?_eq_some_iff_getElem.1 hf
  obtain ⟨x, hx⟩ : ∃ x, rows[i]? = some x := ⟨_, Qx hil⟩
  have hr0 : r = ⟨code, [], x, Val.zero⟩ := by rw [← hr]; unfold Xm; rw [hf]; simp only; rw [List.getD_eq_getElem?_getD, hx]; rfl
  rw [hf] at hidx
  simp only at hidx
  rw [hidx] at HI
  obtain ⟨xb, xoff, p3, k3, p4, k4, rfl, hxb, hvx, d0, d1, d2, d3, d4⟩ := HV.out.val hx
  have hi1 : (0 : Int) ≤ (i : Int) := by omega
  have hi2 : (i : Int) < (rows.length : Int) := by omega
  have HR := Qq hr0; have HVX := Qq hvx
  clear hr0 hr hidx hf hx hvx
  go_enter func87, ntmps87
  go_wp2_with fail
  refine (HI.out _ (Zv _ _ _) (by simp)).mono ?_
  rintro e w5 ⟨rfl, hw⟩
  have hR5 := (hw.block (w.heap.size + 1) (by simp)).trans (Q6 w _ _)
  have hbw := (Zv w _ _).thn hw
  have e0 := (hbw.cell (p := ⟨xb, xoff + i * 5, none⟩) hxb).trans d0; have e1 := (hbw.cell (p := ⟨xb, xoff + i * 5 + 1, none⟩) hxb).trans d1; have e2 := (hbw.cell (p := ⟨xb, xoff + i * 5 + 2, none⟩) hxb).trans d2; have e3 := (hbw.cell (p := ⟨xb, xoff + i * 5 + 3, none⟩) hxb).trans d3; have e4 := (hbw.cell (p := ⟨xb, xoff + i * 5 + 4, none⟩) hxb).trans d4
  have fz := fun j => frozen_of_row _ _ j _ _ hR5
  have rr := fun j => Qk _ _ j _ _ _ hR5
  have f0 := fz 0; have f1 := fz 1; have f2 := fz 2; have f3 := fz 3; have f4 := fz 4; have f5 := fz 5; have f6 := fz 6; have f7 := fz 7; have f8 := fz 8; have f9 := fz 9; have f10 := fz 10; have f11 := fz 11
  have r0 := rr 0; have r1 := rr 1; have r2 := rr 2; have r3 := rr 3; have r4 := rr 4; have r5 := rr 5; have r6 := rr 6; have r7 := rr 7; have r8 := rr 8; have r9 := rr 9; have r10 := rr 10; have r11 := rr 11
  simp only [List.getElem?_toArray, List.getElem?_cons_zero, List.getElem?_cons_succ] at r0 r1 r2 r3 r4 r5 r6 r7 r8 r9 r10 r11
  have HB5 := Qq hbw; have HR5 := Qq hR5
  clear fz rr hR5 hw hbw d0 d1 d2 d3 d4
  go_wp2_with fail
  obtain ⟨W, hW⟩ := eX (Zh w5 (w.heap.size + 1) (.int .i64 code) (.string ⟨#[]⟩) (.int .i64 x.kind) (.int .i64 x.n) (.string ⟨x.s.toArray⟩) (.slice p3 x.names.length k3) (.slice p4 x.kids.length k4) (.int .i64 0) (.int .i64 0) (.string ⟨#[]⟩) (.slice none 0 0) (.slice none 0 0))
  have q : ∀ j, W.cell? ⟨w.heap.size + 1, j, none⟩ = #[.int .i64 code, .string ⟨#[]⟩, .int .i64 x.kind, .int .i64 x.n, .string ⟨x.s.toArray⟩, .slice p3 x.names.length k3, .slice p4 x.kids.length k4, .int .i64 0, .int .i64 0, .string ⟨#[]⟩, .slice none 0 0, .slice none 0 0][j]? := fun j => by rw [← hW]; exact Z9 HR5.out j
  have hoth : ∀ b, b < w.heap.size → W.heap[b]? = w5.heap[b]? := fun b hb => by rw [← hW]; exact Yj (by omega)
  have hbel : Below w.heap.size w W := by rw [← hW]; exact Z3 HB5.out (by omega)
  show bodyPost _ _ _ _ _ (Zh w5 (w.heap.size + 1) (.int .i64 code) (.string ⟨#[]⟩) (.int .i64 x.kind) (.int .i64 x.n) (.string ⟨x.s.toArray⟩) (.slice p3 x.names.length k3) (.slice p4 x.kids.length k4) (.int .i64 0) (.int .i64 0) (.string ⟨#[]⟩) (.slice none 0 0) (.slice none 0 0))
  rw [hW]
  have HBel := Qq hbel; have HOth := Qq hoth
  have q0 := q 0; have q1 := q 1; have q2 := q 2; have q3 := q 3; have q4 := q 4; have q5 := q 5; have q6 := q 6; have q7 := q 7; have q8 := q 8; have q9 := q 9; have q10 := q 10; have q11 := q 11
  simp only [List.getElem?_toArray, List.getElem?_cons_zero, List.getElem?_cons_succ] at q0 q1 q2 q3 q4 q5 q6 q7 q8 q9 q10 q11
  clear hW hbel hoth q r0 r1 r2 r3 r4 r5 r6 r7 r8 r9 r10 r11 f0 f1 f2 f3 f4 f5 f6 f7 f8 f9 f10 f11 e0 e1 e2 e3 e4
  refine Q7 (v := .agg #[.int .i64 code, .string ⟨#[]⟩, .int .i64 x.kind, .int .i64 x.n, .string ⟨x.s.toArray⟩, .slice p3 x.names.length k3, .slice p4 x.kids.length k4, .int .i64 0, .int .i64 0, .string ⟨#[]⟩, .slice none 0 0, .slice none 0 0]) (by simp [results, results87, go_sem, q0, q1, q2, q3, q4, q5, q6, q7, q8, q9, q10, q11]) rfl ⟨[.int .i64 code, .string ⟨#[]⟩, .int .i64 x.kind, .int .i64 x.n, .string ⟨x.s.toArray⟩, .slice p3 x.names.length k3, .slice p4 x.kids.length k4, .int .i64 0, .int .i64 0, .string ⟨#[]⟩, .slice none 0 0, .slice none 0 0], rfl, ?_, HBel.out⟩
  rw [HR.out]
  refine ⟨vcs x p3 k3 p4 k4, _, rfl, by simp, ?_, Zl _ _⟩
  exact Qh.move (S' := S0) HVX.out (fun b hb hlt => (HOth.out b hb.2).trans (HB5.out.block b hlt)) (fun _ _ h => h.1)
def Fl (S : Nat → Prop) (w : World) (v : Val) (e : Ending) (w' : World) : Prop := ∃ cs', e = .returned (.agg cs'.toArray) ∧ Qh S w' cs' v ∧ Below w.heap.size w w'
def J2 (b : Bool) : Val := .mk 2 (if b then 1 else 0) [] [] []
theorem B0 (S : Nat → Prop) (w : World) (b : Bool) : Qh S w [.int .i64 2, .int .i64 (if b then 1 else 0), .string ⟨#[]⟩, .slice none 0 0, .slice none 0 0] (J2 b) :=
 Zn (s := []) (by simp) (Sl.nil _ _ _) (Sl.nil _ _ _)
theorem Ox (w : World) : Calls prog 164 #[.bool true] w fun e w' => e = .returned (.tuple #[]) ∧ w = w' := by
 go_enter func164, ntmps164
 go_wp2_with fail
 go_end0
 exact ⟨rfl, rfl⟩
theorem De (b : Bool) (S : Nat → Prop) (w : World) : Calls prog 165 #[.bool b] w (Fl S w (J2 b)) := by
 cases b
 ·go_enter func165, ntmps165
  go_wp2_with fail
  generalize hW : w.alloc _ = W
  have hb := eqB hW (Qo _ _)
  have hR := eqH (b := w.heap.size) hW (Qw _ _)
  refine Q7 (v := .agg #[.int .i64 2, .int .i64 0, .string ⟨#[]⟩, .slice none 0 0, .slice none 0 0]) (by simp [results, results165, go_sem, Qk _ _ _ _ _ _ hR]) rfl ⟨_, rfl, B0 _ _ false, hb⟩
 go_enter func165, ntmps165
 go_wp2_with fail
 generalize hW : w.alloc _ = W
 have hb := eqB hW (Qo _ _)
 have hR := eqH (b := w.heap.size) hW (Qw _ _)
 refine Q7 (v := .agg #[.int .i64 2, .int .i64 1, .string ⟨#[]⟩, .slice none 0 0, .slice none 0 0]) (by simp [results, results165, go_sem, Qk _ _ _ _ _ _ hR]) rfl ⟨_, rfl, B0 _ _ true, hb⟩
theorem of_ok (k : Int) (S : Nat → Prop) (v : Val) (cs : List Value) (w : World) (h : Qh S w cs v) (hk : v.kind = k) : Calls prog 161 #[.int .i64 k, .agg cs.toArray] w fun e w' => e = .returned (.agg cs.toArray) ∧ Below w.heap.size w w' := by
 have HM := Qq Ox
 obtain ⟨p3, k3, p4, k4, hcs, _⟩ := Qh.cells h
 simp only [vcs] at hcs
 subst hcs
 subst hk
 clear h
 go_enter func161, ntmps161
 go_wp2_with (go_at_call 164; refine (HM.out _).mono ?_; rintro e w' ⟨rfl, rfl⟩)
 generalize hW : (w.alloc _).alloc _ = W
 have hb := eqB hW (Zv _ _ _)
 have hR := eqH (b := w.heap.size + 1) hW (Q6 _ _ _)
 refine Q7 (v := .agg #[.int .i64 v.kind, .int .i64 v.n, .string ⟨v.s.toArray⟩, .slice p3 v.names.length k3, .slice p4 v.kids.length k4]) (by simp [results, results161, go_sem, Qk _ _ _ _ _ _ hR]) rfl ⟨rfl, hb⟩
theorem fld1 (a b c d e : Value) (w : World) : (Instr.field 44 (.agg #[a, b, c, d, e]) 1).run prog w = .ok b w := by
 simp [Instr.field, go_sem, part, asAgg]
theorem truth_ok (b : Bool) (S : Nat → Prop) (cs : List Value) (w : World) (h : Qh S w cs (J2 b)) : Calls prog 129 #[.agg cs.toArray] w fun e w' => e = .returned (.bool b) ∧ Below w.heap.size w w' := by
 have HO := Qq (fun W (hb : Below w.heap.size w W) => of_ok 2 S (J2 b) cs W (Qh.move h (.of_below hb) (fun _ _ h => h)) rfl)
 obtain ⟨p3, k3, p4, k4, hcs, _⟩ := Qh.cells h
 simp only [vcs] at hcs
 subst hcs
 clear h
 have hk : (J2 b).kind = 2 := rfl
 have hn : ((J2 b).n == 1) = b := by cases b <;> rfl
 generalize J2 b = v at hk hn HO ⊢
 subst hn
 rw [hk] at HO ⊢
 clear hk
 have HO2 : Hid (∀ W, Below w.heap.size w W → Calls prog 161 #[.int .i64 2, .agg #[.int .i64 2, .int .i64 v.n, .string ⟨v.s.toArray⟩, .slice p3 v.names.length k3, .slice p4 v.kids.length k4]] W fun e w' => e = .returned (.agg #[.int .i64 2, .int .i64 v.n, .string ⟨v.s.toArray⟩, .slice p3 v.names.length k3, .slice p4 v.kids.length k4]) ∧ Below W.heap.size W w') := HO
 clear HO
 have hf := fld1 (.int .i64 2) (.int .i64 v.n) (.string ⟨v.s.toArray⟩) (.slice p3 v.names.length k3) (.slice p4 v.kids.length k4)
 go_enter func129, ntmps129
 go_wp2_with (go_at_call 161; refine (HO2.out _ (Qo _ _)).mono ?_; rintro e w' ⟨rfl, hw⟩)
 go_ret
 exact ⟨rfl, (Qo _ _).thn hw⟩
inductive V6 (S : Nat → Prop) (w : World) : Value → List (Bs × Val) → Prop
 | nil : V6 S w (.pointer none) []
 | cons (b : Nat) (outer : Option Addr) (x : Bs) (v : Val) (p3 : Option Addr) (k3 : Nat) (p4 : Option Addr) (k4 : Nat) (env : List (Bs × Val)) (hS : S b) (h0 : w.heap[b]? = some (.cells #[.pointer outer, .string ⟨x.toArray⟩, .int .i64 v.kind, .int .i64 v.n, .string ⟨v.s.toArray⟩, .slice p3 v.names.length k3, .slice p4 v.kids.length k4] 150 (0, 0)))
   (hx : x.length ≤ 1000000) (hv : Qh S w (vcs v p3 k3 p4 k4) v) (ho : V6 S w (.pointer outer) env) : V6 S w (.pointer (some ⟨b, 0, none⟩)) ((x, v) :: env)
theorem V6.move {S S' : Nat → Prop} {w w' : World} {p : Value} {env : List (Bs × Val)} (h : V6 S w p env) (hA : V9 S w w') (hS : ∀ b, b < w.heap.size → S b → S' b) : V6 S' w' p env := by
 induction h with
 | nil => exact .nil
 | cons b outer x v p3 k3 p4 k4 env hSb h0 hx hv ho ih => exact .cons b outer x v p3 k3 p4 k4 env (hS b (Qf h0) hSb) ((hA b hSb (Qf h0)).trans h0) hx (hv.move hA hS) ih
theorem V6.ptr {S : Nat → Prop} {w : World} {p : Value} {env : List (Bs × Val)} (h : V6 S w p env) : ∃ q, p = .pointer q := by cases h <;> exact ⟨_, rfl⟩
theorem Z7 (w : World) (A B C : Obj) : (((w.alloc A).alloc B).alloc C).heap[w.heap.size + 1]? = some B :=
 ((Qo ((w.alloc A).alloc B) C).block (w.heap.size + 1) (by simp)).trans (Q6 w A B)
theorem Zb (w : World) (A B C : Obj) : (((w.alloc A).alloc B).alloc C).heap[w.heap.size]? = some A :=
 ((Qo ((w.alloc A).alloc B) C).block w.heap.size (by simp; omega)).trans (Q5 w A B)
def EvV (e : Ex) (env : List (Bs × Val)) (v : Val) : Prop := ∀ (S S' : Nat → Prop) (cs : List Value) (p : Value) (w : World), Z5 S' w cs e → V6 S w p env → Calls prog 130 #[.agg cs.toArray, p] w (Fl S w v)
theorem ev_bool (nm : Bs) (n : Int) (s : Bs) (names binds : List Bs) (kids : List Ex) (a z : Int) (env : List (Bs × Val)) : EvV (.mk 2 nm n s names binds kids a z) env (J2 (n == 1)) := by
 intro S S' cs p w hx he
 obtain ⟨nv, bv, kv, rfl, _, _, hn, hb, hk⟩ := Zd.1 hx
 obtain ⟨np, nc, rfl, _⟩ := hn.len
 obtain ⟨bp, bc, rfl, _⟩ := hb.len
 obtain ⟨kp, kc, rfl, _⟩ := hk.len
 obtain ⟨q, rfl⟩ := he.ptr
 have HB := Qq (De (n == 1) (fun b => S b ∧ b < w.heap.size))
 clear hx he hn hb hk
 unfold sv
 go_enter func130, ntmps130
 obtain ⟨v, hv⟩ := eX (J2 (n == 1))
 rw [hv] at HB ⊢
 clear hv
 go_wp2_with fail
 refine (HB.out _).mono ?_
 rintro e w1 ⟨cs', rfl, hv1, hb1⟩
 obtain ⟨q3, l3, q4, l4, hcs, _⟩ := Qh.cells hv1
 simp only [vcs] at hcs
 subst hcs
 have HR1 := Qq ((hb1.block (w.heap.size + 1 + 1) (by simp)).trans (Zw w _ _ _))
 have HB1 := Qq ((Xl w _ _ _).thn hb1); have HV1 := Qq hv1
 have fz := fun j => frozen_of_row _ _ j _ _ HR1.out
 have f0 := fz 0; have f1 := fz 1; have f2 := fz 2; have f3 := fz 3; have f4 := fz 4
 have rr := fun j => Qk _ _ j _ _ _ HR1.out
 have r0 := rr 0; have r1 := rr 1; have r2 := rr 2; have r3 := rr 3; have r4 := rr 4
 simp only [List.getElem?_toArray, List.getElem?_cons_zero, List.getElem?_cons_succ] at r0 r1 r2 r3 r4
 clear fz rr hv1 hb1
 go_wp2_with fail
 show bodyPost _ _ _ _ _ (Zz w1 (w.heap.size + 1 + 1) (.int .i64 v.kind) (.int .i64 v.n) (.string ⟨v.s.toArray⟩) (.slice q3 v.names.length l3) (.slice q4 v.kids.length l4))
 refine Q7 (v := .agg #[.int .i64 v.kind, .int .i64 v.n, .string ⟨v.s.toArray⟩, .slice q3 v.names.length l3, .slice q4 v.kids.length l4]) (by simp [results, results130, go_sem, Qm HR1.out]) rfl ⟨_, rfl, ?_, Qn HB1.out (by omega)⟩
 exact Qh.move HV1.out (fun b hb _ => Qt (by have := hb.2; omega)) (fun _ _ h => h.1)
theorem ev_var (nm : Bs) (n : Int) (s : Bs) (names binds : List Bs) (kids : List Ex) (a z : Int) (env : List (Bs × Val)) (v : Val) (hlk : Bd nm env = some v) : EvV (.mk 3 nm n s names binds kids a z) env v := by
 intro S0 S' cs p w hx he0
 have he : V6 (fun b => S0 b ∧ b < w.heap.size) w p env := he0.move (.refl _ _) (fun b hb h => ⟨h, hb⟩)
 obtain ⟨nv, bv, kv, rfl, _, _, hn, hb, hk⟩ := Zd.1 hx
 obtain ⟨np, nc, rfl, _⟩ := hn.len
 obtain ⟨bp, bc, rfl, _⟩ := hb.len
 obtain ⟨kp, kc, rfl, _⟩ := hk.len
 obtain ⟨q, rfl⟩ := he.ptr
 have HE := Qq he; have HLK := Qq hlk
 clear hx he he0 hn hb hk hlk
 unfold sv
 go_enter func130, ntmps130
 go_upto_region 3 with fail
 generalize hW3 : ((w.alloc _).alloc _).alloc _ = w3
 have hb3 := eqB hW3 (Xl _ _ _ _)
 have h0 := eqH (b := w.heap.size) hW3 (Zb _ _ _ _)
 have h1 := eqH (b := w.heap.size + 1) hW3 (Z7 _ _ _ _)
 have h2 := eqH (b := w.heap.size + 1 + 1) hW3 (Zw _ _ _ _)
 have c0 := rA0 h0; have d0 := rA0 h1
 have H0 := Qq h0; have H2 := Qq h2; have HB3 := Qq hb3; have HE3 := Qq (HE.out.move (.of_below hb3) (fun _ _ h => h))
 clear h0 h1 h2 hb3 hW3 HE
 go_wp2_with fail
 go_loopg [7] env.length (fun k p wr => ∃ env', k = env'.length ∧ V6 (fun b => S0 b ∧ b < w.heap.size) wr p env' ∧ Aside (Bd nm env' = some v) ∧ Below w3.heap.size w3 wr)
 case atStart => exact ⟨env, rfl, HE3.out, HLK.out, Qz _ _⟩
 obtain ⟨env', rfl, hE, hL, hBr⟩ := hrel
 cases hE with
 | nil => cases hL.out
 | cons b outer x u p3 k3 p4 k4 rest hS hb0 hxl hu ho =>
  have c1 := rA1 ((kB hBr H0.out)); have x0 := rA0 hb0; have x1 := rA1 hb0; have x2 := rA2 hb0; have x3 := rA3 hb0; have x4 := rA4 hb0; have x5 := rA5 hb0; have x6 := rA6 hb0
  have hR := kB hBr H2.out
  have HR := Qq hR; have HU := Qq hu; have HO := Qq ho; have HBr := Qq hBr; have HSb := Qq hS
  have hL2 := hL.out
  by_cases hxn : x = nm
  ·have hvu : u = v := by
    have h : (if x = nm then some u else Bd nm rest) = some v := hL2
    rw [if_pos hxn] at h; exact Qb h
   have HVU := Qq hvu
   subst hxn
   have fz := fun j => frozen_of_row _ _ j _ _ hR
   have f0 := fz 0; have f1 := fz 1; have f2 := fz 2; have f3 := fz 3; have f4 := fz 4
   have rr := fun j => Qk _ _ j _ _ _ hR
   have r0 := rr 0; have r1 := rr 1; have r2 := rr 2; have r3 := rr 3; have r4 := rr 4
   simp only [List.getElem?_toArray, List.getElem?_cons_zero, List.getElem?_cons_succ] at r0 r1 r2 r3 r4
   clear hL hL2 hBr hR hu ho hb0 fz rr hvu hS
   go_wp2_with fail
   go_quiet (fail)
   go_wp2_with fail
   have HR5 := Qq (kB (Zy wr nq) HR.out)
   show bodyPost _ _ _ _ _ (Zz (wr.drewN nq) (w.heap.size + 1 + 1) (.int .i64 u.kind) (.int .i64 u.n) (.string ⟨u.s.toArray⟩) (.slice p3 u.names.length k3) (.slice p4 u.kids.length k4))
   refine Q7 (v := .agg #[.int .i64 u.kind, .int .i64 u.n, .string ⟨u.s.toArray⟩, .slice p3 u.names.length k3, .slice p4 u.kids.length k4]) (by simp [results, results130, go_sem, Qm HR5.out]) rfl ⟨_, rfl, ?_, Qn ((HB3.out.thn HBr.out).thn (Zy wr nq)) (by omega)⟩
   rw [← HVU.out]
   exact Qh.move HU.out (fun b hb _ => Qt (by have := hb.2; omega)) (fun _ _ h => h.1)
  have hL3 : Bd nm rest = some v := by
   have h : (if x = nm then some u else Bd nm rest) = some v := hL2
   rw [if_neg hxn] at h; exact h
  have HL3 := Qq hL3
  have hq : (x == nm) = false := by simpa using hxn
  clear hL hL2 hL3 hBr hR hu ho hb0 hxn hS
  go_wp2_with fail
  go_quiet (fail)
  go_wp2_with fail
  go_roundg rest.length
  case measure => simp
  case rel => exact ⟨rest, rfl, HO.out.move (.of_below (Zy wr nq)) (fun _ _ h => h), HL3.out, HBr.out.thn (Zy wr nq)⟩
theorem kid_any (E V k : Nat) (S0 S' : Nat → Prop) (kp : Option Addr) (kc : Nat) (kids : List Ex) (e : Ex) (p : Value) (env : List (Bs × Val)) (v : Val) (w : World) (h6 : w.cell? ⟨E, 6, none⟩ = some (.slice kp kids.length kc)) (hk : Sl Yo S' w (.slice kp kids.length kc) kids) (hV : w.cell? ⟨V, 0, none⟩ = some p)
  (he0 : V6 S0 w p env) (hx : kids[k]? = some e) (hev : EvV e env v) : Calls prog 162 #[.int .i64 k, .pointer (some ⟨E, 0, none⟩), .pointer (some ⟨V, 0, none⟩)] w (Fl S0 w v) := by
 have he : V6 (fun b => S0 b ∧ b < w.heap.size) w p env := he0.move (.refl _ _) (fun b hb h => ⟨h, hb⟩)
 obtain ⟨q, rfl⟩ := he.ptr
 obtain ⟨xb, xoff, cs, hkp, hxb, _, _, hr, hc⟩ := hk.elem hx
 subst hkp
 have HEv := Qq (fun W (hb : Below w.heap.size w W) => hev (fun b => S0 b ∧ b < w.heap.size) S' cs (.pointer q) W (Yo.frame hr (.of_below hb)) (he.move (.of_below hb) (fun _ _ h => h)))
 obtain ⟨ek, es1, en, es2, ep1, en1, ec1, ep2, en2, ec2, ep3, en3, ec3, ea, ez, hcs⟩ := Z5.cells (show Z5 S' w cs e from hr)
 subst hcs
 have hEl := Qv _ _ h6
 have hVl := Qv _ _ hV
 have hki : k < kids.length := (Qj hx).1
 have hi1 : (0 : Int) ≤ (k : Int) := by omega
 have hi2 : (k : Int) < (kids.length : Int) := by omega
 have d0 := hc 0 _ rfl
 have d1 := hc 1 _ rfl
 have d2 := hc 2 _ rfl
 have d3 := hc 3 _ rfl
 have d4 := hc 4 _ rfl
 have d5 := hc 5 _ rfl
 have d6 := hc 6 _ rfl
 have d7 := hc 7 _ rfl
 have d8 := hc 8 _ rfl
 simp only [show Yo.k = 9 from rfl, Nat.add_zero] at d0 d1 d2 d3 d4 d5 d6 d7 d8
 obtain ⟨w1, hW1⟩ := eX (w.alloc (.cells zV 44))
 have hbW := eqB hW1 (Qo _ _)
 have hsz : w1.heap.size = w.heap.size + 1 := by rw [← hW1]; simp
 have hR1 := eqH (b := w.heap.size) hW1 (Qw _ _)
 refine let_mvar% ?S1 := fun w' : World => w'.cell? ⟨E, 6, none⟩ = some (.slice (some ⟨xb, xoff, none⟩) kids.length kc) ∧ w'.cell? ⟨xb, xoff + k * 9, none⟩ = some (.int .i64 ek) ∧ w'.cell? ⟨xb, xoff + k * 9 + 1, none⟩ = some (.string es1) ∧ w'.cell? ⟨xb, xoff + k * 9 + 2, none⟩ = some (.int .i64 en) ∧ w'.cell? ⟨xb, xoff + k * 9 + 3, none⟩ = some (.string es2) ∧ w'.cell? ⟨xb, xoff + k * 9 + 4, none⟩ = some (.slice ep1 en1 ec1) ∧ w'.cell? ⟨xb, xoff + k * 9 + 5, none⟩ = some (.slice ep2 en2 ec2) ∧ w'.cell? ⟨xb, xoff + k * 9 + 6, none⟩ = some (.slice ep3 en3 ec3) ∧ w'.cell? ⟨xb, xoff + k * 9 + 7, none⟩ = some (.int .i64 ea) ∧ w'.cell? ⟨xb, xoff + k * 9 + 8, none⟩ = some (.int .i64 ez) ∧ w'.cell? ⟨V, 0, none⟩ = some (.pointer q) ∧ (∃ y0 y1 y2 y3 y4, w'.heap[w.heap.size]? = some (.cells #[y0, y1, y2, y3, y4] 44 (0, 0))) ∧ Below w.heap.size w w'; ?_
 have HS : ∀ w', Below w.heap.size w w' → (∃ y0 y1 y2 y3 y4, w'.heap[w.heap.size]? = some (.cells #[y0, y1, y2, y3, y4] 44 (0, 0))) → ?S1 w' := by
  intro w' h hy
  have hh : ∀ {b j : Nat} {u : Value}, b < w.heap.size → w.cell? ⟨b, j, none⟩ = some u → w'.cell? ⟨b, j, none⟩ = some u := fun hlt hc => kD h hlt hc
  exact ⟨hh hEl h6, hh hxb d0, hh hxb d1, hh hxb d2, hh hxb d3, hh hxb d4, hh hxb d5, hh hxb d6, hh hxb d7, hh hxb d8, hh hVl hV, hy, h⟩
 have HB9 : ∀ w', ?S1 w' → Below w.heap.size w w' := fun w' h => h.2.2.2.2.2.2.2.2.2.2.2.2
 have HY9 : ∀ w', ?S1 w' → (∃ y0 y1 y2 y3 y4, w'.heap[w.heap.size]? = some (.cells #[y0, y1, y2, y3, y4] 44 (0, 0))) := fun w' h => h.2.2.2.2.2.2.2.2.2.2.2.1
 have HX9 : ∀ w' w'', ?S1 w' → Below w'.heap.size w' w'' → ?S1 w'' := fun w' w'' h h2 => HS w'' ((HB9 w' h).thn h2) (by
  obtain ⟨y0, y1, y2, y3, y4, hy⟩ := HY9 w' h
  exact ⟨y0, y1, y2, y3, y4, kB h2 hy⟩)
 have HP9 : ∀ w' a b c d e, ?S1 w' → ?S1 (Zz w' w.heap.size a b c d e) := fun w' a b c d e h => HS _ (Qn (HB9 w' h) (Q9 _)) (by
  obtain ⟨y0, y1, y2, y3, y4, hy⟩ := HY9 w' h
  exact ⟨a, b, c, d, e, Y9 hy⟩)
 unfold Zz at HP9
 have HC := Qq (fun W' (h' : ?S1 W') => (HEv.out W' (HB9 _ h')).mono (R' := fun e w2 => ∃ q3 l3 q4 l4, e = .returned (.agg #[.int .i64 v.kind, .int .i64 v.n, .string ⟨v.s.toArray⟩, .slice q3 v.names.length l3, .slice q4 v.kids.length l4]) ∧ Qh (fun b => S0 b ∧ b < w.heap.size) w2 (vcs v q3 l3 q4 l4) v ∧ ?S1 w2) (by
  rintro e w2 ⟨cs', rfl, h3, h4⟩
  obtain ⟨q3, l3, q4, l4, hcs, _⟩ := Qh.cells h3
  subst hcs
  exact ⟨q3, l3, q4, l4, rfl, h3, HX9 _ _ h' h4⟩))
 have HHS := Qq (HS w1.drew hbW.drew ⟨_, _, _, _, _, hR1⟩); have HB9' := Qq HB9; have HY9' := Qq HY9; have HP9' := Qq HP9
 clear HS HB9 HX9 HY9 HP9 HEv hc h6 hk hV he he0 hx hev hr hbW d0 d1 d2 d3 d4 d5 d6 d7 d8 hEl hVl hR1 hsz
 go_enter func162, ntmps162
 go_upto_region 1 with fail
 go_region_held3 ?S1 (first | with_reducible exact HHS.out | with_reducible exact hS2 | with_reducible exact HP9'.out _ _ _ _ _ _ hS2)
  (first
   | (go_at_call 130; refine (HC.out _ (by assumption)).mono ?_; rintro e w2 ⟨q3, l3, q4, l4, rfl, hv2, hS2⟩; obtain ⟨g0, g1, g2, g3, g4, r2⟩ := HY9'.out _ hS2; obtain ⟨f0, f1, f2, f3, f4⟩ := frz5 r2; obtain ⟨y0, y1, y2, y3, y4⟩ := row5 r2; have HR2 := Qq r2; clear r2))
 have HB2 := Qq (HB9'.out _ hS2); have HV2 := Qq hv2
 clear hv2 hS2
 go_wp2_with fail
 show bodyPost _ _ _ _ _ (Zz w2 w.heap.size (.int .i64 v.kind) (.int .i64 v.n) (.string ⟨v.s.toArray⟩) (.slice q3 v.names.length l3) (.slice q4 v.kids.length l4))
 refine Q7 (v := .agg #[.int .i64 v.kind, .int .i64 v.n, .string ⟨v.s.toArray⟩, .slice q3 v.names.length l3, .slice q4 v.kids.length l4]) (by simp [results, results162, go_sem, Qm HR2.out]) rfl ⟨_, rfl, ?_, Qn HB2.out (Q9 _)⟩
 exact Qh.move HV2.out (fun b hb _ => Qt (by have := hb.2; omega)) (fun _ _ h => h.1)
theorem Sl.int {S : Nat → Prop} {w : World} {p : Option Addr} {n cap : Nat} {xs : List Int} (h : Sl Jb S w (.slice p n cap) xs) {i : Nat} {x : Int} (hx : xs[i]? = some x) :
  ∃ b off, p = some ⟨b, off, none⟩ ∧ w.cell? ⟨b, off + i, none⟩ = some (.int .i64 x) ∧ True := by
 obtain ⟨p', c', h1, _, h3⟩ := h
 simp only [Value.slice.injEq] at h1
 obtain ⟨rfl, _, _⟩ := h1
 obtain ⟨b, off, e, _, _, hc⟩ := h3 (by intro e; subst e; simp at hx)
 obtain ⟨cs, h4, h5⟩ := hc i x hx
 refine ⟨b, off, e, ?_, trivial⟩
 have := h4 0 (.int .i64 x) (by rw [h5]; rfl)
 rwa [Nat.add_zero, show Jb.k = 1 from rfl, Nat.mul_one] at this
theorem Ma (S : Nat → Prop) (v : Value) (l : List Int) (x : Int) (w : World) (hs : Sl Jb S w v l) :
  Calls prog 191 #[v, .int .i64 x] w fun e w' => e = .returned (.int .i64 (X6 (fun y => decide (y = x)) l)) ∧ w = w' := by
 obtain ⟨p, cap, rfl, hl⟩ := hs.len
 have HS := Qq hs
 clear hs
 obtain ⟨n, hn⟩ := eX (l.length)
 rw [hn] at HS hl; rw [hn]
 have HN := Qq hn
 clear hn
 go_enter func191, ntmps191
 go_wp2_with fail
 go_loop [8] (fun i => ∃ k : Nat, k ≤ n ∧ i = .int .i64 k ∧ Aside (∀ (j : Nat) (y : Int), j < k → l[j]? = some y → decide (y = x) = false)) (fun i => n - (intOf i).toNat)
 case atStart => exact ⟨0, Q8 _, rfl, fun j _ hj => absurd hj (Nat.not_lt_zero _)⟩
 obtain ⟨k, hk, rfl, A⟩ := hrel
 by_cases hlt : k < n
 ·have hi1 : (0 : Int) ≤ (k : Int) := by omega
  have hi2 : (k : Int) < (n : Int) := by omega
  obtain ⟨y, hy⟩ : ∃ y, l[k]? = some y := ⟨_, Qx (by rw [HN.out]; exact hlt)⟩
  obtain ⟨b, off, rfl, hc, -⟩ := HS.out.int hy
  have HY := Qq hy
  clear hy
  by_cases he : y = x
  ·have hq : (x == y) = true := by rw [he]; simp
   have hq2 : decide (x = y) = true := by rw [he]; simp
   have HE := Qq he
   clear he
   go_wp2_with fail
   go_ret
   refine ⟨?_, rfl⟩
   rw [U9 HY.out (by rw [HE.out]; simp) A.out]
   rfl
  have hq : (x == y) = false := by rw [← Bool.not_eq_true, beq_iff_eq]; exact fun e => he e.symm
  have hq2 : decide (x = y) = false := by simpa using fun e => he e.symm
  have HE := Qq he
  clear he
  go_wp2_with fail
  go_round
  case measure => simp [intOf]; omega
  case rel =>
   refine ⟨k + 1, by omega, by go_num, (show Aside _ from fun j z hj hz => ?_)⟩
   by_cases e : j = k
   ·subst e
    have := HY.out
    rw [this] at hz
    cases hz
    simpa using HE.out
   exact A.out j z (by omega) hz
 have hltz : ¬ (k : Int) < (n : Int) := by omega
 have : k = n := by omega
 subst this
 go_wp2_with fail
 go_ret
 refine ⟨?_, rfl⟩
 rw [Xu (fun j y hy => A.out j y (by have := (Qj hy).1; have := HN.out; omega) hy)]
 rfl
theorem Mf (S : Nat → Prop) (v : Value) (l : List Int) (x : Int) (w : World) (hs : Sl Jb S w v l) :
  Calls prog 158 #[v, .int .i64 x] w fun e w' => e = .returned (.bool (l.any fun y => decide (y = x))) ∧ w = w' := by
 rw [← D8]
 have HI := Qq (fun W => Ma S v l x W)
 have HS := Qq hs
 clear hs
 generalize X6 _ l = i at HI ⊢
 go_enter func158, ntmps158
 go_wp2_with (go_at_call 191; refine (HI.out _ HS.out).mono ?_; rintro e w' ⟨rfl, rfl⟩)
 go_ret
 exact ⟨rfl, rfl⟩
mutual
def Vn : Ex → Bool
 | .mk k _ _ _ _ _ kids _ _ => !([4, 10, 15, 16].any fun y => decide (y = k)) && Hw kids
def Hw : List Ex → Bool
 | [] => true
 | e :: l => Vn e && Hw l
end
theorem M6 (l : List Ex) : Hw l = !(l.any fun e => !Vn e) := by
 induction l with
 | nil => rfl
 | cons e l ih => simp only [Hw, ih, List.any_cons, Bool.not_or, Bool.not_not]
def Hj (e : Ex) : Prop := ∀ (S : Nat → Prop) (cs : List Value) (w : World), Z5 S w cs e →
 Calls prog 127 #[.agg cs.toArray] w fun r w' => r = .returned (.bool (Vn e)) ∧ Below w.heap.size w w'
theorem Pt (S : Nat → Prop) (kids : List Ex) (ih : ∀ x ∈ kids, Hj x) (w : World) : Xt prog 160 #[] Yo S kids (fun e => !Vn e) w := by
 intro W x cs hb hx hr
 have HI := Qq (fun W' (h' : Below W.heap.size W W') => ih x hx S cs W' (Yo.frame hr (.of_below h')))
 obtain ⟨k, s1, n, s2, p1, n1, c1, p2, n2, c2, p3, n3, c3, a, z, hcs⟩ := Z5.cells (show Z5 S W cs x from hr)
 subst hcs
 show Calls prog 160 #[.agg #[.int .i64 k, .string s1, .int .i64 n, .string s2, .slice p1 n1 c1, .slice p2 n2 c2, .slice p3 n3 c3, .int .i64 a, .int .i64 z]] W (fun e w' => e = .returned (.bool (!Vn x)) ∧ Below W.heap.size W w')
 generalize Vn x = b at HI ⊢
 clear hb hx hr ih
 go_enter func160, ntmps160
 go_wp2_with (go_at_call 127; refine (HI.out _ (Qo _ _)).mono ?_; rintro e w' ⟨rfl, hw⟩)
 go_ret
 exact ⟨rfl, (Qo _ _).thn hw⟩
theorem sl_ints4 (w : World) (a b c d : Int) (g : Nat) (E : TypeId) (h : w.heap[g]? = some (.cells #[.int .i64 a, .int .i64 b, .int .i64 c, .int .i64 d] E (0, 0))) : Sl Jb (fun _ => True) w (.slice (some ⟨g, 0, none⟩) 4 4) [a, b, c, d] := by
 refine Sl.of_css (r := Jb) (xs := [a, b, c, d]) (css := [[.int .i64 a], [.int .i64 b], [.int .i64 c], [.int .i64 d]]) (by simp) ?_ trivial (Qf h) (fun j u hu => ?_)
 ·exact (Cs.one (r := Jb) rfl).app ((Cs.one (r := Jb) rfl).app ((Cs.one (r := Jb) rfl).app (Cs.one (r := Jb) rfl)))
 rw [Nat.zero_add, Qk _ _ _ _ _ _ h]
 simpa using hu
theorem Pb (k : Int) (nm : Bs) (n : Int) (s : Bs) (names binds : List Bs) (kids : List Ex) (a z : Int) (ih : ∀ x ∈ kids, Hj x) : Hj (.mk k nm n s names binds kids a z) := by
 intro S cs w h
 obtain ⟨nv, bv, kv, rfl, hm, hs, hn, hb, hk⟩ := Zd.1 h
 obtain ⟨np, nc, rfl, _⟩ := hn.len
 obtain ⟨bp, bc, rfl, _⟩ := hb.len
 obtain ⟨kp, kc, rfl, hkl⟩ := hk.len
 have HC := Qq (fun W (hb : Below w.heap.size w W) => conFn Tryz.cfExpr Yo isAgg35 sizeOf35 160 #[] (enters_of func160 (by kernel_rfl) rfl) S (.slice kp kids.length kc) kids W (fun e => !Vn e) (hk.below hb) (Pt S kids ih W))
 have HI := Qq (fun W g (h : W.heap[g]? = some (.cells #[.int .i64 4, .int .i64 10, .int .i64 15, .int .i64 16] 3 (0, 0))) => Mf _ (.slice (some ⟨g, 0, none⟩) 4 4) [4, 10, 15, 16] k W (sl_ints4 W 4 10 15 16 g _ h))
 have hF : Vn (.mk k nm n s names binds kids a z) = (!([4, 10, 15, 16].any fun y => decide (y = k)) && !(kids.any fun e => !Vn e)) := by rw [Vn, M6]
 rw [hF]
 obtain ⟨q, hq⟩ := eX (([4, 10, 15, 16].any fun y => decide (y = k)))
 obtain ⟨q2, hq2⟩ := eX ((kids.any fun e => !Vn e))
 rw [hq] at HI
 rw [hq2] at HC
 rw [hq, hq2]
 clear hF hq hq2 h hn hb hk ih
 unfold sv
 cases q
 ·rw [Bool.not_false, Bool.true_and]
  go_enter func127, ntmps127
  go_wp2_with fail
  refine (HI.out _ (w.heap.size + 1) (Q6 _ _ _)).mono ?_
  rintro e w1 ⟨rfl, rfl⟩
  go_wp2_with (go_at_call 159; refine (HC.out _ (Zv _ _ _)).mono ?_; rintro e w' ⟨rfl, hw⟩)
  go_ret
  exact ⟨rfl, (Zv _ _ _).thn hw⟩
 go_enter func127, ntmps127
 go_wp2_with fail
 refine (HI.out _ (w.heap.size + 1) (Q6 _ _ _)).mono ?_
 rintro e w1 ⟨rfl, rfl⟩
 go_wp2_with fail
 go_ret
 exact ⟨rfl, Zv _ _ _⟩
theorem simpAt : ∀ x : Ex, Hj x
 | .mk k nm n s names binds kids a z => Pb k nm n s names binds kids a z fun x _ => simpAt x
termination_by x => SizeOf.sizeOf x
decreasing_by
 have := List.sizeOf_lt_of_mem ‹_ ∈ kids›
 simp only [Ex.mk.sizeOf_spec]
 omega
def Xy (n m : Int) : Int := (if n < 0 then -(n + 1) else n) % m
theorem Dh (n m : Int) (hm : 0 < m) : 0 ≤ Xy n m ∧ Xy n m < m := by
 unfold Xy; exact ⟨Int.emod_nonneg _ (by omega), Int.emod_lt_of_pos _ hm⟩
theorem ret_intE {k : IntKind} {a b : Int} (h : a = b) : Ending.returned (.int k a) = .returned (.int k b) := by rw [h]
theorem Gk (n m : Int) (w : World) (hn1 : -9223372036854775808 ≤ n) (hn2 : n ≤ 9223372036854775807) (hm : 1 ≤ m) (hm2 : m ≤ 9223372036854775807) :
  Calls prog 19 #[.int .i64 n, .int .i64 m] w fun e w' => e = .returned (.int .i64 (Xy n m)) ∧ w = w' := by
 have hz : (m == 0) = false := by simpa using (by omega : ¬ m = 0)
 by_cases h : n < 0
 ·have hr : Xy n m = (-(n + 1)) % m := by unfold Xy; rw [if_pos h]
  rw [hr]
  clear hr
  have h1 : 0 ≤ -(n + 1) := by omega
  go_enter func19, ntmps19
  go_wp2
  go_ret
  exact ⟨ret_intE (by rw [← Int.neg_tmod, Int.tmod_eq_emod_of_nonneg h1]), rfl⟩
 have hr : Xy n m = n % m := by unfold Xy; rw [if_neg h]
 rw [hr]
 clear hr
 go_enter func19, ntmps19
 go_wp2
 go_ret
 exact ⟨rfl, rfl⟩
def Gf (n m : Int) : Int := Xy n (2 * m + 1) - m
theorem Dj (n m : Int) (w : World) (hn1 : -9223372036854775808 ≤ n) (hn2 : n ≤ 9223372036854775807) (hm : 0 ≤ m) (hm2 : m ≤ 1000000000) :
  Calls prog 11 #[.int .i64 n, .int .i64 m] w fun e w' => e = .returned (.int .i64 (Gf n m)) ∧ w = w' := by
 have HA := Qq (fun W => Gk n (2 * m + 1) W hn1 hn2 (by omega) (by omega))
 have hr := Dh n (2 * m + 1) (by omega)
 unfold Gf
 generalize Xy n (2 * m + 1) = r at HA hr ⊢
 go_enter func11, ntmps11
 go_wp2_with (go_at_call 19; refine (HA.out _).mono ?_; rintro e w' ⟨rfl, rfl⟩)
 go_ret
 exact ⟨rfl, rfl⟩
def Zo (l : List Int) (i : Nat) (m : Int) : Int := match l[i]? with
 | some n => Xy n m
 | none => 0
def Vw (l : List Int) : Prop := ∀ n ∈ l, -9223372036854775808 ≤ n ∧ n ≤ 9223372036854775807
def Gx (w : World) (x : Val) (e : Ending) (w' : World) : Prop := ∃ cs, e = .returned (.agg cs.toArray) ∧ Qh (fun b => w.heap.size ≤ b) w' cs x ∧ Below w.heap.size w w'
theorem Z4 {T : Type} {r : Rd T} {S : Nat → Prop} {w : World} {b n : Nat} {E : TypeId} {cells : Array Value} {xs : List T} {css : List (List Value)} (hb : w.heap[b]? = some (.cells cells E (0, 0))) (hS : S b) (hcs : Cs r S w css xs) (hc : css.flatten = cells.toList) (hn : n = xs.length) (hl : xs.length ≤ 1000000) : Sl r S w (.slice (some ⟨b, 0, none⟩) n n) xs := by
 subst hn
 refine Sl.of_css hl hcs hS (Array.getElem?_eq_some_iff.1 hb).1 (fun j u hu => ?_)
 rw [Nat.zero_add, Qk _ _ _ _ _ _ hb]
 rw [hc] at hu
 simpa using hu
theorem Vg (S : Nat → Prop) (w : World) (n : Int) : Qh S w [.int .i64 0, .int .i64 n, .string ⟨#[]⟩, .slice none 0 0, .slice none 0 0] (Ys n) := Zn (s := []) (by simp) (Sl.nil _ _ _) (Sl.nil _ _ _)
theorem Gd (S : Nat → Prop) (w : World) (a b : Bs) (ha : a.length ≤ 1000000) (hb : b.length ≤ 1000000) : Cs Qp S w [[.string ⟨a.toArray⟩], [.string ⟨b.toArray⟩]] [a, b] :=
 (Cs.one (r := Qp) (x := a) (show Qp.R S w [.string ⟨a.toArray⟩] a from ⟨rfl, ha⟩)).app (Cs.one (r := Qp) (x := b) (show Qp.R S w [.string ⟨b.toArray⟩] b from ⟨rfl, hb⟩))
theorem Kq (a b : Bs) (x y : Int) (w : World) (ha : a.length ≤ 1000000) (hb : b.length ≤ 1000000) :
  Calls prog 50 #[sv a, .int .i64 x, sv b, .int .i64 y] w (Gx w (Vu [a, b] [Ys x, Ys y])) := by
 unfold sv
 go_enter func50, ntmps50
 go_wp2_with fail
 generalize hW : ((w.alloc _).alloc _).alloc _ = W
 have h0 := eqH (b := w.heap.size) hW (Zb _ _ _ _)
 have h1 := eqH (b := w.heap.size + 1) hW (Z7 _ _ _ _)
 have h2 := eqH (b := w.heap.size + 1 + 1) hW (Zw _ _ _ _)
 have hb3 := eqB hW (Xl _ _ _ _)
 refine Q7 (v := .agg #[.int .i64 4, .int .i64 0, .string ⟨#[]⟩, .slice (some ⟨w.heap.size + 1, 0, none⟩) 2 2, .slice (some ⟨w.heap.size + 1 + 1, 0, none⟩) 2 2]) (by simp [results, results50, go_sem, Qk _ _ _ _ _ _ h0]) rfl ⟨[.int .i64 4, .int .i64 0, .string ⟨#[]⟩, .slice (some ⟨w.heap.size + 1, 0, none⟩) 2 2, .slice (some ⟨w.heap.size + 1 + 1, 0, none⟩) 2 2], rfl, ?_, hb3⟩
 refine Zn (s := []) (by simp) ?_ ?_
 ·exact Z4 h1 (by show w.heap.size ≤ w.heap.size + 1; omega) (Gd _ _ a b ha hb) rfl rfl (by simp)
 exact Z4 h2 (by show w.heap.size ≤ w.heap.size + 1 + 1; omega) ((Cs.one (r := Ql) (Vg _ W x)).app (Cs.one (r := Ql) (Vg _ W y))) rfl rfl (by simp)
end Go.Proofs.YtppbaladeefnkaaGreatDoor

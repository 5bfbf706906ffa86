import Derived.Test.YthkkmklnapkgaaaGreatDoorQ41
/- slices.Insert at the end of a row of the call's own; rows.Insert of a row that is greater than all others. -/
namespace Go.Proofs.YthkkmklnapkgaaaGreatDoor
open Go.RowKit Go.Shelf Go.Lib

def InsIs (S : Nat → Prop) (B : Nat) (w : World) (v : Value) (xs : List Val) (e : Ending) (w' : World) : Prop :=
  ∃ p cap css, e = .returned (.slice p xs.length cap) ∧ Own valRd 34 S B w' (.slice p xs.length cap) xs css ∧ w.grownBy w' v.ownBlock ∧ ((Value.slice p xs.length cap).ownBlock = v.ownBlock ∨ (Value.slice p xs.length cap).ownBlock = some w.heap.size)

set_option maxRecDepth 100000 in
set_option maxHeartbeats 2000000 in
theorem insEnd (S : Nat → Prop) (B : Nat) (w : World) (v : Value) (xs : List Val) (css : List (List Value)) (y : Val) (q : Option Addr) (c : Nat) (hO : Own valRd 34 S B w v xs css) (hY : Sl valRd (But S v) w (.slice q 1 c) [y]) (hl : xs.length ≤ 100000) (hB : B ≤ w.heap.size) :
    Calls Tryz.prog 65 #[v, .int .i64 xs.length, .slice q 1 c] w (InsIs S B w v (xs ++ [y])) := by
  obtain ⟨i0, j1, j2, j3, j4⟩ := info_of (P := Tryz.prog) (t := 34) (z := .agg #[.int .i64 0, .int .i64 0, .string ⟨#[]⟩, .slice none 0 0, .slice none 0 0]) (n := 5) (b := 80) (by kernel_rfl)
  have HJ := Lib.hid j1; have HJ2 := Lib.hid j2; have HJ3 := Lib.hid j3; have HJ4 := Lib.hid j4
  obtain ⟨qb, qo, _, rfl, _, _, _, _, _⟩ := hY.elem (i := 0) (x := y) rfl
  have hend : ∀ p7 cap7 css7 w7, Own valRd 34 S B w7 (.slice p7 (xs.length + 1) cap7) (xs ++ [y]) css7 → w.grownBy w7 v.ownBlock → ((Value.slice p7 (xs.length + 1) cap7).ownBlock = v.ownBlock ∨ (Value.slice p7 (xs.length + 1) cap7).ownBlock = some w.heap.size) → InsIs S B w v (xs ++ [y]) (.returned (.slice p7 (xs.length + 1) cap7)) w7 := by
    intro p7 cap7 css7 w7 h1 h2 h3
    refine ⟨p7, cap7, css7, by rw [List.length_append]; rfl, by rw [List.length_append]; exact h1, h2, by rw [List.length_append]; exact h3⟩
  rcases hO.row.2 with ⟨rfl, h0⟩ | ⟨g, cap, cur, rfl, hgB, _, hcc, hcm, hnc, _⟩
  · have h0' : xs = [] := List.eq_nil_of_length_eq_zero h0
    have HO := Lib.hid hO; have HY := Lib.hid hY; have HE := Lib.hid hend
    clear hO hY j1 j2 j3 j4 h0 hend
    subst h0'
    show Calls _ _ #[.slice none 0 0, .int .i64 0, .slice (some ⟨qb, qo, none⟩) 1 c] _ _
    go_enter Tryz.func65, Tryz.ntmps65
    go_wp2_with (at_builtin; refine wpList_cat (r := valRd) (by decide) rfl (.tmp 23) (.tmp 24) _ rfl 34 i0 (.agg #[.int .i64 0, .int .i64 0, .string ⟨#[]⟩, .slice none 0 0, .slice none 0 0]) 80 Tryz.underlying29 HJ.out HJ2.out HJ3.out HJ4.out rfl (by omega) S B w (.slice none 0 0) [] css [y] (some ⟨qb, qo, none⟩) 1 c rfl HO.out rfl HY.out rfl (by simp) val_one (by simp only [List.length_cons, List.length_nil]; omega) hB ?_; intro p7 cap7 css7 w7 hO7 hg7 hat7; have HO7 := Lib.hid hO7; have HG7 := Lib.hid hg7; have HA7 := Lib.hid hat7; clear hO7 hg7 hat7)
    go_ret
    exact HE.out p7 cap7 css7 w7 HO7.out HG7.out HA7.out
  · have HO := Lib.hid hO; have HY := Lib.hid hY; have HE := Lib.hid hend
    clear hO hY j1 j2 j3 j4 hnc hcm hend
    have hb1 : (xs.length : Int) ≤ (cap : Int) := by omega
    obtain ⟨n, hn⟩ : ∃ n, xs.length = n := ⟨_, rfl⟩
    rw [hn] at HO HY hl hcc hb1 ⊢
    have HN := Lib.hid hn
    have hl2 : xs.length ≤ 100000 := by omega
    clear hn
    have hi0 : (0 : Int) ≤ (n : Int) := by omega
    by_cases hcn : cap = n
    · subst hcn
      have hi1 : (cap : Int) ≤ (cap : Int) := by omega
      go_enter Tryz.func65, Tryz.ntmps65
      go_wp2_with (at_builtin; refine wpList_cat (r := valRd) (by decide) rfl (.tmp 23) (.tmp 24) _ rfl 34 i0 (.agg #[.int .i64 0, .int .i64 0, .string ⟨#[]⟩, .slice none 0 0, .slice none 0 0]) 80 Tryz.underlying29 HJ.out HJ2.out HJ3.out HJ4.out rfl (by omega) S B w (.slice (some ⟨g, 0, none⟩) cap cap) xs css [y] (some ⟨qb, qo, none⟩) 1 c rfl HO.out rfl HY.out rfl (by simp) val_one (by simp only [List.length_cons, List.length_nil]; omega) hB ?_; intro p7 cap7 css7 w7 hO7 hg7 hat7; have HO7 := Lib.hid hO7; have HG7 := Lib.hid hg7; have HA7 := Lib.hid hat7; clear hO7 hg7 hat7)
      go_ret
      exact HE.out p7 cap7 css7 w7 HO7.out HG7.out HA7.out
    · have hi1 : (n : Int) < (cap : Int) := by omega
      have hd : cap - n ≠ 0 := by omega
      go_enter Tryz.func65, Tryz.ntmps65
      go_wp2_with (at_builtin; refine wpList_cat (r := valRd) (by decide) rfl (.tmp 23) (.tmp 24) _ rfl 34 i0 (.agg #[.int .i64 0, .int .i64 0, .string ⟨#[]⟩, .slice none 0 0, .slice none 0 0]) 80 Tryz.underlying29 HJ.out HJ2.out HJ3.out HJ4.out rfl (by omega) S B w (.slice (some ⟨g, 0, none⟩) n cap) xs css [y] (some ⟨qb, qo, none⟩) 1 c rfl HO.out rfl HY.out rfl (by simp) val_one (by simp only [List.length_cons, List.length_nil]; omega) hB ?_; intro p7 cap7 css7 w7 hO7 hg7 hat7; have HO7 := Lib.hid hO7; have HG7 := Lib.hid hg7; have HA7 := Lib.hid hat7; clear hO7 hg7 hat7)
      go_ret
      exact HE.out p7 cap7 css7 w7 HO7.out HG7.out HA7.out

set_option maxRecDepth 100000 in
set_option maxHeartbeats 1000000 in
theorem ins1_any (R : Nat) (S : Nat → Prop) (x : Val) (cx : List Value) (rows : List Val) (w : World) (hcx : ∀ j u, cx[j]? = some u → w.cell? ⟨R, j, none⟩ = some u) (hRl : R < w.heap.size) (hx : IsVal S w cx x) :
    PredRd Tryz.prog 62 #[.pointer (some ⟨R, 0, none⟩)] valRd S rows (fun v => eqv v x) w := by
  intro W v cs hb hv hr
  have hxW := hx.move (.of_below hb) (fun _ _ h => h)
  have HC := Lib.hid (fun W' (h' : Below W.heap.size W W') => same_any S v x cs cx W' (IsVal.move (show IsVal S W cs v from hr) (.of_below h') (fun _ _ h => h)) (hxW.move (.of_below h') (fun _ _ h => h)))
  obtain ⟨p3, k3, p4, k4, hcs, _⟩ := IsVal.cells (show IsVal S W cs v from hr)
  obtain ⟨q3, l3, q4, l4, hcx', _⟩ := IsVal.cells hxW
  simp only [vcs] at hcs hcx'
  subst hcs; subst hcx'
  have d := fun j u hj => (hb.cell (p := ⟨R, j, none⟩) hRl).trans (hcx j u hj)
  have d0 := d 0 _ rfl
  have d1 := d 1 _ rfl
  have d2 := d 2 _ rfl
  have d3 := d 3 _ rfl
  have d4 := d 4 _ rfl
  have hRW : R < W.heap.size := World.block_lt_of_cell? W _ d0
  show Calls Tryz.prog 62 #[.agg #[.int .i64 v.kind, .int .i64 v.n, .string ⟨v.s.toArray⟩, .slice p3 v.names.length k3, .slice p4 v.kids.length k4], .pointer (some ⟨R, 0, none⟩)] W (fun e w' => e = .returned (.bool (eqv v x)) ∧ Below W.heap.size W w')
  generalize eqv v x = b at HC ⊢
  clear d hcx hb hv hr hx hxW
  go_enter Tryz.func62, Tryz.ntmps62
  go_wp2_with (go_at_call 63; refine (HC.out _ (bal1 _ _)).mono ?_; rintro e w' ⟨rfl, hw⟩)
  go_ret
  exact ⟨rfl, (bal1 _ _).thn hw⟩

set_option maxRecDepth 100000 in
set_option maxHeartbeats 1000000 in
theorem ins2_any (R : Nat) (S : Nat → Prop) (x : Val) (cx : List Value) (rows : List Val) (w : World) (hcx : ∀ j u, cx[j]? = some u → w.cell? ⟨R, j, none⟩ = some u) (hRl : R < w.heap.size) (hx : IsVal S w cx x) :
    PredRd Tryz.prog 64 #[.pointer (some ⟨R, 0, none⟩)] valRd S rows (fun v => decide (0 < cmpV v x)) w := by
  intro W v cs hb hv hr
  have hxW := hx.move (.of_below hb) (fun _ _ h => h)
  have HC := Lib.hid (fun W' (h' : Below W.heap.size W W') => cmp_any S v x cs cx W' (IsVal.move (show IsVal S W cs v from hr) (.of_below h') (fun _ _ h => h)) (hxW.move (.of_below h') (fun _ _ h => h)))
  obtain ⟨p3, k3, p4, k4, hcs, _⟩ := IsVal.cells (show IsVal S W cs v from hr)
  obtain ⟨q3, l3, q4, l4, hcx', _⟩ := IsVal.cells hxW
  simp only [vcs] at hcs hcx'
  subst hcs; subst hcx'
  have d := fun j u hj => (hb.cell (p := ⟨R, j, none⟩) hRl).trans (hcx j u hj)
  have d0 := d 0 _ rfl
  have d1 := d 1 _ rfl
  have d2 := d 2 _ rfl
  have d3 := d 3 _ rfl
  have d4 := d 4 _ rfl
  have hRW : R < W.heap.size := World.block_lt_of_cell? W _ d0
  show Calls Tryz.prog 64 #[.agg #[.int .i64 v.kind, .int .i64 v.n, .string ⟨v.s.toArray⟩, .slice p3 v.names.length k3, .slice p4 v.kids.length k4], .pointer (some ⟨R, 0, none⟩)] W (fun e w' => e = .returned (.bool (decide (0 < cmpV v x))) ∧ Below W.heap.size W w')
  generalize cmpV v x = b at HC ⊢
  clear d hcx hb hv hr hx hxW
  go_enter Tryz.func64, Tryz.ntmps64
  go_wp2_with (go_at_call 37; refine (HC.out _ (bal1 _ _)).mono ?_; rintro e w' ⟨rfl, hw⟩)
  go_ret
  exact ⟨rfl, (bal1 _ _).thn hw.bl⟩
end Go.Proofs.YthkkmklnapkgaaaGreatDoor

/- rows.Insert of a row that is greater than all others of its table. -/
namespace Go.Proofs.YthkkmklnapkgaaaGreatDoor
open Go.RowKit Go.Shelf Go.Lib

def StateIs (w : World) (l : List Rel) (e : Ending) (w' : World) : Prop := ∃ p cap, e = .returned (.slice p l.length cap) ∧ Sl relRd (fun _ => True) w' (.slice p l.length cap) l ∧ Below w.heap.size w w'

set_option maxRecDepth 100000 in
set_option maxHeartbeats 2000000 in
theorem insert_end (S0 S1 : Nat → Prop) (lv : Value) (l : List Rel) (tn : Bs) (x : Val) (cx : List Value) (w : World) (i : Nat) (o : Rel) (hl0 : Sl relRd S0 w lv l) (hx0 : IsVal S1 w cx x) (hf : l.findIdx? (fun r => decide (r.table = tn)) = some i) (ho : l[i]? = some o)
    (hne : ∀ y ∈ o.rows, eqv y x = false) (hgr : ∀ y ∈ o.rows, decide (0 < cmpV y x) = false) (hrl : ∀ r ∈ l, r.rows.length ≤ 10000) :
    Calls Tryz.prog 30 #[lv, sv tn, .agg cx.toArray] w (StateIs w (l.set i ⟨o.table, o.rows ++ [x]⟩)) := by
  have hx : IsVal (fun b => b < w.heap.size) w cx x := hx0.move (.refl _ _) (fun b hb _ => hb)
  have HCo := Lib.hid (fun W (hb : Below w.heap.size w W) => copied_any S0 lv l W (hl0.below hb))
  have hix : idxP (fun r => decide (r.table = tn)) l = i := by unfold idxP; rw [hf]
  have HIx := Lib.hid (fun v W (hs : Sl relRd (fun _ => True) W v l) => index_any _ v l tn W hs)
  rw [hix] at HIx
  have hin : i < l.length := (List.getElem?_eq_some_iff.1 ho).1
  have hll : l.length ≤ 1000000 := by obtain ⟨_, _, _, h⟩ := hl0.len; exact h
  obtain ⟨lp, lc, rfl, _⟩ := hl0.len
  have HX := Lib.hid hx; have HO := Lib.hid ho; have HRL := Lib.hid hrl
  have hor := hrl o (List.mem_of_getElem? ho)
  have hany : o.rows.any (fun v => eqv v x) = false := by rw [List.any_eq_false]; intro y hy; rw [hne y hy]; decide
  have hidx : idxP (fun v => decide (0 < cmpV v x)) o.rows = -1 := idxP_miss (fun j y hy => hgr y (List.mem_of_getElem? hy))
  obtain ⟨x3, x3c, x4, x4c, hcs, _⟩ := IsVal.cells hx
  simp only [vcs] at hcs
  have HB := Lib.hid (fun v W (hb : Below w.heap.size w W) (hs : Sl valRd (fun _ => True) W v o.rows) (hc : ∀ j u, cx[j]? = some u → W.cell? ⟨w.heap.size, j, none⟩ = some u) (hR : w.heap.size < W.heap.size) => conFn Tryz.cfVal valRd Tryz.isAgg34 Tryz.sizeOf34 62 #[.pointer (some ⟨w.heap.size, 0, none⟩)] (enters_of Tryz.func62 (by kernel_rfl) rfl) (fun _ => True) v o.rows W _ hs
    (ins1_any w.heap.size (fun _ => True) x cx o.rows W hc hR (hx.move (.of_below hb) (fun _ _ _ => trivial))))
  have HI := Lib.hid (fun v W (hb : Below w.heap.size w W) (hs : Sl valRd (fun _ => True) W v o.rows) (hc : ∀ j u, cx[j]? = some u → W.cell? ⟨w.heap.size, j, none⟩ = some u) (hR : w.heap.size < W.heap.size) => idxFn Tryz.ixVal valRd Tryz.isAgg34 Tryz.sizeOf34 64 #[.pointer (some ⟨w.heap.size, 0, none⟩)] (enters_of Tryz.func64 (by kernel_rfl) rfl) (fun _ => True) v o.rows W _ hs
    (ins2_any w.heap.size (fun _ => True) x cx o.rows W hc hR (hx.move (.of_below hb) (fun _ _ _ => trivial))))
  rw [hany] at HB
  rw [hidx] at HI
  subst hcs
  clear hx hx0 hl0 hf hix hne hgr hrl hany hidx ho
  unfold sv at HIx ⊢
  obtain ⟨n, hn⟩ : ∃ n, l.length = n := ⟨_, rfl⟩
  unfold CopiedIs at HCo
  rw [hn] at HCo hin hll ⊢
  have HN := Lib.hid hn
  clear hn
  have hi3 : (0 : Int) ≤ (i : Int) := by omega
  have hi4 : (i : Int) < (n : Int) := by omega
  have hi5 : decide ((i : Int) < 0) = false := by simp
  go_enter Tryz.func30, Tryz.ntmps30
  go_wp2_with fail
  obtain ⟨W1, hW1⟩ : ∃ W1, w.alloc (.cells #[.int .i64 x.kind, .int .i64 x.n, .string ⟨x.s.toArray⟩, .slice x3 x.names.length x3c, .slice x4 x.kids.length x4c] 34) = W1 := ⟨_, rfl⟩
  have hb1 : Below w.heap.size w W1 := by rw [← hW1]; exact bal1 _ _
  have hX1 : W1.heap[w.heap.size]? = some (.cells #[.int .i64 x.kind, .int .i64 x.n, .string ⟨x.s.toArray⟩, .slice x3 x.names.length x3c, .slice x4 x.kids.length x4c] 34 (0, 0)) := by rw [← hW1]; exact heap_alloc_new _ _
  have HB1 := Lib.hid hb1; have HX1 := Lib.hid hX1
  rw [hW1]
  have hcp := HCo.out W1 hb1
  clear hW1 hb1 hX1
  refine hcp.mono ?_
  rintro e w2 ⟨p, cap, rvs, rfl, hSt2, hb2⟩
  obtain ⟨g, cap', hv, hgB, hgs⟩ := hSt2.row.form (by rw [HN.out]; omega)
  simp only [Value.slice.injEq] at hv
  obtain ⟨rfl, -, rfl⟩ := hv
  obtain ⟨rvi, hrvi⟩ : ∃ rvi, rvs[i]? = some rvi := ⟨_, List.getElem?_eq_getElem (by rw [hSt2.len, HN.out]; exact hin)⟩
  obtain ⟨css, hOwn⟩ := hSt2.rows i o rvi HO.out hrvi
  obtain ⟨rpi, rci, rfl⟩ := hOwn.form
  have HSt2 := Lib.hid hSt2; have HB2 := Lib.hid hb2; have HRvi := Lib.hid hrvi
  have HIx2 := Lib.hid (HIx.out _ w2 (hSt2.sl (by rw [HN.out]; omega) (fun r hr => by have := HRL.out r hr; omega) _ (fun _ _ => trivial) (fun _ _ _ => trivial)))
  clear hSt2 hb2 hOwn hrvi hcp HCo HIx
  go_wp2_with fail
  refine HIx2.out.mono ?_
  rintro e w3 ⟨rfl, hb3⟩
  have hSt3 := HSt2.out.below hb3
  have hX3 := (hb3.block _ (World.block_lt_some ((HB2.out.block _ (World.block_lt_some HX1.out)).trans HX1.out))).trans ((HB2.out.block _ (World.block_lt_some HX1.out)).trans HX1.out)
  obtain ⟨cur, hcur, -, hci⟩ := hSt3.at HO.out HRvi.out
  have c1 := cell_of_row _ _ (i * 2 + 1) _ _ _ hcur
  rw [hci] at c1
  obtain ⟨css, hOwn⟩ := hSt3.rows i o _ HO.out HRvi.out
  have HBw3 := Lib.hid (HB1.out.trans ((HB2.out.thn hb3).mono HB1.out.size))
  have HBf := Lib.hid (HB.out _ w3 HBw3.out (hOwn.sl (by omega) (fun _ _ => trivial) (fun _ _ _ => trivial)) (fun j u hu => by rw [cell_of_row _ _ j _ _ _ hX3]; simpa using hu) (World.block_lt_some hX3))
  have HSt3 := Lib.hid hSt3; have HX3 := Lib.hid hX3
  clear hSt3 hX3 hcur hci hOwn hb3 cur HB
  go_wp2_with fail
  refine HBf.out.mono ?_
  rintro e w4 ⟨rfl, hb4⟩
  have hSt4 := HSt3.out.below hb4
  have hX4 := (hb4.block _ (World.block_lt_some HX3.out)).trans HX3.out
  obtain ⟨cur, hcur, -, hci⟩ := hSt4.at HO.out HRvi.out
  have c4 := cell_of_row _ _ (i * 2 + 1) _ _ _ hcur
  rw [hci] at c4
  obtain ⟨css, hOwn⟩ := hSt4.rows i o _ HO.out HRvi.out
  have HBw4 := Lib.hid (HBw3.out.thn hb4)
  have HIf := Lib.hid (HI.out _ w4 HBw4.out (hOwn.sl (by omega) (fun _ _ => trivial) (fun _ _ _ => trivial)) (fun j u hu => by rw [cell_of_row _ _ j _ _ _ hX4]; simpa using hu) (World.block_lt_some hX4))
  have HSt4 := Lib.hid hSt4; have HX4 := Lib.hid hX4
  clear hSt4 hX4 hcur hci hOwn hb4 cur HI c1
  go_wp2_with fail
  refine HIf.out.mono ?_
  rintro e w5 ⟨rfl, hb5⟩
  have hSt5 := HSt4.out.below hb5
  have hX5 := (hb5.block _ (World.block_lt_some HX4.out)).trans HX4.out
  obtain ⟨cur, hcur, -, hci⟩ := hSt5.at HO.out HRvi.out
  have c5 := cell_of_row _ _ (i * 2 + 1) _ _ _ hcur
  rw [hci] at c5
  have x0 := cell_of_row _ _ 0 _ _ _ hX5; have x1 := cell_of_row _ _ 1 _ _ _ hX5; have x2 := cell_of_row _ _ 2 _ _ _ hX5; have x3' := cell_of_row _ _ 3 _ _ _ hX5; have x4' := cell_of_row _ _ 4 _ _ _ hX5
  simp only [List.getElem?_toArray, List.getElem?_cons_zero, List.getElem?_cons_succ] at x0 x1 x2 x3' x4'
  obtain ⟨css, hOwn⟩ := hSt5.rows i o _ HO.out HRvi.out
  have HBw5 := Lib.hid (HBw4.out.thn hb5)
  have hg5 := World.block_lt_some hcur
  have hR5 := World.block_lt_some hX5
  have hne1 : g ≠ w5.heap.size := by omega
  have hne2 : w.heap.size ≠ w5.heap.size := by omega
  have hne6 : some g ≠ (Value.slice rpi o.rows.length rci).ownBlock := fun e => rows_apart hSt5.row hOwn.row (by decide) rfl e.symm
  have HSt5 := Lib.hid hSt5; have HOwn := Lib.hid hOwn; have HCur := Lib.hid hcur; have HCi := Lib.hid hci
  have hxv : IsVal (But (Free (.slice (some ⟨g, 0, none⟩) n cap) rvs) (.slice rpi o.rows.length rci)) w5 [.int .i64 x.kind, .int .i64 x.n, .string ⟨x.s.toArray⟩, .slice x3 x.names.length x3c, .slice x4 x.kids.length x4c] x := by
    refine HX.out.move (.of_below HBw5.out) (fun b _ hb => ?_)
    have hb' : b < w.heap.size := hb
    have hB0 := HB1.out.size
    refine ⟨⟨fun e => ?_, fun u hu e => ?_⟩, fun e => ?_⟩
    · have : g = b := Option.some.inj e
      omega
    · obtain ⟨j, hj⟩ := List.getElem?_of_mem hu
      obtain ⟨y, hy⟩ : ∃ y, l[j]? = some y := ⟨_, List.getElem?_eq_getElem (by rw [← HSt5.out.len]; exact (List.getElem?_eq_some_iff.1 hj).1)⟩
      obtain ⟨_, ho2⟩ := HSt5.out.rows j y u hy hj
      have := (ho2.row.lt b e).1
      omega
    · have := (HOwn.out.row.lt b e.symm).1
      omega
  have HXV := Lib.hid hxv
  clear hSt5 hX5 hcur hci hOwn hb5 hxv c4
  obtain ⟨W8, hW8⟩ : ∃ W8, (w5.alloc (.cells #[.int .i64 x.kind, .int .i64 x.n, .string ⟨x.s.toArray⟩, .slice x3 x.names.length x3c, .slice x4 x.kids.length x4c] 34)).drew = W8 := ⟨_, rfl⟩
  have hb8 : Below w5.heap.size w5 W8 := by rw [← hW8]; exact (bal1 _ _).drew
  have hX8 : W8.heap[w5.heap.size]? = some (.cells #[.int .i64 x.kind, .int .i64 x.n, .string ⟨x.s.toArray⟩, .slice x3 x.names.length x3c, .slice x4 x.kids.length x4c] 34 (0, 0)) := by rw [← hW8, heap_drew]; exact heap_alloc_new _ _
  have hsz8 : W8.heap.size = w5.heap.size + 1 := by rw [← hW8]; simp
  have hY8 : Sl valRd (But (Free (.slice (some ⟨g, 0, none⟩) n cap) rvs) (.slice rpi o.rows.length rci)) W8 (.slice (some ⟨w5.heap.size, 0, none⟩) 1 1) [x] := by
    refine ⟨_, 1, rfl, by simp, fun _ => ⟨w5.heap.size, 0, rfl, ?_, World.block_lt_some hX8, fun j u hj => ?_⟩⟩
    · refine ⟨⟨fun e => ?_, fun u hu e => ?_⟩, fun e => ?_⟩
      · exact hne1 (Option.some.inj e)
      · obtain ⟨j, hj⟩ := List.getElem?_of_mem hu
        obtain ⟨y, hy⟩ : ∃ y, l[j]? = some y := ⟨_, List.getElem?_eq_getElem (by rw [← HSt5.out.len]; exact (List.getElem?_eq_some_iff.1 hj).1)⟩
        obtain ⟨_, ho2⟩ := HSt5.out.rows j y u hy hj
        have := (ho2.row.lt _ e).2
        omega
      · have := (HOwn.out.row.lt _ e.symm).2
        omega
    · have h0 := (List.getElem?_eq_some_iff.1 hj).1
      simp at h0
      subst h0
      simp at hj
      subst hj
      refine ⟨_, fun j u hu => ?_, HXV.out.move (.of_below hb8) (fun _ _ h => h)⟩
      rw [Nat.zero_mul, Nat.zero_add, cell_of_row _ _ j _ _ _ hX8]
      simpa using hu
  have HIns := Lib.hid (insEnd _ W1.heap.size W8 (.slice rpi o.rows.length rci) o.rows css x (some ⟨w5.heap.size, 0, none⟩) 1 (HOwn.out.below hb8) hY8 (by omega) (by omega))
  have HHc := Lib.hid (fun (w6 : World) (hg : W8.grownBy w6 (Value.slice rpi o.rows.length rci).ownBlock) => (hg.block g (by omega) hne6).trans ((hb8.block g hg5).trans HCur.out))
  have c8 := (hb8.cell (p := ⟨g, i * 2 + 1, none⟩) hg5).trans c5
  have HB8 := Lib.hid hb8; have HSz8 := Lib.hid hsz8
  have HW8 := Lib.hid hW8
  clear hY8 hX8 hb8 hsz8
  go_wp2_with fail
  go_region_with (first | (go_at_call 65; refine HIns.out.mono ?_; rintro e w6 ⟨p6, c6, css6, rfl, hO6, hg6, ha6⟩; have hc6 := HHc.out w6 hg6; have f6 := frozen_of_row _ _ (i * 2 + 1) _ _ hc6; have k6 := cell_of_row _ _ (i * 2 + 1) _ _ _ hc6; rw [HCi.out] at k6; have HO6 := Lib.hid hO6; have HG6 := Lib.hid hg6; have HA6 := Lib.hid ha6; clear hc6 hO6 hg6 ha6))
  all_goals
    go_wp2_with fail
    go_ret
    have hO6 := HO6.out; have hA6 := HA6.out
    simp only [List.length_append, List.length_cons, List.length_nil, Nat.zero_add] at hO6 hA6
    have hP := (HSt5.out.below HB8.out).put' HN.out HO.out HRvi.out ⟨css6, hO6⟩ HG6.out (by
      rcases hA6 with h | h
      · exact .inl h
      · exact .inr fun g' e => by rw [h] at e; exact Nat.le_of_eq (Option.some.inj e))
    have hlen : (l.set i ⟨o.table, o.rows ++ [x]⟩).length = n := by rw [List.length_set]; exact HN.out
    have hrw : ∀ r ∈ l.set i ⟨o.table, o.rows ++ [x]⟩, r.rows.length ≤ 1000000 := by
      intro r hr
      rcases List.mem_or_eq_of_mem_set hr with h | rfl
      · have := HRL.out r h; omega
      · simp; omega
    refine ⟨some ⟨g, 0, none⟩, cap, by rw [hlen]; rfl, by rw [hlen]; exact hP.sl (by rw [hlen]; exact hll) hrw _ (fun _ _ => trivial) (fun _ _ _ => trivial), ?_⟩
    have hbw := HBw5.out.thn HB8.out
    have hB1 := HB1.out.size
    refine (hbw.grown HG6.out hbw.size (fun b hb => ?_)).setCell (p := ⟨g, i * 2 + 1, none⟩) (by show w.heap.size ≤ g; omega) _
    have := (HOwn.out.row.lt b hb).1
    omega
end Go.Proofs.YthkkmklnapkgaaaGreatDoor

import Derived.Test.YthkkmklnapkgaaaGreatDoorQ35
import Derived.Test.YthkkmklnapkgaaaGreatDoorQ38
import Derived.Test.YthkkmklnapkgaaaGreatDoorQ21
import Derived.WalkSpells
import Derived.WalkLawsBesides
/- Many rows: the plain law. -/
namespace Go.Proofs.YthkkmklnapkgaaaGreatDoor
open Go.RowKit Go.Shelf Go.Lib

namespace Many
def row (b : Int) (i : Nat) : Val := vRec [[107], [110]] [vInt (b + i), vText []]
def rows (b : Int) (n : Nat) : List Val := (List.range n).map (row b)
def tbT : Tbl := ⟨[116], [⟨[97], Gen.whole⟩, ⟨[98], Gen.whole⟩, ⟨[99], Gen.text⟩, ⟨[100], Gen.yesno⟩, ⟨[101], Gen.hueT⟩], [[97]], [], Gen.yes⟩
def tbU : Tbl := ⟨[117], [⟨[107], Gen.whole⟩, ⟨[110], Gen.text⟩], [[107]], [], Gen.yes⟩
def sc : Sc := Gen.schema 0 false false false
theorem sc_tables : sc.tables = [tbT, tbU] := rfl
def st (b : Int) (n : Nat) : List Rel := [⟨[116], []⟩, ⟨[117], rows b n⟩]

theorem rows_len (b : Int) (n : Nat) : (rows b n).length = n := by unfold rows; rw [List.length_map, List.length_range]
theorem rows_at {b : Int} {n i : Nat} {x : Val} (h : (rows b n)[i]? = some x) : i < n ∧ x = row b i := by
  unfold rows at h
  rw [List.getElem?_map] at h
  by_cases hi : i < n
  · rw [List.getElem?_range hi] at h
    cases h
    exact ⟨hi, rfl⟩
  · rw [List.getElem?_eq_none (by rw [List.length_range]; omega)] at h
    cases h
theorem rows_mem {b : Int} {n : Nat} {x : Val} (h : x ∈ rows b n) : ∃ i, i < n ∧ x = row b i := by
  obtain ⟨i, hi⟩ := List.getElem?_of_mem h
  exact ⟨i, rows_at hi⟩
theorem rows_snoc (b : Int) (n : Nat) : rows b (n + 1) = rows b n ++ [row b n] := by
  unfold rows; rw [List.range_succ, List.map_append]; rfl
theorem cmp_row (b : Int) (i j : Nat) (h : i < j) : cmpV (row b i) (row b j) < 0 := by
  have ho : ord (b + i) (b + j) = -1 := by unfold ord; rw [if_pos (by omega)]
  have : cmpV (row b i) (row b j) = -1 := by
    simp [row, vRec, vInt, vText, cmpV, cmpVs, cmpN, cmpB, ord_self, thn, ho]
  omega
theorem inc (b : Int) (n : Nat) : incV (rows b n) = true := by
  rw [incV_iff]
  intro j x y hx hy
  rw [(rows_at hx).2, (rows_at hy).2]
  exact cmp_row b j (j + 1) (Nat.lt_succ_self j)
theorem okT : TblOk tbT [] (fun _ => true) (fun _ => true) K1 where
  srt := srt_pw (by decide)
  few := by decide
  some := by decide
  typed := by intro x hx; cases hx
  keys := ⟨fun r hr => (List.not_mem_nil hr).elim, fun r hr => (List.not_mem_nil hr).elim, fun r hr => (List.not_mem_nil hr).elim⟩
  many := by decide
  key := by decide
  simple := by decide
  check := by intro x hx; cases hx
theorem okU (b : Int) (n : Nat) (hb1 : -100000 ≤ b) (hb2 : b ≤ 100000) (hn : n ≤ 1000) : TblOk tbU (rows b n) (fun _ => true) (fun _ => true) K1 where
  srt := srt_pw (by decide)
  few := by decide
  some := by decide
  typed := by
    intro x hx
    obtain ⟨i, hi, rfl⟩ := rows_mem hx
    refine ⟨.record _ _ rfl ?_ ?_ ?_, ?_⟩
    · intro y hy
      simp at hy
      rcases hy with rfl | rfl
      · exact Law.wordK
      · exact Law.wordN
    · intro i a b ha hb
      match i, ha, hb with
      | 0, ha, hb => simp at ha hb; subst ha; subst hb; decide
      | i + 1, ha, hb => simp at hb
    · intro k hk
      simp at hk
      rcases hk with rfl | rfl
      · exact .int _
      · exact .text _
    · have := hasRec (row b i) [] [[107], [110]] [Gen.whole, Gen.text] (fun x y => x.kind == tyK y) (fun x _ y hy => has_leafs x y (by
        simp at hy; rcases hy with rfl | rfl
        · exact .inl rfl
        · exact .inr (.inl rfl)))
      exact this
  keys := ⟨fun r hr => by obtain ⟨i, hi, rfl⟩ := rows_mem hr; rfl, fun r hr x hx => by
    obtain ⟨i, hi, rfl⟩ := rows_mem hr
    simp [K1, row, vRec, Val.kids, vInt, Val.n] at hx
    subst hx; omega, fun r hr => by obtain ⟨i, hi, rfl⟩ := rows_mem hr; exact (by decide : 1 ≤ 3)⟩
  many := by rw [rows_len]; omega
  key := by decide
  simple := by decide
  check := by
    intro x hx
    obtain ⟨i, hi, rfl⟩ := rows_mem hx
    exact ⟨ev_bool [] 1 [] [] [] [] 0 0 _, Nat.le_refl 2⟩
def cf (b : Int) (n : Nat) : Nat → Nat → Ft := cfOf sc (st b n) (fun _ _ => true) (fun _ _ => true) (fun _ => K1)
theorem st_ok (b : Int) (n : Nat) (hb1 : -100000 ≤ b) (hb2 : b ≤ 100000) (hn : n ≤ 1000) (i : Nat) (t : Tbl) (r : Rel) (ht : sc.tables[i]? = some t) (hr : (st b n)[i]? = some r) : TblOk t r.rows (fun _ => true) (fun _ => true) K1 := by
  rw [sc_tables] at ht
  match i, ht, hr with
  | 0, ht, hr => cases ht; cases hr; exact okT
  | 1, ht, hr => cases ht; cases hr; exact okU b n hb1 hb2 hn
  | i + 2, ht, hr => simp at ht
theorem cf_t (b : Int) (n c : Nat) (hc : c < 5) : (cf b n c 0).code = 0 := by
  match c, hc with
  | 0, _ => rfl
  | 1, _ => rfl
  | 2, _ => rfl
  | 3, _ => rfl
  | 4, _ => rfl
theorem cf_u (b : Int) (n c : Nat) (hc : c < 5) (hn : 0 < c ∨ n ≤ 256) : (cf b n c 1).code = 0 := by
  match c, hc with
  | 0, _ =>
    show (con1 (rows b n)).code = 0
    rw [con1_none (by rw [rows_len]; omega)]; rfl
  | 1, _ => show (badF 9 (fun _ => true) (rows b n)).code = 0; rw [badF_none (fun _ _ => rfl)]; rfl
  | 2, _ =>
    show (uniqF (rows b n) (ust (rows b n).length ((rows b n).map fun r => kb (K1 r)) (rows b n).length)).code = 0
    rw [uniq_none (by rw [List.length_map]) (fun i j x y hij hx hy => ?_)]
    · rfl
    · rw [List.getElem?_map] at hx hy
      cases h1 : (rows b n)[i]? with
      | none => rw [h1] at hx; cases hx
      | some u =>
        cases h2 : (rows b n)[j]? with
        | none => rw [h2] at hy; cases hy
        | some v =>
          rw [h1] at hx; rw [h2] at hy
          cases hx; cases hy
          rw [(rows_at h1).2, (rows_at h2).2]
          intro e
          have e1 : b + (i : Int) = b + (j : Int) := Law.kb1_inj e
          omega
  | 3, _ => rfl
  | 4, _ => show (badF 13 (fun _ => true) (rows b n)).code = 0; rw [badF_none (fun _ _ => rfl)]; rfl
theorem norm (b : Int) (n : Nat) : normF sc (st b n) = true := by
  show (incV [] && decide (([116] : Bs) = [116]) && ((incV (rows b n) && decide (([117] : Bs) = [117])) && true)) = true
  rw [inc]; rfl
theorem code_few {b : Int} {n : Nat} (hn : n ≤ 256) {f : Ft} (h : FirstF sc.tables.length (cf b n) (fun i => ((sc.tables[i]?).getD Tbl.zero).name) f) : f.code = 0 := by
  rw [h.none (fun c i hc hi => ?_)]
  · rfl
  · have hi' : i < 2 := hi
    match i, hi' with
    | 0, _ => exact cf_t _ _ c hc
    | 1, _ => exact cf_u _ _ c hc (.inr hn)
theorem code_many {b : Int} {n : Nat} (hn : 256 < n) {f : Ft} (h : FirstF sc.tables.length (cf b n) (fun i => ((sc.tables[i]?).getD Tbl.zero).name) f) : f.code = 4 ∧ f.table = [117] := by
  have h2 : (cf b n 0 1).code = 4 := con1_some (rows := rows b n) (by rw [rows_len]; exact hn)
  obtain ⟨h3, h4⟩ := h.at 0 1 (by decide) (by decide) (by rw [h2]; decide) (fun c i hi hb => by
    have hi' : i < 2 := hi
    match i, hi', hb with
    | 0, _, _ => exact cf_t _ _ c (by omega)
    | 1, _, hb => omega)
  exact ⟨h3.trans h2, h4⟩
theorem nrm (b : Int) (n : Nat) : nrm1 (emptyS sc) (st b n) = some (st b n) := by
  show nrm1 [⟨[116], []⟩, ⟨[117], []⟩] [⟨[116], []⟩, ⟨[117], rows b n⟩] = _
  have h1 : ([⟨[116], []⟩, ⟨[117], []⟩] : List Rel).findIdx? (fun x => decide (x.table = [116])) = some 0 := by simp [List.findIdx?_cons]
  have h2 : ([⟨[116], []⟩, ⟨[117], []⟩] : List Rel).findIdx? (fun x => decide (x.table = [117])) = some 1 := by simp [List.findIdx?_cons]
  unfold nrm1
  simp only [h1]
  unfold nrm1
  show (match ([⟨[116], []⟩, ⟨[117], []⟩] : List Rel).findIdx? (fun x => decide (x.table = [117])) with
    | none => none
    | some i => nrm1 (([⟨[116], []⟩, ⟨[117], []⟩] : List Rel).set i _) []) = _
  rw [h2]
  rfl
theorem dist (xs : List Val) (h : incV xs = true) : DistOk xs xs := ⟨xs, fun S v W hs => sort_any S v xs W hs (srt_of_inc h), fun S v W hs => distinct_any S v xs W hs h⟩
theorem normal_few (b : Int) (n : Nat) (hn : n ≤ 256) : (normalF id sc (st b n)).1 = 0 := by
  unfold normalF
  rw [nrm]
  have : (st b n).any (tooMany id) = false := by
    rw [List.any_eq_false]
    intro r hr
    simp [st] at hr
    rcases hr with rfl | rfl
    · decide
    · unfold tooMany; simp [rows_len]; omega
  simp [this]
theorem normal_many (b : Int) (n : Nat) (hn : 256 < n) : (normalF id sc (st b n)).1 = 4 := by
  unfold normalF
  rw [nrm]
  have : (st b n).any (tooMany id) = true := by
    rw [List.any_eq_true]
    exact ⟨⟨[117], rows b n⟩, by simp [st], by unfold tooMany; simp [rows_len]; omega⟩
  simp [this]
end Many
end Go.Proofs.YthkkmklnapkgaaaGreatDoor

/- The generators' small functions: Around, Bound, Pick; a row of the law. -/
namespace Go.Proofs.YthkkmklnapkgaaaGreatDoor
open Go.RowKit Go.Shelf Go.Lib

/-- Around: what it computes. -/
def aroundI (n m : Int) : Int := (if n < 0 then -(n + 1) else n) % m
theorem aroundI_rng (n m : Int) (hm : 0 < m) : 0 ≤ aroundI n m ∧ aroundI n m < m := by
  unfold aroundI; exact ⟨Int.emod_nonneg _ (by omega), Int.emod_lt_of_pos _ hm⟩
theorem ret_intE {k : IntKind} {a b : Int} (h : a = b) : Ending.returned (.int k a) = .returned (.int k b) := by rw [h]
theorem around_any (n m : Int) (w : World) (hn1 : -9223372036854775808 ≤ n) (hn2 : n ≤ 9223372036854775807) (hm : 1 ≤ m) (hm2 : m ≤ 9223372036854775807) :
    Calls Tryz.prog 4 #[.int .i64 n, .int .i64 m] w fun e w' => e = .returned (.int .i64 (aroundI n m)) ∧ w = w' := by
  have hz : (m == 0) = false := by simpa using (by omega : ¬ m = 0)
  by_cases h : n < 0
  · have hr : aroundI n m = (-(n + 1)) % m := by unfold aroundI; rw [if_pos h]
    rw [hr]
    clear hr
    have h1 : 0 ≤ -(n + 1) := by omega
    go_enter Tryz.func4, Tryz.ntmps4
    go_wp2
    go_ret
    exact ⟨ret_intE (by rw [← Int.neg_tmod, Int.tmod_eq_emod_of_nonneg h1]), rfl⟩
  · have hr : aroundI n m = n % m := by unfold aroundI; rw [if_neg h]
    rw [hr]
    clear hr
    go_enter Tryz.func4, Tryz.ntmps4
    go_wp2
    go_ret
    exact ⟨rfl, rfl⟩
def boundI (n m : Int) : Int := aroundI n (2 * m + 1) - m
theorem bound_any (n m : Int) (w : World) (hn1 : -9223372036854775808 ≤ n) (hn2 : n ≤ 9223372036854775807) (hm : 0 ≤ m) (hm2 : m ≤ 1000000000) :
    Calls Tryz.prog 6 #[.int .i64 n, .int .i64 m] w fun e w' => e = .returned (.int .i64 (boundI n m)) ∧ w = w' := by
  have HA := Lib.hid (fun W => around_any n (2 * m + 1) W hn1 hn2 (by omega) (by omega))
  have hr := aroundI_rng n (2 * m + 1) (by omega)
  unfold boundI
  generalize aroundI n (2 * m + 1) = r at HA hr ⊢
  go_enter Tryz.func6, Tryz.ntmps6
  go_wp2_with (go_at_call 4; refine (HA.out _).mono ?_; rintro e w' ⟨rfl, rfl⟩)
  go_ret
  exact ⟨rfl, rfl⟩
/-- Pick: what it computes. -/
def pickI (l : List Int) (i : Nat) (m : Int) : Int := match l[i]? with
  | some n => aroundI n m
  | none => 0
def Ints (l : List Int) : Prop := ∀ n ∈ l, -9223372036854775808 ≤ n ∧ n ≤ 9223372036854775807
theorem pick_any (S : Nat → Prop) (v : Value) (l : List Int) (i : Nat) (m : Int) (w : World) (hs : Sl intRd S w v l) (hi : Ints l) (hm : 1 ≤ m) (hm2 : m ≤ 1000000000) :
    Calls Tryz.prog 11 #[v, .int .i64 i, .int .i64 m] w fun e w' => e = .returned (.int .i64 (pickI l i m)) ∧ w = w' := by
  have hd0 : decide ((i : Int) < 0) = false := by simp
  by_cases h : i < l.length
  · obtain ⟨n, hn⟩ : ∃ n, l[i]? = some n := ⟨_, List.getElem?_eq_getElem h⟩
    obtain ⟨p, cap, rfl, hl⟩ := hs.len
    obtain ⟨b, off, cs, rfl, hb, _, _, hR, hc⟩ := hs.elem hn
    have hcs : cs = [.int .i64 n] := hR
    subst hcs
    have c0 := hc 0 _ rfl
    simp only [show intRd.k = 1 from rfl, Nat.mul_one, Nat.add_zero] at c0
    have HA := Lib.hid (fun W => around_any n m W (hi n (List.mem_of_getElem? hn)).1 (hi n (List.mem_of_getElem? hn)).2 hm (by omega))
    have hr : pickI l i m = aroundI n m := by unfold pickI; rw [hn]
    rw [hr]
    generalize aroundI n m = r at HA ⊢
    have h1 : (i : Int) < (l.length : Int) := by omega
    have h2 : decide ((l.length : Int) ≤ (i : Int)) = false := by simp; omega
    clear hs hi hn hR hc hr
    go_enter Tryz.func11, Tryz.ntmps11
    go_wp2_with (go_at_call 4; refine (HA.out _).mono ?_; rintro e w' ⟨rfl, rfl⟩)
    go_ret
    exact ⟨rfl, rfl⟩
  · obtain ⟨p, cap, rfl, hl⟩ := hs.len
    have hr : pickI l i m = 0 := by unfold pickI; rw [List.getElem?_eq_none (by omega)]
    rw [hr]
    have h2 : decide ((l.length : Int) ≤ (i : Int)) = true := by simp; omega
    clear hs hi hr
    go_enter Tryz.func11, Tryz.ntmps11
    go_wp2_with fail
    go_ret
    exact ⟨rfl, rfl⟩

/-- A value that lies in new memory. -/
def NewVal (w : World) (x : Val) (e : Ending) (w' : World) : Prop := ∃ cs, e = .returned (.agg cs.toArray) ∧ IsVal (fun b => w.heap.size ≤ b) w' cs x ∧ Below w.heap.size w w'
/-- A slice of a block that is known whole. -/
theorem sl_blk {T : Type} {r : Rd T} {S : Nat → Prop} {w : World} {b n : Nat} {E : TypeId} {cells : Array Value} {xs : List T} {css : List (List Value)} (hb : w.heap[b]? = some (.cells cells E (0, 0))) (hS : S b) (hcs : Cs r S w css xs) (hc : css.flatten = cells.toList) (hn : n = xs.length) (hl : xs.length ≤ 1000000) : Sl r S w (.slice (some ⟨b, 0, none⟩) n n) xs := by
  subst hn
  refine Sl.of_css hl hcs hS (Array.getElem?_eq_some_iff.1 hb).1 (fun j u hu => ?_)
  rw [Nat.zero_add, cell_of_row _ _ _ _ _ _ hb]
  rw [hc] at hu
  simpa using hu
theorem isVal_int (S : Nat → Prop) (w : World) (n : Int) : IsVal S w [.int .i64 0, .int .i64 n, .string ⟨#[]⟩, .slice none 0 0, .slice none 0 0] (vInt n) := isVal_mk (s := []) (by simp) (Sl.nil _ _ _) (Sl.nil _ _ _)
theorem strs2 (S : Nat → Prop) (w : World) (a b : Bs) (ha : a.length ≤ 1000000) (hb : b.length ≤ 1000000) : Cs strRd S w [[.string ⟨a.toArray⟩], [.string ⟨b.toArray⟩]] [a, b] :=
  (Cs.one (r := strRd) (x := a) (show strRd.R S w [.string ⟨a.toArray⟩] a from ⟨rfl, ha⟩)).app (Cs.one (r := strRd) (x := b) (show strRd.R S w [.string ⟨b.toArray⟩] b from ⟨rfl, hb⟩))

set_option maxRecDepth 100000 in
theorem lrow_any (a b : Bs) (x y : Int) (w : World) (ha : a.length ≤ 1000000) (hb : b.length ≤ 1000000) :
    Calls Tryz.prog 31 #[sv a, .int .i64 x, sv b, .int .i64 y] w (NewVal w (vRec [a, b] [vInt x, vInt y])) := by
  unfold sv
  go_enter Tryz.func31, Tryz.ntmps31
  go_wp2_with fail
  generalize hW : ((w.alloc _).alloc _).alloc _ = W
  have h0 : W.heap[w.heap.size]? = some (.cells #[.int .i64 4, .int .i64 0, .string ⟨#[]⟩, .slice (some ⟨w.heap.size + 1, 0, none⟩) 2 2, .slice (some ⟨w.heap.size + 1 + 1, 0, none⟩) 2 2] 34 (0, 0)) := by rw [← hW]; exact heap_alloc3_old _ _ _ _
  have h1 : W.heap[w.heap.size + 1]? = some (.cells #[.string ⟨a.toArray⟩, .string ⟨b.toArray⟩] 9 (0, 0)) := by rw [← hW]; exact heap_alloc3_mid' _ _ _ _
  have h2 : W.heap[w.heap.size + 1 + 1]? = some (.cells #[.int .i64 0, .int .i64 x, .string ⟨#[]⟩, .slice none 0 0, .slice none 0 0, .int .i64 0, .int .i64 y, .string ⟨#[]⟩, .slice none 0 0, .slice none 0 0] 34 (0, 0)) := by rw [← hW]; exact heap_alloc3_new _ _ _ _
  have hb3 : Below w.heap.size w W := by rw [← hW]; exact bal3 _ _ _ _
  refine bodyPost_ret (v := .agg #[.int .i64 4, .int .i64 0, .string ⟨#[]⟩, .slice (some ⟨w.heap.size + 1, 0, none⟩) 2 2, .slice (some ⟨w.heap.size + 1 + 1, 0, none⟩) 2 2]) (by simp [results, Tryz.results31, go_sem, cell_of_row _ _ _ _ _ _ h0]) rfl ⟨[.int .i64 4, .int .i64 0, .string ⟨#[]⟩, .slice (some ⟨w.heap.size + 1, 0, none⟩) 2 2, .slice (some ⟨w.heap.size + 1 + 1, 0, none⟩) 2 2], rfl, ?_, hb3⟩
  refine isVal_mk (s := []) (by simp) ?_ ?_
  · exact sl_blk h1 (by show w.heap.size ≤ w.heap.size + 1; omega) (strs2 _ _ a b ha hb) rfl rfl (by simp)
  · exact sl_blk h2 (by show w.heap.size ≤ w.heap.size + 1 + 1; omega) ((Cs.one (r := valRd) (isVal_int _ W x)).app (Cs.one (r := valRd) (isVal_int _ W y))) rfl rfl (by simp)
end Go.Proofs.YthkkmklnapkgaaaGreatDoor

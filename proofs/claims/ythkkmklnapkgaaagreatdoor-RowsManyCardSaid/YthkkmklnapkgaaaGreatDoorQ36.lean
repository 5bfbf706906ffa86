import Derived.Test.YthkkmklnapkgaaaGreatDoorQ18
import Derived.Test.YthkkmklnapkgaaaGreatDoorQ27
/- A state in the making: its own row of relations, each with rows of its own; rows.Empty. -/
namespace Go.Proofs.YthkkmklnapkgaaaGreatDoor
open Go.RowKit Go.Shelf Go.Lib

/-- The blocks that are neither the state's row nor a relation's. -/
def Free (v : Value) (rvs : List Value) : Nat → Prop := fun b => v.ownBlock ≠ some b ∧ ∀ rv ∈ rvs, rv.ownBlock ≠ some b
/-- The cells of a state's row. -/
def stCells (l : List Rel) (rvs : List Value) : List (List Value) := List.zipWith (fun r rv => [sv r.table, rv]) l rvs
structure OwnSt (B : Nat) (w : World) (v : Value) (l : List Rel) (rvs : List Value) : Prop where
  len : rvs.length = l.length
  row : w.ownsRow B 31 2 v l.length (stCells l rvs).flatten
  tl : ∀ r ∈ l, r.table.length ≤ 1000000
  rows : ∀ (i : Nat) (r : Rel) (rv : Value), l[i]? = some r → rvs[i]? = some rv → ∃ css, Own valRd 34 (Free v rvs) B w rv r.rows css
  apart : ∀ (i j : Nat) (a b : Value) (g : Nat), rvs[i]? = some a → rvs[j]? = some b → a.ownBlock = some g → b.ownBlock = some g → i = j

theorem stCells_all {l : List Rel} {rvs : List Value} : ∀ c ∈ stCells l rvs, c.length = 2 := by
  intro c hc
  unfold stCells at hc
  rw [List.mem_iff_getElem?] at hc
  obtain ⟨i, hi⟩ := hc
  rw [List.getElem?_zipWith] at hi
  split at hi
  · cases hi; rfl
  · cases hi
theorem stCells_at {l : List Rel} {rvs : List Value} {i : Nat} {r : Rel} {rv : Value} (h1 : l[i]? = some r) (h2 : rvs[i]? = some rv) : (stCells l rvs)[i]? = some [sv r.table, rv] := by
  unfold stCells
  rw [List.getElem?_zipWith, h1, h2]
theorem stCells_len {l : List Rel} {rvs : List Value} (h : rvs.length = l.length) : (stCells l rvs).length = l.length := by
  unfold stCells; rw [List.length_zipWith, h, Nat.min_self]
theorem stCells_set {l : List Rel} {rvs : List Value} {i : Nat} {r : Rel} (rv' : Value) (zs : List Val) (hi : l[i]? = some r) (h : rvs.length = l.length) :
    (stCells l rvs).flatten.set (i * 2 + 1) rv' = (stCells (l.set i ⟨r.table, zs⟩) (rvs.set i rv')).flatten := by
  induction l generalizing i rvs with
  | nil => simp at hi
  | cons a l ih =>
    cases rvs with
    | nil => simp at h
    | cons b rvs =>
      cases i with
      | zero =>
        simp at hi; subst hi
        simp [stCells]
      | succ i =>
        have := ih (rvs := rvs) (i := i) (by simpa using hi) (by simpa using h)
        simp only [stCells, List.zipWith_cons_cons, List.flatten_cons, List.set_cons_succ] at this ⊢
        rw [← this, show (i + 1) * 2 + 1 = ([sv a.table, b] : List Value).length + (i * 2 + 1) by simp; omega, List.set_append_right _ _ (Nat.le_add_right _ _), Nat.add_sub_cancel_left]

theorem OwnSt.below {B : Nat} {w w' : World} {v : Value} {l : List Rel} {rvs : List Value} (h : OwnSt B w v l rvs) (hb : Below w.heap.size w w') : OwnSt B w' v l rvs :=
  ⟨h.len, ownsRow_keep h.row hb, h.tl, fun i r rv h1 h2 => (h.rows i r rv h1 h2).imp fun _ ho => ho.below hb, h.apart⟩
/-- The state as it is read. -/
theorem OwnSt.sl {B : Nat} {w : World} {v : Value} {l : List Rel} {rvs : List Value} (h : OwnSt B w v l rvs) (hl : l.length ≤ 1000000) (hr : ∀ r ∈ l, r.rows.length ≤ 1000000) (S' : Nat → Prop) (h1 : ∀ b, B ≤ b → S' b) (h2 : ∀ b, b < w.heap.size → Free v rvs b → S' b) : Sl relRd S' w v l := by
  have hcs : Cs relRd S' w (stCells l rvs) l := by
    refine ⟨stCells_len h.len, fun i c x hc hx => ?_⟩
    have hi := (List.getElem?_eq_some_iff.1 hx).1
    obtain ⟨rv, hrv⟩ : ∃ rv, rvs[i]? = some rv := ⟨_, List.getElem?_eq_getElem (by rw [h.len]; exact hi)⟩
    rw [stCells_at hx hrv] at hc
    cases hc
    obtain ⟨css, ho⟩ := h.rows i x rv hx hrv
    exact ⟨rv, rfl, h.tl x (List.mem_of_getElem? hx), ho.sl (hr x (List.mem_of_getElem? hx)) h1 h2⟩
  rcases h.row.2 with ⟨rfl, h0⟩ | ⟨g, cap, cur, rfl, hB, hg, _, _, _, ht⟩
  · rw [List.eq_nil_of_length_eq_zero h0]; exact Sl.nil _ _ _
  · refine Sl.of_css (css := stCells l rvs) hl hcs (h1 g hB) (Array.getElem?_eq_some_iff.1 hg).1 (fun j u hu => ?_)
    rw [Nat.zero_add]; exact cell_at hg ht hu

/-- One relation's rows exchanged: the rows in w1, then the cell. -/
theorem OwnSt.put {B : Nat} {w w1 : World} {g cap : Nat} {l : List Rel} {rvs : List Value} {i : Nat} {r : Rel} {rv rv' : Value} {zs : List Val} (h : OwnSt B w (.slice (some ⟨g, 0, none⟩) l.length cap) l rvs) (hi : l[i]? = some r) (hrv : rvs[i]? = some rv)
    (ho : ∃ css, Own valRd 34 (Free (.slice (some ⟨g, 0, none⟩) l.length cap) rvs) B w1 rv' zs css) (hg : w.grownBy w1 rv.ownBlock) (hat : rv'.ownBlock = rv.ownBlock ∨ ∀ g', rv'.ownBlock = some g' → w.heap.size ≤ g') :
    OwnSt B (w1.setCell ⟨g, i * 2 + 1, none⟩ rv') (.slice (some ⟨g, 0, none⟩) l.length cap) (l.set i ⟨r.table, zs⟩) (rvs.set i rv') := by
  have hil := (List.getElem?_eq_some_iff.1 hi).1
  have hgv := (h.row.lt g rfl).2
  have hgB := (h.row.lt g rfl).1
  obtain ⟨css0, hor⟩ := h.rows i r rv hi hrv
  have hne : some g ≠ rv.ownBlock := fun e => rows_apart h.row hor.row (by decide) rfl e.symm
  have hne' : some g ≠ rv'.ownBlock := by
    intro e
    rcases hat with h1 | h1
    · exact hne (e.trans h1)
    · have := h1 g e.symm
      omega
  have hrow1 : w1.ownsRow B 31 2 (.slice (some ⟨g, 0, none⟩) l.length cap) l.length (stCells l rvs).flatten := by
    refine ⟨h.row.1, ?_⟩
    rcases h.row.2 with hn | ⟨g', cap', cur, e, hB, hh, rest⟩
    · exact .inl hn
    · simp only [Value.slice.injEq, Option.some.injEq, Addr.mk.injEq] at e
      obtain ⟨⟨rfl, _⟩, _, rfl⟩ := e
      exact .inr ⟨_, _, cur, rfl, hB, (hg.block _ hgv hne).trans hh, rest⟩
  have hfree : ∀ b, b < w.heap.size → Free (.slice (some ⟨g, 0, none⟩) l.length cap) rvs b → Free (.slice (some ⟨g, 0, none⟩) l.length cap) (rvs.set i rv') b := by
    rintro b hb ⟨f1, f2⟩
    refine ⟨f1, fun u hu => ?_⟩
    rcases List.mem_or_eq_of_mem_set hu with h1 | rfl
    · exact f2 u h1
    · intro e
      rcases hat with h1 | h1
      · exact f2 rv (List.mem_of_getElem? hrv) (h1 ▸ e)
      · have := h1 b e; omega
  refine ⟨by rw [List.length_set, List.length_set]; exact h.len, ?_, ?_, ?_, ?_⟩
  · rw [List.length_set, ← stCells_set rv' zs hi h.len]
    exact (hrow1.stored (i * 2 + 1) rv').1
  · intro x hx
    rcases List.mem_or_eq_of_mem_set hx with h1 | rfl
    · exact h.tl x h1
    · exact h.tl r (List.mem_of_getElem? hi)
  · intro j x u hx hu
    by_cases e : j = i
    · subst e
      rw [List.getElem?_set_self (by exact hil)] at hx
      rw [List.getElem?_set_self (by rw [h.len]; exact hil)] at hu
      cases hx; cases hu
      obtain ⟨css, ho⟩ := ho
      refine ⟨css, ⟨?_, ?_⟩⟩
      · refine ⟨ho.row.1, ?_⟩
        rcases ho.row.2 with hn | ⟨g', cap', cur, e, hB, hh, rest⟩
        · exact .inl hn
        · refine .inr ⟨g', cap', cur, e, hB, ?_, rest⟩
          rw [heap_setCell_ne (by intro e2; subst e; have e3 : g' = g := e2; exact hne' (by rw [← e3]; rfl))]; exact hh
      · refine ho.cs.move (fun b hS hlt => heap_setCell_ne (fun e => hS.1.1 (by rw [e]; rfl))) (fun b hb hS => ⟨⟨hS.1.1, fun u hu => ?_⟩, hS.2⟩)
        rcases List.mem_or_eq_of_mem_set hu with h1 | rfl
        · exact hS.1.2 u h1
        · exact fun e => hS.2 e.symm
    · rw [List.getElem?_set_ne (Ne.symm e)] at hx hu
      obtain ⟨css, hj⟩ := h.rows j x u hx hu
      have hu1 : u.ownBlock ≠ some g := rows_apart h.row hj.row (by decide) rfl
      refine ⟨css, ⟨?_, ?_⟩⟩
      · refine ⟨hj.row.1, ?_⟩
        rcases hj.row.2 with hn | ⟨g', cap', cur, e1, hB, hh, rest⟩
        · exact .inl hn
        · refine .inr ⟨g', cap', cur, e1, hB, ?_, rest⟩
          have hg' : g' < w.heap.size := (Array.getElem?_eq_some_iff.1 hh).1
          rw [heap_setCell_ne (by intro e2; subst e1; have e3 : g' = g := e2; exact hu1 (by rw [← e3]; rfl)), hg.block g' hg' (fun e2 => e (h.apart j i u rv g' hu hrv (by rw [e1]; rfl) e2.symm))]
          exact hh
      · refine hj.cs.move (fun b hS hlt => ?_) (fun b hb hS => ⟨hfree b hb hS.1, hS.2⟩)
        rw [heap_setCell_ne (fun e => hS.1.1 (by rw [e]; rfl)), hg.block b hlt (fun e => hS.1.2 rv (List.mem_of_getElem? hrv) e.symm)]
  · intro j k a b g' ha hb h1 h2
    by_cases ej : j = i
    · by_cases ek : k = i
      · omega
      · subst ej
        rw [List.getElem?_set_self (by rw [h.len]; exact hil)] at ha
        rw [List.getElem?_set_ne (Ne.symm ek)] at hb
        cases ha
        obtain ⟨x, hx⟩ : ∃ x, l[k]? = some x := ⟨_, List.getElem?_eq_getElem (by rw [← h.len]; exact (List.getElem?_eq_some_iff.1 hb).1)⟩
        obtain ⟨css, hj⟩ := h.rows k x b hx hb
        have := (hj.row.lt g' h2).2
        rcases hat with h3 | h3
        · exact h.apart j k rv b g' hrv hb (h3 ▸ h1) h2
        · have := h3 g' h1; omega
    · rw [List.getElem?_set_ne (Ne.symm ej)] at ha
      by_cases ek : k = i
      · subst ek
        rw [List.getElem?_set_self (by rw [h.len]; exact hil)] at hb
        cases hb
        obtain ⟨x, hx⟩ : ∃ x, l[j]? = some x := ⟨_, List.getElem?_eq_getElem (by rw [← h.len]; exact (List.getElem?_eq_some_iff.1 ha).1)⟩
        obtain ⟨css, hj⟩ := h.rows j x a hx ha
        have := (hj.row.lt g' h1).2
        rcases hat with h3 | h3
        · exact h.apart j k a rv g' ha hrv h1 (h3 ▸ h2)
        · have := h3 g' h2; omega
      · rw [List.getElem?_set_ne (Ne.symm ek)] at hb
        exact h.apart j k a b g' ha hb h1 h2
end Go.Proofs.YthkkmklnapkgaaaGreatDoor

/- rows.Empty: the state without rows, in the making. -/
namespace Go.Proofs.YthkkmklnapkgaaaGreatDoor
open Go.RowKit Go.Shelf Go.Lib

/-- A relation without rows. -/
def nrelRd : Rd Bs where
  k := 2
  R _ _ cs x := cs = [sv x, .slice none 0 0] ∧ x.length ≤ 1000000
  len h := by rw [h.1]; rfl
  frame h _ := h
  mono h _ := h
def emptyS (s : Sc) : List Rel := s.tables.map (fun t => ⟨t.name, []⟩)
theorem own_empty {E : TypeId} {S : Nat → Prop} {B : Nat} {w : World} {v : Value} {ns : List Bs} {css : List (List Value)} (h : Own nrelRd E S B w v ns css) (hE : E = 31) : OwnSt B w v (ns.map fun x => ⟨x, []⟩) (List.replicate ns.length (.slice none 0 0)) := by
  subst hE
  have hc : css = stCells (ns.map fun x => ⟨x, []⟩) (List.replicate ns.length (.slice none 0 0)) := by
    apply List.ext_getElem?
    intro i
    by_cases hi : i < ns.length
    · have h1 := List.getElem?_eq_getElem (l := css) (i := i) (by rw [h.cs.len]; exact hi)
      have h2 := List.getElem?_eq_getElem hi
      have h3 := (h.cs.R i _ _ h1 h2).1
      rw [h1, h3, stCells_at (r := ⟨ns[i], []⟩) (rv := .slice none 0 0) (by rw [List.getElem?_map, h2]; rfl) (by rw [List.getElem?_replicate, if_pos hi])]
    · rw [List.getElem?_eq_none (by rw [h.cs.len]; omega), List.getElem?_eq_none (by rw [stCells_len (by simp)]; simp; omega)]
  refine ⟨by simp, ?_, ?_, ?_, ?_⟩
  · rw [← hc, List.length_map]; exact h.row
  · intro r hr
    obtain ⟨x, hx, rfl⟩ := List.mem_map.1 hr
    obtain ⟨i, hi⟩ := List.getElem?_of_mem hx
    have hil := (List.getElem?_eq_some_iff.1 hi).1
    exact (h.cs.R i _ _ (List.getElem?_eq_getElem (by rw [h.cs.len]; exact hil)) hi).2
  · intro i r rv hr hrv
    rw [List.getElem?_replicate] at hrv
    split at hrv
    · cases hrv
      rw [List.getElem?_map] at hr
      cases hx : ns[i]? with
      | none => rw [hx] at hr; cases hr
      | some x => rw [hx] at hr; cases hr; exact ⟨[], Own.nil _ _ _ _ _⟩
    · cases hrv
  · intro i j a b g ha _ h1
    rw [List.getElem?_replicate] at ha
    split at ha
    · cases ha; cases h1
    · cases ha

def EmptyIs (w : World) (s : Sc) (e : Ending) (w' : World) : Prop := ∃ p cap, e = .returned (.slice p s.tables.length cap) ∧ OwnSt w.heap.size w' (.slice p s.tables.length cap) (emptyS s) (List.replicate s.tables.length (.slice none 0 0)) ∧ Below w.heap.size w w'

set_option maxRecDepth 100000 in
set_option maxHeartbeats 1000000 in
theorem empty_any (S0 : Nat → Prop) (s : Sc) (cs : List Value) (w : World) (hs : IsSc S0 w cs s) (hnl : ∀ t ∈ s.tables, t.name.length ≤ 1000000) (hl0 : s.tables.length ≤ 1000) :
    Calls Tryz.prog 12 #[.agg cs.toArray] w (EmptyIs w s) := by
  obtain ⟨uv, tv, rfl, hu, ht0⟩ := hs
  have ht : Sl tblRd (fun b => b < w.heap.size) w tv s.tables := ht0.mono (fun b hb _ => hb)
  obtain ⟨up, uc, rfl, _⟩ := hu.len
  obtain ⟨tp, tc, rfl, htl⟩ := ht.len
  have HT := Lib.hid ht; have HNL := Lib.hid hnl
  obtain ⟨i0, j1, j2, j3, j4⟩ := info_of (P := Tryz.prog) (t := 31) (z := .agg #[.string ⟨#[]⟩, .slice none 0 0]) (n := 2) (b := 40) (by kernel_rfl)
  have HJ := Lib.hid j1; have HJ2 := Lib.hid j2; have HJ3 := Lib.hid j3; have HJ4 := Lib.hid j4
  clear hu ht0 ht hnl j1 j2 j3 j4
  unfold EmptyIs emptyS
  obtain ⟨n, hn⟩ : ∃ n, s.tables.length = n := ⟨_, rfl⟩
  rw [hn] at HT hl0 ⊢
  have HN := Lib.hid hn
  clear hn
  go_enter Tryz.func12, Tryz.ntmps12
  go_wp2_with fail
  generalize hW1 : w.alloc _ = W1
  have hb1 : Below w.heap.size w W1 := by rw [← hW1]; exact bal1 _ _
  have hX1 : W1.heap[w.heap.size]? = some (.cells #[.slice up s.sums.length uc, .slice tp n tc] 26 (0, 0)) := by rw [← hW1]; exact heap_alloc_new _ _
  have HB1 := Lib.hid hb1; have HX1 := Lib.hid hX1
  clear hW1 hb1 hX1
  have hszW : w.heap.size ≤ W1.heap.size := HB1.out.size
  go_loopw [3, 9] (fun o i wr => ∃ (k : Nat) (p : Option Addr) (cap : Nat) (ns : List Bs) (css : List (List Value)), k ≤ n ∧ i = .int .i64 k ∧ o = .slice p k cap ∧ ns.length = k ∧ Aside (ns = (s.tables.take k).map Tbl.name) ∧
    Own nrelRd 31 (fun _ => False) W1.heap.size wr (.slice p k cap) ns css ∧ Below W1.heap.size W1 wr) (fun _ i _ => n - (intOf i).toNat)
  case atStart => exact ⟨0, none, 0, [], [], Nat.zero_le _, rfl, rfl, rfl, rfl, Own.nil _ _ _ _ _, Below.refl _ _⟩
  case round =>
    obtain ⟨k, p, cap, ns, css, hkn, rfl, rfl, hns, hE, hO, hBr⟩ := hrel
    have hXr := (hBr.block _ (World.block_lt_some HX1.out)).trans HX1.out
    have hsr := hBr.size
    have HBr := Lib.hid hBr; have HBw := Lib.hid (HB1.out.trans (hBr.mono hszW)); have HO := Lib.hid hO; have HE := Lib.hid hE.out; have HNS := Lib.hid hns
    clear hXr hBr hO hE hns
    by_cases hlt : k < n
    · have hi1 : (0 : Int) ≤ (k : Int) := by omega
      have hi2 : (k : Int) < (n : Int) := by omega
      obtain ⟨t, hx⟩ : ∃ t, s.tables[k]? = some t := ⟨_, List.getElem?_eq_getElem (by rw [HN.out]; exact hlt)⟩
      have htn := HNL.out t (List.mem_of_getElem? hx)
      have htk : (s.tables.take (k + 1)).map Tbl.name = (s.tables.take k).map Tbl.name ++ [t.name] := by
        have hk := (List.getElem?_eq_some_iff.1 hx).1
        rw [List.take_succ_eq_append_getElem hk, List.map_append]
        rw [List.getElem?_eq_getElem hk] at hx; cases hx; rfl
      obtain ⟨tb, toff, ct, rfl, htb, _, htlen, htR, htc⟩ := (HT.out.below HBw.out).elem hx
      obtain ⟨cp9, cc9, kp9, kc9, rp9, rc9, k9, s19, n9, s29, p19, n19, c19, p29, n29, c29, p39, n39, c39, a9, z9, hcs, _⟩ := tbl_cells htR
      simp only [tcs] at hcs
      subst hcs
      have d0 := htc 0 _ rfl
      have d1 := htc 1 _ rfl
      have d2 := htc 2 _ rfl
      have d3 := htc 3 _ rfl
      have d4 := htc 4 _ rfl
      have d5 := htc 5 _ rfl
      have d6 := htc 6 _ rfl
      have d7 := htc 7 _ rfl
      have d8 := htc 8 _ rfl
      have d9 := htc 9 _ rfl
      have d10 := htc 10 _ rfl
      have d11 := htc 11 _ rfl
      have d12 := htc 12 _ rfl
      simp only [show tblRd.k = 13 from rfl, Nat.add_zero] at d0 d1 d2 d3 d4 d5 d6 d7 d8 d9 d10 d11 d12
      have HTN := Lib.hid htn; have HTK := Lib.hid htk
      clear hx htn htk htR htc htlen
      go_upto_region 5 with fail
      obtain ⟨W5, hW5⟩ : ∃ W5, wr.alloc (.cells #[.string ⟨t.name.toArray⟩, .slice cp9 t.columns.length cc9, .slice kp9 t.key.length kc9, .slice rp9 t.refs.length rc9, .int .i64 k9, .string s19, .int .i64 n9, .string s29, .slice p19 n19 c19, .slice p29 n29 c29, .slice p39 n39 c39, .int .i64 a9, .int .i64 z9] 59) = W5 := ⟨_, rfl⟩
      rw [hW5]
      have hb5 : Below wr.heap.size wr W5 := by rw [← hW5]; exact bal1 _ _
      have hX5 : W5.heap[wr.heap.size]? = some (.cells #[.string ⟨t.name.toArray⟩, .slice cp9 t.columns.length cc9, .slice kp9 t.key.length kc9, .slice rp9 t.refs.length rc9, .int .i64 k9, .string s19, .int .i64 n9, .string s29, .slice p19 n19 c19, .slice p29 n29 c29, .slice p39 n39 c39, .int .i64 a9, .int .i64 z9] 59 (0, 0)) := by rw [← hW5]; exact heap_alloc_new _ _
      have x0 := cell_of_row _ _ 0 _ _ _ hX5
      simp only [List.getElem?_toArray, List.getElem?_cons_zero] at x0
      have HO5 := Lib.hid (HO.out.below hb5); have HB5 := Lib.hid (HBr.out.trans (hb5.mono hsr))
      have hsz5 : W1.heap.size ≤ W5.heap.size := by have := hb5.size; omega
      clear hW5 hb5 hX5 d0 d1 d2 d3 d4 d5 d6 d7 d8 d9 d10 d11 d12
      go_wp2_with (at_builtin; refine wpList_app (r := nrelRd) (by decide) rfl (.tmp 13) (.tmp 17) _ rfl 31 i0 (.agg #[.string ⟨#[]⟩, .slice none 0 0]) 40 Tryz.underlying35 HJ.out HJ2.out HJ3.out HJ4.out rfl (by omega) (fun _ => False) W1.heap.size W5 (.slice p k cap) ns css [.string ⟨t.name.toArray⟩, .slice none 0 0] t.name rfl HO5.out rfl ⟨rfl, HTN.out⟩ (by simp [Value.oneCell']) k HNS.out (by omega) hsz5 ?_; intro p7 cap7 css7 w7 hO7 hL7; have HO7 := Lib.hid hO7; have HL7 := Lib.hid hL7; clear hO7 hL7)
      go_roundw
      case measure => simp [intOf]; omega
      case rel => exact ⟨k + 1, p7, cap7, ns ++ [t.name], css7, by omega, by go_num, rfl, by have := HNS.out; simp [this], (show Aside _ from by have := HE.out; show _ = _; rw [this, HTK.out]), HO7.out, HB5.out.trans HL7.out.below⟩
    · obtain rfl : k = n := by omega
      have hi2 : ¬ (k : Int) < (k : Int) := by omega
      go_wp2_with fail
      go_ret
      have hE := HE.out
      rw [List.take_of_length_le (by rw [HN.out]; exact Nat.le_refl _)] at hE
      have hO := own_empty (HO.out.move hszW (fun b hb _ => rfl)) rfl
      rw [HNS.out] at hO
      refine ⟨p, cap, rfl, ?_, HBw.out⟩
      rw [hE, List.map_map] at hO
      exact hO
end Go.Proofs.YthkkmklnapkgaaaGreatDoor

import Derived.Test.YthkkmklnapkgaaaGreatDoorQ37
/- rows.Normal: the normal state with the rows of a state. -/
namespace Go.Proofs.YthkkmklnapkgaaaGreatDoor
open Go.RowKit Go.Shelf Go.Lib

/-- The rows of relations put behind those of a state's. -/
def nrm1 : List Rel → List Rel → Option (List Rel)
  | out, [] => some out
  | out, r :: l => match out.findIdx? (fun x => decide (x.table = r.table)) with
    | none => none
    | some i => nrm1 (out.set i ⟨(out.getD i ⟨[], []⟩).table, (out.getD i ⟨[], []⟩).rows ++ r.rows⟩) l
/-- What values.Sort and values.Distinct make of a list. -/
def DistOk (xs ys : List Val) : Prop := ∃ zs, (∀ (S : Nat → Prop) (v : Value) (W : World), Sl valRd S W v xs → Calls Tryz.prog 15 #[v] W (ValsIs W zs)) ∧ (∀ (S : Nat → Prop) (v : Value) (W : World), Sl valRd S W v zs → Calls Tryz.prog 14 #[v] W (ValsIs W ys))
def tooMany (dst : List Val → List Val) (r : Rel) : Bool := decide (256 < (dst r.rows).length)
/-- The error and the state of Normal. -/
def normalF (dst : List Val → List Val) (s : Sc) (l : List Rel) : Int × List Rel := match nrm1 (emptyS s) l with
  | none => (7, [])
  | some o => if o.any (tooMany dst) then (4, []) else (0, o.map fun r => ⟨r.table, dst r.rows⟩)
def NormalIs (w : World) (q : Int × List Rel) (e : Ending) (w' : World) : Prop := ∃ p cap, e = .returned (.tuple #[.slice p q.2.length cap, .int .i64 q.1]) ∧ Sl relRd (fun _ => True) w' (.slice p q.2.length cap) q.2 ∧ Below w.heap.size w w'

theorem idxP_find {T : Type} (p : T → Bool) (xs : List T) : (xs.findIdx? p = none ∧ idxP p xs = -1) ∨ ∃ (i : Nat) (x : T), xs.findIdx? p = some i ∧ idxP p xs = i ∧ xs[i]? = some x := by
  unfold idxP
  cases h : xs.findIdx? p with
  | none => exact .inl ⟨rfl, rfl⟩
  | some i =>
    obtain ⟨hi, _, _⟩ := List.findIdx?_eq_some_iff_getElem.1 h
    exact .inr ⟨i, xs[i], rfl, rfl, List.getElem?_eq_getElem hi⟩
theorem grown_drew {w w1 : World} {row : Option Nat} (h : w.drew.grownBy w1 row) : w.grownBy w1 row :=
  ⟨h.os, h.tape, h.output, h.size, h.block⟩

theorem OwnSt.at {B : Nat} {w : World} {g n cap : Nat} {l : List Rel} {rvs : List Value} (h : OwnSt B w (.slice (some ⟨g, 0, none⟩) n cap) l rvs) {i : Nat} {r : Rel} {rv : Value} (hi : l[i]? = some r) (hrv : rvs[i]? = some rv) :
    ∃ cur, w.heap[g]? = some (.cells cur 31 (0, 0)) ∧ cur[i * 2]? = some (sv r.table) ∧ cur[i * 2 + 1]? = some rv := by
  rcases h.row.2 with ⟨e, _⟩ | ⟨g', cap', cur, e, hB, hh, _, _, _, ht⟩
  · cases e
  · simp only [Value.slice.injEq, Option.some.injEq, Addr.mk.injEq] at e
    obtain ⟨⟨rfl, _⟩, _, rfl⟩ := e
    have hc := stCells_at hi hrv
    have h0 := flat_get (k := 2) stCells_all hc (j := 0) (u := sv r.table) rfl
    have h1 := flat_get (k := 2) stCells_all hc (j := 1) (u := rv) rfl
    have hget : ∀ (j : Nat) (u : Value), (stCells l rvs).flatten[j]? = some u → cur[j]? = some u := by
      intro j u hu
      rw [← ht, List.getElem?_take] at hu
      split at hu
      · simpa using hu
      · cases hu
    exact ⟨cur, hh, hget _ _ h0, hget _ _ h1⟩

theorem OwnSt.put' {B : Nat} {w w1 : World} {g n cap : Nat} {l : List Rel} {rvs : List Value} {i : Nat} {r : Rel} {rv rv' : Value} {zs : List Val} (hn : l.length = n) (h : OwnSt B w (.slice (some ⟨g, 0, none⟩) n cap) l rvs) (hi : l[i]? = some r) (hrv : rvs[i]? = some rv)
    (ho : ∃ css, Own valRd 34 (Free (.slice (some ⟨g, 0, none⟩) n cap) rvs) B w1 rv' zs css) (hg : w.grownBy w1 rv.ownBlock) (hat : rv'.ownBlock = rv.ownBlock ∨ ∀ g', rv'.ownBlock = some g' → w.heap.size ≤ g') :
    OwnSt B (w1.setCell ⟨g, i * 2 + 1, none⟩ rv') (.slice (some ⟨g, 0, none⟩) n cap) (l.set i ⟨r.table, zs⟩) (rvs.set i rv') := by
  subst hn
  exact h.put hi hrv ho hg hat

theorem Own.sl' {T : Type} {r : Rd T} {E : TypeId} {S S' : Nat → Prop} {B : Nat} {w : World} {v : Value} {xs : List T} {css : List (List Value)} (h : Own r E S B w v xs css) (hl : xs.length ≤ 1000000)
    (h1 : ∀ b, v.ownBlock = some b → S' b) (h2 : ∀ b, b < w.heap.size → S b → S' b) : Sl r S' w v xs := by
  rcases h.row.2 with ⟨rfl, h0⟩ | ⟨g, cap, cur, rfl, hB, hg, _, _, _, ht⟩
  · rw [List.eq_nil_of_length_eq_zero h0]; exact Sl.nil _ _ _
  · refine Sl.of_css (css := css) hl (h.cs.move (.refl _ _) (fun b hb h => h2 b hb h.1)) (h1 g rfl) (Array.getElem?_eq_some_iff.1 hg).1 (fun j u hu => ?_)
    rw [Nat.zero_add]; exact cell_at hg ht hu
/-- A state in the making, read as rows of relations. -/
theorem OwnSt.own {B : Nat} {w : World} {v : Value} {l : List Rel} {rvs : List Value} (h : OwnSt B w v l rvs) (hr : ∀ r ∈ l, r.rows.length ≤ 1000000) : Own relRd 31 (fun _ => True) B w v l (stCells l rvs) := by
  refine ⟨h.row, ⟨stCells_len h.len, fun i c x hc hx => ?_⟩⟩
  have hi := (List.getElem?_eq_some_iff.1 hx).1
  obtain ⟨rv, hrv⟩ : ∃ rv, rvs[i]? = some rv := ⟨_, List.getElem?_eq_getElem (by rw [h.len]; exact hi)⟩
  rw [stCells_at hx hrv] at hc
  cases hc
  obtain ⟨css, ho⟩ := h.rows i x rv hx hrv
  refine ⟨rv, rfl, h.tl x (List.mem_of_getElem? hx), ho.sl' (hr x (List.mem_of_getElem? hx)) (fun b hb => ⟨trivial, fun e => ?_⟩) (fun b _ hb => ⟨trivial, fun e => hb.1 e.symm⟩)⟩
  exact rows_apart h.row ho.row (by decide) e.symm hb
theorem flat_set2 : ∀ (css : List (List Value)) (i : Nat) (a b b' : Value), (∀ c ∈ css, c.length = 2) → css[i]? = some [a, b] → css.flatten.set (i * 2 + 1) b' = (css.set i [a, b']).flatten := by
  intro css
  induction css with
  | nil => intro i a b b' _ h; simp at h
  | cons c css ih =>
    intro i a b b' hc h
    cases i with
    | zero => simp at h; subst h; simp
    | succ i =>
      have h2 := hc c (by simp)
      have := ih i a b b' (fun d hd => hc d (by simp [hd])) (by simpa using h)
      simp only [List.flatten_cons, List.set_cons_succ]
      rw [← this, show (i + 1) * 2 + 1 = c.length + (i * 2 + 1) by rw [h2]; omega, List.set_append_right _ _ (Nat.le_add_right _ _), Nat.add_sub_cancel_left]
theorem rel_set {B : Nat} {w : World} {g n cap : Nat} {l : List Rel} {css : List (List Value)} {i : Nat} {x : Rel} {rv' : Value} {zs : List Val} (hn : l.length = n) (h : Own relRd 31 (fun _ => True) B w (.slice (some ⟨g, 0, none⟩) n cap) l css) (hi : l[i]? = some x)
    (hs : Sl valRd (But (fun _ => True) (.slice (some ⟨g, 0, none⟩) n cap)) w rv' zs) :
    ∃ css', Own relRd 31 (fun _ => True) B (w.setCell ⟨g, i * 2 + 1, none⟩ rv') (.slice (some ⟨g, 0, none⟩) n cap) (l.set i ⟨x.table, zs⟩) css' := by
  subst hn
  have hil := (List.getElem?_eq_some_iff.1 hi).1
  obtain ⟨c, hc⟩ : ∃ c, css[i]? = some c := ⟨_, List.getElem?_eq_getElem (by rw [h.cs.len]; exact hil)⟩
  obtain ⟨rv, rfl, htl, _⟩ := h.cs.R i c x hc hi
  have hA : Agree (But (fun _ => True) (.slice (some ⟨g, 0, none⟩) l.length cap)) w (w.setCell ⟨g, i * 2 + 1, none⟩ rv') := fun b hS _ => heap_setCell_ne (fun e => hS.2 (by rw [e]; rfl))
  refine ⟨css.set i [sv x.table, rv'], ⟨?_, ⟨by rw [List.length_set, List.length_set]; exact h.cs.len, fun j d y hd hy => ?_⟩⟩⟩
  · rw [List.length_set, ← flat_set2 css i _ rv rv' h.cs.all hc]
    exact (h.row.stored (i * 2 + 1) rv').1
  · by_cases e : j = i
    · subst e
      rw [List.getElem?_set_self hil] at hy
      rw [List.getElem?_set_self (by rw [h.cs.len]; exact hil)] at hd
      cases hd; cases hy
      exact ⟨rv', rfl, htl, hs.frame hA⟩
    · rw [List.getElem?_set_ne (Ne.symm e)] at hd hy
      exact relRd.frame (h.cs.R j d y hd hy) hA

set_option maxRecDepth 100000 in
set_option maxHeartbeats 4000000 in
theorem normal'_any (S0 S1 : Nat → Prop) (s : Sc) (cs : List Value) (lv : Value) (l : List Rel) (dst : List Val → List Val) (w : World) (hs : IsSc S0 w cs s) (hl0 : Sl relRd S1 w lv l) (hnl : ∀ t ∈ s.tables, t.name.length ≤ 1000000) (htl0 : s.tables.length ≤ 1000)
    (hll : l.length ≤ 1000) (hrl : ∀ r ∈ l, r.rows.length ≤ 1000) (hD : ∀ o, nrm1 (emptyS s) l = some o → ∀ r ∈ o, DistOk r.rows (dst r.rows)) :
    Calls Tryz.prog 7 #[.agg cs.toArray, lv] w (NormalIs w (normalF dst s l)) := by
  have HEm := Lib.hid (fun W (hb : Below w.heap.size w W) => empty_any S0 s cs W (hs.below hb) hnl htl0)
  obtain ⟨uv, tv, rfl, hu, ht0⟩ := hs
  have hl : Sl relRd (fun b => b < w.heap.size) w lv l := hl0.mono (fun b hb _ => hb)
  obtain ⟨up, uc, rfl, _⟩ := hu.len
  obtain ⟨tp, tc, rfl, _⟩ := ht0.len
  obtain ⟨lp, lc, rfl, _⟩ := hl.len
  have HL := Lib.hid hl; have HRL := Lib.hid hrl; have HD := Lib.hid hD
  obtain ⟨i0, j1, j2, j3, j4⟩ := info_of (P := Tryz.prog) (t := 34) (z := .agg #[.int .i64 0, .int .i64 0, .string ⟨#[]⟩, .slice none 0 0, .slice none 0 0]) (n := 5) (b := 80) (by kernel_rfl)
  have HJ := Lib.hid j1; have HJ2 := Lib.hid j2; have HJ3 := Lib.hid j3; have HJ4 := Lib.hid j4
  clear hu ht0 hl0 hl hrl hD hnl j1 j2 j3 j4
  obtain ⟨m, hm⟩ : ∃ m, l.length = m := ⟨_, rfl⟩
  rw [hm] at HL hll
  rw [hm]
  have HM := Lib.hid hm
  clear hm
  obtain ⟨Q, hQ⟩ : ∃ Q, normalF dst s l = Q := ⟨_, rfl⟩
  rw [hQ]
  have HQ := Lib.hid hQ
  clear hQ
  obtain ⟨n, hn⟩ : ∃ n, s.tables.length = n := ⟨_, rfl⟩
  unfold EmptyIs at HEm
  rw [hn] at HEm htl0
  rw [hn]
  have HN := Lib.hid hn
  clear hn
  have mixed : (Tryz.prog).follows .mixedOrders = true := by kernel_rfl
  go_enter Tryz.func7, Tryz.ntmps7
  go_wp2_with fail
  refine (HEm.out _ (bal1 _ _)).mono ?_
  rintro e w1 ⟨p, cap, rfl, hSt1, hb1⟩
  obtain ⟨W0, hW0⟩ : ∃ W0, w.alloc (.cells #[.slice up s.sums.length uc, .slice tp n tc] 26) = W0 := ⟨_, rfl⟩
  rw [hW0] at hSt1 hb1
  have HB0 := Lib.hid (show Below w.heap.size w W0 by rw [← hW0]; exact bal1 _ _)
  have HB1 := Lib.hid hb1; have HSt1 := Lib.hid hSt1
  clear hb1 hSt1 hW0 HEm
  go_wp2_with fail
  go_loopw [16] (fun i wr => ∃ (k : Nat) (out : List Rel) (rvs : List Value), k ≤ m ∧ i = .int .i64 k ∧ Aside (nrm1 out (l.drop k) = nrm1 (emptyS s) l) ∧ Aside (out.length = n) ∧ Aside (∀ x ∈ out, x.rows.length ≤ 1000 * k) ∧ OwnSt W0.heap.size wr (.slice p n cap) out rvs ∧ Below W0.heap.size W0 wr) (fun i _ => m - (intOf i).toNat)
  case atStart => exact ⟨0, emptyS s, _, Nat.zero_le _, rfl, rfl, (by show _ = _; unfold emptyS; rw [List.length_map]; exact HN.out), (by intro x hx; unfold emptyS at hx; obtain ⟨t, _, rfl⟩ := List.mem_map.1 hx; simp), HSt1.out, HB1.out⟩
  case round =>
    obtain ⟨k, out, rvs, hkm, rfl, hE, hol, hrw, hSt, hBr⟩ := hrel
    have hE := hE.out; have hol := hol.out; have hrw := hrw.out
    have HBr := Lib.hid hBr; have HBw := Lib.hid (HB0.out.trans (hBr.mono HB0.out.size))
    have hslr : Sl relRd (fun _ => True) wr (.slice p n cap) out := hSt.sl (by rw [hol]; omega) (fun x hx => by have := hrw x hx; omega) _ (fun _ _ => trivial) (fun _ _ _ => trivial)
    have HSl := Lib.hid hslr; have HSt := Lib.hid hSt; have HOL := Lib.hid hol; have HE := Lib.hid hE; have HRW := Lib.hid hrw
    clear hBr hslr hSt hol hE hrw
    by_cases hlt : k < m
    · have hi1 : (0 : Int) ≤ (k : Int) := by omega
      have hi2 : (k : Int) < (m : Int) := by omega
      obtain ⟨r, hr⟩ : ∃ r, l[k]? = some r := ⟨_, List.getElem?_eq_getElem (by rw [HM.out]; exact hlt)⟩
      obtain ⟨lb, loff, cl, rfl, hlb, _, hllen, hlR, hlc⟩ := (HL.out.below HBw.out).elem hr
      obtain ⟨rv, rfl, htn, hrv⟩ := hlR
      obtain ⟨rp, rc, rfl, _⟩ := hrv.len
      have l0 := hlc 0 _ rfl
      have l1 := hlc 1 _ rfl
      simp only [show relRd.k = 2 from rfl, Nat.add_zero] at l0 l1
      unfold sv at l0
      have HRv := Lib.hid hrv; have HRi := Lib.hid hr
      clear hr hlc hllen hrv hlb
      go_upto_region 5 with fail
      obtain ⟨W5, hW5⟩ : ∃ W5, wr.alloc (.cells #[.string ⟨r.table.toArray⟩, .slice rp r.rows.length rc] 31) = W5 := ⟨_, rfl⟩
      rw [hW5]
      have hb5 : Below wr.heap.size wr W5 := by rw [← hW5]; exact bal1 _ _
      have hX5 : W5.heap[wr.heap.size]? = some (.cells #[.string ⟨r.table.toArray⟩, .slice rp r.rows.length rc] 31 (0, 0)) := by rw [← hW5]; exact heap_alloc_new _ _
      have x0 := cell_of_row _ _ 0 _ _ _ hX5
      simp only [List.getElem?_toArray, List.getElem?_cons_zero] at x0
      have HX5 := Lib.hid hX5; have HB5 := Lib.hid hb5
      have HIx := Lib.hid (index_any _ _ out r.table W5 (HSl.out.below hb5))
      unfold sv at HIx
      clear hW5 hb5 hX5 l0 l1
      obtain ⟨ix, hix⟩ : ∃ ix, idxP (fun x => decide (x.table = r.table)) out = ix := ⟨_, rfl⟩
      rw [hix] at HIx
      rcases idxP_find (fun x : Rel => decide (x.table = r.table)) out with ⟨hf, hm1⟩ | ⟨i, o, hf, hm1, ho⟩
      · rw [hix] at hm1
        subst hm1
        have HF := Lib.hid hf
        clear hix hf
        go_wp2_with fail
        refine HIx.out.mono ?_
        rintro e w6 ⟨rfl, hb6⟩
        go_wp2_with fail
        go_ret2
        have hQ : Q = (7, []) := by
          rw [← HQ.out]
          unfold normalF
          rw [← HE.out, List.drop_eq_getElem_cons (by rw [HM.out]; exact hlt)]
          have hr := HRi.out
          rw [List.getElem?_eq_getElem (by rw [HM.out]; exact hlt)] at hr
          rw [Option.some.inj hr]
          unfold nrm1
          rw [HF.out]
        rw [hQ]
        exact ⟨none, 0, rfl, Sl.nil _ _ _, HBw.out.thn (HB5.out.thn hb6)⟩
      · rw [hix] at hm1
        subst hm1
        have hin : i < n := by rw [← HOL.out]; exact (List.getElem?_eq_some_iff.1 ho).1
        obtain ⟨rvi, hrvi⟩ : ∃ rvi, rvs[i]? = some rvi := ⟨_, List.getElem?_eq_getElem (by rw [HSt.out.len, HOL.out]; exact hin)⟩
        obtain ⟨css, hOwn⟩ := HSt.out.rows i o rvi ho hrvi
        obtain ⟨rpi, rci, rfl⟩ := hOwn.form
        obtain ⟨g, cap', hv, hgB, hgs⟩ := HSt.out.row.form (by rw [HOL.out]; omega)
        simp only [Value.slice.injEq] at hv
        obtain ⟨rfl, -, rfl⟩ := hv
        have hi3 : (0 : Int) ≤ (i : Int) := by omega
        have hi4 : (i : Int) < (n : Int) := by omega
        have hi5 : decide ((i : Int) < 0) = false := by simp
        have HF := Lib.hid hf; have HO := Lib.hid ho; have HRvi := Lib.hid hrvi
        have hor := HRW.out o (List.mem_of_getElem? ho)
        have hrr := HRL.out r (List.mem_of_getElem? HRi.out)
        clear hix hf ho hOwn hrvi
        go_wp2_with fail
        refine HIx.out.mono ?_
        rintro e w6 ⟨rfl, hb6⟩
        have hSt6 := (HSt.out.below HB5.out).below hb6
        obtain ⟨cur, hcur, _, hci⟩ := hSt6.at HO.out HRvi.out
        obtain ⟨css, hOwn⟩ := hSt6.rows i o _ HO.out HRvi.out
        have c1 := cell_of_row _ _ (i * 2 + 1) _ _ _ hcur
        rw [hci] at c1
        have x1 := cell_of_row _ _ 1 _ _ _ ((hb6.block _ (World.block_lt_some HX5.out)).trans HX5.out)
        simp only [List.getElem?_toArray, List.getElem?_cons_zero, List.getElem?_cons_succ] at x1
        have HB6 := Lib.hid (HB5.out.thn hb6)
        have hy : Sl valRd (But (Free (.slice (some ⟨g, 0, none⟩) n cap) rvs) (.slice rpi o.rows.length rci)) w6.drew (.slice rp r.rows.length rc) r.rows := by
          have h1 : Sl valRd (fun b => b < w.heap.size) wr (.slice rp r.rows.length rc) r.rows := HRv.out
          refine ((h1.below HB6.out).mono (fun b _ hb => ?_)).frame (fun b _ _ => rfl)
          have hb' : b < w.heap.size := hb
          have hB0 := HB0.out.size
          refine ⟨⟨fun e => ?_, fun u hu e => ?_⟩, fun e => ?_⟩
          · have : g = b := Option.some.inj e
            have := (HSt.out.row.lt g rfl).1
            omega
          · obtain ⟨j, hj⟩ := List.getElem?_of_mem hu
            obtain ⟨x, hx⟩ : ∃ x, out[j]? = some x := ⟨_, List.getElem?_eq_getElem (by rw [← HSt.out.len]; exact (List.getElem?_eq_some_iff.1 hj).1)⟩
            obtain ⟨_, ho2⟩ := HSt.out.rows j x u hx hj
            have := (ho2.row.lt b e).1
            omega
          · have := (hOwn.row.lt b e.symm).1
            omega
        have hne6 : some g ≠ (Value.slice rpi o.rows.length rci).ownBlock := fun e => rows_apart hSt6.row hOwn.row (by decide) rfl e.symm
        have HSt6 := Lib.hid hSt6; have HOwn := Lib.hid (hOwn.below ((Below.refl _ _).drew)); have HY := Lib.hid hy; have HCur := Lib.hid hcur; have HCi := Lib.hid hci
        have hsz6 : W0.heap.size ≤ w6.heap.size := by have := HBr.out.size; have := HB6.out.size; omega
        clear hSt6 hOwn hy hcur hci hb6
        go_wp2_with fail
        go_region_law ((refine step_cat (r := valRd) (by decide) (by rfl) (.tmp 32) (.tmp 34) 29 (by rfl) 34 i0 (.agg #[.int .i64 0, .int .i64 0, .string ⟨#[]⟩, .slice none 0 0, .slice none 0 0]) 80 Tryz.underlying29 HJ.out HJ2.out HJ3.out HJ4.out rfl (by omega) (Free (.slice (some ⟨g, 0, none⟩) n cap) rvs) W0.heap.size w6.drew (.slice rpi o.rows.length rci) o.rows css r.rows rp r.rows.length rc (by rfl) HOwn.out (by rfl) HY.out val_one (by omega) hsz6 ?_; intro p7 cap7 css7 w7 hO7 hg7 hat7; have hc7 := (hg7.block g (World.block_lt_some HCur.out) hne6).trans HCur.out; have f7 := frozen_of_row _ _ (i * 2 + 1) _ _ hc7; have k7 := cell_of_row _ _ (i * 2 + 1) _ _ _ hc7; rw [HCi.out] at k7; have HC7 := Lib.hid hc7; have HG7 := Lib.hid hg7; have HO7 := Lib.hid hO7; have HA7 := Lib.hid hat7; clear hc7 hg7 hO7 hat7))
        all_goals
          go_wp2_with fail
          go_roundw
          case measure => simp [intOf]; omega
          case rel =>
            refine ⟨k + 1, out.set i ⟨o.table, o.rows ++ r.rows⟩, rvs.set i (.slice p7 (o.rows.length + r.rows.length) cap7), by omega, by go_num, (show Aside _ from ?_), (show Aside _ from ?_), (show Aside _ from ?_), HSt6.out.put' HOL.out HO.out HRvi.out ⟨css7, HO7.out⟩ (grown_drew HG7.out) ?_, ?_⟩
            · show _ = _
              rw [← HE.out, List.drop_eq_getElem_cons (i := k) (by rw [HM.out]; exact hlt)]
              have hr := HRi.out
              rw [List.getElem?_eq_getElem (by rw [HM.out]; exact hlt)] at hr
              rw [Option.some.inj hr]
              conv => rhs; unfold nrm1
              rw [HF.out]
              simp only [List.getD_eq_getElem?_getD, HO.out, Option.getD_some]
            · show _ = _
              rw [List.length_set]; exact HOL.out
            · intro x hx
              rcases List.mem_or_eq_of_mem_set hx with h1 | rfl
              · have := HRW.out x h1; omega
              · rw [List.length_append]; omega
            · rcases HA7.out with h1 | h1
              · exact .inl h1
              · exact .inr fun g' e => by rw [h1] at e; have := Option.some.inj e; exact Nat.le_of_eq this
            · exact ((HBr.out.trans (HB6.out.mono HBr.out.size)).grown (grown_drew HG7.out) hsz6 (fun b hb => (HOwn.out.row.lt b hb).1)).setCell (p := ⟨g, i * 2 + 1, none⟩) hgB _
    · obtain rfl : k = m := by omega
      have hi2 : ¬ (k : Int) < (k : Int) := by omega
      have hE := HE.out
      rw [List.drop_eq_nil_of_le (by rw [HM.out]; exact Nat.le_refl _)] at hE
      have HN1 := Lib.hid (show nrm1 (emptyS s) l = some out from hE.symm)
      have hQ : Q = if out.any (tooMany dst) then (4, []) else (0, out.map fun r => ⟨r.table, dst r.rows⟩) := by
        rw [← HQ.out]; unfold normalF; rw [HN1.out]
      have HQ2 := Lib.hid hQ
      clear hE hQ
      have HOw := Lib.hid (HSt.out.own (fun x hx => by have := HRW.out x hx; omega))
      go_wp2_with fail
      go_loopw [41] (fun i wv => ∃ (k : Nat) (xs : List Rel) (css : List (List Value)), k ≤ n ∧ i = .int .i64 k ∧ xs.length = n ∧ Aside (∀ (j : Nat) (x : Rel), xs[j]? = some x → ∃ o, out[j]? = some o ∧ x = if j < k then ⟨o.table, dst o.rows⟩ else o) ∧ Aside (∀ (j : Nat) (o : Rel), j < k → out[j]? = some o → tooMany dst o = false) ∧
        Own relRd 31 (fun _ => True) W0.heap.size wv (.slice p n cap) xs css ∧ Below W0.heap.size W0 wv) (fun i _ => n - (intOf i).toNat)
      case atStart => exact ⟨0, out, _, Nat.zero_le _, rfl, HOL.out, (fun j x hx => ⟨x, hx, by simp⟩), (fun j o hj => absurd hj (Nat.not_lt_zero _)), HOw.out, HBr.out⟩
      case round =>
        obtain ⟨j, xs, css, hjn, rfl, hxl, hxs, hno, hO, hBv⟩ := hrel
        have HXs := Lib.hid hxs.out; have HNo := Lib.hid hno.out; have HXL := Lib.hid hxl
        have HBv := Lib.hid hBv; have HBw2 := Lib.hid (HB0.out.trans (hBv.mono HB0.out.size)); have HOv := Lib.hid hO
        clear hxs hno hxl hBv hO
        by_cases hlt : j < n
        · have hi1 : (0 : Int) ≤ (j : Int) := by omega
          have hi3 : (j : Int) < (n : Int) := by omega
          obtain ⟨x, hx⟩ : ∃ x, xs[j]? = some x := ⟨_, List.getElem?_eq_getElem (by rw [HXL.out]; exact hlt)⟩
          obtain ⟨o, ho, hxo⟩ := HXs.out j x hx
          rw [if_neg (Nat.lt_irrefl _)] at hxo
          subst hxo
          obtain ⟨g, cap', hv, hgB, hgs⟩ := HOv.out.row.form (by rw [HXL.out]; omega)
          simp only [Value.slice.injEq] at hv
          obtain ⟨rfl, -, rfl⟩ := hv
          obtain ⟨c, hc⟩ : ∃ c, css[j]? = some c := ⟨_, List.getElem?_eq_getElem (by rw [HOv.out.cs.len, HXL.out]; exact hlt)⟩
          obtain ⟨rv, rfl, _, hrv⟩ := HOv.out.cs.R j c x hc hx
          obtain ⟨rp, rc, rfl, _⟩ := hrv.len
          have hrow := HOv.out.row
          rw [HXL.out] at hrow
          have l0 := hrow.cellAt (j * 2) (by show j * 2 < n * 2; omega)
          have l1 := hrow.cellAt (j * 2 + 1) (by show j * 2 + 1 < n * 2; omega)
          rw [show css.flatten[j * 2]? = some (sv x.table) from flat_get (k := 2) HOv.out.cs.all hc (j := 0) rfl] at l0
          rw [show css.flatten[j * 2 + 1]? = some (.slice rp x.rows.length rc) from flat_get (k := 2) HOv.out.cs.all hc (j := 1) rfl] at l1
          unfold sv at l0
          obtain ⟨zs, hsort, hdist⟩ := HD.out out HN1.out x (List.mem_of_getElem? ho)
          have HSo := Lib.hid hsort; have HDi := Lib.hid hdist; have HX := Lib.hid hx; have HOo := Lib.hid ho; have HRv := Lib.hid hrv; have HC := Lib.hid (show css.flatten[j * 2 + 1]? = some (.slice rp x.rows.length rc) from flat_get (k := 2) HOv.out.cs.all hc (j := 1) rfl)
          clear hx ho hc hrv hsort hdist
          go_upto_region 13 with fail
          obtain ⟨W5, hW5⟩ : ∃ W5, wr.alloc (.cells #[.string ⟨x.table.toArray⟩, .slice rp x.rows.length rc] 31) = W5 := ⟨_, rfl⟩
          rw [hW5]
          have hb5 : Below wr.heap.size wr W5 := by rw [← hW5]; exact bal1 _ _
          have hX5 : W5.heap[wr.heap.size]? = some (.cells #[.string ⟨x.table.toArray⟩, .slice rp x.rows.length rc] 31 (0, 0)) := by rw [← hW5]; exact heap_alloc_new _ _
          have x1 := cell_of_row _ _ 1 _ _ _ hX5
          simp only [List.getElem?_toArray, List.getElem?_cons_zero, List.getElem?_cons_succ] at x1
          have HB5 := Lib.hid hb5
          have HS5 := Lib.hid (HSo.out _ _ W5 (HRv.out.below hb5))
          clear hW5 hb5 hX5 l0 l1 hrow
          go_wp2_with fail
          refine HS5.out.mono ?_
          rintro e w6 ⟨p6, c6, rfl, hs6, hb6⟩
          have HS6 := Lib.hid (HDi.out _ _ w6 hs6)
          have HB6 := Lib.hid (HB5.out.thn hb6)
          clear hs6 hb6 x1
          go_wp2_with fail
          refine HS6.out.mono ?_
          rintro e w7 ⟨p7, c7, rfl, hs7, hb7⟩
          have hb7' := HB6.out.thn hb7
          have hO7 := HOv.out.below hb7'
          have hrow := hO7.row
          rw [HXL.out] at hrow
          have f7 := hrow.frozenAt (j * 2 + 1)
          have k7 := hrow.cellAt (j * 2 + 1) (by show j * 2 + 1 < n * 2; omega)
          rw [HC.out] at k7
          have hs7' : Sl valRd (But (fun _ => True) (.slice (some ⟨g, 0, none⟩) n cap)) w7 (.slice p7 (dst x.rows).length c7) (dst x.rows) := hs7.mono (fun b _ hb => ⟨trivial, fun e => by
            have h1 : b = g := Option.some.inj e
            have h2 : w6.heap.size ≤ b := hb
            have := HB6.out.size
            omega⟩)
          obtain ⟨css', hO8⟩ := rel_set HXL.out hO7 HX.out hs7'
          have hb8 : Below W0.heap.size W0 (w7.setCell ⟨g, j * 2 + 1, none⟩ (.slice p7 (dst x.rows).length c7)) := (HBv.out.trans (hb7'.mono HBv.out.size)).setCell (p := ⟨g, j * 2 + 1, none⟩) hgB _
          have HO8 := Lib.hid hO8; have HB8 := Lib.hid hb8
          clear hs7 hb7 hb7' hO7 hrow hs7' hO8 hb8
          by_cases h256 : 256 < (dst x.rows).length
          · have hz : (256 : Int) < ((dst x.rows).length : Int) := by omega
            have HT := Lib.hid (show tooMany dst x = true from decide_eq_true h256)
            clear h256
            go_wp2_with fail
            go_ret2
            have hQ : Q = (4, []) := by
              rw [HQ2.out, if_pos (List.any_eq_true.2 ⟨x, List.mem_of_getElem? HOo.out, HT.out⟩)]
            rw [hQ]
            exact ⟨none, 0, rfl, Sl.nil _ _ _, HB0.out.trans (HB8.out.mono HB0.out.size)⟩
          · have hz : ¬ (256 : Int) < ((dst x.rows).length : Int) := by omega
            have HT := Lib.hid (show tooMany dst x = false from decide_eq_false h256)
            clear h256
            go_wp2_with fail
            go_roundw
            case measure => simp [intOf]; omega
            case rel =>
              refine ⟨j + 1, xs.set j ⟨x.table, dst x.rows⟩, css', by omega, by go_num, by rw [List.length_set]; exact HXL.out, (show Aside _ from fun i y hy => ?_), (show Aside _ from fun i y hi hy => ?_), HO8.out, HB8.out⟩
              · by_cases e : i = j
                · subst e
                  rw [List.getElem?_set_self (by rw [HXL.out]; exact hlt)] at hy
                  cases hy
                  exact ⟨x, HOo.out, by rw [if_pos (Nat.lt_succ_self _)]⟩
                · rw [List.getElem?_set_ne (Ne.symm e)] at hy
                  obtain ⟨o, h1, h2⟩ := HXs.out i y hy
                  refine ⟨o, h1, ?_⟩
                  rw [h2]
                  by_cases e2 : i < j
                  · rw [if_pos e2, if_pos (by omega)]
                  · rw [if_neg e2, if_neg (by omega)]
              · by_cases e : i = j
                · subst e
                  have := HOo.out
                  rw [hy] at this
                  cases this
                  exact HT.out
                · exact HNo.out i y (by omega) hy
        · obtain rfl : j = n := by omega
          have hi3 : ¬ (j : Int) < (j : Int) := by omega
          go_wp2_with fail
          go_ret2
          have hQ : Q = (0, out.map fun r => ⟨r.table, dst r.rows⟩) := by
            rw [HQ2.out, if_neg]
            rw [Bool.not_eq_true, List.any_eq_false]
            intro y hy
            obtain ⟨i, hi⟩ := List.getElem?_of_mem hy
            rw [HNo.out i y (by have := (List.getElem?_eq_some_iff.1 hi).1; have := HOL.out; omega) hi]
            decide
          have hxs : xs = out.map fun r => ⟨r.table, dst r.rows⟩ := by
            apply List.ext_getElem?
            intro i
            by_cases hi : i < xs.length
            · have hy := List.getElem?_eq_getElem hi
              obtain ⟨o, h1, h2⟩ := HXs.out i _ hy
              rw [hy, h2, if_pos (by have := HXL.out; omega), List.getElem?_map, h1]; rfl
            · rw [List.getElem?_eq_none (by omega), List.getElem?_eq_none (by rw [List.length_map, HOL.out]; have := HXL.out; omega)]
          rw [hQ]
          have hlm : (out.map fun r => (⟨r.table, dst r.rows⟩ : Rel)).length = j := by rw [List.length_map]; exact HOL.out
          refine ⟨p, cap, ?_, ?_, HBw2.out⟩
          · show _ = Ending.returned (.tuple #[.slice p (out.map fun r => (⟨r.table, dst r.rows⟩ : Rel)).length cap, .int .i64 0])
            rw [hlm]; rfl
          · show Sl relRd _ _ (.slice p (out.map fun r => (⟨r.table, dst r.rows⟩ : Rel)).length cap) (out.map fun r => (⟨r.table, dst r.rows⟩ : Rel))
            rw [hlm, ← hxs]
            exact HOv.out.sl' (by rw [HXL.out]; omega) (fun _ _ => trivial) (fun _ _ _ => trivial)
end Go.Proofs.YthkkmklnapkgaaaGreatDoor

import Derived.Test.YthkkmklnapkgaaaGreatDoorQ38
/- rows.copied; slices.Insert at the end of a row of the call's own. -/
namespace Go.Proofs.YthkkmklnapkgaaaGreatDoor
open Go.RowKit Go.Shelf Go.Lib

def CopiedIs (w : World) (l : List Rel) (e : Ending) (w' : World) : Prop := ∃ p cap rvs, e = .returned (.slice p l.length cap) ∧ OwnSt w.heap.size w' (.slice p l.length cap) l rvs ∧ Below w.heap.size w w'
/-- A copy in the making: the first relations have rows of their own. -/
structure CopMid (w : World) (g n cap : Nat) (l : List Rel) (css0 : List (List Value)) (k : Nat) (rvs : List Value) (wx : World) : Prop where
  below : Below w.heap.size w wx
  len : rvs.length = k
  row : wx.ownsRow w.heap.size 31 2 (.slice (some ⟨g, 0, none⟩) n cap) n (stCells (l.take k) rvs ++ css0.drop k).flatten
  rows : ∀ (i : Nat) (r : Rel) (rv : Value), i < k → l[i]? = some r → rvs[i]? = some rv → ∃ css, Own valRd 34 (fun b => b < w.heap.size) w.heap.size wx rv r.rows css
  apart : ∀ (i j : Nat) (a b : Value) (h : Nat), rvs[i]? = some a → rvs[j]? = some b → a.ownBlock = some h → b.ownBlock = some h → i = j

theorem CopMid.next {w wr w4 : World} {g n cap : Nat} {l : List Rel} {css0 : List (List Value)} {k : Nat} {rvs : List Value} {r : Rel} {rv0 rv' : Value} {css : List (List Value)} (hM : CopMid w g n cap l css0 k rvs wr) (hn : l.length = n) (hc0 : css0.length = n) (hc2 : ∀ c ∈ css0, c.length = 2)
    (hr : l[k]? = some r) (hc : css0[k]? = some [sv r.table, rv0]) (hb : Below wr.heap.size wr w4) (ho : Own valRd 34 (fun b => b < w.heap.size) wr.heap.size w4 rv' r.rows css) :
    CopMid w g n cap l css0 (k + 1) (rvs ++ [rv']) (w4.setCell ⟨g, k * 2 + 1, none⟩ rv') := by
  subst hn
  have hk := (List.getElem?_eq_some_iff.1 hr).1
  have hg := hM.row.lt g rfl
  have hsz := hM.below.size
  have hlt : (l.take k).length = k := by rw [List.length_take]; omega
  have hst : (stCells (l.take k) rvs).length = k := by rw [stCells_len (by rw [hlt]; exact hM.len), hlt]
  have hall : ∀ c ∈ stCells (l.take k) rvs ++ css0.drop k, c.length = 2 := by
    intro c hcm
    rcases List.mem_append.1 hcm with h | h
    · exact stCells_all c h
    · exact hc2 c (List.mem_of_mem_drop h)
  have hat : (stCells (l.take k) rvs ++ css0.drop k)[k]? = some [sv r.table, rv0] := by
    rw [List.getElem?_append_right (by omega), hst, Nat.sub_self, List.getElem?_drop, Nat.add_zero]; exact hc
  have hset : (stCells (l.take k) rvs ++ css0.drop k).set k [sv r.table, rv'] = stCells (l.take (k + 1)) (rvs ++ [rv']) ++ css0.drop (k + 1) := by
    have hd : css0.drop k = css0[k]'(by omega) :: css0.drop (k + 1) := List.drop_eq_getElem_cons (by omega)
    have hs : stCells (l.take (k + 1)) (rvs ++ [rv']) = stCells (l.take k) rvs ++ [[sv r.table, rv']] := by
      unfold stCells
      rw [List.take_succ_eq_append_getElem hk, List.zipWith_append (by rw [hlt, hM.len])]
      rw [List.getElem?_eq_getElem hk] at hr
      rw [Option.some.inj hr]; rfl
    rw [hd, List.set_append_right _ _ (by omega), hst, Nat.sub_self, List.set_cons_zero, hs, List.append_assoc]; rfl
  have hne : ∀ h, rv'.ownBlock = some h → h ≠ g := fun h e => by have := (ho.row.lt h e).1; omega
  refine ⟨(hM.below.thn hb).setCell (p := ⟨g, k * 2 + 1, none⟩) hg.1 _, by rw [List.length_append, hM.len]; rfl, ?_, ?_, ?_⟩
  · rw [← hset, ← flat_set2 _ k _ rv0 rv' hall hat]
    exact ((ownsRow_move hM.row (Nat.le_refl _) (fun b _ hlt => hb.block b hlt)).stored (k * 2 + 1) rv').1
  · intro i x u hi hx hu
    by_cases e : i = k
    · subst e
      rw [List.getElem?_append_right (by rw [hM.len]; exact Nat.le_refl _), hM.len, Nat.sub_self] at hu
      simp at hu; subst hu
      rw [hr] at hx; cases hx
      refine ⟨css, ho.move (by omega) (fun b hb' h => heap_setCell_ne (fun e => ?_))⟩
      have e' : b = g := e
      rcases h with h | h
      · have h' : b < w.heap.size := h; omega
      · exact hne b h e'
    · rw [List.getElem?_append_left (by rw [hM.len]; omega)] at hu
      obtain ⟨cs, hj⟩ := hM.rows i x u (by omega) hx hu
      have hu1 : u.ownBlock ≠ some g := rows_apart hM.row hj.row (by decide) rfl
      refine ⟨cs, hj.move (Nat.le_refl _) (fun b hb' h => ?_)⟩
      have : b ≠ g := by
        intro e'
        rcases h with h | h
        · have h' : b < w.heap.size := h; omega
        · exact hu1 (e' ▸ h)
      rw [heap_setCell_ne (fun e2 => this e2), hb.block b hb']
  · intro i j a b h ha hb' h1 h2
    have hold : ∀ (i : Nat) (a : Value), i < k → rvs[i]? = some a → a.ownBlock = some h → h < wr.heap.size := by
      intro i a hi ha hh
      obtain ⟨x, hx⟩ : ∃ x, l[i]? = some x := ⟨_, List.getElem?_eq_getElem (by omega)⟩
      obtain ⟨cs, hj⟩ := hM.rows i x a hi hx ha
      exact (hj.row.lt h hh).2
    have hlast : ∀ (i : Nat) (a : Value), ¬ i < k → (rvs ++ [rv'])[i]? = some a → i = k ∧ a = rv' := by
      intro i a hi ha
      rw [List.getElem?_append_right (by rw [hM.len]; omega), hM.len] at ha
      have h0 := (List.getElem?_eq_some_iff.1 ha).1
      simp at h0
      have : i = k := by omega
      subst this
      simp at ha
      exact ⟨rfl, ha.symm⟩
    by_cases hi : i < k
    · have ha' := ha
      rw [List.getElem?_append_left (by rw [hM.len]; exact hi)] at ha'
      by_cases hj : j < k
      · rw [List.getElem?_append_left (by rw [hM.len]; exact hj)] at hb'
        exact hM.apart i j a b h ha' hb' h1 h2
      · obtain ⟨rfl, rfl⟩ := hlast j b hj hb'
        have := hold i a hi ha' h1
        have := (ho.row.lt h h2).1
        omega
    · obtain ⟨rfl, rfl⟩ := hlast i a hi ha
      by_cases hj : j < i
      · rw [List.getElem?_append_left (by rw [hM.len]; exact hj)] at hb'
        have := hold j b hj hb' h2
        have := (ho.row.lt h h1).1
        omega
      · obtain ⟨rfl, _⟩ := hlast j b hj hb'
        rfl
theorem CopMid.done {w wr : World} {g n cap : Nat} {l : List Rel} {css0 : List (List Value)} {rvs : List Value} (hM : CopMid w g n cap l css0 n rvs wr) (hn : l.length = n) (hc0 : css0.length = n) (htl : ∀ r ∈ l, r.table.length ≤ 1000000) : OwnSt w.heap.size wr (.slice (some ⟨g, 0, none⟩) n cap) l rvs := by
  subst hn
  have hrow := hM.row
  rw [List.take_of_length_le (Nat.le_refl _), List.drop_eq_nil_of_le (by omega), List.append_nil] at hrow
  refine ⟨hM.len, hrow, htl, fun i r rv hr hrv => ?_, hM.apart⟩
  obtain ⟨cs, hj⟩ := hM.rows i r rv (List.getElem?_eq_some_iff.1 hr).1 hr hrv
  refine ⟨cs, ⟨hj.row, hj.cs.move (.refl _ _) (fun b hb hS => ⟨⟨fun e => ?_, fun u hu e => ?_⟩, hS.2⟩)⟩⟩
  · have h' : b < w.heap.size := hS.1
    have := (hrow.lt b e).1
    omega
  · have h' : b < w.heap.size := hS.1
    obtain ⟨j, hju⟩ := List.getElem?_of_mem hu
    have hjl : j < l.length := by rw [← hM.len]; exact (List.getElem?_eq_some_iff.1 hju).1
    obtain ⟨cs', hj'⟩ := hM.rows j _ u hjl (List.getElem?_eq_getElem hjl) hju
    have := (hj'.row.lt b e).1
    omega

set_option maxRecDepth 100000 in
set_option maxHeartbeats 2000000 in
theorem copied_any (S0 : Nat → Prop) (lv : Value) (l : List Rel) (w : World) (hl0 : Sl relRd S0 w lv l) :
    Calls Tryz.prog 60 #[lv] w (CopiedIs w l) := by
  have hl : Sl relRd (fun b => b < w.heap.size) w lv l := hl0.mono (fun b hb _ => hb)
  have HCl := Lib.hid (cloneRel _ lv l w hl)
  obtain ⟨lp, lc, rfl, hll⟩ := hl.len
  clear hl0 hl
  obtain ⟨n, hn⟩ : ∃ n, l.length = n := ⟨_, rfl⟩
  unfold Cloned at HCl
  rw [hn] at HCl hll ⊢
  have HN := Lib.hid hn
  clear hn
  go_enter Tryz.func60, Tryz.ntmps60
  go_wp2_with fail
  refine HCl.out.mono ?_
  rintro e w1 ⟨p, cap, css0, rfl, hO, hb1⟩
  have HO := Lib.hid hO; have HB1 := Lib.hid hb1
  clear hO hb1 HCl
  by_cases hn0 : n = 0
  · subst hn0
    go_wp2_with fail
    go_loopw [10] (fun i wr => i = .int .i64 0 ∧ w1 = wr) (fun _ _ => 0)
    case atStart => exact ⟨rfl, rfl⟩
    case round =>
      obtain ⟨rfl, rfl⟩ := hrel
      go_wp2_with fail
      go_ret
      have hl0 : l = [] := List.eq_nil_of_length_eq_zero HN.out
      subst hl0
      refine ⟨p, cap, [], rfl, ⟨rfl, ?_, by simp, fun i r rv h => by simp at h, fun i j a b g h => by simp at h⟩, HB1.out⟩
      have h1 : w1.ownsRow w.heap.size 31 2 (.slice p 0 cap) 0 css0.flatten := HO.out.row
      have h2 : css0 = [] := List.eq_nil_of_length_eq_zero HO.out.cs.len
      rw [h2] at h1
      exact h1
  · obtain ⟨g, cap', hv, hgB, hgs⟩ := HO.out.row.form (by rw [HN.out]; omega)
    simp only [Value.slice.injEq] at hv
    obtain ⟨rfl, -, rfl⟩ := hv
    go_wp2_with fail
    go_loopw [10] (fun i wr => ∃ (k : Nat) (rvs : List Value), k ≤ n ∧ i = .int .i64 k ∧ CopMid w g n cap l css0 k rvs wr) (fun i _ => n - (intOf i).toNat)
    case atStart =>
      refine ⟨0, [], Nat.zero_le _, rfl, HB1.out, rfl, ?_, fun i r rv h => absurd h (Nat.not_lt_zero _), fun i j a b h ha => by simp at ha⟩
      have h1 : w1.ownsRow w.heap.size 31 2 (.slice (some ⟨g, 0, none⟩) n cap) l.length css0.flatten := HO.out.row
      rw [HN.out] at h1
      exact h1
    case round =>
      obtain ⟨k, rvs, hkn, rfl, hM⟩ := hrel
      have HM := Lib.hid hM
      clear hM
      by_cases hlt : k < n
      · have hi1 : (0 : Int) ≤ (k : Int) := by omega
        have hi2 : (k : Int) < (n : Int) := by omega
        obtain ⟨r, hr⟩ : ∃ r, l[k]? = some r := ⟨_, List.getElem?_eq_getElem (by rw [HN.out]; exact hlt)⟩
        obtain ⟨c, hc⟩ : ∃ c, css0[k]? = some c := ⟨_, List.getElem?_eq_getElem (by rw [HO.out.cs.len, HN.out]; exact hlt)⟩
        obtain ⟨rv, rfl, htl, hrv⟩ := HO.out.cs.R k c r hc hr
        obtain ⟨rp, rc, rfl, _⟩ := hrv.len
        have hst : (stCells (l.take k) rvs).length = k := by rw [stCells_len (by rw [List.length_take, HM.out.len, HN.out]; omega), List.length_take, HN.out]; omega
        have hall : ∀ c ∈ stCells (l.take k) rvs ++ css0.drop k, c.length = 2 := by
          intro c hcm
          rcases List.mem_append.1 hcm with h | h
          · exact stCells_all c h
          · exact HO.out.cs.all c (List.mem_of_mem_drop h)
        have hat : (stCells (l.take k) rvs ++ css0.drop k)[k]? = some [sv r.table, .slice rp r.rows.length rc] := by
          rw [List.getElem?_append_right (by omega), hst, Nat.sub_self, List.getElem?_drop, Nat.add_zero]; exact hc
        have l0 := HM.out.row.cellAt (k * 2) (by omega)
        have l1 := HM.out.row.cellAt (k * 2 + 1) (by omega)
        rw [show (stCells (l.take k) rvs ++ css0.drop k).flatten[k * 2]? = some (sv r.table) from flat_get (k := 2) hall hat (j := 0) rfl] at l0
        rw [show (stCells (l.take k) rvs ++ css0.drop k).flatten[k * 2 + 1]? = some (.slice rp r.rows.length rc) from flat_get (k := 2) hall hat (j := 1) rfl] at l1
        unfold sv at l0
        have hrs : Sl valRd (fun b => b < w.heap.size) w (.slice rp r.rows.length rc) r.rows := (hrv.mono (S' := fun b => b < w.heap.size) (fun b _ hb => hb.1)).frame (fun b hb _ => (HB1.out.block b hb).symm)
        have HRs := Lib.hid hrs; have HR := Lib.hid hr; have HC := Lib.hid hc
        have f1 := HM.out.row.frozenAt (k * 2 + 1)
        clear hr hc hrv hst hall hat hrs f1
        go_upto_region 5 with fail
        obtain ⟨W5, hW5⟩ : ∃ W5, wr.alloc (.cells #[.string ⟨r.table.toArray⟩, .slice rp r.rows.length rc] 31) = W5 := ⟨_, rfl⟩
        rw [hW5]
        have hb5 : Below wr.heap.size wr W5 := by rw [← hW5]; exact bal1 _ _
        have hX5 : W5.heap[wr.heap.size]? = some (.cells #[.string ⟨r.table.toArray⟩, .slice rp r.rows.length rc] 31 (0, 0)) := by rw [← hW5]; exact heap_alloc_new _ _
        have x1 := cell_of_row _ _ 1 _ _ _ hX5
        simp only [List.getElem?_toArray, List.getElem?_cons_zero, List.getElem?_cons_succ] at x1
        have HB5 := Lib.hid hb5
        have HCv := Lib.hid (cloneVal _ _ _ W5 (HRs.out.below (HM.out.below.thn hb5)))
        clear hW5 hb5 hX5 l0 l1
        go_wp2_with fail
        refine HCv.out.mono ?_
        rintro e w6 ⟨p6, c6, css6, rfl, ho6, hb6⟩
        have hB6 := HB5.out.thn hb6
        have hrow6 := ownsRow_move HM.out.row (Nat.le_refl _) (fun b _ hlt => hB6.block b hlt)
        have f7 := hrow6.frozenAt (k * 2 + 1)
        have k7 := hrow6.cellAt (k * 2 + 1) (by omega)
        have HO6 := Lib.hid (ho6.move (B' := wr.heap.size) HB5.out.size (fun _ _ _ => rfl)); have HB6 := Lib.hid hB6
        obtain ⟨u7, hu7⟩ : ∃ u, (stCells (l.take k) rvs ++ css0.drop k).flatten[k * 2 + 1]? = some u := by
          cases h : (stCells (l.take k) rvs ++ css0.drop k).flatten[k * 2 + 1]? with
          | some u => exact ⟨u, rfl⟩
          | none =>
            have h2 := List.getElem?_eq_none_iff.1 h
            have := hrow6.1
            omega
        rw [hu7] at k7
        clear ho6 hb6 hB6 hrow6 hu7 x1 HCv
        go_wp2_with fail
        go_roundw
        case measure => simp [intOf]; omega
        case rel => exact ⟨k + 1, rvs ++ [.slice p6 r.rows.length c6], by omega, by go_num, HM.out.next HN.out (by rw [HO.out.cs.len]; exact HN.out) HO.out.cs.all HR.out HC.out HB6.out HO6.out⟩
      · obtain rfl : k = n := by omega
        have hi2 : ¬ (k : Int) < (k : Int) := by omega
        go_wp2_with fail
        go_ret
        have htl : ∀ r ∈ l, r.table.length ≤ 1000000 := by
          intro r hr
          obtain ⟨i, hi⟩ := List.getElem?_of_mem hr
          have hil := (List.getElem?_eq_some_iff.1 hi).1
          obtain ⟨_, _, h, _⟩ := HO.out.cs.R i _ r (List.getElem?_eq_getElem (by rw [HO.out.cs.len]; exact hil)) hi
          exact h
        have hd := HM.out.done HN.out (by rw [HO.out.cs.len]; exact HN.out) htl
        refine ⟨some ⟨g, 0, none⟩, cap, rvs, by rw [HN.out]; rfl, by rw [HN.out]; exact hd, HM.out.below⟩
end Go.Proofs.YthkkmklnapkgaaaGreatDoor

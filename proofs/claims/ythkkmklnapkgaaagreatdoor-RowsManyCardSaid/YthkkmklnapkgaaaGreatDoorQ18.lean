import Derived.Test.YthkkmklnapkgaaaGreatDoorQ17
import Derived.Maps.Own
import Derived.Maps.OwnSet
import Derived.StringKeys
import Derived.Lib.BufferRead
import Derived.Laws.IdiomStrings
/- rows.Key: the values of the key of a row. -/
namespace Go.Proofs.YthkkmklnapkgaaaGreatDoor
open Go.RowKit Go.Shelf Go.Lib

theorem keyOf_snoc (a : List Bs) (k : Bs) (row : Val) : keyOf (a ++ [k]) row = (match keyOf a row, getF row k with | some l, some v => some (l ++ [v]) | _, _ => none) := by
  induction a with
  | nil =>
    show (match getF row k, some [] with | some v, some l => some (v :: l) | _, _ => none) = _
    cases getF row k <;> rfl
  | cons x a ih =>
    show (match getF row x, keyOf (a ++ [k]) row with | some v, some l => some (v :: l) | _, _ => none) = (match (match getF row x, keyOf a row with | some v, some l => some (v :: l) | _, _ => none), getF row k with | some l, some v => some (l ++ [v]) | _, _ => none)
    rw [ih]
    cases getF row x <;> cases keyOf a row <;> cases getF row k <;> rfl
theorem keyOf_none {ks : List Bs} {k : Bs} {row : Val} (hk : k ∈ ks) (h : getF row k = none) : keyOf ks row = none := by
  induction ks with
  | nil => simp at hk
  | cons x ks ih =>
    show (match getF row x, keyOf ks row with | some v, some l => some (v :: l) | _, _ => none) = none
    rcases List.mem_cons.1 hk with rfl | hk
    · rw [h]
    · rw [ih hk]; cases getF row x <;> rfl
theorem keyOf_len {ks : List Bs} {row : Val} {l : List Val} (h : keyOf ks row = some l) : l.length = ks.length := by
  induction ks generalizing l with
  | nil => cases h; rfl
  | cons x ks ih =>
    have h' : (match getF row x, keyOf ks row with | some v, some l => some (v :: l) | _, _ => none) = some l := h
    cases hg : getF row x with
    | none => rw [hg] at h'; cases h'
    | some v =>
      cases hk : keyOf ks row with
      | none => rw [hg, hk] at h'; cases h'
      | some m =>
        rw [hg, hk] at h'
        cases h'
        simp [ih hk]

def KeyIs (w : World) (o : Option (List Val)) (e : Ending) (w' : World) : Prop := ∃ p n cap, e = .returned (.slice p n cap) ∧ n = (o.getD []).length ∧ Sl valRd (fun b => w.heap.size ≤ b) w' (.slice p n cap) (o.getD []) ∧ Below w.heap.size w w'

set_option maxRecDepth 100000 in
set_option maxHeartbeats 1000000 in
theorem key_any (S S' : Nat → Prop) (t : Tbl) (row : Val) (ct cr : List Value) (w : World) (ht : tblRd.R S w ct t) (hr : IsVal S' w cr row) (hkl : t.key.length ≤ 1000) :
    Calls Tryz.prog 51 #[.agg ct.toArray, .agg cr.toArray] w (KeyIs w (keyOf t.key row)) := by
  have HG := Lib.hid (fun x W (hb : Below w.heap.size w W) => get_any S' row cr x W (hr.move (.of_below hb) (fun _ _ h => h)))
  obtain ⟨cp0, cc0, kp0, kc0, rp0, rc0, k0, s1, n0, s2, p1, n1, c1, p2, n2, c2, p3, n3, c3, a0, z0, rfl, _, _, hkey, _, _⟩ := tbl_cells ht
  obtain ⟨r3, l3, r4, l4, hcr, _⟩ := IsVal.cells hr
  simp only [vcs] at hcr
  subst hcr
  unfold tcs
  have HK := Lib.hid hkey
  obtain ⟨i0, j1, j2, j3, j4⟩ := info_of (P := Tryz.prog) (t := 34) (z := .agg #[.int .i64 0, .int .i64 0, .string ⟨#[]⟩, .slice none 0 0, .slice none 0 0]) (n := 5) (b := 80) (by kernel_rfl)
  have HJ := Lib.hid j1; have HJ2 := Lib.hid j2; have HJ3 := Lib.hid j3; have HJ4 := Lib.hid j4
  clear ht hr hkey j1 j2 j3 j4
  obtain ⟨n, hn⟩ : ∃ n, t.key.length = n := ⟨_, rfl⟩
  rw [hn] at HK hkl ⊢
  have HN := Lib.hid hn
  clear hn
  obtain ⟨r, hr⟩ : ∃ r, keyOf t.key row = r := ⟨_, rfl⟩
  rw [hr]
  have HR := Lib.hid hr
  clear hr
  unfold sv at HG
  go_enter Tryz.func51, Tryz.ntmps51
  go_wp2_with fail
  generalize hW1 : (w.alloc (.cells #[.string ⟨t.name.toArray⟩, .slice cp0 t.columns.length cc0, .slice kp0 n kc0, .slice rp0 t.refs.length rc0, .int .i64 k0, .string s1, .int .i64 n0, .string s2, .slice p1 n1 c1, .slice p2 n2 c2, .slice p3 n3 c3, .int .i64 a0, .int .i64 z0] 59)).alloc (.cells #[.int .i64 row.kind, .int .i64 row.n, .string ⟨row.s.toArray⟩, .slice r3 row.names.length l3, .slice r4 row.kids.length l4] 34) = W1
  have hb1 : Below w.heap.size w W1 := by rw [← hW1]; exact bal2 _ _ _
  have hX1 : W1.heap[w.heap.size + 1]? = some (.cells #[.int .i64 row.kind, .int .i64 row.n, .string ⟨row.s.toArray⟩, .slice r3 row.names.length l3, .slice r4 row.kids.length l4] 34 (0, 0)) := by rw [← hW1]; exact heap_alloc2_new _ _ _
  have HB1 := Lib.hid hb1; have HX1 := Lib.hid hX1
  clear hW1 hb1 hX1
  go_loopw [5, 13] (fun o i wr => ∃ (k : Nat) (l : List Val) (p : Option Addr) (cap : Nat), k ≤ n ∧ i = .int .i64 k ∧ o = .slice p k cap ∧ l.length = k ∧ Aside (keyOf (t.key.take k) row = some l) ∧ Below (w.heap.size + 2) W1 wr ∧
    (∃ css, Own valRd 34 (fun b => w.heap.size + 2 ≤ b) (w.heap.size + 2) wr (.slice p k cap) l css)) (fun _ i _ => n - (intOf i).toNat)
  case atStart => exact ⟨0, [], none, 0, Nat.zero_le _, rfl, rfl, rfl, rfl, Below.refl _ _, [], Own.nil _ _ _ _ _⟩
  case round =>
    obtain ⟨k, l, p, cap, hkn, rfl, rfl, hll, hE, hBr, css, hO⟩ := hrel
    have hsz := World.block_lt_some HX1.out
    have hXr := (hBr.block _ (by omega)).trans HX1.out
    have c0 := cell_of_row _ _ 0 _ _ _ hXr; have c1' := cell_of_row _ _ 1 _ _ _ hXr; have c2' := cell_of_row _ _ 2 _ _ _ hXr; have c3' := cell_of_row _ _ 3 _ _ _ hXr; have c4 := cell_of_row _ _ 4 _ _ _ hXr
    simp only [List.getElem?_toArray, List.getElem?_cons_zero, List.getElem?_cons_succ] at c0 c1' c2' c3' c4
    have hbw : Below w.heap.size w wr := HB1.out.trans (hBr.mono (by omega))
    have hsr := hBr.size
    have HBr := Lib.hid hBr; have HBw := Lib.hid hbw; have HO := Lib.hid hO; have HE := Lib.hid hE.out; have HLL := Lib.hid hll
    clear hXr hBr hbw hO hE hll
    by_cases hlt : k < n
    · have hi1 : (0 : Int) ≤ (k : Int) := by omega
      have hi2 : (k : Int) < (n : Int) := by omega
      have hka : k < t.key.length := by rw [HN.out]; exact hlt
      obtain ⟨x, hx⟩ : ∃ x, t.key[k]? = some x := ⟨_, List.getElem?_eq_getElem hka⟩
      have htk : t.key.take (k + 1) = t.key.take k ++ [x] := by rw [List.take_succ_eq_append_getElem hka]; rw [List.getElem?_eq_getElem hka] at hx; cases hx; rfl
      obtain ⟨kb, koff, rfl, hkc, -⟩ := (HK.out.below HBw.out).str hx
      have HX := Lib.hid hx; have HTK := Lib.hid htk
      clear hx htk hka
      cases hg : getF row x with
      | none =>
        have hr0 : r = none := by rw [← HR.out]; exact keyOf_none (List.mem_of_getElem? HX.out) hg
        subst hr0
        have HG2 := Lib.hid (HG.out x wr HBw.out)
        rw [hg] at HG2
        clear hg
        go_wp2_with (go_at_call 54; refine HG2.out.mono ?_; rintro e w5 ⟨cs', rfl, hv5, hb5⟩; obtain ⟨q3, m3, q4, m4, hcs, _⟩ := IsVal.cells hv5; simp only [vcs, Option.getD_none, Val.zero, Val.kind, Val.n, Val.s, Val.names, Val.kids, List.length_nil] at hcs; subst hcs; have HB5 := Lib.hid hb5; clear hv5 hb5)
        go_ret
        exact ⟨none, 0, 0, rfl, rfl, Sl.nil _ _ _, (HBw.out.thn HB5.out).thn (bal1 _ _)⟩
      | some u =>
        have HG2 := Lib.hid (HG.out x wr HBw.out)
        rw [hg] at HG2
        have HGu := Lib.hid hg
        clear hg
        go_upto_region 6 with (go_at_call 54; refine HG2.out.mono ?_; rintro e w5 ⟨cs', rfl, hv5, hb5⟩; obtain ⟨q3, m3, q4, m4, hcs, _⟩ := IsVal.cells hv5; simp only [vcs, Option.getD_some] at hcs; subst hcs; have HB5 := Lib.hid hb5; have HV5 := Lib.hid hv5; clear hv5 hb5)
        generalize hW6 : w5.alloc (.cells #[.int .i64 u.kind, .int .i64 u.n, .string ⟨u.s.toArray⟩, .slice q3 u.names.length m3, .slice q4 u.kids.length m4] 34) = W6
        have hb6 : Below w5.heap.size w5 W6 := by rw [← hW6]; exact bal1 _ _
        have hX6 : W6.heap[w5.heap.size]? = some (.cells #[.int .i64 u.kind, .int .i64 u.n, .string ⟨u.s.toArray⟩, .slice q3 u.names.length m3, .slice q4 u.kids.length m4] 34 (0, 0)) := by rw [← hW6]; exact heap_alloc_new _ _
        have d0 := cell_of_row _ _ 0 _ _ _ hX6; have d1 := cell_of_row _ _ 1 _ _ _ hX6; have d2 := cell_of_row _ _ 2 _ _ _ hX6; have d3 := cell_of_row _ _ 3 _ _ _ hX6; have d4 := cell_of_row _ _ 4 _ _ _ hX6
        simp only [List.getElem?_toArray, List.getElem?_cons_zero, List.getElem?_cons_succ] at d0 d1 d2 d3 d4
        have hO6 : Own valRd 34 (fun b => w.heap.size + 2 ≤ b) (w.heap.size + 2) W6 (.slice p k cap) l css := (HO.out.below HB5.out).below hb6
        have hV6 : valRd.R (But (fun b => w.heap.size + 2 ≤ b) (.slice p k cap)) W6 [.int .i64 u.kind, .int .i64 u.n, .string ⟨u.s.toArray⟩, .slice q3 u.names.length m3, .slice q4 u.kids.length m4] u := by
          refine IsVal.move HV5.out (.of_below hb6) (fun b _ hb => ?_)
          have h1 : wr.heap.size ≤ b := hb
          refine ⟨by omega, fun e => ?_⟩
          have := (HO.out.row.lt b e.symm).2
          omega
        have hbig : Below (w.heap.size + 2) W1 W6 := HBr.out.trans ((HB5.out.thn hb6).mono (by omega))
        have hsz6 := hb6.size; have hsz5 := HB5.out.size
        have HO6 := Lib.hid hO6; have HV6 := Lib.hid hV6; have HBig := Lib.hid hbig
        clear hW6 hb6 hX6 hO6 hV6 hbig c0 c1' c2' c3' c4 hkc
        go_wp2_with (at_builtin; refine wpList_app (r := valRd) (by decide) rfl (.tmp 25) (.tmp 27) _ rfl 34 i0 (.agg #[.int .i64 0, .int .i64 0, .string ⟨#[]⟩, .slice none 0 0, .slice none 0 0]) 80 Tryz.underlying29 HJ.out HJ2.out HJ3.out HJ4.out rfl (by omega) (fun b => w.heap.size + 2 ≤ b) (w.heap.size + 2) W6 (.slice p k cap) l css [.int .i64 u.kind, .int .i64 u.n, .string ⟨u.s.toArray⟩, .slice q3 u.names.length m3, .slice q4 u.kids.length m4] u rfl HO6.out rfl HV6.out (by simp [Value.oneCell']) k HLL.out (by omega) (by omega) ?_; intro p7 cap7 css7 w7 hO7 hL7; have HO7 := Lib.hid hO7; have HL7 := Lib.hid hL7; clear hO7 hL7)
        go_roundw
        case measure => simp [intOf]; omega
        case rel =>
          refine ⟨k + 1, l ++ [u], p7, cap7, by omega, by go_num, rfl, by have := HLL.out; simp [this], (show Aside _ from ?_), HBig.out.trans HL7.out.below, css7, HO7.out⟩
          have : keyOf (t.key.take (k + 1)) row = some (l ++ [u]) := by rw [HTK.out, keyOf_snoc, HE.out, HGu.out]
          exact this
    · have hkn' : k = n := by omega
      subst hkn'
      have hr1 : r = some l := by
        rw [← HR.out, ← HE.out, List.take_of_length_le (by rw [HN.out]; exact Nat.le_refl _)]
      have HR1 := Lib.hid hr1
      clear hr1
      go_wp2_with fail
      go_ret
      refine ⟨p, k, cap, rfl, by rw [HR1.out]; exact HLL.out.symm, ?_, HBw.out⟩
      rw [HR1.out]
      exact HO.out.sl (by have := HLL.out; omega) (fun b hb => by omega) (fun b _ hb => by omega)
end Go.Proofs.YthkkmklnapkgaaaGreatDoor

/- append of a slice to a row of the call's own; bytes as a string; faults; the plain search for a key that occurs twice. -/
namespace Go.Proofs.YthkkmklnapkgaaaGreatDoor
open Go.RowKit Go.Shelf Go.Lib Go.WideMaps Go.Maps

section
variable {P : Program} {T : Type}
/-- append of a slice that is read, not empty. -/
theorem wpList_cat {r : Rd T} (hk : 0 < r.k) {ops : Array Oper} {rest : List Oper} {o : Oper} {a : Act} {Q : Exit → Act → World → Prop} (hgd : o.guard = none) (s x : Operand) (t : TypeId)
    (ho : o.op = .call { callee := .builtin .append, args := #[s, x], argTypes := #[t, t] }) (E : TypeId) (i : TypeInfo) (z : Value) (bytes : Nat) (ht : P.underlying t = some (.slice E)) (hi : P.info? E = some i) (hz : i.zero = some z)
    (hsize : i.size = r.k) (hby : i.bytes = bytes) (hzs : z.cells.size = r.k) (hb1 : bytes ≤ 1000) (S : Nat → Prop) (B : Nat) (w : World) (v : Value) (xs : List T) (css : List (List Value)) (ys : List T) (q : Option Addr) (m c : Nat) (hs : a.eval s = v)
    (hO : Own r E S B w v xs css) (hx : a.eval x = .slice q m c) (hY : Sl r (But S v) w (.slice q m c) ys) (hm : m = ys.length) (hne : ys ≠ []) (h1 : ∀ S w cs x, r.R S w cs x → ∀ u ∈ cs, u.oneCell' = true) (hl : xs.length + ys.length ≤ 1000000) (hB : B ≤ w.heap.size)
    (h : ∀ p cap css' w1, Own r E S B w1 (.slice p (xs.length + m) cap) (xs ++ ys) css' → w.grownBy w1 v.ownBlock → ((Value.slice p (xs.length + m) cap).ownBlock = v.ownBlock ∨ (Value.slice p (xs.length + m) cap).ownBlock = some w.heap.size) → wpList P ops Q rest (a.put o.dst (.slice p (xs.length + m) cap)) w1) :
    wpList P ops Q (o :: rest) a w := by
  subst hm
  obtain ⟨q', c', dss, hv, hD, hc⟩ := hY.css hk
  simp only [Value.slice.injEq] at hv
  obtain ⟨rfl, -, rfl⟩ := hv
  obtain ⟨b, off, rfl, _, hblt, hcell⟩ := hc hne
  refine wpList_append_own_at (P := P) (w := w) hgd s x t ho B E i z r.k bytes ht hi hz hsize hby hzs hk v xs.length css.flatten hs hO.row ⟨b, off, none⟩ ys.length c dss.flatten hx hD.flat (fun j u hu => ?_) (fun u hu => ?_) (by unfold maxLen; omega) (by
      have := Nat.mul_le_mul (show xs.length + ys.length ≤ 1000000 by omega) hb1
      omega) hB (fun v1 w1 hown hgrow _ hat => ?_)
  · rw [show (⟨b, off, none⟩ : Addr).add j = ⟨b, off + j, none⟩ by unfold Addr.add; split <;> simp_all]
    exact hcell j u hu
  · obtain ⟨cc, hcm, huc⟩ := List.mem_flatten.1 hu
    obtain ⟨i', hi'⟩ := List.getElem?_of_mem hcm
    have hil := (List.getElem?_eq_some_iff.1 hi').1
    exact h1 _ w cc _ (hD.R i' cc _ hi' (List.getElem?_eq_getElem (by rw [← hD.len]; exact hil))) u huc
  · have hO2 := hO.append hD (ys := ys) (dss := dss) (v' := v1) (w2 := w1) hown hgrow hat
    have hpos : 0 < ys.length := List.length_pos_iff.2 hne
    rcases hown.2 with ⟨_, hn⟩ | ⟨g, cap, cur, rfl, _⟩
    · omega
    · exact h _ _ _ _ hO2 hgrow hat
end

theorem own_bytes {E : TypeId} {S : Nat → Prop} {B : Nat} {w : World} {v : Value} {bs : Bs} {css : List (List Value)} (h : Own byteRd E S B w v bs css) : (v = .slice none 0 0 ∧ bs = []) ∨ ∃ g cap, v = .slice (some ⟨g, 0, none⟩) bs.length cap ∧ ∀ j (hj : j < bs.length), w.cell? ((⟨g, 0, none⟩ : Addr).add j) = some (.int .u8 (bs[j].toNat : Int)) := by
  rcases h.row.2 with ⟨hv, h0⟩ | ⟨g, cap, cur, hv, _⟩
  · exact .inl ⟨hv, List.eq_nil_of_length_eq_zero h0⟩
  · refine .inr ⟨g, cap, hv, fun j hj => ?_⟩
    refine h.row.cells (g := g) (by rw [hv]; rfl) j _ ?_
    have hc : css[j]? = some [.int .u8 (bs[j].toNat : Int)] := by
      have h1 := List.getElem?_eq_getElem (l := css) (i := j) (by rw [h.cs.len]; exact hj)
      have := h.cs.R j _ _ h1 (List.getElem?_eq_getElem hj)
      rw [h1]; exact congrArg some this
    have := flat_get (k := 1) h.cs.all hc (j := 0) (u := .int .u8 (bs[j].toNat : Int)) rfl
    simpa using this
theorem conv_own {E : TypeId} {S : Nat → Prop} {B : Nat} {w : World} {v : Value} {bs : Bs} {css : List (List Value)} (h : Own byteRd E S B w v bs css) : (convert 97 9 v).run Tryz.prog w = .ok (.string ⟨bs.toArray⟩) w := by
  rcases own_bytes h with ⟨rfl, rfl⟩ | ⟨g, cap, rfl, hc⟩
  · exact Lib.run_convert_nil_bytes w 97 9 5 0 Tryz.underlying97 Tryz.underlying5 Tryz.underlying9
  · exact run_convert_bytes_back w 97 9 5 ⟨g, 0, none⟩ cap bs Tryz.underlying97 Tryz.underlying5 Tryz.underlying9 hc

/-- A fault. -/
structure Ft where
  code : Int
  table : Bs
  row : Val
  other : Val
def Ft.zero : Ft := ⟨0, [], Val.zero, Val.zero⟩
/-- A fault in twelve cells. -/
def IsFt (S : Nat → Prop) (w : World) (cs : List Value) (f : Ft) : Prop := ∃ c1 c2, cs = .int .i64 f.code :: sv f.table :: (c1 ++ c2) ∧ f.table.length ≤ 1000000 ∧ IsVal S w c1 f.row ∧ IsVal S w c2 f.other
theorem IsFt.move {S S' : Nat → Prop} {w w' : World} {cs : List Value} {f : Ft} (h : IsFt S w cs f) (hA : Agree S w w') (hS : ∀ b, b < w.heap.size → S b → S' b) : IsFt S' w' cs f := by
  obtain ⟨c1, c2, rfl, h1, h2, h3⟩ := h
  exact ⟨c1, c2, rfl, h1, h2.move hA hS, h3.move hA hS⟩
/-- The fault f is handed back; what it refers to lies in S. -/
def FtAt (S : Nat → Prop) (w : World) (f : Ft) (e : Ending) (w' : World) : Prop := ∃ cs', e = .returned (.agg cs'.toArray) ∧ IsFt S w' cs' f ∧ Below w.heap.size w w'
/-- The cells of a fault written out. -/
def fcs (c : Int) (t : ByteArray) (r : Val) (o : Val) (p3 : Option Addr) (k3 : Nat) (p4 : Option Addr) (k4 : Nat) (q3 : Option Addr) (l3 : Nat) (q4 : Option Addr) (l4 : Nat) : List Value :=
  [.int .i64 c, .string t, .int .i64 r.kind, .int .i64 r.n, .string ⟨r.s.toArray⟩, .slice p3 r.names.length k3, .slice p4 r.kids.length k4, .int .i64 o.kind, .int .i64 o.n, .string ⟨o.s.toArray⟩, .slice q3 o.names.length l3, .slice q4 o.kids.length l4]
theorem ft_cells {S : Nat → Prop} {w : World} {cs : List Value} {f : Ft} (h : IsFt S w cs f) : ∃ p3 k3 p4 k4 q3 l3 q4 l4, cs = fcs f.code ⟨f.table.toArray⟩ f.row f.other p3 k3 p4 k4 q3 l3 q4 l4 ∧ f.table.length ≤ 1000000 ∧ IsVal S w (vcs f.row p3 k3 p4 k4) f.row ∧ IsVal S w (vcs f.other q3 l3 q4 l4) f.other := by
  obtain ⟨c1, c2, rfl, h1, h2, h3⟩ := h
  obtain ⟨p3, k3, p4, k4, rfl, _⟩ := IsVal.cells h2
  obtain ⟨q3, l3, q4, l4, rfl, _⟩ := IsVal.cells h3
  exact ⟨p3, k3, p4, k4, q3, l3, q4, l4, rfl, h1, h2, h3⟩
theorem isFt_zero (S : Nat → Prop) (w : World) : IsFt S w [.int .i64 0, .string ⟨#[]⟩, .int .i64 0, .int .i64 0, .string ⟨#[]⟩, .slice none 0 0, .slice none 0 0, .int .i64 0, .int .i64 0, .string ⟨#[]⟩, .slice none 0 0, .slice none 0 0] Ft.zero :=
  ⟨_, _, rfl, by simp [Ft.zero], isVal_zero S w, isVal_zero S w⟩
end Go.Proofs.YthkkmklnapkgaaaGreatDoor

import Derived.Test.YtppbaladeefnkaaGreatDoorU08
set_option maxRecDepth 100000
set_option maxHeartbeats 400000000
namespace Go.Proofs.YtppbaladeefnkaaGreatDoor
open Go.RowKit Go.Shelf Go.Lib Go.WideMaps Go.Maps
section
variable {P : Program} {T : Type}
theorem Uo {r : Rd T} (hk : 0 < r.k) {ops : Array Oper} {rest : List Oper} {o : Oper} {a : Act} {Q : Exit → Act → World → Prop} (hgd : o.guard = none) (s x : Operand) (t : TypeId)
  (ho : o.op = .call { callee := .builtin .append, args := #[s, x], argTypes := #[t, t] }) (E : TypeId) (i : TypeInfo) (z : Value) (bytes : Nat) (ht : P.underlying t = some (.slice E)) (hi : P.info? E = some i) (hz : i.zero = some z)
  (hsize : i.size = r.k) (hby : i.bytes = bytes) (hzs : z.cells.size = r.k) (hb1 : bytes ≤ 1000) (S : Nat → Prop) (B : Nat) (w : World) (v : Value) (xs : List T) (css : List (List Value)) (ys : List T) (q : Option Addr) (m c : Nat) (hs : a.eval s = v)
  (hO : Own r E S B w v xs css) (hx : a.eval x = .slice q m c) (hY : Sl r (But S v) w (.slice q m c) ys) (hm : m = ys.length) (hne : ys ≠ []) (h1 : ∀ S w cs x, r.R S w cs x → ∀ u ∈ cs, u.oneCell' = true) (hl : xs.length + ys.length ≤ 1000000) (hB : B ≤ w.heap.size)
  (h : ∀ p cap css' w1, Own r E S B w1 (.slice p (xs.length + m) cap) (xs ++ ys) css' → w.grownBy w1 v.ownBlock → ((Value.slice p (xs.length + m) cap).ownBlock = v.ownBlock ∨ (Value.slice p (xs.length + m) cap).ownBlock = some w.heap.size) → wpList P ops Q rest (a.put o.dst (.slice p (xs.length + m) cap)) w1) :
  wpList P ops Q (o :: rest) a w := by
 subst hm
 obtain ⟨q', c', dss, hv, hD, hc⟩ := hY.css hk
 simp only [Value.slice.injEq] at hv
 obtain ⟨rfl, -, rfl⟩ := hv
 obtain ⟨b, off, rfl, _, hblt, hcell⟩ := hc hne
 refine wpList_append_own_at (P := P) (w := w) hgd s x t ho B E i z r.k bytes ht hi hz hsize hby hzs hk v xs.length css.flatten hs hO.row ⟨b, off, none⟩ ys.length c dss.flatten hx hD.flat (fun j u hu => ?_) (fun u hu => ?_) (by unfold maxLen; omega) (by
   have := Nat.mul_le_mul (show xs.length + ys.length ≤ 1000000 by omega) hb1
   omega) hB (fun v1 w1 hown hgrow _ hat => ?_)
 ·rw [show (⟨b, off, none⟩ : Addr).add j = ⟨b, off + j, none⟩ by unfold Addr.add; split <;> simp_all]
  exact hcell j u hu
 ·obtain ⟨cc, hcm, huc⟩ := List.mem_flatten.1 hu
  obtain ⟨i', hi'⟩ := List.getElem?_of_mem hcm
  have hil := (Qj hi').1
  exact h1 _ w cc _ (hD.R i' cc _ hi' (Qx (by rw [← hD.len]; exact hil))) u huc
 have hO2 := hO.append hD (ys := ys) (dss := dss) (v' := v1) (w2 := w1) hown hgrow hat
 have hpos : 0 < ys.length := List.length_pos_iff.2 hne
 rcases hown.2 with ⟨_, hn⟩ | ⟨g, cap, cur, rfl, _⟩
 ·omega
 exact h _ _ _ _ hO2 hgrow hat
end
theorem Oc {E : TypeId} {S : Nat → Prop} {B : Nat} {w : World} {v : Value} {bs : Bs} {css : List (List Value)} (h : Own Xx E S B w v bs css) : (v = .slice none 0 0 ∧ bs = []) ∨ ∃ g cap, v = .slice (some ⟨g, 0, none⟩) bs.length cap ∧ ∀ j (hj : j < bs.length), w.cell? ((⟨g, 0, none⟩ : Addr).add j) = some (.int .u8 (bs[j].toNat : Int)) := by
 rcases h.row.2 with ⟨hv, h0⟩ | ⟨g, cap, cur, hv, _⟩
 ·exact .inl ⟨hv, List.eq_nil_of_length_eq_zero h0⟩
 refine .inr ⟨g, cap, hv, fun j hj => ?_⟩
 refine h.row.cells (g := g) (by rw [hv]; rfl) j _ ?_
 have hc : css[j]? = some [.int .u8 (bs[j].toNat : Int)] := by
  have h1 := Qx (l := css) (i := j) (by rw [h.cs.len]; exact hj)
  have := h.cs.R j _ _ h1 (Qx hj)
  rw [h1]; exact congrArg some this
 have := Xv (k := 1) h.cs.all hc (j := 0) (u := .int .u8 (bs[j].toNat : Int)) rfl
 simpa using this
theorem conv_own {E : TypeId} {S : Nat → Prop} {B : Nat} {w : World} {v : Value} {bs : Bs} {css : List (List Value)} (h : Own Xx E S B w v bs css) : (convert 143 9 v).run Tryz.prog w = .ok (.string ⟨bs.toArray⟩) w := by
 rcases Oc h with ⟨rfl, rfl⟩ | ⟨g, cap, rfl, hc⟩
 ·exact Lib.run_convert_nil_bytes w 143 9 5 0 Tryz.underlying143 Tryz.underlying5 Tryz.underlying9
 exact run_convert_bytes_back w 143 9 5 ⟨g, 0, none⟩ cap bs Tryz.underlying143 Tryz.underlying5 Tryz.underlying9 hc
structure Ft where
 code : Int
 table : Bs
 row : Val
 other : Val
def Ft.zero : Ft := ⟨0, [], Val.zero, Val.zero⟩
def Fy (S : Nat → Prop) (w : World) (cs : List Value) (f : Ft) : Prop := ∃ c1 c2, cs = .int .i64 f.code :: sv f.table :: (c1 ++ c2) ∧ f.table.length ≤ 1000000 ∧ Qh S w c1 f.row ∧ Qh S w c2 f.other
theorem Fy.move {S S' : Nat → Prop} {w w' : World} {cs : List Value} {f : Ft} (h : Fy S w cs f) (hA : V9 S w w') (hS : ∀ b, b < w.heap.size → S b → S' b) : Fy S' w' cs f := by
 obtain ⟨c1, c2, rfl, h1, h2, h3⟩ := h
 exact ⟨c1, c2, rfl, h1, h2.move hA hS, h3.move hA hS⟩
def Jd (S : Nat → Prop) (w : World) (f : Ft) (e : Ending) (w' : World) : Prop := ∃ cs', e = .returned (.agg cs'.toArray) ∧ Fy S w' cs' f ∧ Below w.heap.size w w'
def fcs (c : Int) (t : ByteArray) (r : Val) (o : Val) (p3 : Option Addr) (k3 : Nat) (p4 : Option Addr) (k4 : Nat) (q3 : Option Addr) (l3 : Nat) (q4 : Option Addr) (l4 : Nat) : List Value :=
 [.int .i64 c, .string t, .int .i64 r.kind, .int .i64 r.n, .string ⟨r.s.toArray⟩, .slice p3 r.names.length k3, .slice p4 r.kids.length k4, .int .i64 o.kind, .int .i64 o.n, .string ⟨o.s.toArray⟩, .slice q3 o.names.length l3, .slice q4 o.kids.length l4]
theorem Vo {S : Nat → Prop} {w : World} {cs : List Value} {f : Ft} (h : Fy S w cs f) : ∃ p3 k3 p4 k4 q3 l3 q4 l4, cs = fcs f.code ⟨f.table.toArray⟩ f.row f.other p3 k3 p4 k4 q3 l3 q4 l4 ∧ f.table.length ≤ 1000000 ∧ Qh S w (vcs f.row p3 k3 p4 k4) f.row ∧ Qh S w (vcs f.other q3 l3 q4 l4) f.other := by
 obtain ⟨c1, c2, rfl, h1, h2, h3⟩ := h
 obtain ⟨p3, k3, p4, k4, rfl, _⟩ := Qh.cells h2
 obtain ⟨q3, l3, q4, l4, rfl, _⟩ := Qh.cells h3
 exact ⟨p3, k3, p4, k4, q3, l3, q4, l4, rfl, h1, h2, h3⟩
theorem U5 (S : Nat → Prop) (w : World) : Fy S w [.int .i64 0, .string ⟨#[]⟩, .int .i64 0, .int .i64 0, .string ⟨#[]⟩, .slice none 0 0, .slice none 0 0, .int .i64 0, .int .i64 0, .string ⟨#[]⟩, .slice none 0 0, .slice none 0 0] Ft.zero :=
 ⟨_, _, rfl, by simp [Ft.zero], Zl S w, Zl S w⟩
open Go.RowKit Go.Shelf Go.Lib Tryz
def Hp (v : Value) (rvs : List Value) : Nat → Prop := fun b => v.ownBlock ≠ some b ∧ ∀ rv ∈ rvs, rv.ownBlock ≠ some b
def Za (l : List Rel) (rvs : List Value) : List (List Value) := List.zipWith (fun r rv => [sv r.table, rv]) l rvs
structure Xg (B : Nat) (w : World) (v : Value) (l : List Rel) (rvs : List Value) : Prop where
 len : rvs.length = l.length
 row : w.ownsRow B 57 2 v l.length (Za l rvs).flatten
 tl : ∀ r ∈ l, r.table.length ≤ 1000000
 rows : ∀ (i : Nat) (r : Rel) (rv : Value), l[i]? = some r → rvs[i]? = some rv → ∃ css, Own Ql 44 (Hp v rvs) B w rv r.rows css
 apart : ∀ (i j : Nat) (a b : Value) (g : Nat), rvs[i]? = some a → rvs[j]? = some b → a.ownBlock = some g → b.ownBlock = some g → i = j
theorem Ux {l : List Rel} {rvs : List Value} : ∀ c ∈ Za l rvs, c.length = 2 := by
 intro c hc
 unfold Za at hc
 rw [List.mem_iff_getElem?] at hc
 obtain ⟨i, hi⟩ := hc
 rw [List.getElem?_zipWith] at hi
 split at hi
 ·cases hi; rfl
 cases hi
theorem Uc {l : List Rel} {rvs : List Value} {i : Nat} {r : Rel} {rv : Value} (h1 : l[i]? = some r) (h2 : rvs[i]? = some rv) : (Za l rvs)[i]? = some [sv r.table, rv] := by
 unfold Za
 rw [List.getElem?_zipWith, h1, h2]
theorem Vy {l : List Rel} {rvs : List Value} (h : rvs.length = l.length) : (Za l rvs).length = l.length := by
 unfold Za; rw [List.length_zipWith, h, Nat.min_self]
theorem Lv {l : List Rel} {rvs : List Value} {i : Nat} {r : Rel} (rv' : Value) (zs : List Val) (hi : l[i]? = some r) (h : rvs.length = l.length) :
  (Za l rvs).flatten.set (i * 2 + 1) rv' = (Za (l.set i ⟨r.table, zs⟩) (rvs.set i rv')).flatten := by
 induction l generalizing i rvs with
 | nil => simp at hi
 | cons a l ih =>
  cases rvs with
  | nil => simp at h
  | cons b rvs =>
   cases i with
   | zero =>
    simp at hi; subst hi
    simp [Za]
   | succ i =>
    have := ih (rvs := rvs) (i := i) (by simpa using hi) (by simpa using h)
    simp only [Za, List.zipWith_cons_cons, List.flatten_cons, List.set_cons_succ] at this ⊢
    rw [← this, show (i + 1) * 2 + 1 = ([sv a.table, b] : List Value).length + (i * 2 + 1) by simp; omega, List.set_append_right _ _ (Nat.le_add_right _ _), Nat.add_sub_cancel_left]
theorem Xg.below {B : Nat} {w w' : World} {v : Value} {l : List Rel} {rvs : List Value} (h : Xg B w v l rvs) (hb : Below w.heap.size w w') : Xg B w' v l rvs :=
 ⟨h.len, Ui h.row hb, h.tl, fun i r rv h1 h2 => (h.rows i r rv h1 h2).imp fun _ ho => ho.below hb, h.apart⟩
theorem Xg.sl {B : Nat} {w : World} {v : Value} {l : List Rel} {rvs : List Value} (h : Xg B w v l rvs) (hl : l.length ≤ 1000000) (hr : ∀ r ∈ l, r.rows.length ≤ 1000000) (S' : Nat → Prop) (h1 : ∀ b, B ≤ b → S' b) (h2 : ∀ b, b < w.heap.size → Hp v rvs b → S' b) : Sl Z8 S' w v l := by
 have hcs : Cs Z8 S' w (Za l rvs) l := by
  refine ⟨Vy h.len, fun i c x hc hx => ?_⟩
  have hi := (Qj hx).1
  obtain ⟨rv, hrv⟩ : ∃ rv, rvs[i]? = some rv := ⟨_, Qx (by rw [h.len]; exact hi)⟩
  rw [Uc hx hrv] at hc
  cases hc
  obtain ⟨css, ho⟩ := h.rows i x rv hx hrv
  exact ⟨rv, rfl, h.tl x (Qy hx), ho.sl (hr x (Qy hx)) h1 h2⟩
 rcases h.row.2 with ⟨rfl, h0⟩ | ⟨g, cap, cur, rfl, hB, hg, _, _, _, ht⟩
 ·rw [List.eq_nil_of_length_eq_zero h0]; exact Sl.nil _ _ _
 refine Sl.of_css (css := Za l rvs) hl hcs (h1 g hB) (Array.getElem?_eq_some_iff.1 hg).1 (fun j u hu => ?_)
 rw [Nat.zero_add]; exact Fk hg ht hu
theorem Xg.put {B : Nat} {w w1 : World} {g cap : Nat} {l : List Rel} {rvs : List Value} {i : Nat} {r : Rel} {rv rv' : Value} {zs : List Val} (h : Xg B w (.slice (some ⟨g, 0, none⟩) l.length cap) l rvs) (hi : l[i]? = some r) (hrv : rvs[i]? = some rv)
  (ho : ∃ css, Own Ql 44 (Hp (.slice (some ⟨g, 0, none⟩) l.length cap) rvs) B w1 rv' zs css) (hg : w.grownBy w1 rv.ownBlock) (hat : rv'.ownBlock = rv.ownBlock ∨ ∀ g', rv'.ownBlock = some g' → w.heap.size ≤ g') :
  Xg B (w1.setCell ⟨g, i * 2 + 1, none⟩ rv') (.slice (some ⟨g, 0, none⟩) l.length cap) (l.set i ⟨r.table, zs⟩) (rvs.set i rv') := by
 have hil := (Qj hi).1
 have hgv := (h.row.lt g rfl).2
 have hgB := (h.row.lt g rfl).1
 obtain ⟨css0, hor⟩ := h.rows i r rv hi hrv
 have hne : some g ≠ rv.ownBlock := fun e => Yz h.row hor.row (by decide) rfl e.symm
 have hne' : some g ≠ rv'.ownBlock := by
  intro e
  rcases hat with h1 | h1
  ·exact hne (e.trans h1)
  have := h1 g e.symm
  omega
 have hrow1 : w1.ownsRow B 57 2 (.slice (some ⟨g, 0, none⟩) l.length cap) l.length (Za l rvs).flatten := by
  refine ⟨h.row.1, ?_⟩
  rcases h.row.2 with hn | ⟨g', cap', cur, e, hB, hh, rest⟩
  ·exact .inl hn
  simp only [Value.slice.injEq, Option.some.injEq, Addr.mk.injEq] at e
  obtain ⟨⟨rfl, _⟩, _, rfl⟩ := e
  exact .inr ⟨_, _, cur, rfl, hB, (hg.block _ hgv hne).trans hh, rest⟩
 have hfree : ∀ b, b < w.heap.size → Hp (.slice (some ⟨g, 0, none⟩) l.length cap) rvs b → Hp (.slice (some ⟨g, 0, none⟩) l.length cap) (rvs.set i rv') b := by
  rintro b hb ⟨f1, f2⟩
  refine ⟨f1, fun u hu => ?_⟩
  rcases List.mem_or_eq_of_mem_set hu with h1 | rfl
  ·exact f2 u h1
  intro e
  rcases hat with h1 | h1
  ·exact f2 rv (Qy hrv) (h1 ▸ e)
  have := h1 b e; omega
 refine ⟨by rw [List.length_set, List.length_set]; exact h.len, ?_, ?_, ?_, ?_⟩
 ·rw [List.length_set, ← Lv rv' zs hi h.len]
  exact (hrow1.stored (i * 2 + 1) rv').1
 ·intro x hx
  rcases List.mem_or_eq_of_mem_set hx with h1 | rfl
  ·exact h.tl x h1
  exact h.tl r (Qy hi)
 ·intro j x u hx hu
  by_cases e : j = i
  ·subst e
   rw [List.getElem?_set_self (by exact hil)] at hx
   rw [List.getElem?_set_self (by rw [h.len]; exact hil)] at hu
   cases hx; cases hu
   obtain ⟨css, ho⟩ := ho
   refine ⟨css, ⟨?_, ?_⟩⟩
   ·refine ⟨ho.row.1, ?_⟩
    rcases ho.row.2 with hn | ⟨g', cap', cur, e, hB, hh, rest⟩
    ·exact .inl hn
    refine .inr ⟨g', cap', cur, e, hB, ?_, rest⟩
    rw [Qg (by intro e2; subst e; have e3 : g' = g := e2; exact hne' (by rw [← e3]; rfl))]; exact hh
   refine ho.cs.move (fun b hS hlt => Qg (fun e => hS.1.1 (by rw [e]; rfl))) (fun b hb hS => ⟨⟨hS.1.1, fun u hu => ?_⟩, hS.2⟩)
   rcases List.mem_or_eq_of_mem_set hu with h1 | rfl
   ·exact hS.1.2 u h1
   exact fun e => hS.2 e.symm
  rw [List.getElem?_set_ne (Ne.symm e)] at hx hu
  obtain ⟨css, hj⟩ := h.rows j x u hx hu
  have hu1 : u.ownBlock ≠ some g := Yz h.row hj.row (by decide) rfl
  refine ⟨css, ⟨?_, ?_⟩⟩
  ·refine ⟨hj.row.1, ?_⟩
   rcases hj.row.2 with hn | ⟨g', cap', cur, e1, hB, hh, rest⟩
   ·exact .inl hn
   refine .inr ⟨g', cap', cur, e1, hB, ?_, rest⟩
   have hg' : g' < w.heap.size := (Array.getElem?_eq_some_iff.1 hh).1
   rw [Qg (by intro e2; subst e1; have e3 : g' = g := e2; exact hu1 (by rw [← e3]; rfl)), hg.block g' hg' (fun e2 => e (h.apart j i u rv g' hu hrv (by rw [e1]; rfl) e2.symm))]
   exact hh
  refine hj.cs.move (fun b hS hlt => ?_) (fun b hb hS => ⟨hfree b hb hS.1, hS.2⟩)
  rw [Qg (fun e => hS.1.1 (by rw [e]; rfl)), hg.block b hlt (fun e => hS.1.2 rv (Qy hrv) e.symm)]
 intro j k a b g' ha hb h1 h2
 by_cases ej : j = i
 ·by_cases ek : k = i
  ·omega
  subst ej
  rw [List.getElem?_set_self (by rw [h.len]; exact hil)] at ha
  rw [List.getElem?_set_ne (Ne.symm ek)] at hb
  cases ha
  obtain ⟨x, hx⟩ : ∃ x, l[k]? = some x := ⟨_, Qx (by rw [← h.len]; exact (Qj hb).1)⟩
  obtain ⟨css, hj⟩ := h.rows k x b hx hb
  have := (hj.row.lt g' h2).2
  rcases hat with h3 | h3
  ·exact h.apart j k rv b g' hrv hb (h3 ▸ h1) h2
  have := h3 g' h1; omega
 rw [List.getElem?_set_ne (Ne.symm ej)] at ha
 by_cases ek : k = i
 ·subst ek
  rw [List.getElem?_set_self (by rw [h.len]; exact hil)] at hb
  cases hb
  obtain ⟨x, hx⟩ : ∃ x, l[j]? = some x := ⟨_, Qx (by rw [← h.len]; exact (Qj ha).1)⟩
  obtain ⟨css, hj⟩ := h.rows j x a hx ha
  have := (hj.row.lt g' h1).2
  rcases hat with h3 | h3
  ·exact h.apart j k a rv g' ha hrv h1 (h3 ▸ h2)
  have := h3 g' h2; omega
 rw [List.getElem?_set_ne (Ne.symm ek)] at hb
 exact h.apart j k a b g' ha hb h1 h2
end Go.Proofs.YtppbaladeefnkaaGreatDoor

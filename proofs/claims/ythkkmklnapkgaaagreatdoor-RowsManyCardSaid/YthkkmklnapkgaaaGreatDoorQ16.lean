import Derived.Test.YthkkmklnapkgaaaGreatDoorQ15
/- values.has, values.Has at plain types and at records. -/
namespace Go.Proofs.YthkkmklnapkgaaaGreatDoor
open Go.RowKit Go.Shelf Go.Lib

theorem bal3 (w : World) (o p q : Obj) : Below w.heap.size w (((w.alloc o).alloc p).alloc q) := (bal2 w o p).alloc (bal2 w o p).size _
theorem heap_alloc3_new (w : World) (A B C : Obj) : (((w.alloc A).alloc B).alloc C).heap[w.heap.size + 2]? = some C := by
  have e : ((w.alloc A).alloc B).heap.size = w.heap.size + 2 := by simp
  rw [← e]; exact heap_alloc_new _ _
/-- values.has says b of a value and a type, whatever the sums. -/
def HasAt (v : Val) (t : Ty) (b : Bool) : Prop := ∀ (S S' : Nat → Prop) (cv ct : List Value) (ps : Option Addr) (ns cs : Nat) (w : World), IsVal S w cv v → IsTy S' w ct t →
  Calls Tryz.prog 50 #[.slice ps ns cs, .agg cv.toArray, .agg ct.toArray] w fun e w' => e = .returned (.bool b) ∧ Below w.heap.size w w'

theorem IsTy.cells' {S : Nat → Prop} {w : World} {cs : List Value} {k n : Int} {s : Bs} {names : List Bs} {kids : List Ty} (h : IsTy S w cs (.mk k s n names kids)) : ∃ p3 k3 p4 k4, cs = [.int .i64 k, .string ⟨s.toArray⟩, .int .i64 n, .slice p3 names.length k3, .slice p4 kids.length k4] ∧ Sl strRd S w (.slice p3 names.length k3) names ∧ Sl tyRd S w (.slice p4 kids.length k4) kids := by
  obtain ⟨nv, kv, rfl, hs, hn, hk⟩ := isTy_iff.1 h
  obtain ⟨p3, k3, rfl, _⟩ := hn.len
  obtain ⟨p4, k4, rfl, _⟩ := hk.len
  exact ⟨p3, k3, p4, k4, rfl, hn, hk⟩

set_option maxRecDepth 100000 in
theorem hasLeaf (v : Val) (k : Int) (hk : k = 0 ∨ k = 1 ∨ k = 2) (s : Bs) (n : Int) (names : List Bs) (kids : List Ty) : HasAt v (.mk k s n names kids) (v.kind == k) := by
  intro S S' cv ct ps ns cs w hv ht
  obtain ⟨p3, k3, p4, k4, hcv, _⟩ := IsVal.cells hv
  simp only [vcs] at hcv
  subst hcv
  obtain ⟨q3, l3, q4, l4, rfl, _⟩ := ht.cells'
  clear hv ht
  rcases hk with rfl | rfl | rfl
  all_goals
    go_enter Tryz.func50, Tryz.ntmps50
    go_wp2_with fail
    go_ret
    exact ⟨rfl, bal3 _ _ _ _⟩

theorem has2_any (v : Val) (t : Ty) (b : Bool) (h : HasAt v t b) (S S' : Nat → Prop) (cv ct : List Value) (ps : Option Addr) (ns cs : Nat) (B : Nat) (w : World) (hv : IsVal S w cv v) (ht : IsTy S' w ct t) (hc : w.cell? ⟨B, 0, none⟩ = some (.slice ps ns cs)) :
    Calls Tryz.prog 80 #[.agg cv.toArray, .agg ct.toArray, .pointer (some ⟨B, 0, none⟩)] w fun e w' => e = .returned (.bool b) ∧ Below w.heap.size w w' := by
  have HH := Lib.hid (fun W (hb : Below w.heap.size w W) => h S S' cv ct ps ns cs W (hv.move (.of_below hb) (fun _ _ h => h)) (ht.move (.of_below hb) (fun _ _ h => h)))
  have hB := World.block_lt_of_cell? w _ hc
  obtain ⟨p3, k3, p4, k4, hcv, _⟩ := IsVal.cells hv
  simp only [vcs] at hcv
  subst hcv
  obtain ⟨_, _, _, _, _, _, _, _, _, rfl⟩ := ht.cells
  have hB1 : B < w.heap.size := hB
  have hB2 : B < w.heap.size + 1 := by omega
  clear hv ht h
  go_enter Tryz.func80, Tryz.ntmps80
  go_wp2_with (go_at_call 50; refine (HH.out _ (bal2 _ _ _)).mono ?_; rintro e w' ⟨rfl, hw⟩)
  go_ret
  exact ⟨rfl, (bal2 _ _ _).thn hw⟩

/-- What has says of a record. -/
def hasR (p : Val → Ty → Bool) (v : Val) (names : List Bs) (kids : List Ty) : Bool := (v.kind == 4) && eqL (fun x y => decide (x = y)) v.names names && eqL p v.kids kids

set_option maxRecDepth 100000 in
set_option maxHeartbeats 1000000 in
theorem hasRec (v : Val) (s : Bs) (names : List Bs) (kids : List Ty) (p : Val → Ty → Bool) (hp : ∀ x ∈ v.kids, ∀ y ∈ kids, HasAt x y (p x y)) : HasAt v (.mk 5 s 0 names kids) (hasR p v names kids) := by
  intro S0 S0' cv ct ps ns cs w hv0 ht0
  have hv : IsVal (fun b => b < w.heap.size) w cv v := hv0.move (.refl _ _) (fun b hb _ => hb)
  have ht : IsTy (fun b => b < w.heap.size) w ct (.mk 5 s 0 names kids) := ht0.move (.refl _ _) (fun b hb _ => hb)
  clear hv0 ht0
  obtain ⟨p3, k3, p4, k4, hcv, hvn, hvk, _⟩ := IsVal.cells hv
  simp only [vcs] at hcv
  subst hcv
  obtain ⟨q3, l3, q4, l4, rfl, htn, htk⟩ := ht.cells'
  have HN := Lib.hid (fun W (hb : Below w.heap.size w W) => strEq_any _ _ _ v.names names W (hvn.below hb) (htn.below hb))
  have HE := Lib.hid (fun W (hb : Below w.heap.size w W) (hc : W.cell? ⟨w.heap.size, 0, none⟩ = some (.slice ps ns cs)) => eqFValTy 80 #[.pointer (some ⟨w.heap.size, 0, none⟩)] (enters_of Tryz.func80 (by kernel_rfl) rfl) _ _ _ v.kids kids W (hvk.below hb) (htk.below hb) p
    (fun W' x y cx cy hb' hx hy h1 h2 => has2_any x y _ (hp x hx y hy) _ _ cx cy ps ns cs w.heap.size W' h1 h2 ((hb'.cell (p := ⟨w.heap.size, 0, none⟩) (World.block_lt_of_cell? W _ hc)).trans hc)))
  have hR : hasR p v names kids = ((v.kind == 4) && eqL (fun x y => decide (x = y)) v.names names && eqL p v.kids kids) := rfl
  rw [hR]
  generalize eqL (fun (x y : Bs) => decide (x = y)) v.names names = bn at HN ⊢
  generalize eqL p v.kids kids = bk at HE ⊢
  clear hv ht hvn hvk htn htk hp hR
  by_cases h4 : v.kind = 4
  · rw [h4]
    have hq : ((4 : Int) == 4) = true := rfl
    rw [hq]
    go_enter Tryz.func50, Tryz.ntmps50
    go_wp2_with fail
    refine (HN.out _ (bal3 _ _ _ _)).mono ?_
    rintro e w1 ⟨rfl, hw⟩
    have hG0 := (hw.block w.heap.size (by simp; omega)).trans ((Below.heap_alloc _ _ _ (by simp; omega)).trans (heap_alloc2_old w _ _))
    have hG1 := (hw.block (w.heap.size + 1) (by simp)).trans ((Below.heap_alloc _ _ _ (by simp)).trans (heap_alloc2_new w _ _))
    have hG2 := (hw.block (w.heap.size + 2) (by simp)).trans (heap_alloc3_new w _ _ _)
    have c0 := cell_of_row _ _ 0 _ _ _ hG0; have c4 := cell_of_row _ _ 4 _ _ _ hG1; have d4 := cell_of_row _ _ 4 _ _ _ hG2
    simp only [List.getElem?_toArray, List.getElem?_cons_zero, List.getElem?_cons_succ] at c0 c4 d4
    have HW := Lib.hid ((bal3 w _ _ _).thn hw)
    have HC0 := Lib.hid c0
    clear hw hG0 hG1 hG2
    cases bn with
    | false =>
      go_wp2_with fail
      go_ret
      exact ⟨rfl, HW.out⟩
    | true =>
      go_wp2_with (go_at_call 79; refine (HE.out _ HW.out HC0.out).mono ?_; rintro e w' ⟨rfl, hw⟩; have HW2 := Lib.hid (HW.out.thn hw); clear hw)
      go_ret
      exact ⟨rfl, HW2.out⟩
  · have hq : (v.kind == 4) = false := by simpa using h4
    rw [hq]
    clear h4
    go_enter Tryz.func50, Tryz.ntmps50
    go_wp2_with fail
    go_ret
    exact ⟨rfl, bal3 _ _ _ _⟩

theorem hasGood (v : Val) (t : Ty) (b : Bool) (hg : GoodV v) (h : HasAt v t b) (S S' : Nat → Prop) (cv ct : List Value) (ps : Option Addr) (ns cs : Nat) (w : World) (hv : IsVal S w cv v) (ht : IsTy S' w ct t) (hT : KwTab w) :
    Calls Tryz.prog 22 #[.slice ps ns cs, .agg cv.toArray, .agg ct.toArray] w fun e w' => e = .returned (.bool b) ∧ Below w.heap.size w w' := by
  have HV := Lib.hid (fun W (hb : Below w.heap.size w W) => validGood v hg S cv W (hv.move (.of_below hb) (fun _ _ h => h)) (hT.below hb))
  have HH := Lib.hid (fun W (hb : Below w.heap.size w W) => h S S' cv ct ps ns cs W (hv.move (.of_below hb) (fun _ _ h => h)) (ht.move (.of_below hb) (fun _ _ h => h)))
  obtain ⟨p3, k3, p4, k4, hcv, _⟩ := IsVal.cells hv
  simp only [vcs] at hcv
  subst hcv
  obtain ⟨y1, y2, y3, y4, y5, y6, y7, y8, y9, rfl⟩ := ht.cells
  clear hv ht h hg hT
  go_enter Tryz.func22, Tryz.ntmps22
  go_wp2_with fail
  refine (HV.out _ (bal2 _ _ _)).mono ?_
  rintro e w1 ⟨rfl, hw⟩
  have hG0 := (hw.block w.heap.size (by simp; omega)).trans (heap_alloc2_old w _ _)
  have hG1 := (hw.block (w.heap.size + 1) (by simp)).trans (heap_alloc2_new w _ _)
  have c0 := cell_of_row _ _ 0 _ _ _ hG0; have c1 := cell_of_row _ _ 1 _ _ _ hG0; have c2 := cell_of_row _ _ 2 _ _ _ hG0; have c3 := cell_of_row _ _ 3 _ _ _ hG0; have c4 := cell_of_row _ _ 4 _ _ _ hG0
  have d0 := cell_of_row _ _ 0 _ _ _ hG1; have d1 := cell_of_row _ _ 1 _ _ _ hG1; have d2 := cell_of_row _ _ 2 _ _ _ hG1; have d3 := cell_of_row _ _ 3 _ _ _ hG1; have d4 := cell_of_row _ _ 4 _ _ _ hG1
  simp only [List.getElem?_toArray, List.getElem?_cons_zero, List.getElem?_cons_succ] at c0 c1 c2 c3 c4 d0 d1 d2 d3 d4
  have HW := Lib.hid ((bal2 w _ _).thn hw)
  clear hw hG0 hG1
  go_wp2_with (go_at_call 50; refine (HH.out _ HW.out).mono ?_; rintro e w' ⟨rfl, hw⟩)
  go_ret
  exact ⟨rfl, HW.out.thn hw⟩
end Go.Proofs.YthkkmklnapkgaaaGreatDoor

/- Package wire's writer: numbers. -/
namespace Go.Proofs.YthkkmklnapkgaaaGreatDoor
open Go.RowKit Go.Shelf Go.Lib

/-- Bytes, one cell each. -/
def byteRd : Rd UInt8 where
  k := 1
  R _ _ cs x := cs = [.int .u8 x.toNat]
  len h := by rw [h]; rfl
  frame h _ := h
  mono h _ := h
theorem byte_one : ∀ S w cs x, byteRd.R S w cs x → ∀ u ∈ cs, u.oneCell' = true := by
  intro S w cs x h u hu
  rw [show cs = [.int .u8 x.toNat] from h] at hu
  simp only [List.mem_cons, List.not_mem_nil, or_false] at hu
  subst hu; rfl

/-- The bytes of a number. -/
def vb (n : Nat) : Bs := if h : n < 128 then [UInt8.ofNat n] else UInt8.ofNat (n % 128 + 128) :: vb (n / 128)
termination_by n
decreasing_by omega
theorem vb_lt {n : Nat} (h : n < 128) : vb n = [UInt8.ofNat n] := by unfold vb; rw [dif_pos h]
theorem vb_ge {n : Nat} (h : ¬ n < 128) : vb n = UInt8.ofNat (n % 128 + 128) :: vb (n / 128) := by rw [vb, dif_neg h]

theorem vb_len : ∀ (k n : Nat), n < 128 ^ (k + 1) → (vb n).length ≤ k + 1
  | 0, n, h => by rw [vb_lt (by simpa using h)]; simp
  | k + 1, n, h => by
    by_cases hn : n < 128
    · rw [vb_lt hn]; simp
    · rw [vb_ge hn, List.length_cons]
      have : n / 128 < 128 ^ (k + 1) := by
        rw [Nat.div_lt_iff_lt_mul (by omega)]
        rw [Nat.pow_succ] at h
        omega
      have := vb_len k (n / 128) this
      omega
theorem vb_ten {n : Nat} (h : n < 18446744073709551616) : (vb n).length ≤ 10 := vb_len 9 n (by omega)

/-- A writer behind a pointer to block g: its slice v, its bytes. -/
structure WAt (g : Nat) (w : World) (v : Value) (bs : Bs) : Prop where
  cell : w.heap[g]? = some (.cells #[v] 127 (0, 0))
  own : ∃ css, Own byteRd 5 (fun _ => False) (g + 1) w v bs css
/-- What a step of the writer leaves of memory. -/
structure WStep (g : Nat) (w : World) (v : Value) (w' : World) (v' : Value) : Prop where
  below : Below g w w'
  size : w.heap.size ≤ w'.heap.size
  keep : ∀ b, b < w.heap.size → b ≠ g → some b ≠ v.ownBlock → w'.heap[b]? = w.heap[b]?
  at' : v'.ownBlock = v.ownBlock ∨ ∃ k, v'.ownBlock = some k ∧ w.heap.size ≤ k
theorem WStep.refl (g : Nat) (w : World) (v : Value) : WStep g w v w v := ⟨Below.refl _ _, Nat.le_refl _, fun _ _ _ _ => rfl, .inl rfl⟩
theorem WStep.trans {g : Nat} {a b c : World} {u v x : Value} (h : WStep g a u b v) (k : WStep g b v c x) : WStep g a u c x := by
  refine ⟨h.below.trans k.below, Nat.le_trans h.size k.size, fun i hi hg hu => ?_, ?_⟩
  · rw [k.keep i (Nat.lt_of_lt_of_le hi h.size) hg (fun e => ?_), h.keep i hi hg hu]
    rcases h.at' with e2 | ⟨q, e2, hq⟩
    · exact hu (e.trans e2)
    · rw [e2] at e; have := Option.some.inj e; omega
  · rcases k.at' with e | ⟨q, e, hq⟩
    · rcases h.at' with e2 | ⟨q2, e2, hq2⟩
      · exact .inl (e.trans e2)
      · exact .inr ⟨q2, e.trans e2, hq2⟩
    · exact .inr ⟨q, e, Nat.le_trans h.size hq⟩
/-- Memory that is made beside the writer. -/
theorem WAt.below {g : Nat} {w w' : World} {v : Value} {bs : Bs} (h : WAt g w v bs) (hb : Below w.heap.size w w') : WAt g w' v bs := by
  obtain ⟨css, ho⟩ := h.own
  exact ⟨(hb.block _ (World.block_lt_some h.cell)).trans h.cell, css, ho.below hb⟩
theorem WStep.of_below {g : Nat} {w w' : World} {v : Value} (hb : Below w.heap.size w w') (hg : g ≤ w.heap.size) : WStep g w v w' v := ⟨hb.mono hg, hb.size, fun b hlt _ _ => hb.block b hlt, .inl rfl⟩

set_option maxRecDepth 100000 in
theorem or128 (m : Nat) : bits BinOp.or IntKind.u8 ((m : Int) % 256) 128 = ((UInt8.ofNat (m % 128 + 128)).toNat : Int) := by
  have h : ∀ r, r < 256 → bits BinOp.or IntKind.u8 ((r : Nat) : Int) 128 = ((r % 128 + 128 : Nat) : Int) := by decide
  have e : (m : Int) % 256 = ((m % 256 : Nat) : Int) := by omega
  rw [e, h (m % 256) (Nat.mod_lt _ (by omega))]
  rw [show (UInt8.ofNat (m % 128 + 128)).toNat = m % 128 + 128 from by rw [UInt8.toNat_ofNat']; omega]
  omega
theorem low128 (m : Nat) (h : m < 128) : (m : Int) = ((UInt8.ofNat m).toNat : Int) := by
  rw [show (UInt8.ofNat m).toNat = m from by rw [UInt8.toNat_ofNat']; omega]

def WrotIs (g : Nat) (w : World) (v : Value) (bs : Bs) (e : Ending) (w' : World) : Prop := e = .returned (.tuple #[]) ∧ ∃ v', WAt g w' v' bs ∧ WStep g w v w' v'

set_option maxRecDepth 100000 in
theorem uint_any (g : Nat) (w : World) (v : Value) (bs : Bs) (n : Nat) (h : WAt g w v bs) (hn : n < 18446744073709551616) (hl : bs.length ≤ 100000) :
    Calls Tryz.prog 134 #[.pointer (some ⟨g, 0, none⟩), .int .u64 n] w (WrotIs g w v (bs ++ vb n)) := by
  have H := Lib.hid h
  obtain ⟨i5, j1, j2, j3, j4⟩ := info_of (P := Tryz.prog) (t := 5) (z := .int .u8 0) (n := 1) (b := 1) (by kernel_rfl)
  have HJ := Lib.hid j1; have HJ2 := Lib.hid j2; have HJ3 := Lib.hid j3; have HJ4 := Lib.hid j4
  clear h j1 j2 j3 j4
  go_enter Tryz.func134, Tryz.ntmps134
  go_wp2_with fail
  go_loopw [1] (fun s wr => ∃ (m : Nat) (cs : Bs) (u : Value), s = .int .u64 m ∧ m ≤ n ∧ Aside (cs ++ vb m = bs ++ vb n) ∧ WAt g wr u cs ∧ WStep g w v wr u) (fun s _ => (intOf s).toNat)
  case atStart => exact ⟨n, bs, v, rfl, Nat.le_refl _, rfl, H.out, WStep.refl _ _ _⟩
  case round =>
    obtain ⟨m, cs, u, rfl, hmn, hE, hA, hS⟩ := hrel
    have c0 := cell_of_row _ _ 0 _ _ _ hA.cell; have f0 := frozen_of_row _ _ 0 _ _ hA.cell
    simp only [List.getElem?_toArray, List.getElem?_cons_zero] at c0
    obtain ⟨css, hO⟩ := hA.own
    obtain ⟨up, ucap, rfl⟩ : ∃ p cap, u = .slice p cs.length cap := by
      rcases hO.row.2 with ⟨rfl, h0⟩ | ⟨q, cap, cur, rfl, _⟩
      · exact ⟨none, 0, by rw [h0]⟩
      · exact ⟨_, _, rfl⟩
    have hglt := World.block_lt_some hA.cell
    have hcl : cs.length ≤ 100010 := by
      have h1 := congrArg List.length hE.out
      rw [List.length_append, List.length_append] at h1
      have := vb_ten hn
      omega
    have HA := Lib.hid hA.cell; have HS := Lib.hid hS; have HO := Lib.hid hO; have HE := Lib.hid hE.out
    clear hA hS hO hE
    by_cases hlt : m < 128
    · have hge : (m : Int) < 128 := by omega
      have hb := low128 m hlt
      obtain ⟨c, hc⟩ : ∃ c, UInt8.ofNat m = c := ⟨_, rfl⟩
      rw [hc] at hb
      have HC := Lib.hid hc; have HBy := Lib.hid hb
      clear hc hb
      go_wp2_with (at_builtin; refine wpList_app (r := byteRd) (by decide) rfl (.tmp 24) (.tmp 27) _ rfl 5 i5 (.int .u8 0) 1 Tryz.underlying97 HJ.out HJ2.out HJ3.out HJ4.out rfl (by omega) (fun _ => False) (g + 1) wr (.slice up cs.length ucap) cs css [.int .u8 m] c rfl HO.out rfl (by show _ = _; rw [HBy.out]) (by simp [Value.oneCell']) cs.length rfl (by omega) (by omega) ?_; intro p5 cap5 css5 w5 hO5 hL5; have HO5 := Lib.hid hO5; have HL5 := Lib.hid hL5; have hB5 := (hL5.other g hglt (fun e => by have := (HO.out.row.lt g e.symm).1; omega)).trans HA.out; have f35 := frozen_of_row _ _ 0 _ _ hB5; have c35 := cell_of_row _ _ 0 _ _ _ hB5; simp only [List.getElem?_toArray, List.getElem?_cons_zero] at c35; have HB5 := Lib.hid hB5; clear hO5 hL5 hB5)
      go_end0
      have hvb : bs ++ vb n = cs ++ [c] := by rw [← HE.out, vb_lt hlt, HC.out]
      rw [hvb]
      refine ⟨rfl, _, ⟨by rw [heap_setCell_same _ _ _ _ _ _ HB5.out]; rfl, css5, HO5.out.move (Nat.le_refl _) (fun b _ h => heap_setCell_ne ?_)⟩, HS.out.trans ⟨(HL5.out.below.mono (Nat.le_succ g)).setCell (p := ⟨g, 0, none⟩) (Nat.le_refl _) _, by simp [World.setCell]; exact HL5.out.size, fun b hb hbg hne => ?_, HL5.out.at'⟩⟩
      · rcases h with h | h
        · exact h.elim
        · have := (HO5.out.row.lt b h).1
          show b ≠ g
          omega
      · rw [heap_setCell_ne hbg, HL5.out.other b hb hne]
    · have hge : (128 : Int) ≤ (m : Int) := by omega
      have hb := or128 m
      obtain ⟨c, hc⟩ : ∃ c, UInt8.ofNat (m % 128 + 128) = c := ⟨_, rfl⟩
      rw [hc] at hb
      have HC := Lib.hid hc
      clear hc
      go_wp2_with (at_builtin; refine wpList_app (r := byteRd) (by decide) rfl (.tmp 12) (.tmp 16) _ rfl 5 i5 (.int .u8 0) 1 Tryz.underlying97 HJ.out HJ2.out HJ3.out HJ4.out rfl (by omega) (fun _ => False) (g + 1) wr (.slice up cs.length ucap) cs css [.int .u8 c.toNat] c rfl HO.out rfl rfl (by simp [Value.oneCell']) cs.length rfl (by omega) (by omega) ?_; intro p5 cap5 css5 w5 hO5 hL5; have HO5 := Lib.hid hO5; have HL5 := Lib.hid hL5; have hB5 := (hL5.other g hglt (fun e => by have := (HO.out.row.lt g e.symm).1; omega)).trans HA.out; have f35 := frozen_of_row _ _ 0 _ _ hB5; have c35 := cell_of_row _ _ 0 _ _ _ hB5; simp only [List.getElem?_toArray, List.getElem?_cons_zero] at c35; have HB5 := Lib.hid hB5; clear hO5 hL5 hB5)
      go_roundw
      case measure => simp only [intOf]; omega
      case rel =>
        refine ⟨m / 128, cs ++ [c], .slice p5 (cs.length + 1) cap5, by go_num, by omega, (show Aside _ from ?_), ⟨by rw [heap_setCell_same _ _ _ _ _ _ HB5.out]; rfl, css5, HO5.out.move (Nat.le_refl _) (fun b _ h => heap_setCell_ne ?_)⟩, HS.out.trans ⟨(HL5.out.below.mono (Nat.le_succ g)).setCell (p := ⟨g, 0, none⟩) (Nat.le_refl _) _, by simp [World.setCell]; exact HL5.out.size, fun b hb hbg hne => ?_, HL5.out.at'⟩⟩
        · have h1 := HE.out
          rw [vb_ge hlt, HC.out] at h1
          have h2 : cs ++ [c] ++ vb (m / 128) = bs ++ vb n := by rw [← h1]; simp
          exact h2
        · rcases h with h | h
          · exact h.elim
          · have := (HO5.out.row.lt b h).1
            show b ≠ g
            omega
        · rw [heap_setCell_ne hbg, HL5.out.other b hb hne]
end Go.Proofs.YthkkmklnapkgaaaGreatDoor

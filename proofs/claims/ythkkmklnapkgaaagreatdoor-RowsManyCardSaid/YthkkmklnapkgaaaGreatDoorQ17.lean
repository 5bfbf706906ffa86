import Derived.Test.YthkkmklnapkgaaaGreatDoorQ16
/- Package wire's writer: signed numbers; the encoding of a number. -/
namespace Go.Proofs.YthkkmklnapkgaaaGreatDoor
open Go.RowKit Go.Shelf Go.Lib

def zz (n : Int) : Nat := if 0 ≤ n then (2 * n).toNat else (-2 * n - 1).toNat
theorem xor_zero (x : Int) (h0 : 0 ≤ x) (h1 : x < 18446744073709551616) : bits BinOp.xor IntKind.u64 x 0 = x := by
  show IntKind.u64.wrap ((BitVec.ofInt 64 x ^^^ BitVec.ofInt 64 0).toNat : Int) = x
  have e : BitVec.ofInt 64 0 = 0#64 := by decide
  rw [e, BitVec.xor_zero, IntKind.wrap_u64, BitVec.toNat_ofInt]
  omega
theorem xor_ones (x : Int) (h0 : 0 ≤ x) (h1 : x < 18446744073709551616) : bits BinOp.xor IntKind.u64 x 18446744073709551615 = 18446744073709551615 - x := by
  show IntKind.u64.wrap ((BitVec.ofInt 64 x ^^^ BitVec.ofInt 64 18446744073709551615).toNat : Int) = _
  have e : BitVec.ofInt 64 18446744073709551615 = BitVec.allOnes 64 := by decide
  rw [e, BitVec.xor_allOnes, BitVec.toNat_not, IntKind.wrap_u64, BitVec.toNat_ofInt]
  omega
theorem zig_any (n : Int) (h0 : -2305843009213693952 ≤ n) (h1 : n < 2305843009213693952) (w : World) : Calls Tryz.prog 147 #[.int .i64 n] w fun e w' => e = .returned (.int .u64 (zz n)) ∧ w = w' := by
  by_cases h : 0 ≤ n
  · have e1 : bits BinOp.xor IntKind.u64 (n * 2) (n / 9223372036854775808) = (zz n : Nat) := by
      rw [show n / 9223372036854775808 = 0 by omega, xor_zero _ (by omega) (by omega)]
      unfold zz; rw [if_pos h]; omega
    have HE := Lib.hid e1
    clear e1
    go_enter Tryz.func147, Tryz.ntmps147
    go_wp2_with fail
    go_ret
    exact ⟨ret_int HE.out, rfl⟩
  · have h' : n < 0 := by omega
    have e1 : bits BinOp.xor IntKind.u64 (IntKind.u64.wrap (IntKind.u64.wrap n * 2)) (IntKind.u64.wrap (n / 9223372036854775808)) = (zz n : Nat) := by
      rw [IntKind.wrap_u64, IntKind.wrap_u64, IntKind.wrap_u64, show n / 9223372036854775808 % 18446744073709551616 = 18446744073709551615 by omega, xor_ones _ (by omega) (by omega)]
      unfold zz; rw [if_neg h]; omega
    have HE := Lib.hid e1
    clear e1 h
    go_enter Tryz.func147, Tryz.ntmps147
    go_wp2_with fail
    go_ret
    exact ⟨ret_int HE.out, rfl⟩
theorem zz_lt {n : Int} (h0 : -2305843009213693952 ≤ n) (h1 : n < 2305843009213693952) : zz n < 18446744073709551616 := by unfold zz; split <;> omega
theorem zz_inj {a b : Int} (h : zz a = zz b) : a = b := by unfold zz at h; split at h <;> split at h <;> omega

theorem vb_inj : ∀ (n a b : Nat) (x y : Bs), a ≤ n → vb a ++ x = vb b ++ y → a = b ∧ x = y
  | n, a, b, x, y, hn, h => by
    by_cases ha : a < 128
    · by_cases hb : b < 128
      · rw [vb_lt ha, vb_lt hb] at h
        simp only [List.cons_append, List.nil_append, List.cons.injEq] at h
        have h1 := congrArg UInt8.toNat h.1
        rw [UInt8.toNat_ofNat', UInt8.toNat_ofNat'] at h1
        exact ⟨by omega, h.2⟩
      · rw [vb_lt ha, vb_ge hb] at h
        simp only [List.cons_append, List.nil_append, List.cons.injEq] at h
        have h1 := congrArg UInt8.toNat h.1
        rw [UInt8.toNat_ofNat', UInt8.toNat_ofNat'] at h1
        omega
    · by_cases hb : b < 128
      · rw [vb_ge ha, vb_lt hb] at h
        simp only [List.cons_append, List.nil_append, List.cons.injEq] at h
        have h1 := congrArg UInt8.toNat h.1
        rw [UInt8.toNat_ofNat', UInt8.toNat_ofNat'] at h1
        omega
      · rw [vb_ge ha, vb_ge hb] at h
        simp only [List.cons_append, List.cons.injEq] at h
        have h1 := congrArg UInt8.toNat h.1
        rw [UInt8.toNat_ofNat', UInt8.toNat_ofNat'] at h1
        cases n with
        | zero => omega
        | succ n =>
          obtain ⟨h2, h3⟩ := vb_inj n (a / 128) (b / 128) x y (by omega) h.2
          exact ⟨by omega, h3⟩

/-- (*Writer).Int. -/
theorem int_any (g : Nat) (w : World) (v : Value) (bs : Bs) (n : Int) (h : WAt g w v bs) (h0 : -2305843009213693952 ≤ n) (h1 : n < 2305843009213693952) (hl : bs.length ≤ 100000) :
    Calls Tryz.prog 133 #[.pointer (some ⟨g, 0, none⟩), .int .i64 n] w (WrotIs g w v (bs ++ vb (zz n))) := by
  have HZ := Lib.hid (zig_any n h0 h1 w)
  have HU := Lib.hid (uint_any g w v bs (zz n) h (zz_lt h0 h1) hl)
  clear h h0 h1 hl
  generalize zz n = m at HZ HU ⊢
  generalize hbs : bs ++ vb m = b2 at HU ⊢
  clear hbs
  go_enter Tryz.func133, Tryz.ntmps133
  go_wp2_with (first | (go_at_call 147; refine HZ.out.mono ?_; rintro e w' ⟨rfl, rfl⟩) | (go_at_call 134; refine HU.out.mono ?_; rintro e w' ⟨rfl, hw⟩))
  go_end0
  exact ⟨rfl, hw⟩

set_option maxRecDepth 100000 in
/-- values.ints at two numbers, laid in a block of their own. -/
theorem ints2_any (g : Nat) (w : World) (v : Value) (bs : Bs) (a n : Int) (b : Nat) (hA : WAt g w v bs) (h0 : -2305843009213693952 ≤ n) (h1 : n < 2305843009213693952) (a0 : -2305843009213693952 ≤ a) (a1 : a < 2305843009213693952) (hl : bs.length ≤ 10000)
    (hb : w.heap[b]? = some (.cells #[.int .i64 a, .int .i64 n] 3 (0, 0))) (hbg : b ≠ g) (hbv : v.ownBlock ≠ some b) :
    Calls Tryz.prog 115 #[.pointer (some ⟨g, 0, none⟩), .slice (some ⟨b, 0, none⟩) 2 2] w (WrotIs g w v (bs ++ vb (zz a) ++ vb (zz n))) := by
  have HA := Lib.hid hA; have HB := Lib.hid hb; have HV := Lib.hid hbv; have H0 := Lib.hid h0; have H1 := Lib.hid h1; have HA0 := Lib.hid a0; have HA1 := Lib.hid a1
  have hza := vb_ten (zz_lt a0 a1)
  clear hA hb hbv h0 h1 a0 a1
  go_enter Tryz.func115, Tryz.ntmps115
  go_wp2_with fail
  go_loopw [8] (fun i wr => ∃ (k : Nat) (cs : Bs) (u : Value), k ≤ 2 ∧ i = .int .i64 k ∧ Aside (k = 0 → cs = bs) ∧ Aside (k = 1 → cs = bs ++ vb (zz a)) ∧ Aside (k = 2 → cs = bs ++ vb (zz a) ++ vb (zz n)) ∧ WAt g wr u cs ∧ WStep g w v wr u) (fun i _ => 2 - (intOf i).toNat)
  case atStart => exact ⟨0, bs, v, by omega, rfl, fun _ => rfl, fun h => by omega, fun h => by omega, HA.out, WStep.refl _ _ _⟩
  case round =>
    obtain ⟨k, cs, u, hk, rfl, e0, e1, e2, hA, hS⟩ := hrel
    have hbr : wr.heap[b]? = some (.cells #[.int .i64 a, .int .i64 n] 3 (0, 0)) := by
      rw [hS.keep b (World.block_lt_some HB.out) hbg (fun e => HV.out e.symm)]; exact HB.out
    have c0 := cell_of_row _ _ 0 _ _ _ hbr; have c1 := cell_of_row _ _ 1 _ _ _ hbr
    simp only [List.getElem?_toArray, List.getElem?_cons_zero, List.getElem?_cons_succ] at c0 c1
    have HS := Lib.hid hS
    clear hbr hS
    match k, hk with
    | 0, _ =>
      have hcs : cs = bs := e0.out rfl
      subst hcs
      have HI := Lib.hid (int_any g wr u cs a hA HA0.out HA1.out (by omega))
      clear e0 e1 e2 hA
      generalize hb2 : cs ++ vb (zz a) = b2 at HI
      have HB2 := Lib.hid hb2
      clear hb2
      rw [show ((0 : Nat) : Int) = 0 from rfl]
      go_wp2_with (go_at_call 133; refine HI.out.mono ?_; rintro e w' ⟨rfl, v', hA', hS'⟩; have HA' := Lib.hid hA'; have HS' := Lib.hid hS'; clear hA' hS')
      go_roundw
      case measure => simp [intOf]
      case rel => exact ⟨1, b2, v', by omega, rfl, fun h => by omega, fun _ => (by first | exact HB2.out.symm | rfl), fun h => by omega, HA'.out, HS.out.trans HS'.out⟩
    | 1, _ =>
      have hcs : cs = bs ++ vb (zz a) := e1.out rfl
      have HI := Lib.hid (int_any g wr u cs n hA H0.out H1.out (by rw [hcs, List.length_append]; omega))
      clear e0 e1 e2 hA
      generalize hb2 : cs ++ vb (zz n) = b2 at HI
      rw [hcs] at hb2
      have HB2 := Lib.hid hb2
      clear hb2 hcs
      rw [show ((1 : Nat) : Int) = 1 from rfl]
      go_wp2_with (go_at_call 133; refine HI.out.mono ?_; rintro e w' ⟨rfl, v', hA', hS'⟩; have HA' := Lib.hid hA'; have HS' := Lib.hid hS'; clear hA' hS')
      go_roundw
      case measure => simp [intOf]
      case rel => exact ⟨2, b2, v', by omega, rfl, fun h => by omega, fun h => by omega, fun _ => (by first | exact HB2.out.symm | rfl), HA'.out, HS.out.trans HS'.out⟩
    | 2, _ =>
      have hcs : cs = bs ++ vb (zz a) ++ vb (zz n) := e2.out rfl
      have HCS := Lib.hid hcs
      have HA2 := Lib.hid hA
      clear e0 e1 e2 hA hcs
      rw [show ((2 : Nat) : Int) = 2 from rfl]
      go_wp2_with fail
      go_end0
      exact ⟨rfl, u, by rw [← HCS.out]; exact HA2.out, HS.out⟩
end Go.Proofs.YthkkmklnapkgaaaGreatDoor

/- values.Encode of a number. -/
namespace Go.Proofs.YthkkmklnapkgaaaGreatDoor
open Go.RowKit Go.Shelf Go.Lib

/-- The encoding of a number as a value. -/
def encI (n : Int) : Bs := vb (zz 0) ++ vb (zz n)
theorem encI_inj {a b : Int} (h : encI a = encI b) : a = b := by
  unfold encI at h
  have h1 := List.append_cancel_left h
  have := vb_inj (zz a) (zz a) (zz b) [] [] (Nat.le_refl _) (by simpa using h1)
  exact zz_inj this.1
theorem encI_len {n : Int} (h0 : -2305843009213693952 ≤ n) (h1 : n < 2305843009213693952) : (encI n).length ≤ 20 := by
  have a := vb_ten (zz_lt (n := 0) (by omega) (by omega))
  have b := vb_ten (zz_lt h0 h1)
  unfold encI; rw [List.length_append]; omega

set_option maxRecDepth 100000 in
theorem write_int (g : Nat) (w : World) (v : Value) (n : Int) (s : ByteArray) (p3 : Option Addr) (l3 k3 : Nat) (p4 : Option Addr) (k4 : Nat) (hA : WAt g w v []) (h0 : -2305843009213693952 ≤ n) (h1 : n < 2305843009213693952) :
    Calls Tryz.prog 85 #[.pointer (some ⟨g, 0, none⟩), .agg #[.int .i64 0, .int .i64 n, .string s, .slice p3 l3 k3, .slice p4 0 k4]] w (WrotIs g w v (encI n)) := by
  have hg := World.block_lt_some hA.cell
  have hown : ∀ b, v.ownBlock = some b → b < w.heap.size := fun b hb => by
    obtain ⟨_, ho⟩ := hA.own
    exact (ho.row.lt b hb).2
  have HA := Lib.hid hA; have HOwn := Lib.hid hown; have H0 := Lib.hid h0; have H1 := Lib.hid h1
  clear hA hown h0 h1
  go_enter Tryz.func85, Tryz.ntmps85
  go_wp2_with fail
  have hb1 : Below w.heap.size w ((w.alloc (.cells #[.int .i64 0, .int .i64 n, .string s, .slice p3 l3 k3, .slice p4 0 k4] 34)).alloc (.cells #[.int .i64 0, .int .i64 n] 3)) := bal2 _ _ _
  have hX := heap_alloc2_old w (.cells #[.int .i64 0, .int .i64 n, .string s, .slice p3 l3 k3, .slice p4 0 k4] 34) (.cells #[.int .i64 0, .int .i64 n] 3)
  have hY := heap_alloc2_new w (.cells #[.int .i64 0, .int .i64 n, .string s, .slice p3 l3 k3, .slice p4 0 k4] 34) (.cells #[.int .i64 0, .int .i64 n] 3)
  generalize (w.alloc (.cells #[.int .i64 0, .int .i64 n, .string s, .slice p3 l3 k3, .slice p4 0 k4] 34)).alloc (.cells #[.int .i64 0, .int .i64 n] 3) = W1 at hb1 hX hY ⊢
  have hi := ints2_any g W1 v [] 0 n (w.heap.size + 1) (HA.out.below hb1) H0.out H1.out (by omega) (by omega) (by simp) hY (by omega) (fun e => by have := HOwn.out _ e; omega)
  have HI := Lib.hid hi; have HB1 := Lib.hid hb1; have HX := Lib.hid hX
  clear hi hb1 hX hY
  rw [List.nil_append, show vb (zz 0) ++ vb (zz n) = encI n from rfl] at HI
  refine HI.out.mono ?_
  rintro e w2 ⟨rfl, v2, hA2, hS2⟩
  have hX2 := (hS2.keep w.heap.size (World.block_lt_some HX.out) (by omega) (fun e => by have := HOwn.out _ e.symm; omega)).trans HX.out
  have c4 := cell_of_row _ _ 4 _ _ _ hX2
  simp only [List.getElem?_toArray, List.getElem?_cons_zero, List.getElem?_cons_succ] at c4
  have HA2 := Lib.hid hA2; have HS2 := Lib.hid ((WStep.of_below (v := v) HB1.out (by omega) : WStep g w v W1 v).trans hS2)
  clear hA2 hS2 hX2
  go_wp2_with fail
  go_loop [57] (fun i => i = .int .i64 0) (fun _ => 0)
  case atStart => exact rfl
  case round =>
    subst hrel
    go_wp2_with fail
    go_end0
    exact ⟨rfl, v2, HA2.out, HS2.out⟩

theorem cloneByte (S : Nat → Prop) (v : Value) (xs : List UInt8) (w : World) (hs : Sl byteRd S w v xs) : Calls Tryz.prog 117 #[v] w (Cloned byteRd 5 S w xs) := by
  obtain ⟨i0, h1, h2, h3, h4⟩ := info_of (P := Tryz.prog) (t := 5) (z := .int .u8 0) (n := 1) (b := 1) (by kernel_rfl)
  exact cloneFn Tryz.clByte byteRd (by decide) 1 i0 _ h1 h2 h3 h4 rfl Tryz.sizeOf5 (by omega) byte_one S v xs w hs
theorem done_any (g : Nat) (w : World) (v : Value) (bs : Bs) (hA : WAt g w v bs) (hl : bs.length ≤ 1000000) :
    Calls Tryz.prog 86 #[.pointer (some ⟨g, 0, none⟩)] w (Cloned byteRd 5 (fun _ => True) w bs) := by
  obtain ⟨css, hO⟩ := hA.own
  have hSl : Sl byteRd (fun _ => True) w v bs := hO.sl hl (fun _ _ => trivial) (fun _ _ _ => trivial)
  have HC := Lib.hid (cloneByte _ v bs w hSl)
  obtain ⟨p, cap, rfl, _⟩ := hSl.len
  have c0 := cell_of_row _ _ 0 _ _ _ hA.cell
  simp only [List.getElem?_toArray, List.getElem?_cons_zero] at c0
  clear hA hO hSl
  go_enter Tryz.func86, Tryz.ntmps86
  go_wp2_with (go_at_call 117; refine HC.out.mono ?_; rintro e w' ⟨q, qc, qs, rfl, hO2, hb2⟩; have HO2 := Lib.hid hO2; have HB2 := Lib.hid hb2; clear hO2 hb2)
  go_ret
  exact ⟨q, qc, qs, rfl, HO2.out, HB2.out⟩

/-- values.Encode of a number. -/
theorem encode_int (S : Nat → Prop) (n : Int) (s : Bs) (names : List Bs) (cs : List Value) (w : World) (h : IsVal S w cs (.mk 0 n s names [])) (h0 : -2305843009213693952 ≤ n) (h1 : n < 2305843009213693952) :
    Calls Tryz.prog 52 #[.agg cs.toArray] w (Cloned byteRd 5 (fun _ => True) w (encI n)) := by
  obtain ⟨p3, k3, p4, k4, hcs, _⟩ := IsVal.cells h
  simp only [vcs, Val.kind, Val.n, Val.s, Val.names, Val.kids, List.length_nil] at hcs
  subst hcs
  have hel := encI_len h0 h1
  have H0 := Lib.hid h0; have H1 := Lib.hid h1
  clear h h0 h1
  go_enter Tryz.func52, Tryz.ntmps52
  go_wp2_with fail
  have hb1 := bal2 w (.cells #[.int .i64 0, .int .i64 n, .string ⟨s.toArray⟩, .slice p3 names.length k3, .slice p4 0 k4] 34) (.cells #[.slice none 0 0] 127)
  have hA : WAt (w.heap.size + 1) ((w.alloc (.cells #[.int .i64 0, .int .i64 n, .string ⟨s.toArray⟩, .slice p3 names.length k3, .slice p4 0 k4] 34)).alloc (.cells #[.slice none 0 0] 127)) (.slice none 0 0) [] := ⟨heap_alloc2_new _ _ _, [], Own.nil _ _ _ _ _⟩
  refine (write_int _ _ _ n ⟨s.toArray⟩ p3 names.length k3 p4 k4 hA H0.out H1.out).mono ?_
  rintro e w2 ⟨rfl, v2, hA2, hS2⟩
  have HA2 := Lib.hid hA2
  have HB2 := Lib.hid (hb1.trans (hS2.below.mono (Nat.le_succ _)))
  clear hA hA2 hS2 hb1
  go_wp2_with (go_at_call 86; refine (done_any _ _ _ _ HA2.out (by omega)).mono ?_; rintro e w' ⟨q, qc, qs, rfl, hO2, hb2⟩; have HO2 := Lib.hid hO2; have HB3 := Lib.hid hb2; clear hO2 hb2)
  go_ret
  exact ⟨q, qc, qs, rfl, HO2.out.move HB2.out.size (fun _ _ _ => rfl), HB2.out.thn HB3.out⟩
end Go.Proofs.YthkkmklnapkgaaaGreatDoor

import Derived.Test.YtppbaladeefnkaaGreatDoorU06
set_option maxRecDepth 100000
set_option maxHeartbeats 400000000
namespace Go.Proofs.YtppbaladeefnkaaGreatDoor
open Go.RowKit Go.Shelf Go.Lib Tryz
structure Yt (x : Bs) : Prop where
 pos : 0 < x.length
 len : x.length ≤ 16
 head : ∀ c, x[0]? = some c → Jr c = true
 all : tk Js x = x.length
 kw : Ds x = false
structure D9 (x : Bs) : Prop where
 pos : 0 < x.length
 len : x.length ≤ 16
 head : ∀ c, x[0]? = some c → Gj c = true
 all : tk Fj x = x.length
theorem lo_not (c : UInt8) (h : Jr c = true) : Lq c = false ∧ ((c.toNat : Int) == 35) = false := by
 rw [Kw] at h
 simp only [Bool.and_eq_true, decide_eq_true_eq] at h
 rw [Kx]
 constructor
 ·simp; omega
 simp; omega
theorem up_not (c : UInt8) (h : Gj c = true) : Lq c = false ∧ ((c.toNat : Int) == 35) = false ∧ Jr c = false := by
 rw [Fa] at h
 simp only [Bool.and_eq_true, decide_eq_true_eq] at h
 rw [Kx, Kw]
 refine ⟨?_, ?_, ?_⟩
 ·simp; omega
 ·simp; omega
 simp; omega
theorem Yh (x : Bs) : (⟨x.toArray⟩ : ByteArray).size = x.length := by
 show x.toArray.size = _
 simp
theorem Kn (x : Bs) (i : Nat) (h : i < (⟨x.toArray⟩ : ByteArray).size) : x[i]? = some ((⟨x.toArray⟩ : ByteArray)[i]'h) := by
 have := N2 ⟨x.toArray⟩ i h
 rwa [D7] at this
theorem Dp (x : Bs) : (⟨x.toArray⟩ : ByteArray).extract 0 x.length = ⟨x.toArray⟩ := by
 rw [ba_ext]
 simp [bl, ByteArray.data_extract]
theorem Pm (x : Bs) (h : Yt x) (w : World) (hT : Xd w) :
  Calls prog 228 #[sv x] w fun e w' => e = .returned (.tuple #[.int .i64 2, .int .i64 x.length]) ∧ Below w.heap.size w w' := by
 obtain ⟨hp, hl, hh, ha, hk⟩ := h
 have h0 : 0 < (⟨x.toArray⟩ : ByteArray).size := by rw [Yh]; exact hp
 have hlo := hh _ (Kn x 0 h0)
 obtain ⟨c, hc⟩ := eX ((⟨x.toArray⟩ : ByteArray)[0]'h0)
 rw [hc] at hlo
 obtain ⟨n1, n2⟩ := lo_not c hlo
 have hR : ∀ w, Calls prog 229 #[.string ⟨x.toArray⟩, .func (.func 241) #[] #[]] w fun e w' => e = .returned (.int .i64 (x.length : Nat)) ∧ w = w' := fun w => by
  have := run_word ⟨x.toArray⟩ w (by rw [Yh]; unfold maxLen; omega)
  rwa [D7, ha] at this
 have hK : ∀ w, Xd w → Calls prog 242 #[.string ((⟨x.toArray⟩ : ByteArray).extract 0 x.length)] w fun e w' => e = .returned (.bool false) ∧ ∃ q, w' = w.drewN q := fun w hT => by
  have := Gs ⟨x.toArray⟩ w hT
  rwa [D7, hk, ← Dp x] at this
 have HR := Qq hR; have HK := Qq hK; have HT := Qq hT
 have hs : (⟨x.toArray⟩ : ByteArray).size = x.length := Yh x
 have hl2 : x.length ≤ (⟨x.toArray⟩ : ByteArray).size := by omega
 unfold sv
 generalize (⟨x.toArray⟩ : ByteArray) = s at h0 hc hl2 HR HK ⊢
 generalize x.length = n at HR HK hl2 hl ⊢
 clear hR hK hT ha hk hh hs hp
 go_enter func228, ntmps228
 go_wp2_with (first | (go_at_call 229; refine (HR.out _).mono ?_; rintro e w' ⟨rfl, rfl⟩) | (go_at_call 242; refine (HK.out _ HT.out).mono ?_; rintro e w' ⟨rfl, q, rfl⟩) | (go_at_call 239; refine (Ba _ _).mono ?_; rintro e w' ⟨rfl, rfl⟩) | (go_at_call 240; refine (J7 _ _).mono ?_; rintro e w' ⟨rfl, rfl⟩))
 go_ret2
 exact ⟨rfl, Zy _ _⟩
theorem good_cap (x : Bs) (h : D9 x) (w : World) :
  Calls prog 228 #[sv x] w fun e w' => e = .returned (.tuple #[.int .i64 3, .int .i64 x.length]) ∧ Below w.heap.size w w' := by
 obtain ⟨hp, hl, hh, ha⟩ := h
 have h0 : 0 < (⟨x.toArray⟩ : ByteArray).size := by rw [Yh]; exact hp
 have hlo := hh _ (Kn x 0 h0)
 obtain ⟨c, hc⟩ := eX ((⟨x.toArray⟩ : ByteArray)[0]'h0)
 rw [hc] at hlo
 obtain ⟨n1, n2, n3⟩ := up_not c hlo
 have hR : ∀ w, Calls prog 229 #[.string ⟨x.toArray⟩, .func (.func 244) #[] #[]] w fun e w' => e = .returned (.int .i64 (x.length : Nat)) ∧ w = w' := fun w => by
  have := run_name ⟨x.toArray⟩ w (by rw [Yh]; unfold maxLen; omega)
  rwa [D7, ha] at this
 have HR := Qq hR
 unfold sv
 generalize (⟨x.toArray⟩ : ByteArray) = s at h0 hc HR ⊢
 generalize x.length = n at HR hl ⊢
 clear hR ha hh hp
 go_enter func228, ntmps228
 go_wp2_with (first | (go_at_call 229; refine (HR.out _).mono ?_; rintro e w' ⟨rfl, rfl⟩) | (go_at_call 243; refine (Bc _ _).mono ?_; rintro e w' ⟨rfl, rfl⟩) | (go_at_call 239; refine (Ba _ _).mono ?_; rintro e w' ⟨rfl, rfl⟩) | (go_at_call 240; refine (J7 _ _).mono ?_; rintro e w' ⟨rfl, rfl⟩))
 go_ret2
 exact ⟨rfl, Qz _ _⟩
def Mp (x : Bs) (k : Int) (w : World) : Prop := ∀ W, Below w.heap.size w W → Calls prog 228 #[sv x] W fun e w' => e = .returned (.tuple #[.int .i64 k, .int .i64 x.length]) ∧ Below W.heap.size W w'
theorem next_at (x : Bs) (k : Int) (w : World) (hg : Mp x k w) (hp : 0 < x.length) (W : World) (hW : Below w.heap.size w W) :
  Calls prog 218 #[sv x] W fun e w' => e = .returned (.tuple #[.int .i64 k, .int .i64 x.length]) ∧ Below W.heap.size W w' := by
 have HG := Qq (hg W hW)
 have hp' : (0 : Int) < x.length := by omega
 clear hg hW
 unfold sv at HG ⊢
 generalize x.length = n at HG hp hp' ⊢
 go_enter func218, ntmps218
 go_wp2_with (go_at_call 228; refine HG.out.mono ?_; rintro e w' ⟨rfl, hw⟩)
 go_ret2
 exact ⟨rfl, hw⟩
theorem On (x : Bs) (k : Int) (w : World) (hg : Mp x k w) (hp : 0 < x.length) (W : World) (hW : Below w.heap.size w W) :
  Calls prog 202 #[sv x] W fun e w' => e = .returned (.tuple #[.int .i64 k, .bool true]) ∧ Below W.heap.size W w' := by
 have HG := Qq (next_at x k w hg hp W hW)
 have h0 : 0 < (⟨x.toArray⟩ : ByteArray).size := by rw [Yh]; exact hp
 have hne : (⟨x.toArray⟩ : ByteArray).toList.isEmpty = false := by
  rw [Lib.toList_data]
  show (bl ⟨x.toArray⟩).isEmpty = false
  rw [D7]
  cases x with
  | nil => simp at hp
  | cons => rfl
 have hs : ((x.length : Int) == ((⟨x.toArray⟩ : ByteArray).size : Int)) = true := by rw [Yh]; simp
 clear hg hW h0
 unfold sv at HG ⊢
 generalize (⟨x.toArray⟩ : ByteArray) = s at HG hne hs ⊢
 generalize x.length = n at HG hs ⊢
 go_enter func202, ntmps202
 go_wp2_with (go_at_call 218; refine HG.out.mono ?_; rintro e w' ⟨rfl, hw⟩)
 go_ret2
 exact ⟨rfl, hw⟩
theorem Ov (x : Bs) (k at' : Int) (w : World) (hk : k = 2 ∨ k = 3) (hg : Mp x k w) (hp : 0 < x.length) (hl : x.length ≤ 16) :
  Calls prog 187 #[.agg #[.int .i64 k, sv x, .int .i64 at']] w fun e w' => e = .returned (.bool true) ∧ Below w.heap.size w w' := by
 have HS := Qq (fun W h => On x k w hg hp W h)
 have hl' : ((⟨x.toArray⟩ : ByteArray).size : Int) ≤ 16 := by rw [Yh]; omega
 clear hg
 unfold sv at HS ⊢
 generalize (⟨x.toArray⟩ : ByteArray) = s at HS hl' ⊢
 rcases hk with rfl | rfl
 all_goals
  go_enter func187, ntmps187
  go_wp2_with fail
  refine (HS.out _ (Qo _ _)).mono ?_
  rintro e w1 ⟨rfl, hw⟩
  have c0 := (hw.cell (p := ⟨w.heap.size, 0, none⟩) (by simp)).trans (Qk _ _ 0 _ _ _ (Qw w _))
  have c1 := (hw.cell (p := ⟨w.heap.size, 1, none⟩) (by simp)).trans (Qk _ _ 1 _ _ _ (Qw w _))
  simp only [List.getElem?_toArray, List.getElem?_cons_zero, List.getElem?_cons_succ] at c0 c1
  have HW := Qq ((Qo w _).thn hw)
  clear hw
  go_wp2_with fail
  go_ret
  exact ⟨rfl, HW.out⟩
theorem Xd.below {w w' : World} (h : Xd w) (hb : Below w.heap.size w w') : Xd w' := fun j v hv => (hb.cell (p := ⟨_, 0 + j, none⟩) (Qv w _ (h j v hv))).trans (h j v hv)
theorem Nd (x : Bs) (h : Yt x) (w : World) (hT : Xd w) : Calls prog 146 #[sv x] w fun e w' => e = .returned (.bool true) ∧ Below w.heap.size w w' := by
 have HF := Qq (fun W (hb : Below w.heap.size w W) => Ov x 2 0 W (.inl rfl) (fun W' h' => Pm x h W' ((hT.below hb).below h')) h.pos h.len)
 clear hT h
 unfold sv at HF ⊢
 generalize (⟨x.toArray⟩ : ByteArray) = s at HF ⊢
 go_enter func146, ntmps146
 go_wp2_with (go_at_call 187; refine (HF.out _ (Qz _ _)).mono ?_; rintro e w' ⟨rfl, hw⟩)
 go_ret
 exact ⟨rfl, hw⟩
theorem Rn (x : Bs) (h : D9 x) (w : World) : Calls prog 145 #[sv x] w fun e w' => e = .returned (.bool true) ∧ Below w.heap.size w w' := by
 have HF := Qq (fun W => Ov x 3 0 W (.inr rfl) (fun W' _ => good_cap x h W') h.pos h.len)
 clear h
 unfold sv at HF ⊢
 generalize (⟨x.toArray⟩ : ByteArray) = s at HF ⊢
 go_enter func145, ntmps145
 go_wp2_with (go_at_call 187; refine (HF.out _).mono ?_; rintro e w' ⟨rfl, hw⟩)
 go_ret
 exact ⟨rfl, hw⟩
inductive Zp : Val → Prop
 | int (n : Int) : Zp (.mk 0 n [] [] [])
 | text (s : Bs) : Zp (.mk 1 0 s [] [])
 | bool (n : Int) (hn : n = 0 ∨ n = 1) : Zp (.mk 2 n [] [] [])
 | make (s : Bs) (kids : List Val) (hs : D9 s) (hl : kids.length ≤ 1) (hk : ∀ k ∈ kids, Zp k) : Zp (.mk 3 0 s [] kids)
 | record (names : List Bs) (kids : List Val) (hl : names.length = kids.length) (hn : ∀ x ∈ names, Yt x) (hs : ∀ (i : Nat) (x y : Bs), names[i]? = some x → names[i + 1]? = some y → Zg x y < 0) (hk : ∀ k ∈ kids, Zp k) : Zp (.mk 4 0 [] names kids)
 | list (kids : List Val) (hk : ∀ k ∈ kids, Zp k) : Zp (.mk 5 0 [] [] kids)
def Ej (v : Val) : Prop := ∀ (S : Nat → Prop) (cs : List Value) (w : World), Qh S w cs v → Xd w → Calls prog 123 #[.agg cs.toArray] w fun e w' => e = .returned (.bool true) ∧ Below w.heap.size w w'
theorem N5 (v : Val) (hv : Ej v) (S : Nat → Prop) (cs : List Value) (w : World) (h : Qh S w cs v) (hT : Xd w) :
  Calls prog 147 #[.agg cs.toArray] w fun e w' => e = .returned (.bool false) ∧ Below w.heap.size w w' := by
 have HV := Qq (fun W (hb : Below w.heap.size w W) => hv S cs W (h.move (.of_below hb) (fun _ _ h => h)) (hT.below hb))
 obtain ⟨p3, k3, p4, k4, hcs, _⟩ := Qh.cells h
 simp only [vcs] at hcs
 subst hcs
 clear h hv hT
 go_enter func147, ntmps147
 go_wp2_with (go_at_call 123; refine (HV.out _ (Qo _ _)).mono ?_; rintro e w' ⟨rfl, hw⟩)
 go_ret
 exact ⟨rfl, (Qo _ _).thn hw⟩
theorem Vf (kids : List Val) (hk : ∀ k ∈ kids, Ej k) (S : Nat → Prop) (v : Value) (w : World) (h : Sl Ql S w v kids) (hT : Xd w) :
  Calls prog 54 #[v, .func (.func 147) #[] #[]] w fun e w' => e = .returned (.bool false) ∧ Below w.heap.size w w' := by
 have := conFn Tryz.cfVal Ql isAgg44 sizeOf44 147 #[] (enters_of func147 (by kernel_rfl) rfl) S v kids w (fun _ => false) h
  (fun W x cs hb hx hr => N5 x (hk x hx) S cs W hr (hT.below hb))
 rwa [show kids.any (fun _ => false) = false by induction kids <;> simp_all] at this
theorem Gt (a b : Bs) (h : Zg a b < 0) : Op.bytesLess a b = true := by
 rw [(Xq a b).1]; simpa using h
theorem Pe (v : Val) (hv : Zp v) : Ej v := by
 induction hv with
 | int n =>
  intro S cs w h hT
  obtain ⟨p3, k3, p4, k4, hcs, _, hk, _⟩ := Qh.cells h
  simp only [vcs, Val.kind, Val.n, Val.s, Val.names, Val.kids, List.length_nil] at hcs
  subst hcs
  have HK := Qq (fun W (hb : Below w.heap.size w W) => Vf [] (fun k hk => by simp at hk) S _ W (hk.below hb) (hT.below hb))
  simp only [Val.kids, List.length_nil] at HK
  clear h hk hT
  go_enter func123, ntmps123
  go_wp2_with (go_at_call 54; refine (HK.out _ (Qo _ _)).mono ?_; rintro e w' ⟨rfl, hw⟩)
  go_ret
  exact ⟨rfl, (Qo _ _).thn hw⟩
 | text s =>
  intro S cs w h hT
  obtain ⟨p3, k3, p4, k4, hcs, _, hk, _⟩ := Qh.cells h
  simp only [vcs, Val.kind, Val.n, Val.s, Val.names, Val.kids, List.length_nil] at hcs
  subst hcs
  have HK := Qq (fun W (hb : Below w.heap.size w W) => Vf [] (fun k hk => by simp at hk) S _ W (hk.below hb) (hT.below hb))
  simp only [Val.kids, List.length_nil] at HK
  clear h hk hT
  go_enter func123, ntmps123
  go_wp2_with (go_at_call 54; refine (HK.out _ (Qo _ _)).mono ?_; rintro e w' ⟨rfl, hw⟩)
  go_ret
  exact ⟨rfl, (Qo _ _).thn hw⟩
 | bool n hn =>
  intro S cs w h hT
  obtain ⟨p3, k3, p4, k4, hcs, _, hk, _⟩ := Qh.cells h
  simp only [vcs, Val.kind, Val.n, Val.s, Val.names, Val.kids, List.length_nil] at hcs
  subst hcs
  have HK := Qq (fun W (hb : Below w.heap.size w W) => Vf [] (fun k hk => by simp at hk) S _ W (hk.below hb) (hT.below hb))
  simp only [Val.kids, List.length_nil] at HK
  clear h hk hT
  rcases hn with rfl | rfl
  all_goals
   go_enter func123, ntmps123
   go_wp2_with (go_at_call 54; refine (HK.out _ (Qo _ _)).mono ?_; rintro e w' ⟨rfl, hw⟩)
   go_ret
   exact ⟨rfl, (Qo _ _).thn hw⟩
 | make s kids hs hl hkk ih =>
  intro S cs w h hT
  obtain ⟨p3, k3, p4, k4, hcs, _, hk, _⟩ := Qh.cells h
  simp only [vcs, Val.kind, Val.n, Val.s, Val.names, Val.kids, List.length_nil] at hcs
  subst hcs
  have HK := Qq (fun W (hb : Below w.heap.size w W) => Vf kids ih S _ W (hk.below hb) (hT.below hb))
  have HC := Qq (fun W => Rn s hs W)
  simp only [Val.kids] at HK
  unfold sv at HC
  have hl' : decide ((kids.length : Int) ≤ 1) = true := by simp; omega
  clear h hk hT ih hkk hs
  go_enter func123, ntmps123
  go_wp2_with fail
  refine (HC.out _).mono ?_
  rintro e w1 ⟨rfl, hw⟩
  have c4 := (hw.cell (p := ⟨w.heap.size, 4, none⟩) (by simp)).trans (Qk _ _ 4 _ _ _ (Qw w _))
  simp only [List.getElem?_toArray, List.getElem?_cons_zero, List.getElem?_cons_succ] at c4
  have HW := Qq ((Qo w _).thn hw)
  clear hw
  go_wp2_with (go_at_call 54; refine (HK.out _ HW.out).mono ?_; rintro e w' ⟨rfl, hw⟩)
  go_ret
  exact ⟨rfl, HW.out.thn hw⟩
 | list kids hkk ih =>
  intro S cs w h hT
  obtain ⟨p3, k3, p4, k4, hcs, _, hk, _⟩ := Qh.cells h
  simp only [vcs, Val.kind, Val.n, Val.s, Val.names, Val.kids, List.length_nil] at hcs
  subst hcs
  have HK := Qq (fun W (hb : Below w.heap.size w W) => Vf kids ih S _ W (hk.below hb) (hT.below hb))
  simp only [Val.kids] at HK
  clear h hk hT ih hkk
  go_enter func123, ntmps123
  go_wp2_with (go_at_call 54; refine (HK.out _ (Qo _ _)).mono ?_; rintro e w' ⟨rfl, hw⟩)
  go_ret
  exact ⟨rfl, (Qo _ _).thn hw⟩
 | record names kids hl hn hs hkk ih =>
  intro S cs w h hT
  obtain ⟨p3, k3, p4, k4, hcs, hns, hk, _⟩ := Qh.cells h
  simp only [vcs, Val.kind, Val.n, Val.s, Val.names, Val.kids] at hcs hns
  rw [hl] at hcs hns
  subst hcs
  have HK := Qq (fun W (hb : Below w.heap.size w W) => Vf kids ih S _ W (hk.below hb) (hT.below hb))
  have HN := Qq hns; have HW := Qq hn; have HS := Qq hs; have HL := Qq hl; have HT := Qq hT
  simp only [Val.kids] at HK
  have hlk : kids.length ≤ 1000000 := by obtain ⟨_, _, _, h⟩ := hns.len; omega
  clear h hk hT ih hkk hn hs hl hns
  generalize kids.length = n at HK HN HL hlk ⊢
  go_enter func123, ntmps123
  go_wp2_with fail
  obtain ⟨W1, hW1⟩ := eX (w.alloc (.cells #[.int .i64 4, .int .i64 0, .string ⟨#[]⟩, .slice p3 n k3, .slice p4 n k4] 44))
  rw [hW1]
  have hb1 := eqB hW1 (Qo _ _)
  have hX1 := eqH (b := w.heap.size) hW1 (Qw _ _)
  have HB1 := Qq hb1; have HX1 := Qq hX1
  clear hW1 hb1 hX1
  go_loopw [3, 93] (fun ok i wr => ∃ k : Nat, k ≤ n ∧ i = .int .i64 k ∧ ok = .bool true ∧ Below W1.heap.size W1 wr) (fun _ i _ => n - (intOf i).toNat)
  case atStart => exact ⟨0, Q8 _, rfl, rfl, Qz _ _⟩
  obtain ⟨k, hkn, rfl, rfl, hBr⟩ := hrel
  have hXr := kB hBr HX1.out
  have hGr := Qf hXr
  have c4 := rA4 hXr; have c3 := rA3 hXr
  have HBr := Qq (HB1.out.thn hBr); have HBr1 := Qq hBr
  clear hBr hXr
  by_cases hlt : k < n
  ·have hi1 : (0 : Int) ≤ (k : Int) := by omega
   have hi2 : (k : Int) < (n : Int) := by omega
   obtain ⟨x, hx⟩ : ∃ x, names[k]? = some x := ⟨_, Qx (by rw [HL.out]; exact hlt)⟩
   obtain ⟨b, off, rfl, hc, -⟩ := (HN.out.below HBr.out).str hx
   have HCall := Qq (Nd x (HW.out x (Qy hx)) wr (HT.out.below HBr.out))
   unfold sv at HCall
   cases k with
   | zero =>
    clear hx
    rw [show ((0 : Nat) : Int) = 0 from rfl] at hi1 hi2 ⊢
    rw [Nat.add_zero] at hc
    go_wp2_with (go_at_call 146; refine HCall.out.mono ?_; rintro e w' ⟨rfl, hw⟩; have HW2 := Qq hw; clear hw)
    go_roundw
    case measure => simp [intOf]; omega
    case rel => exact ⟨1, by omega, rfl, rfl, HBr1.out.thn HW2.out⟩
   | succ k' =>
    obtain ⟨y, hy⟩ : ∃ y, names[k']? = some y := ⟨_, Qx (by rw [HL.out]; omega)⟩
    obtain ⟨b', off', he, hc', -⟩ := (HN.out.below HBr.out).str hy
    obtain ⟨rfl, rfl, -⟩ : b = b' ∧ off = off' ∧ True := by simpa using he
    have hless := Gt y x (HS.out k' y x hy hx)
    have hbl := Qv wr _ hc
    have hi3 : (0 : Int) ≤ (k' : Int) := by omega
    have hi4 : (k' : Int) < (n : Int) := by omega
    have hi5 : ((k' : Int) + 1 == 0) = false := by simp; omega
    clear hx hy he
    go_wp2_with fail
    refine HCall.out.mono ?_
    rintro e w2 ⟨rfl, hw⟩
    have d3 := (hw.cell (p := ⟨w.heap.size, 3, none⟩) hGr).trans c3
    have dc := (hw.cell (p := ⟨b, off + k', none⟩) hbl).trans hc'
    have HW2 := Qq hw
    clear hw
    go_wp2_with fail
    go_roundw
    case measure => simp [intOf]; omega
    case rel => exact ⟨k' + 1 + 1, by omega, by go_num, rfl, HBr1.out.thn HW2.out⟩
  have hkn' : k = n := by omega
  subst hkn'
  go_wp2_with (go_at_call 54; refine (HK.out _ HBr.out).mono ?_; rintro e w' ⟨rfl, hw⟩)
  go_ret
  exact ⟨rfl, HBr.out.thn hw⟩
def eqL {A B : Type} (p : A → B → Bool) : List A → List B → Bool
 | [], [] => true
 | x :: s, y :: t => p x y && eqL p s t
 | _, _ => false
theorem Ud {A B : Type} (p : A → B → Bool) : ∀ (a : List A) (b : List B), a.length ≠ b.length → eqL p a b = false
 | [], [], h => absurd rfl h
 | [], _ :: _, _ => rfl
 | _ :: _, [], _ => rfl
 | x :: s, y :: t, h => by unfold eqL; rw [Ud p s t (fun e => h (by simp [e])), Bool.and_false]
theorem Rl {S : Nat → Prop} {w : World} {cs : List Value} {x : Rel} (h : Z8.R S w cs x) : ∃ p c, cs = [.string ⟨x.table.toArray⟩, .slice p x.rows.length c] := by
 obtain ⟨v, rfl, _, h2⟩ := h
 obtain ⟨p, c, rfl, _⟩ := h2.len
 exact ⟨p, c, rfl⟩
theorem eqFValTy (g : Nat) (lb : Array Value) (eg : ∀ args w, (callFunc g args).run prog w = .ok (.enter g args) w) (S : Nat → Prop) (va vb : Value) (a : List Val) (b : List Ty) (w : World) (ha : Sl Ql S w va a) (hb : Sl Vs S w vb b) (p : Val → Ty → Bool)
  (hp : ∀ (W : World) (x : Val) (y : Ty) (cx cy : List Value), Below w.heap.size w W → x ∈ a → y ∈ b → Ql.R S W cx x → Vs.R S W cy y → Calls prog g (#[.agg cx.toArray, .agg cy.toArray] ++ lb) W fun e w' => e = .returned (.bool (p x y)) ∧ Below W.heap.size W w') :
  Calls prog 150 #[va, vb, .func (.func g) #[] lb] w fun e w' => e = .returned (.bool (eqL p a b)) ∧ Below w.heap.size w w' := by
 obtain ⟨pa, ca, rfl, hla⟩ := ha.len
 obtain ⟨pb, cb, rfl, hlb⟩ := hb.len
 have HA := Qq ha; have HB := Qq hb; have HP := Qq hp
 clear ha hb hp
 by_cases hn : a.length = b.length
 ·obtain ⟨n, hn1⟩ := eX (b.length)
  rw [hn1] at hn hlb HB
  rw [hn] at HA hla
  rw [hn, hn1]
  obtain ⟨r, hr⟩ := eX (eqL p a b)
  rw [hr]
  have HR := Qq hr; have HNa := Qq hn; have HNb := Qq hn1
  clear hr hn hn1
  go_enter func150, ntmps150
  go_wp2_with fail
  go_loopw [17] (fun i wr => ∃ k : Nat, k ≤ n ∧ i = .int .i64 k ∧ Aside (eqL p (a.drop k) (b.drop k) = r) ∧ Below w.heap.size w wr) (fun i _ => n - (intOf i).toNat)
  case atStart => exact ⟨0, Q8 _, rfl, HR.out, Qz _ _⟩
  obtain ⟨k, hkn, rfl, hE, hBr⟩ := hrel
  have HBr := Qq hBr
  clear hBr
  by_cases hlt : k < n
  ·have hi1 : (0 : Int) ≤ (k : Int) := by omega
   have hi2 : (k : Int) < (n : Int) := by omega
   have hka : k < a.length := by rw [HNa.out]; exact hlt
   have hkb : k < b.length := by rw [HNb.out]; exact hlt
   obtain ⟨x, hx⟩ : ∃ x, a[k]? = some x := ⟨_, Qx hka⟩
   obtain ⟨y, hy⟩ : ∃ y, b[k]? = some y := ⟨_, Qx hkb⟩
   have hda : a.drop k = x :: a.drop (k + 1) := by rw [List.drop_eq_getElem_cons hka]; rw [Qx hka] at hx; cases hx; rfl
   have hdb : b.drop k = y :: b.drop (k + 1) := by rw [List.drop_eq_getElem_cons hkb]; rw [Qx hkb] at hy; cases hy; rfl
   obtain ⟨ba, oa, cx, rfl, hba, -, -, hrx, hcx⟩ := (HA.out.below HBr.out).elem hx
   obtain ⟨bb, ob, cy, rfl, hbb, -, -, hry, hcy⟩ := (HB.out.below HBr.out).elem hy
   have HCall := Qq (fun W (h : Below wr.heap.size wr W) => HP.out W x y cx cy (HBr.out.thn h) (Qy hx) (Qy hy) (Ql.frame hrx (.of_below h)) (Vs.frame hry (.of_below h)))
   obtain ⟨p3x, k3x, p4x, k4x, hcsx, _⟩ := Qh.cells hrx; simp only [vcs] at hcsx; subst hcsx
   obtain ⟨ky, sy, ny, p3y, n3y, k3y, p4y, n4y, k4y, rfl⟩ := Y5.cells hry
   have d0 := hcx 0 _ rfl; have d1 := hcx 1 _ rfl; have d2 := hcx 2 _ rfl; have d3 := hcx 3 _ rfl; have d4 := hcx 4 _ rfl
   have e0 := hcy 0 _ rfl; have e1 := hcy 1 _ rfl; have e2 := hcy 2 _ rfl; have e3 := hcy 3 _ rfl; have e4 := hcy 4 _ rfl
   simp only [show Ql.k = 5 from rfl, Nat.add_zero] at d0 d1 d2 d3 d4
   simp only [show Vs.k = 5 from rfl, Nat.add_zero] at e0 e1 e2 e3 e4
   have hE2 : (p x y && eqL p (a.drop (k + 1)) (b.drop (k + 1))) = r := by have := hE.out; rw [hda, hdb] at this; exact this
   have HE2 := Qq hE2
   clear hE hE2 hda hdb hka hkb hx hy hrx hry hcx hcy
   cases hq : p x y with
   | true =>
    rw [hq] at HCall HE2
    go_wp2_with (go_at_fn g; refine (HCall.out _ (Zv _ _ _)).mono ?_; rintro e w' ⟨rfl, hw⟩; have HW := Qq (HBr.out.thn ((Zv wr _ _).thn hw)); clear hw)
    go_roundw
    case measure => simp [intOf]; omega
    case rel => exact ⟨k + 1, by omega, by go_num, (show Aside _ from by have := HE2.out; rwa [Bool.true_and] at this), HW.out⟩
   | false =>
    rw [hq] at HCall HE2
    have hr0 : r = false := by have := HE2.out; rw [Bool.false_and] at this; exact this.symm
    subst hr0
    go_wp2_with (go_at_fn g; refine (HCall.out _ (Zv _ _ _)).mono ?_; rintro e w' ⟨rfl, hw⟩; have HW := Qq (HBr.out.thn ((Zv wr _ _).thn hw)); clear hw)
    go_ret
    exact ⟨rfl, HW.out⟩
  have hr1 : r = true := by
   have := hE.out
   rw [List.drop_eq_nil_of_le (by rw [HNa.out]; omega), List.drop_eq_nil_of_le (by rw [HNb.out]; omega)] at this
   exact this.symm
  subst hr1
  clear hE
  go_wp2_with fail
  go_ret
  exact ⟨rfl, HBr.out⟩
 rw [Ud p a b hn]
 have hq : ((a.length : Int) != (b.length : Int)) = true := by rw [bne_iff_ne]; omega
 clear hn
 go_enter func150, ntmps150
 go_wp2_with fail
 go_ret
 exact ⟨rfl, Qz _ _⟩
theorem Ru (g : Nat) (lb : Array Value) (eg : ∀ args w, (callFunc g args).run prog w = .ok (.enter g args) w) (S : Nat → Prop) (va vb : Value) (a : List Val) (b : List Val) (w : World) (ha : Sl Ql S w va a) (hb : Sl Ql S w vb b) (p : Val → Val → Bool)
  (hp : ∀ (W : World) (x : Val) (y : Val) (cx cy : List Value), Below w.heap.size w W → x ∈ a → y ∈ b → Ql.R S W cx x → Ql.R S W cy y → Calls prog g (#[.agg cx.toArray, .agg cy.toArray] ++ lb) W fun e w' => e = .returned (.bool (p x y)) ∧ Below W.heap.size W w') :
  Calls prog 44 #[va, vb, .func (.func g) #[] lb] w fun e w' => e = .returned (.bool (eqL p a b)) ∧ Below w.heap.size w w' := by
 obtain ⟨pa, ca, rfl, hla⟩ := ha.len
 obtain ⟨pb, cb, rfl, hlb⟩ := hb.len
 have HA := Qq ha; have HB := Qq hb; have HP := Qq hp
 clear ha hb hp
 by_cases hn : a.length = b.length
 ·obtain ⟨n, hn1⟩ := eX (b.length)
  rw [hn1] at hn hlb HB
  rw [hn] at HA hla
  rw [hn, hn1]
  obtain ⟨r, hr⟩ := eX (eqL p a b)
  rw [hr]
  have HR := Qq hr; have HNa := Qq hn; have HNb := Qq hn1
  clear hr hn hn1
  go_enter func44, ntmps44
  go_wp2_with fail
  go_loopw [17] (fun i wr => ∃ k : Nat, k ≤ n ∧ i = .int .i64 k ∧ Aside (eqL p (a.drop k) (b.drop k) = r) ∧ Below w.heap.size w wr) (fun i _ => n - (intOf i).toNat)
  case atStart => exact ⟨0, Q8 _, rfl, HR.out, Qz _ _⟩
  obtain ⟨k, hkn, rfl, hE, hBr⟩ := hrel
  have HBr := Qq hBr
  clear hBr
  by_cases hlt : k < n
  ·have hi1 : (0 : Int) ≤ (k : Int) := by omega
   have hi2 : (k : Int) < (n : Int) := by omega
   have hka : k < a.length := by rw [HNa.out]; exact hlt
   have hkb : k < b.length := by rw [HNb.out]; exact hlt
   obtain ⟨x, hx⟩ : ∃ x, a[k]? = some x := ⟨_, Qx hka⟩
   obtain ⟨y, hy⟩ : ∃ y, b[k]? = some y := ⟨_, Qx hkb⟩
   have hda : a.drop k = x :: a.drop (k + 1) := by rw [List.drop_eq_getElem_cons hka]; rw [Qx hka] at hx; cases hx; rfl
   have hdb : b.drop k = y :: b.drop (k + 1) := by rw [List.drop_eq_getElem_cons hkb]; rw [Qx hkb] at hy; cases hy; rfl
   obtain ⟨ba, oa, cx, rfl, hba, -, -, hrx, hcx⟩ := (HA.out.below HBr.out).elem hx
   obtain ⟨bb, ob, cy, rfl, hbb, -, -, hry, hcy⟩ := (HB.out.below HBr.out).elem hy
   have HCall := Qq (fun W (h : Below wr.heap.size wr W) => HP.out W x y cx cy (HBr.out.thn h) (Qy hx) (Qy hy) (Ql.frame hrx (.of_below h)) (Ql.frame hry (.of_below h)))
   obtain ⟨p3x, k3x, p4x, k4x, hcsx, _⟩ := Qh.cells hrx; simp only [vcs] at hcsx; subst hcsx
   obtain ⟨p3y, k3y, p4y, k4y, hcsy, _⟩ := Qh.cells hry; simp only [vcs] at hcsy; subst hcsy
   have d0 := hcx 0 _ rfl; have d1 := hcx 1 _ rfl; have d2 := hcx 2 _ rfl; have d3 := hcx 3 _ rfl; have d4 := hcx 4 _ rfl
   have e0 := hcy 0 _ rfl; have e1 := hcy 1 _ rfl; have e2 := hcy 2 _ rfl; have e3 := hcy 3 _ rfl; have e4 := hcy 4 _ rfl
   simp only [show Ql.k = 5 from rfl, Nat.add_zero] at d0 d1 d2 d3 d4
   simp only [show Ql.k = 5 from rfl, Nat.add_zero] at e0 e1 e2 e3 e4
   have hE2 : (p x y && eqL p (a.drop (k + 1)) (b.drop (k + 1))) = r := by have := hE.out; rw [hda, hdb] at this; exact this
   have HE2 := Qq hE2
   clear hE hE2 hda hdb hka hkb hx hy hrx hry hcx hcy
   cases hq : p x y with
   | true =>
    rw [hq] at HCall HE2
    go_wp2_with (go_at_fn g; refine (HCall.out _ (Zv _ _ _)).mono ?_; rintro e w' ⟨rfl, hw⟩; have HW := Qq (HBr.out.thn ((Zv wr _ _).thn hw)); clear hw)
    go_roundw
    case measure => simp [intOf]; omega
    case rel => exact ⟨k + 1, by omega, by go_num, (show Aside _ from by have := HE2.out; rwa [Bool.true_and] at this), HW.out⟩
   | false =>
    rw [hq] at HCall HE2
    have hr0 : r = false := by have := HE2.out; rw [Bool.false_and] at this; exact this.symm
    subst hr0
    go_wp2_with (go_at_fn g; refine (HCall.out _ (Zv _ _ _)).mono ?_; rintro e w' ⟨rfl, hw⟩; have HW := Qq (HBr.out.thn ((Zv wr _ _).thn hw)); clear hw)
    go_ret
    exact ⟨rfl, HW.out⟩
  have hr1 : r = true := by
   have := hE.out
   rw [List.drop_eq_nil_of_le (by rw [HNa.out]; omega), List.drop_eq_nil_of_le (by rw [HNb.out]; omega)] at this
   exact this.symm
  subst hr1
  clear hE
  go_wp2_with fail
  go_ret
  exact ⟨rfl, HBr.out⟩
 rw [Ud p a b hn]
 have hq : ((a.length : Int) != (b.length : Int)) = true := by rw [bne_iff_ne]; omega
 clear hn
 go_enter func44, ntmps44
 go_wp2_with fail
 go_ret
 exact ⟨rfl, Qz _ _⟩
theorem Pp (g : Nat) (lb : Array Value) (eg : ∀ args w, (callFunc g args).run prog w = .ok (.enter g args) w) (S : Nat → Prop) (va vb : Value) (a : List Tbl) (b : List Rel) (w : World) (ha : Sl Qs S w va a) (hb : Sl Z8 S w vb b) (p : Tbl → Rel → Bool)
  (hp : ∀ (W : World) (x : Tbl) (y : Rel) (cx cy : List Value), Below w.heap.size w W → x ∈ a → y ∈ b → Qs.R S W cx x → Z8.R S W cy y → Calls prog g (#[.agg cx.toArray, .agg cy.toArray] ++ lb) W fun e w' => e = .returned (.bool (p x y)) ∧ Below W.heap.size W w') :
  Calls prog 118 #[va, vb, .func (.func g) #[] lb] w fun e w' => e = .returned (.bool (eqL p a b)) ∧ Below w.heap.size w w' := by
 obtain ⟨pa, ca, rfl, hla⟩ := ha.len
 obtain ⟨pb, cb, rfl, hlb⟩ := hb.len
 have HA := Qq ha; have HB := Qq hb; have HP := Qq hp
 clear ha hb hp
 by_cases hn : a.length = b.length
 ·obtain ⟨n, hn1⟩ := eX (b.length)
  rw [hn1] at hn hlb HB
  rw [hn] at HA hla
  rw [hn, hn1]
  obtain ⟨r, hr⟩ := eX (eqL p a b)
  rw [hr]
  have HR := Qq hr; have HNa := Qq hn; have HNb := Qq hn1
  clear hr hn hn1
  go_enter func118, ntmps118
  go_wp2_with fail
  go_loopw [17] (fun i wr => ∃ k : Nat, k ≤ n ∧ i = .int .i64 k ∧ Aside (eqL p (a.drop k) (b.drop k) = r) ∧ Below w.heap.size w wr) (fun i _ => n - (intOf i).toNat)
  case atStart => exact ⟨0, Q8 _, rfl, HR.out, Qz _ _⟩
  obtain ⟨k, hkn, rfl, hE, hBr⟩ := hrel
  have HBr := Qq hBr
  clear hBr
  by_cases hlt : k < n
  ·have hi1 : (0 : Int) ≤ (k : Int) := by omega
   have hi2 : (k : Int) < (n : Int) := by omega
   have hka : k < a.length := by rw [HNa.out]; exact hlt
   have hkb : k < b.length := by rw [HNb.out]; exact hlt
   obtain ⟨x, hx⟩ : ∃ x, a[k]? = some x := ⟨_, Qx hka⟩
   obtain ⟨y, hy⟩ : ∃ y, b[k]? = some y := ⟨_, Qx hkb⟩
   have hda : a.drop k = x :: a.drop (k + 1) := by rw [List.drop_eq_getElem_cons hka]; rw [Qx hka] at hx; cases hx; rfl
   have hdb : b.drop k = y :: b.drop (k + 1) := by rw [List.drop_eq_getElem_cons hkb]; rw [Qx hkb] at hy; cases hy; rfl
   obtain ⟨ba, oa, cx, rfl, hba, -, -, hrx, hcx⟩ := (HA.out.below HBr.out).elem hx
   obtain ⟨bb, ob, cy, rfl, hbb, -, -, hry, hcy⟩ := (HB.out.below HBr.out).elem hy
   have HCall := Qq (fun W (h : Below wr.heap.size wr W) => HP.out W x y cx cy (HBr.out.thn h) (Qy hx) (Qy hy) (Qs.frame hrx (.of_below h)) (Z8.frame hry (.of_below h)))
   obtain ⟨cpx, ccx, kpx, kcx, rpx, rcx, kx, s1x, nx, s2x, p1x, n1x, c1x, p2x, n2x, c2x, p3x, n3x, c3x, ax, zx, hcsx, _⟩ := Zk hrx; simp only [tcs] at hcsx; subst hcsx
   obtain ⟨rpy, rcy, rfl⟩ := Rl hry
   have d0 := hcx 0 _ rfl; have d1 := hcx 1 _ rfl; have d2 := hcx 2 _ rfl; have d3 := hcx 3 _ rfl; have d4 := hcx 4 _ rfl; have d5 := hcx 5 _ rfl; have d6 := hcx 6 _ rfl; have d7 := hcx 7 _ rfl; have d8 := hcx 8 _ rfl; have d9 := hcx 9 _ rfl; have d10 := hcx 10 _ rfl; have d11 := hcx 11 _ rfl; have d12 := hcx 12 _ rfl
   have e0 := hcy 0 _ rfl; have e1 := hcy 1 _ rfl
   simp only [show Qs.k = 13 from rfl, Nat.add_zero] at d0 d1 d2 d3 d4 d5 d6 d7 d8 d9 d10 d11 d12
   simp only [show Z8.k = 2 from rfl, Nat.add_zero] at e0 e1
   have hE2 : (p x y && eqL p (a.drop (k + 1)) (b.drop (k + 1))) = r := by have := hE.out; rw [hda, hdb] at this; exact this
   have HE2 := Qq hE2
   clear hE hE2 hda hdb hka hkb hx hy hrx hry hcx hcy
   cases hq : p x y with
   | true =>
    rw [hq] at HCall HE2
    go_wp2_with (go_at_fn g; refine (HCall.out _ (Zv _ _ _)).mono ?_; rintro e w' ⟨rfl, hw⟩; have HW := Qq (HBr.out.thn ((Zv wr _ _).thn hw)); clear hw)
    go_roundw
    case measure => simp [intOf]; omega
    case rel => exact ⟨k + 1, by omega, by go_num, (show Aside _ from by have := HE2.out; rwa [Bool.true_and] at this), HW.out⟩
   | false =>
    rw [hq] at HCall HE2
    have hr0 : r = false := by have := HE2.out; rw [Bool.false_and] at this; exact this.symm
    subst hr0
    go_wp2_with (go_at_fn g; refine (HCall.out _ (Zv _ _ _)).mono ?_; rintro e w' ⟨rfl, hw⟩; have HW := Qq (HBr.out.thn ((Zv wr _ _).thn hw)); clear hw)
    go_ret
    exact ⟨rfl, HW.out⟩
  have hr1 : r = true := by
   have := hE.out
   rw [List.drop_eq_nil_of_le (by rw [HNa.out]; omega), List.drop_eq_nil_of_le (by rw [HNb.out]; omega)] at this
   exact this.symm
  subst hr1
  clear hE
  go_wp2_with fail
  go_ret
  exact ⟨rfl, HBr.out⟩
 rw [Ud p a b hn]
 have hq : ((a.length : Int) != (b.length : Int)) = true := by rw [bne_iff_ne]; omega
 clear hn
 go_enter func118, ntmps118
 go_wp2_with fail
 go_ret
 exact ⟨rfl, Qz _ _⟩
theorem Oi (S : Nat → Prop) (va vb : Value) (a b : List Bs) (w : World) (ha : Sl Qp S w va a) (hb : Sl Qp S w vb b) :
  Calls prog 149 #[va, vb] w fun e w' => e = .returned (.bool (eqL (fun x y => decide (x = y)) a b)) ∧ Below w.heap.size w w' := by
 obtain ⟨pa, ca, rfl, hla⟩ := ha.len
 obtain ⟨pb, cb, rfl, hlb⟩ := hb.len
 have HA := Qq ha; have HB := Qq hb
 clear ha hb
 by_cases hn : a.length = b.length
 ·obtain ⟨n, hn1⟩ := eX (b.length)
  rw [hn1] at hn hlb HB
  rw [hn] at HA hla
  rw [hn, hn1]
  obtain ⟨r, hr⟩ := eX (eqL (fun (x y : Bs) => decide (x = y)) a b)
  rw [hr]
  have HR := Qq hr; have HNa := Qq hn; have HNb := Qq hn1
  clear hr hn hn1
  go_enter func149, ntmps149
  go_wp2_with fail
  go_loopw [13] (fun i wr => ∃ k : Nat, k ≤ n ∧ i = .int .i64 k ∧ Aside (eqL (fun (x y : Bs) => decide (x = y)) (a.drop k) (b.drop k) = r) ∧ Below w.heap.size w wr) (fun i _ => n - (intOf i).toNat)
  case atStart => exact ⟨0, Q8 _, rfl, HR.out, Qz _ _⟩
  obtain ⟨k, hkn, rfl, hE, hBr⟩ := hrel
  have HBr := Qq hBr
  clear hBr
  by_cases hlt : k < n
  ·have hi1 : (0 : Int) ≤ (k : Int) := by omega
   have hi2 : (k : Int) < (n : Int) := by omega
   have hka : k < a.length := by rw [HNa.out]; exact hlt
   have hkb : k < b.length := by rw [HNb.out]; exact hlt
   obtain ⟨x, hx⟩ : ∃ x, a[k]? = some x := ⟨_, Qx hka⟩
   obtain ⟨y, hy⟩ : ∃ y, b[k]? = some y := ⟨_, Qx hkb⟩
   have hda : a.drop k = x :: a.drop (k + 1) := by rw [List.drop_eq_getElem_cons hka]; rw [Qx hka] at hx; cases hx; rfl
   have hdb : b.drop k = y :: b.drop (k + 1) := by rw [List.drop_eq_getElem_cons hkb]; rw [Qx hkb] at hy; cases hy; rfl
   obtain ⟨ba, oa, rfl, c1, -⟩ := (HA.out.below HBr.out).str hx
   obtain ⟨bb, ob, rfl, c2, -⟩ := (HB.out.below HBr.out).str hy
   have hE2 : (decide (x = y) && eqL (fun (x y : Bs) => decide (x = y)) (a.drop (k + 1)) (b.drop (k + 1))) = r := by have := hE.out; rw [hda, hdb] at this; exact this
   have HE2 := Qq hE2
   clear hE hE2 hda hdb hka hkb hx hy
   by_cases hq : x = y
   ·subst hq
    have hq1 : (x != x) = false := by simp
    go_wp2_with fail
    go_quiet (fail)
    go_wp2
    go_roundw
    case measure => simp [intOf]; omega
    case rel => exact ⟨k + 1, by omega, by go_num, (show Aside _ from by have := HE2.out; simp at this; exact this), HBr.out.thn (Zy _ _)⟩
   have hq1 : (x != y) = true := by rw [bne_iff_ne]; exact hq
   have hr0 : r = false := by have := HE2.out; rw [decide_eq_false hq, Bool.false_and] at this; exact this.symm
   subst hr0
   have hq2 : (x == y) = false := by rw [← Bool.not_eq_true, beq_iff_eq]; exact hq
   clear hq
   go_wp2_with fail
   go_quiet (fail)
   go_wp2
   go_ret
   exact ⟨rfl, HBr.out.thn (Zy _ _)⟩
  have hr1 : r = true := by
   have := hE.out
   rw [List.drop_eq_nil_of_le (by rw [HNa.out]; omega), List.drop_eq_nil_of_le (by rw [HNb.out]; omega)] at this
   exact this.symm
  subst hr1
  clear hE
  go_wp2_with fail
  go_ret
  exact ⟨rfl, HBr.out⟩
 rw [Ud _ a b hn]
 have hq : ((a.length : Int) != (b.length : Int)) = true := by rw [bne_iff_ne]; omega
 clear hn
 go_enter func149, ntmps149
 go_wp2_with fail
 go_ret
 exact ⟨rfl, Qz _ _⟩
end Go.Proofs.YtppbaladeefnkaaGreatDoor

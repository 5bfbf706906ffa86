import Derived.Test.YthkkmklnapkgaaaGreatDoorQ13
/- lexer.Fits at words and at capital words; values.word, values.capital. -/
namespace Go.Proofs.YthkkmklnapkgaaaGreatDoor
open Go.RowKit Go.Shelf Go.Lib

/-- A name: small letters, digits, the low line; no keyword; of 16 bytes at most. -/
structure WordOk (x : Bs) : Prop where
  pos : 0 < x.length
  len : x.length ≤ 16
  head : ∀ c, x[0]? = some c → isLo c = true
  all : tk isWo x = x.length
  kw : isKw x = false
/-- A name of a sum or of a constructor. -/
structure CapOk (x : Bs) : Prop where
  pos : 0 < x.length
  len : x.length ≤ 16
  head : ∀ c, x[0]? = some c → isUp c = true
  all : tk isNa x = x.length

theorem lo_not (c : UInt8) (h : isLo c = true) : isSp c = false ∧ ((c.toNat : Int) == 35) = false := by
  rw [lower_eq] at h
  simp only [Bool.and_eq_true, decide_eq_true_eq] at h
  rw [space_eq]
  constructor
  · simp; omega
  · simp; omega
theorem up_not (c : UInt8) (h : isUp c = true) : isSp c = false ∧ ((c.toNat : Int) == 35) = false ∧ isLo c = false := by
  rw [upper_eq] at h
  simp only [Bool.and_eq_true, decide_eq_true_eq] at h
  rw [space_eq, lower_eq]
  refine ⟨?_, ?_, ?_⟩
  · simp; omega
  · simp; omega
  · simp; omega
theorem size_mk (x : Bs) : (⟨x.toArray⟩ : ByteArray).size = x.length := by
  show x.toArray.size = _
  simp
theorem get_mk (x : Bs) (i : Nat) (h : i < (⟨x.toArray⟩ : ByteArray).size) : x[i]? = some ((⟨x.toArray⟩ : ByteArray)[i]'h) := by
  have := bl_get ⟨x.toArray⟩ i h
  rwa [bl_mk] at this
theorem extract_all (x : Bs) : (⟨x.toArray⟩ : ByteArray).extract 0 x.length = ⟨x.toArray⟩ := by
  rw [ba_ext]
  simp [bl, ByteArray.data_extract]

theorem good_word (x : Bs) (h : WordOk x) (w : World) (hT : KwTab w) :
    Calls Tryz.prog 149 #[sv x] w fun e w' => e = .returned (.tuple #[.int .i64 2, .int .i64 x.length]) ∧ Below w.heap.size w w' := by
  obtain ⟨hp, hl, hh, ha, hk⟩ := h
  have h0 : 0 < (⟨x.toArray⟩ : ByteArray).size := by rw [size_mk]; exact hp
  have hlo := hh _ (get_mk x 0 h0)
  obtain ⟨c, hc⟩ : ∃ c, (⟨x.toArray⟩ : ByteArray)[0]'h0 = c := ⟨_, rfl⟩
  rw [hc] at hlo
  obtain ⟨n1, n2⟩ := lo_not c hlo
  have hR : ∀ w, Calls Tryz.prog 150 #[.string ⟨x.toArray⟩, .func (.func 162) #[] #[]] w fun e w' => e = .returned (.int .i64 (x.length : Nat)) ∧ w = w' := fun w => by
    have := run_word ⟨x.toArray⟩ w (by rw [size_mk]; unfold maxLen; omega)
    rwa [bl_mk, ha] at this
  have hK : ∀ w, KwTab w → Calls Tryz.prog 163 #[.string ((⟨x.toArray⟩ : ByteArray).extract 0 x.length)] w fun e w' => e = .returned (.bool false) ∧ ∃ q, w' = w.drewN q := fun w hT => by
    have := isKeyword_any ⟨x.toArray⟩ w hT
    rwa [bl_mk, hk, ← extract_all x] at this
  have HR := Lib.hid hR; have HK := Lib.hid hK; have HT := Lib.hid hT
  have hs : (⟨x.toArray⟩ : ByteArray).size = x.length := size_mk x
  have hl2 : x.length ≤ (⟨x.toArray⟩ : ByteArray).size := by omega
  unfold sv
  generalize (⟨x.toArray⟩ : ByteArray) = s at h0 hc hl2 HR HK ⊢
  generalize x.length = n at HR HK hl2 hl ⊢
  clear hR hK hT ha hk hh hs hp
  go_enter Tryz.func149, Tryz.ntmps149
  go_wp2_with (first | (go_at_call 150; refine (HR.out _).mono ?_; rintro e w' ⟨rfl, rfl⟩) | (go_at_call 163; refine (HK.out _ HT.out).mono ?_; rintro e w' ⟨rfl, q, rfl⟩) | (go_at_call 160; refine (space_any _ _).mono ?_; rintro e w' ⟨rfl, rfl⟩) | (go_at_call 161; refine (lower_any _ _).mono ?_; rintro e w' ⟨rfl, rfl⟩))
  go_ret2
  exact ⟨rfl, below_drewN _ _⟩
theorem good_cap (x : Bs) (h : CapOk x) (w : World) :
    Calls Tryz.prog 149 #[sv x] w fun e w' => e = .returned (.tuple #[.int .i64 3, .int .i64 x.length]) ∧ Below w.heap.size w w' := by
  obtain ⟨hp, hl, hh, ha⟩ := h
  have h0 : 0 < (⟨x.toArray⟩ : ByteArray).size := by rw [size_mk]; exact hp
  have hlo := hh _ (get_mk x 0 h0)
  obtain ⟨c, hc⟩ : ∃ c, (⟨x.toArray⟩ : ByteArray)[0]'h0 = c := ⟨_, rfl⟩
  rw [hc] at hlo
  obtain ⟨n1, n2, n3⟩ := up_not c hlo
  have hR : ∀ w, Calls Tryz.prog 150 #[.string ⟨x.toArray⟩, .func (.func 165) #[] #[]] w fun e w' => e = .returned (.int .i64 (x.length : Nat)) ∧ w = w' := fun w => by
    have := run_name ⟨x.toArray⟩ w (by rw [size_mk]; unfold maxLen; omega)
    rwa [bl_mk, ha] at this
  have HR := Lib.hid hR
  unfold sv
  generalize (⟨x.toArray⟩ : ByteArray) = s at h0 hc HR ⊢
  generalize x.length = n at HR hl ⊢
  clear hR ha hh hp
  go_enter Tryz.func149, Tryz.ntmps149
  go_wp2_with (first | (go_at_call 150; refine (HR.out _).mono ?_; rintro e w' ⟨rfl, rfl⟩) | (go_at_call 164; refine (upper_any _ _).mono ?_; rintro e w' ⟨rfl, rfl⟩) | (go_at_call 160; refine (space_any _ _).mono ?_; rintro e w' ⟨rfl, rfl⟩) | (go_at_call 161; refine (lower_any _ _).mono ?_; rintro e w' ⟨rfl, rfl⟩))
  go_ret2
  exact ⟨rfl, Below.refl _ _⟩

/-- A text that 'good' takes whole as of one kind, 2 or 3. -/
def GoodAt (x : Bs) (k : Int) (w : World) : Prop := ∀ W, Below w.heap.size w W → Calls Tryz.prog 149 #[sv x] W fun e w' => e = .returned (.tuple #[.int .i64 k, .int .i64 x.length]) ∧ Below W.heap.size W w'
theorem next_at (x : Bs) (k : Int) (w : World) (hg : GoodAt x k w) (hp : 0 < x.length) (W : World) (hW : Below w.heap.size w W) :
    Calls Tryz.prog 142 #[sv x] W fun e w' => e = .returned (.tuple #[.int .i64 k, .int .i64 x.length]) ∧ Below W.heap.size W w' := by
  have HG := Lib.hid (hg W hW)
  have hp' : (0 : Int) < x.length := by omega
  clear hg hW
  unfold sv at HG ⊢
  generalize x.length = n at HG hp hp' ⊢
  go_enter Tryz.func142, Tryz.ntmps142
  go_wp2_with (go_at_call 149; refine HG.out.mono ?_; rintro e w' ⟨rfl, hw⟩)
  go_ret2
  exact ⟨rfl, hw⟩
theorem single_at (x : Bs) (k : Int) (w : World) (hg : GoodAt x k w) (hp : 0 < x.length) (W : World) (hW : Below w.heap.size w W) :
    Calls Tryz.prog 130 #[sv x] W fun e w' => e = .returned (.tuple #[.int .i64 k, .bool true]) ∧ Below W.heap.size W w' := by
  have HG := Lib.hid (next_at x k w hg hp W hW)
  have h0 : 0 < (⟨x.toArray⟩ : ByteArray).size := by rw [size_mk]; exact hp
  have hne : (⟨x.toArray⟩ : ByteArray).toList.isEmpty = false := by
    rw [Lib.toList_data]
    show (bl ⟨x.toArray⟩).isEmpty = false
    rw [bl_mk]
    cases x with
    | nil => simp at hp
    | cons => rfl
  have hs : ((x.length : Int) == ((⟨x.toArray⟩ : ByteArray).size : Int)) = true := by rw [size_mk]; simp
  clear hg hW h0
  unfold sv at HG ⊢
  generalize (⟨x.toArray⟩ : ByteArray) = s at HG hne hs ⊢
  generalize x.length = n at HG hs ⊢
  go_enter Tryz.func130, Tryz.ntmps130
  go_wp2_with (go_at_call 142; refine HG.out.mono ?_; rintro e w' ⟨rfl, hw⟩)
  go_ret2
  exact ⟨rfl, hw⟩
theorem fits_at (x : Bs) (k at' : Int) (w : World) (hk : k = 2 ∨ k = 3) (hg : GoodAt x k w) (hp : 0 < x.length) (hl : x.length ≤ 16) :
    Calls Tryz.prog 114 #[.agg #[.int .i64 k, sv x, .int .i64 at']] w fun e w' => e = .returned (.bool true) ∧ Below w.heap.size w w' := by
  have HS := Lib.hid (fun W h => single_at x k w hg hp W h)
  have hl' : ((⟨x.toArray⟩ : ByteArray).size : Int) ≤ 16 := by rw [size_mk]; omega
  clear hg
  unfold sv at HS ⊢
  generalize (⟨x.toArray⟩ : ByteArray) = s at HS hl' ⊢
  rcases hk with rfl | rfl
  all_goals
    go_enter Tryz.func114, Tryz.ntmps114
    go_wp2_with fail
    refine (HS.out _ (bal1 _ _)).mono ?_
    rintro e w1 ⟨rfl, hw⟩
    have c0 := (hw.cell (p := ⟨w.heap.size, 0, none⟩) (by simp)).trans (cell_of_row _ _ 0 _ _ _ (heap_alloc_new w _))
    have c1 := (hw.cell (p := ⟨w.heap.size, 1, none⟩) (by simp)).trans (cell_of_row _ _ 1 _ _ _ (heap_alloc_new w _))
    simp only [List.getElem?_toArray, List.getElem?_cons_zero, List.getElem?_cons_succ] at c0 c1
    have HW := Lib.hid ((bal1 w _).thn hw)
    clear hw
    go_wp2_with fail
    go_ret
    exact ⟨rfl, HW.out⟩
theorem KwTab.below {w w' : World} (h : KwTab w) (hb : Below w.heap.size w w') : KwTab w' := fun j v hv => (hb.cell (p := ⟨_, 0 + j, none⟩) (World.block_lt_of_cell? w _ (h j v hv))).trans (h j v hv)
theorem wordOk_any (x : Bs) (h : WordOk x) (w : World) (hT : KwTab w) : Calls Tryz.prog 75 #[sv x] w fun e w' => e = .returned (.bool true) ∧ Below w.heap.size w w' := by
  have HF := Lib.hid (fun W (hb : Below w.heap.size w W) => fits_at x 2 0 W (.inl rfl) (fun W' h' => good_word x h W' ((hT.below hb).below h')) h.pos h.len)
  clear hT h
  unfold sv at HF ⊢
  generalize (⟨x.toArray⟩ : ByteArray) = s at HF ⊢
  go_enter Tryz.func75, Tryz.ntmps75
  go_wp2_with (go_at_call 114; refine (HF.out _ (Below.refl _ _)).mono ?_; rintro e w' ⟨rfl, hw⟩)
  go_ret
  exact ⟨rfl, hw⟩
theorem capOk_any (x : Bs) (h : CapOk x) (w : World) : Calls Tryz.prog 74 #[sv x] w fun e w' => e = .returned (.bool true) ∧ Below w.heap.size w w' := by
  have HF := Lib.hid (fun W => fits_at x 3 0 W (.inr rfl) (fun W' _ => good_cap x h W') h.pos h.len)
  clear h
  unfold sv at HF ⊢
  generalize (⟨x.toArray⟩ : ByteArray) = s at HF ⊢
  go_enter Tryz.func74, Tryz.ntmps74
  go_wp2_with (go_at_call 114; refine (HF.out _).mono ?_; rintro e w' ⟨rfl, hw⟩)
  go_ret
  exact ⟨rfl, hw⟩
end Go.Proofs.YthkkmklnapkgaaaGreatDoor

/- values.Valid holds of well-made values. -/
namespace Go.Proofs.YthkkmklnapkgaaaGreatDoor
open Go.RowKit Go.Shelf Go.Lib

/-- Well-made values. -/
inductive GoodV : Val → Prop
  | int (n : Int) : GoodV (.mk 0 n [] [] [])
  | text (s : Bs) : GoodV (.mk 1 0 s [] [])
  | bool (n : Int) (hn : n = 0 ∨ n = 1) : GoodV (.mk 2 n [] [] [])
  | make (s : Bs) (kids : List Val) (hs : CapOk s) (hl : kids.length ≤ 1) (hk : ∀ k ∈ kids, GoodV k) : GoodV (.mk 3 0 s [] kids)
  | record (names : List Bs) (kids : List Val) (hl : names.length = kids.length) (hn : ∀ x ∈ names, WordOk x) (hs : ∀ (i : Nat) (x y : Bs), names[i]? = some x → names[i + 1]? = some y → cmpB x y < 0) (hk : ∀ k ∈ kids, GoodV k) : GoodV (.mk 4 0 [] names kids)
  | list (kids : List Val) (hk : ∀ k ∈ kids, GoodV k) : GoodV (.mk 5 0 [] [] kids)

def ValidAt (v : Val) : Prop := ∀ (S : Nat → Prop) (cs : List Value) (w : World), IsVal S w cs v → KwTab w → Calls Tryz.prog 49 #[.agg cs.toArray] w fun e w' => e = .returned (.bool true) ∧ Below w.heap.size w w'

theorem valid1_any (v : Val) (hv : ValidAt v) (S : Nat → Prop) (cs : List Value) (w : World) (h : IsVal S w cs v) (hT : KwTab w) :
    Calls Tryz.prog 76 #[.agg cs.toArray] w fun e w' => e = .returned (.bool false) ∧ Below w.heap.size w w' := by
  have HV := Lib.hid (fun W (hb : Below w.heap.size w W) => hv S cs W (h.move (.of_below hb) (fun _ _ h => h)) (hT.below hb))
  obtain ⟨p3, k3, p4, k4, hcs, _⟩ := IsVal.cells h
  simp only [vcs] at hcs
  subst hcs
  clear h hv hT
  go_enter Tryz.func76, Tryz.ntmps76
  go_wp2_with (go_at_call 49; refine (HV.out _ (bal1 _ _)).mono ?_; rintro e w' ⟨rfl, hw⟩)
  go_ret
  exact ⟨rfl, (bal1 _ _).thn hw⟩
theorem kidsValid (kids : List Val) (hk : ∀ k ∈ kids, ValidAt k) (S : Nat → Prop) (v : Value) (w : World) (h : Sl valRd S w v kids) (hT : KwTab w) :
    Calls Tryz.prog 61 #[v, .func (.func 76) #[] #[]] w fun e w' => e = .returned (.bool false) ∧ Below w.heap.size w w' := by
  have := conFn Tryz.cfVal valRd Tryz.isAgg34 Tryz.sizeOf34 76 #[] (enters_of Tryz.func76 (by kernel_rfl) rfl) S v kids w (fun _ => false) h
    (fun W x cs hb hx hr => valid1_any x (hk x hx) S cs W hr (hT.below hb))
  rwa [show kids.any (fun _ => false) = false by induction kids <;> simp_all] at this

theorem bytesLess_cmp (a b : Bs) (h : cmpB a b < 0) : Op.bytesLess a b = true := by
  rw [(less_cmp a b).1]; simpa using h

set_option maxRecDepth 100000 in
set_option maxHeartbeats 2000000 in
theorem validGood (v : Val) (hv : GoodV v) : ValidAt v := by
  induction hv with
  | int n =>
    intro S cs w h hT
    obtain ⟨p3, k3, p4, k4, hcs, _, hk, _⟩ := IsVal.cells h
    simp only [vcs, Val.kind, Val.n, Val.s, Val.names, Val.kids, List.length_nil] at hcs
    subst hcs
    have HK := Lib.hid (fun W (hb : Below w.heap.size w W) => kidsValid [] (fun k hk => by simp at hk) S _ W (hk.below hb) (hT.below hb))
    simp only [Val.kids, List.length_nil] at HK
    clear h hk hT
    go_enter Tryz.func49, Tryz.ntmps49
    go_wp2_with (go_at_call 61; refine (HK.out _ (bal1 _ _)).mono ?_; rintro e w' ⟨rfl, hw⟩)
    go_ret
    exact ⟨rfl, (bal1 _ _).thn hw⟩
  | text s =>
    intro S cs w h hT
    obtain ⟨p3, k3, p4, k4, hcs, _, hk, _⟩ := IsVal.cells h
    simp only [vcs, Val.kind, Val.n, Val.s, Val.names, Val.kids, List.length_nil] at hcs
    subst hcs
    have HK := Lib.hid (fun W (hb : Below w.heap.size w W) => kidsValid [] (fun k hk => by simp at hk) S _ W (hk.below hb) (hT.below hb))
    simp only [Val.kids, List.length_nil] at HK
    clear h hk hT
    go_enter Tryz.func49, Tryz.ntmps49
    go_wp2_with (go_at_call 61; refine (HK.out _ (bal1 _ _)).mono ?_; rintro e w' ⟨rfl, hw⟩)
    go_ret
    exact ⟨rfl, (bal1 _ _).thn hw⟩
  | bool n hn =>
    intro S cs w h hT
    obtain ⟨p3, k3, p4, k4, hcs, _, hk, _⟩ := IsVal.cells h
    simp only [vcs, Val.kind, Val.n, Val.s, Val.names, Val.kids, List.length_nil] at hcs
    subst hcs
    have HK := Lib.hid (fun W (hb : Below w.heap.size w W) => kidsValid [] (fun k hk => by simp at hk) S _ W (hk.below hb) (hT.below hb))
    simp only [Val.kids, List.length_nil] at HK
    clear h hk hT
    rcases hn with rfl | rfl
    all_goals
      go_enter Tryz.func49, Tryz.ntmps49
      go_wp2_with (go_at_call 61; refine (HK.out _ (bal1 _ _)).mono ?_; rintro e w' ⟨rfl, hw⟩)
      go_ret
      exact ⟨rfl, (bal1 _ _).thn hw⟩
  | make s kids hs hl hkk ih =>
    intro S cs w h hT
    obtain ⟨p3, k3, p4, k4, hcs, _, hk, _⟩ := IsVal.cells h
    simp only [vcs, Val.kind, Val.n, Val.s, Val.names, Val.kids, List.length_nil] at hcs
    subst hcs
    have HK := Lib.hid (fun W (hb : Below w.heap.size w W) => kidsValid kids ih S _ W (hk.below hb) (hT.below hb))
    have HC := Lib.hid (fun W => capOk_any s hs W)
    simp only [Val.kids] at HK
    unfold sv at HC
    have hl' : decide ((kids.length : Int) ≤ 1) = true := by simp; omega
    clear h hk hT ih hkk hs
    go_enter Tryz.func49, Tryz.ntmps49
    go_wp2_with fail
    refine (HC.out _).mono ?_
    rintro e w1 ⟨rfl, hw⟩
    have c4 := (hw.cell (p := ⟨w.heap.size, 4, none⟩) (by simp)).trans (cell_of_row _ _ 4 _ _ _ (heap_alloc_new w _))
    simp only [List.getElem?_toArray, List.getElem?_cons_zero, List.getElem?_cons_succ] at c4
    have HW := Lib.hid ((bal1 w _).thn hw)
    clear hw
    go_wp2_with (go_at_call 61; refine (HK.out _ HW.out).mono ?_; rintro e w' ⟨rfl, hw⟩)
    go_ret
    exact ⟨rfl, HW.out.thn hw⟩
  | list kids hkk ih =>
    intro S cs w h hT
    obtain ⟨p3, k3, p4, k4, hcs, _, hk, _⟩ := IsVal.cells h
    simp only [vcs, Val.kind, Val.n, Val.s, Val.names, Val.kids, List.length_nil] at hcs
    subst hcs
    have HK := Lib.hid (fun W (hb : Below w.heap.size w W) => kidsValid kids ih S _ W (hk.below hb) (hT.below hb))
    simp only [Val.kids] at HK
    clear h hk hT ih hkk
    go_enter Tryz.func49, Tryz.ntmps49
    go_wp2_with (go_at_call 61; refine (HK.out _ (bal1 _ _)).mono ?_; rintro e w' ⟨rfl, hw⟩)
    go_ret
    exact ⟨rfl, (bal1 _ _).thn hw⟩
  | record names kids hl hn hs hkk ih =>
    intro S cs w h hT
    obtain ⟨p3, k3, p4, k4, hcs, hns, hk, _⟩ := IsVal.cells h
    simp only [vcs, Val.kind, Val.n, Val.s, Val.names, Val.kids] at hcs hns
    rw [hl] at hcs hns
    subst hcs
    have HK := Lib.hid (fun W (hb : Below w.heap.size w W) => kidsValid kids ih S _ W (hk.below hb) (hT.below hb))
    have HN := Lib.hid hns; have HW := Lib.hid hn; have HS := Lib.hid hs; have HL := Lib.hid hl; have HT := Lib.hid hT
    simp only [Val.kids] at HK
    have hlk : kids.length ≤ 1000000 := by obtain ⟨_, _, _, h⟩ := hns.len; omega
    clear h hk hT ih hkk hn hs hl hns
    generalize kids.length = n at HK HN HL hlk ⊢
    go_enter Tryz.func49, Tryz.ntmps49
    go_wp2_with fail
    obtain ⟨W1, hW1⟩ : ∃ W1, w.alloc (.cells #[.int .i64 4, .int .i64 0, .string ⟨#[]⟩, .slice p3 n k3, .slice p4 n k4] 34) = W1 := ⟨_, rfl⟩
    rw [hW1]
    have hb1 : Below w.heap.size w W1 := by rw [← hW1]; exact bal1 _ _
    have hX1 : W1.heap[w.heap.size]? = some (.cells #[.int .i64 4, .int .i64 0, .string ⟨#[]⟩, .slice p3 n k3, .slice p4 n k4] 34 (0, 0)) := by rw [← hW1]; exact heap_alloc_new _ _
    have HB1 := Lib.hid hb1; have HX1 := Lib.hid hX1
    clear hW1 hb1 hX1
    go_loopw [3, 93] (fun ok i wr => ∃ k : Nat, k ≤ n ∧ i = .int .i64 k ∧ ok = .bool true ∧ Below W1.heap.size W1 wr) (fun _ i _ => n - (intOf i).toNat)
    case atStart => exact ⟨0, Nat.zero_le _, rfl, rfl, Below.refl _ _⟩
    case round =>
      obtain ⟨k, hkn, rfl, rfl, hBr⟩ := hrel
      have hXr := (hBr.block _ (World.block_lt_some HX1.out)).trans HX1.out
      have hGr := World.block_lt_some hXr
      have c4 := cell_of_row _ _ 4 _ _ _ hXr; have c3 := cell_of_row _ _ 3 _ _ _ hXr
      simp only [List.getElem?_toArray, List.getElem?_cons_zero, List.getElem?_cons_succ] at c4 c3
      have HBr := Lib.hid (HB1.out.thn hBr); have HBr1 := Lib.hid hBr
      clear hBr hXr
      by_cases hlt : k < n
      · have hi1 : (0 : Int) ≤ (k : Int) := by omega
        have hi2 : (k : Int) < (n : Int) := by omega
        obtain ⟨x, hx⟩ : ∃ x, names[k]? = some x := ⟨_, List.getElem?_eq_getElem (by rw [HL.out]; exact hlt)⟩
        obtain ⟨b, off, rfl, hc, -⟩ := (HN.out.below HBr.out).str hx
        have HCall := Lib.hid (wordOk_any x (HW.out x (List.mem_of_getElem? hx)) wr (HT.out.below HBr.out))
        unfold sv at HCall
        cases k with
        | zero =>
          clear hx
          rw [show ((0 : Nat) : Int) = 0 from rfl] at hi1 hi2 ⊢
          rw [Nat.add_zero] at hc
          go_wp2_with (go_at_call 75; refine HCall.out.mono ?_; rintro e w' ⟨rfl, hw⟩; have HW2 := Lib.hid hw; clear hw)
          go_roundw
          case measure => simp [intOf]; omega
          case rel => exact ⟨1, by omega, rfl, rfl, HBr1.out.thn HW2.out⟩
        | succ k' =>
          obtain ⟨y, hy⟩ : ∃ y, names[k']? = some y := ⟨_, List.getElem?_eq_getElem (by rw [HL.out]; omega)⟩
          obtain ⟨b', off', he, hc', -⟩ := (HN.out.below HBr.out).str hy
          obtain ⟨rfl, rfl, -⟩ : b = b' ∧ off = off' ∧ True := by simpa using he
          have hless := bytesLess_cmp y x (HS.out k' y x hy hx)
          have hbl := World.block_lt_of_cell? wr _ hc
          have hi3 : (0 : Int) ≤ (k' : Int) := by omega
          have hi4 : (k' : Int) < (n : Int) := by omega
          have hi5 : ((k' : Int) + 1 == 0) = false := by simp; omega
          clear hx hy he
          go_wp2_with fail
          refine HCall.out.mono ?_
          rintro e w2 ⟨rfl, hw⟩
          have d3 := (hw.cell (p := ⟨w.heap.size, 3, none⟩) hGr).trans c3
          have dc := (hw.cell (p := ⟨b, off + k', none⟩) hbl).trans hc'
          have HW2 := Lib.hid hw
          clear hw
          go_wp2_with fail
          go_roundw
          case measure => simp [intOf]; omega
          case rel => exact ⟨k' + 1 + 1, by omega, by go_num, rfl, HBr1.out.thn HW2.out⟩
      · have hkn' : k = n := by omega
        subst hkn'
        go_wp2_with (go_at_call 61; refine (HK.out _ HBr.out).mono ?_; rintro e w' ⟨rfl, hw⟩)
        go_ret
        exact ⟨rfl, HBr.out.thn hw⟩
end Go.Proofs.YthkkmklnapkgaaaGreatDoor

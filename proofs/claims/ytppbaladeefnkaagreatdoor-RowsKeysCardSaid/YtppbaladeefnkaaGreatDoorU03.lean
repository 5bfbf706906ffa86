import Derived.Test.YtppbaladeefnkaaGreatDoorU02
set_option maxRecDepth 100000
set_option maxHeartbeats 400000000
namespace Go.Proofs.YtppbaladeefnkaaGreatDoor
open Go.RowKit Go.Shelf Go.Lib Tryz
def X6 {T : Type} (p : T → Bool) (xs : List T) : Int := match xs.findIdx? p with
 | some i => i
 | none => -1
theorem U9 {T : Type} {p : T → Bool} {xs : List T} {k : Nat} {x : T} (hx : xs[k]? = some x) (hp : p x = true) (hne : ∀ (j : Nat) (y : T), j < k → xs[j]? = some y → p y = false) : X6 p xs = k := by
 have : xs.findIdx? p = some k := by
  obtain ⟨hk, rfl⟩ := Qj hx
  rw [List.findIdx?_eq_some_iff_getElem]
  exact ⟨hk, hp, fun j hj => by simpa using hne j _ hj (Qx (by omega))⟩
 unfold X6; rw [this]
theorem Xu {T : Type} {p : T → Bool} {xs : List T} (hne : ∀ (j : Nat) (y : T), xs[j]? = some y → p y = false) : X6 p xs = -1 := by
 have : xs.findIdx? p = none := by
  rw [List.findIdx?_eq_none_iff]
  intro y hy
  obtain ⟨j, hj⟩ := List.getElem?_of_mem hy
  exact hne j y hj
 unfold X6; rw [this]
theorem D8 {T : Type} (p : T → Bool) (xs : List T) : decide (0 ≤ X6 p xs) = xs.any p := by
 unfold X6
 cases h : xs.findIdx? p with
 | none =>
  rw [List.findIdx?_eq_none_iff] at h
  have : xs.any p = false := by rw [List.any_eq_false]; intro x hx; simp [h x hx]
  rw [this]; rfl
 | some i =>
  rw [List.findIdx?_eq_some_iff_getElem] at h
  obtain ⟨hi, hp, _⟩ := h
  have : xs.any p = true := List.any_eq_true.2 ⟨_, Qd hi, hp⟩
  rw [this]; simp
def Xt {T : Type} (P : Program) (g : Nat) (lb : Array Value) (r : Rd T) (S : Nat → Prop) (xs : List T) (p : T → Bool) (w : World) : Prop :=
 ∀ (W : World) (x : T) (cs : List Value), Below w.heap.size w W → x ∈ xs → r.R S W cs x →
  Calls P g (#[.agg cs.toArray] ++ lb) W fun e w' => e = .returned (.bool (p x)) ∧ Below W.heap.size W w'
theorem Sl.elem {T : Type} {r : Rd T} {S : Nat → Prop} {w : World} {p : Option Addr} {n cap : Nat} {xs : List T} (h : Sl r S w (.slice p n cap) xs) {i : Nat} {x : T} (hx : xs[i]? = some x) :
  ∃ b off cs, p = some ⟨b, off, none⟩ ∧ b < w.heap.size ∧ S b ∧ cs.length = r.k ∧ r.R S w cs x ∧ ∀ j u, cs[j]? = some u → w.cell? ⟨b, off + i * r.k + j, none⟩ = some u := by
 obtain ⟨p', c', h1, _, h3⟩ := h
 simp only [Value.slice.injEq] at h1
 obtain ⟨rfl, _, _⟩ := h1
 obtain ⟨b, off, e, hS, hb, hc⟩ := h3 (by intro e; subst e; simp at hx)
 obtain ⟨cs, h4, h5⟩ := hc i x hx
 exact ⟨b, off, cs, e, hb, hS, r.len h5, h5, h4⟩
section
variable {P : Program} {ρ : Ren} {T : Type}
theorem Le (L : SlLaysH0.n6 P ρ) (r : Rd T) (aE : ∀ w, (isAgg (ρ.t 23)).run P w = .ok true w) (zE : ∀ w, (Go.sizeOf (ρ.t 23)).run P w = .ok r.k w) (g : Nat) (lb : Array Value)
  (eg : ∀ args w, (callFunc g args).run P w = .ok (.enter g args) w) (S : Nat → Prop) (v : Value) (xs : List T) (w : World) (p : T → Bool) (hs : Sl r S w v xs) (hp : Xt P g lb r S xs p w) :
  Calls P (ρ.f 6) #[v, .func (.func g) #[] lb] w fun e w' => e = .returned (.int .i64 (X6 p xs)) ∧ Below w.heap.size w w' := by
 obtain ⟨q, cap, rfl, hl⟩ := hs.len
 have mixed := L.mixed; have t0 := L.t0; have a0 := L.a0; have z0 := L.z0; have v0 := L.v0; have t3 := L.t3; have a3 := L.a3; have z3 := L.z3; have v3 := L.v3; have t4 := L.t4; have a4 := L.a4; have z4 := L.z4; have v4 := L.v4; have t22 := L.t22; have a22 := L.a22; have z22 := L.z22; have v22 := L.v22; have t25 := L.t25; have a25 := L.a25; have z25 := L.z25; have v25 := L.v25
 obtain ⟨_, _, FG⟩ := L.f6
 have HS := Qq hs; have HP := Qq hp
 clear hs hp
 obtain ⟨n, hn⟩ := eX (xs.length)
 rw [hn] at HS hl
 rw [hn]
 have HN := Qq hn
 clear hn
 go_enter FG, SlBodyH.n6_ntmps ρ
 go_wp2
 go_loopg [5, 8] n (fun gg _ s8 wr => ∃ kk : Nat, kk ≤ n ∧ n - kk ≤ gg ∧ s8 = .int .i64 kk ∧ Aside (Below w.heap.size w wr) ∧ Aside (∀ (j : Nat) (y : T), j < kk → xs[j]? = some y → p y = false))
 case atStart => exact ⟨0, Q8 _, by omega, rfl, Qz _ w, fun j _ hj => absurd hj (Nat.not_lt_zero _)⟩
 obtain ⟨kk, hkk, hg, rfl, BW, A⟩ := hrel
 by_cases hlt : kk < n
 ·have hltz : (kk : Int) < (n : Int) := by omega
  have hx := Qx (l := xs) (i := kk) (by rw [HN.out]; exact hlt)
  generalize xs[kk]'_ = x at hx
  obtain ⟨b, off, cs, rfl, hb, -, hk, hR, hc⟩ := (HS.out.below BW.out).elem hx
  have l2 : Sem.run P (loadCellsFrom ⟨b, off + kk * r.k, none⟩ 0 r.k #[]) wr = .ok cs.toArray wr :=
   run_loadCellsFrom_list P _ _ cs r.k hk (fun i u hi => by rw [Addr.add_lit]; exact hc i u hi)
  have hcall := HP.out wr x cs BW.out (Qy hx) hR
  have HX := Qq hx
  clear hc hR hx
  cases hq : p x with
  | true =>
   rw [hq] at hcall
   go_wp2_with (go_at_fn g; refine hcall.mono ?_; rintro e w' ⟨rfl, hb'⟩)
   go_ret
   refine ⟨?_, BW.out.thn hb'⟩
   rw [U9 HX.out hq A.out]
   rfl
  | false =>
   rw [hq] at hcall
   go_wp2_with (go_at_fn g; refine hcall.mono ?_; rintro e w' ⟨rfl, hb'⟩)
   go_roundg (n - (kk + 1))
   case measure => omega
   case rel =>
    refine ⟨kk + 1, by omega, by omega, by go_num, BW.out.thn hb', (show Aside _ from fun j y hj hy => ?_)⟩
    by_cases e : j = kk
    ·subst e
     have := HX.out
     rw [this] at hy
     cases hy
     exact hq
    exact A.out j y (by omega) hy
 have hltz : ¬ (kk : Int) < (n : Int) := by omega
 have : kk = n := by omega
 subst this
 go_wp2
 go_ret
 refine ⟨?_, BW.out⟩
 rw [Xu (fun j y hy => A.out j y (by have := (Qj hy).1; have := HN.out; omega) hy)]
 rfl
theorem conFn (L : SlLaysH0.n8 P ρ) (r : Rd T) (aE : ∀ w, (isAgg (ρ.t 23)).run P w = .ok true w) (zE : ∀ w, (Go.sizeOf (ρ.t 23)).run P w = .ok r.k w) (g : Nat) (lb : Array Value)
  (eg : ∀ args w, (callFunc g args).run P w = .ok (.enter g args) w) (S : Nat → Prop) (v : Value) (xs : List T) (w : World) (p : T → Bool) (hs : Sl r S w v xs) (hp : Xt P g lb r S xs p w) :
  Calls P (ρ.f 8) #[v, .func (.func g) #[] lb] w fun e w' => e = .returned (.bool (xs.any p)) ∧ Below w.heap.size w w' := by
 rw [← D8]
 have mixed := L.mixed; have t0 := L.t0; have a0 := L.a0; have z0 := L.z0; have v0 := L.v0; have t3 := L.t3; have a3 := L.a3; have z3 := L.z3; have v3 := L.v3; have t4 := L.t4; have a4 := L.a4; have z4 := L.z4; have v4 := L.v4; have t22 := L.t22; have a22 := L.a22; have z22 := L.z22; have v22 := L.v22; have t25 := L.t25; have a25 := L.a25; have z25 := L.z25; have v25 := L.v25
 have e6 : ∀ args w, (callFunc (ρ.f 6) args).run P w = .ok (.enter (ρ.f 6) args) w := L.f6.enters rfl
 have hC := Qq (Le { L with } r aE zE g lb eg S v xs w p hs hp)
 obtain ⟨_, _, FG⟩ := L.f8
 generalize X6 p xs = i at hC ⊢
 clear hs hp
 go_enter FG, SlBodyH.n8_ntmps ρ
 go_wp2_with (go_at_fn (ρ.f 6); refine hC.out.mono ?_; rintro e w' ⟨rfl, hb'⟩)
 go_ret
 exact ⟨rfl, hb'⟩
theorem Lw (L : SlLaysE0.n41 P ρ) (i0 : TypeInfo) (z : Value) (size bytes : Nat) (hi : P.info? (ρ.t 23) = some i0) (hz0 : i0.zero = some z) (hz1 : i0.size = size) (hz2 : i0.bytes = bytes) (hzs : z.cells.size = size) (hsz : 0 < size)
  (z23 : ∀ w, (Go.sizeOf (ρ.t 23)).run P w = .ok size w) (ad : Addr) (c : Nat) (w : World) :
  Calls P (ρ.f 41) #[.slice (some ad) 0 c] w fun e w' => ∃ v', e = .returned v' ∧ w'.ownsRow w.heap.size (ρ.t 23) size v' 0 [] ∧ Below w.heap.size w w' := by
 have mixed := L.mixed; have t4 := L.t4; have a4 := L.a4; have z4 := L.z4; have v4 := L.v4; have t22 := L.t22; have a22 := L.a22; have z22 := L.z22; have v22 := L.v22
 have q22 : ∀ (w : World) (a : Option Addr) (n c n' c' : Nat), (binOp .eql (ρ.t 22) (.slice a n c) (.slice none n' c')).run P w = .ok (.bool a.isNone) w := fun w a n c n' c' => Lib.run_eql_slice_nil w _ _ a n c n' c' L.t22
 have u22 : ∀ w, Sem.run P (underlying (ρ.t 22)) w = .ok (TypeDesc.slice (ρ.t 23)) w := run_underlying t22
 obtain ⟨_, _, FG⟩ := L.f41
 go_enter FG, SlBodyN.n41_ntmps ρ
 go_wp2_with (at_builtin; refine wpList_append_own _ rfl _ _ (ρ.t 22) rfl w.heap.size (ρ.t 23) i0 z size bytes t22 hi hz0 hz1 hz2 hzs hsz _ _ _ rfl (World.ownsRow_made w #[] 0 (Q9 _) (Q8 _) (by simp)) ad 0 c [] rfl (by simp) (by simp) (by simp) (by unfold maxLen; omega) (by simp) (by simp) ?_)
 intro v' w1 hown hgrow hnil
 go_wp2
 go_ret
 refine ⟨v', rfl, by simpa using hown, ?_⟩
 exact ((Qz _ w).alloc (Q9 _) _).grown hgrow (by simp) (by intro k hk; simp [Value.ownBlock] at hk; omega)
def Vi (r : Rd T) (E : TypeId) (S : Nat → Prop) (w : World) (xs : List T) (e : Ending) (w' : World) : Prop :=
 ∃ p cap css, e = .returned (.slice p xs.length cap) ∧ Own r E S w.heap.size w' (.slice p xs.length cap) xs css ∧ Below w.heap.size w w'
theorem Own.form {r : Rd T} {E : TypeId} {S : Nat → Prop} {B : Nat} {w : World} {v : Value} {xs : List T} {css : List (List Value)} (h : Own r E S B w v xs css) : ∃ p cap, v = .slice p xs.length cap := by
 rcases h.row.2 with ⟨rfl, h0⟩ | ⟨g, cap, cur, rfl, _⟩
 ·exact ⟨none, 0, by rw [h0]⟩
 exact ⟨_, _, rfl⟩
theorem Dz {r : Rd T} {E : TypeId} {S : Nat → Prop} {w w' : World} {v : Value} {xs : List T} {css : List (List Value)} (h : Own r E S w.heap.size w' v xs css) (hb : Below w.heap.size w w') : Vi r E S w xs (.returned v) w' := by
 obtain ⟨p, cap, rfl⟩ := h.form
 exact ⟨p, cap, css, rfl, h, hb⟩
theorem J5 (L : SlLaysE0.n41 P ρ) (r : Rd T) (hk : 0 < r.k) (bytes : Nat) (i0 : TypeInfo) (z : Value) (hi : P.info? (ρ.t 23) = some i0) (hz0 : i0.zero = some z) (hz1 : i0.size = r.k) (hz2 : i0.bytes = bytes) (hzs : z.cells.size = r.k)
  (z23 : ∀ w, (Go.sizeOf (ρ.t 23)).run P w = .ok r.k w) (hby : bytes ≤ 1000) (h1 : ∀ S w cs x, r.R S w cs x → ∀ u ∈ cs, u.oneCell' = true) (S : Nat → Prop) (v : Value) (xs : List T) (w : World) (hs : Sl r S w v xs) :
  Calls P (ρ.f 41) #[v] w (Vi r (ρ.t 23) S w xs) := by
 obtain ⟨p, cap, css, rfl, hCs, hne⟩ := hs.css hk
 obtain ⟨_, _, _, hl⟩ := hs.len
 have hown : ∀ w' v', Below w.heap.size w w' → w'.ownsRow w.heap.size (ρ.t 23) r.k v' xs.length css.flatten → Own r (ρ.t 23) S w.heap.size w' v' xs css := by
  intro w' v' hb ho
  refine ⟨ho, hCs.move (.of_below hb) (fun b hb h => ⟨h, fun e => ?_⟩)⟩
  have := (ho.lt b e.symm).1
  omega
 by_cases hx : xs = []
 ·subst hx
  have hcs0 : css = [] := List.eq_nil_of_length_eq_zero hCs.len
  subst hcs0
  rcases p with _ | ad
  ·refine (AnyE.slices_Clone_nil L 0 cap w).mono ?_
   rintro e w' ⟨rfl, rfl⟩
   exact Dz (hown _ _ (Qz _ _) (by simpa using World.ownsRow_nil w' w'.heap.size (ρ.t 23) r.k)) (Qz _ _)
  refine (Lw L i0 z r.k bytes hi hz0 hz1 hz2 hzs hk z23 ad cap w).mono ?_
  rintro e w' ⟨v', rfl, ho, hb'⟩
  exact Dz (hown _ _ hb' (by simpa using ho)) hb'
 obtain ⟨b, off, rfl, hS, hb, hc⟩ := hne hx
 refine (AnyE.slices_Clone L i0 z r.k bytes hi hz0 hz1 hz2 hzs hk z23 b off xs.length cap css.flatten w hCs.flat (by unfold maxLen; omega) (by
  have := Nat.mul_le_mul hl hby; omega) hc (fun u hu => ?_)).mono ?_
 ·obtain ⟨c, hcm, huc⟩ := List.mem_flatten.1 hu
  obtain ⟨i, hi⟩ := List.getElem?_of_mem hcm
  have hil := (Qj hi).1
  exact h1 S w c _ (hCs.R i c _ hi (Qx (by rw [← hCs.len]; exact hil))) u huc
 rintro e w' ⟨v', rfl, ho, _, hb'⟩
 exact Dz (hown _ _ hb' ho) hb'
end
def Z8 : Rd Rel where
 k := 2
 R S w cs x := ∃ v, cs = [sv x.table, v] ∧ x.table.length ≤ 1000000 ∧ Sl Ql S w v x.rows
 len h := by obtain ⟨v, rfl, _⟩ := h; rfl
 frame h hA := by obtain ⟨v, rfl, h1, h2⟩ := h; exact ⟨v, rfl, h1, h2.frame hA⟩
 mono h hS := by obtain ⟨v, rfl, h1, h2⟩ := h; exact ⟨v, rfl, h1, h2.mono hS⟩
def Yy : Rd Col where
 k := 6
 R S w cs x := ∃ tc, cs = sv x.name :: tc ∧ x.name.length ≤ 1000000 ∧ Y5 S w tc x.type
 len h := by obtain ⟨v, rfl, _, h2⟩ := h; rw [List.length_cons, h2.length]
 frame h hA := by obtain ⟨v, rfl, h1, h2⟩ := h; exact ⟨v, rfl, h1, h2.move hA (fun _ _ h => h)⟩
 mono h hS := by obtain ⟨v, rfl, h1, h2⟩ := h; exact ⟨v, rfl, h1, h2.move (.refl _ _) hS⟩
def Ut : Rd Rf where
 k := 2
 R _ _ cs x := cs = [sv x.column, sv x.table] ∧ x.column.length ≤ 1000000 ∧ x.table.length ≤ 1000000
 len h := by rw [h.1]; rfl
 frame h _ := h
 mono h _ := h
def Qs : Rd Tbl where
 k := 13
 R S w cs x := ∃ cv kv rv ec, cs = sv x.name :: cv :: kv :: rv :: ec ∧ x.name.length ≤ 1000000 ∧ Sl Yy S w cv x.columns ∧ Sl Qp S w kv x.key ∧ Sl Ut S w rv x.refs ∧ Z5 S w ec x.check
 len h := by obtain ⟨_, _, _, _, rfl, _, _, _, _, h2⟩ := h; simp only [List.length_cons, h2.length]
 frame h hA := by obtain ⟨cv, kv, rv, ec, rfl, h1, h2, h3, h4, h5⟩ := h; exact ⟨cv, kv, rv, ec, rfl, h1, h2.frame hA, h3.frame hA, h4.frame hA, h5.move hA (fun _ _ h => h)⟩
 mono h hS := by obtain ⟨cv, kv, rv, ec, rfl, h1, h2, h3, h4, h5⟩ := h; exact ⟨cv, kv, rv, ec, rfl, h1, h2.mono hS, h3.mono hS, h4.mono hS, h5.move (.refl _ _) hS⟩
def Bz : Rd Ct where
 k := 7
 R S w cs x := ∃ tc, cs = sv x.name :: .bool x.has :: tc ∧ x.name.length ≤ 1000000 ∧ Y5 S w tc x.arg
 len h := by obtain ⟨v, rfl, _, h2⟩ := h; simp only [List.length_cons, h2.length]
 frame h hA := by obtain ⟨v, rfl, h1, h2⟩ := h; exact ⟨v, rfl, h1, h2.move hA (fun _ _ h => h)⟩
 mono h hS := by obtain ⟨v, rfl, h1, h2⟩ := h; exact ⟨v, rfl, h1, h2.move (.refl _ _) hS⟩
def Jg : Rd Sm where
 k := 2
 R S w cs x := ∃ v, cs = [sv x.name, v] ∧ x.name.length ≤ 1000000 ∧ Sl Bz S w v x.ctors
 len h := by obtain ⟨v, rfl, _⟩ := h; rfl
 frame h hA := by obtain ⟨v, rfl, h1, h2⟩ := h; exact ⟨v, rfl, h1, h2.frame hA⟩
 mono h hS := by obtain ⟨v, rfl, h1, h2⟩ := h; exact ⟨v, rfl, h1, h2.mono hS⟩
def Yl (S : Nat → Prop) (w : World) (cs : List Value) (x : Sc) : Prop := ∃ uv tv, cs = [uv, tv] ∧ Sl Jg S w uv x.sums ∧ Sl Qs S w tv x.tables
theorem Yl.below {S : Nat → Prop} {w w' : World} {cs : List Value} {x : Sc} (h : Yl S w cs x) (hb : Below w.heap.size w w') : Yl S w' cs x := by
 obtain ⟨uv, tv, rfl, h1, h2⟩ := h; exact ⟨uv, tv, rfl, h1.below hb, h2.below hb⟩
theorem Yi : ∀ S w cs x, Ql.R S w cs x → ∀ u ∈ cs, u.oneCell' = true := by
 intro S w cs x h u hu
 obtain ⟨p3, k3, p4, k4, rfl, _⟩ := Qh.cells (show Qh S w cs x from h)
 simp only [vcs, List.mem_cons, List.not_mem_nil, or_false] at hu
 rcases hu with rfl | rfl | rfl | rfl | rfl <;> rfl
theorem Xa : ∀ S w cs x, Qp.R S w cs x → ∀ u ∈ cs, u.oneCell' = true := by
 intro S w cs x h u hu
 obtain ⟨rfl, _⟩ := h
 simp only [List.mem_cons, List.not_mem_nil, or_false] at hu
 subst hu; rfl
theorem sl_one {T : Type} {r : Rd T} {S : Nat → Prop} {w : World} {v : Value} {xs : List T} (h : Sl r S w v xs) : v.oneCell' = true := by
 obtain ⟨p, cap, rfl, _⟩ := h.len; rfl
theorem Oj : ∀ S w cs x, Z8.R S w cs x → ∀ u ∈ cs, u.oneCell' = true := by
 intro S w cs x h u hu
 obtain ⟨v, rfl, _, h2⟩ := h
 simp only [List.mem_cons, List.not_mem_nil, or_false] at hu
 rcases hu with rfl | rfl
 ·rfl
 exact sl_one h2
theorem rf_one : ∀ S w cs x, Ut.R S w cs x → ∀ u ∈ cs, u.oneCell' = true := by
 intro S w cs x h u hu
 obtain ⟨rfl, _⟩ := h
 simp only [List.mem_cons, List.not_mem_nil, or_false] at hu
 rcases hu with rfl | rfl <;> rfl
theorem ty_one {S : Nat → Prop} {w : World} {cs : List Value} {x : Ty} (h : Y5 S w cs x) : ∀ u ∈ cs, u.oneCell' = true := by
 intro u hu
 cases h with
 | mk k n s names kids nv p cap b off cs hs hn =>
  simp only [List.mem_cons, List.not_mem_nil, or_false] at hu
  rcases hu with rfl | rfl | rfl | rfl | rfl
  ·rfl
  ·rfl
  ·rfl
  ·exact sl_one hn
  rfl
theorem Nn : ∀ S w cs x, Yy.R S w cs x → ∀ u ∈ cs, u.oneCell' = true := by
 intro S w cs x h u hu
 obtain ⟨tc, rfl, _, h2⟩ := h
 rcases List.mem_cons.1 hu with rfl | hu
 ·rfl
 exact ty_one h2 u hu
theorem Ze {P : Program} {t : TypeId} {z : Value} {n b : Nat} (h : (P.info? t).map (fun i => (i.zero, i.size, i.bytes)) = some (some z, n, b)) : ∃ i0, P.info? t = some i0 ∧ i0.zero = some z ∧ i0.size = n ∧ i0.bytes = b := by
 cases hi : P.info? t with
 | none => rw [hi] at h; cases h
 | some i0 =>
  rw [hi] at h
  simp only [Option.map_some, Option.some.injEq, Prod.mk.injEq] at h
  exact ⟨i0, rfl, h.1, h.2.1, h.2.2⟩
theorem Hf (S : Nat → Prop) (v : Value) (xs : List Val) (w : World) (hs : Sl Ql S w v xs) : Calls prog 52 #[v] w (Vi Ql 44 S w xs) := by
 obtain ⟨i0, h1, h2, h3, h4⟩ := Ze (P := prog) (t := 44) (z := .agg zV) (n := 5) (b := 80) (by kernel_rfl)
 exact J5 Tryz.clVal Ql (by decide) 80 i0 _ h1 h2 h3 h4 rfl sizeOf44 (by omega) Yi S v xs w hs
theorem L7 (S : Nat → Prop) (v : Value) (xs : List Bs) (w : World) (hs : Sl Qp S w v xs) : Calls prog 79 #[v] w (Vi Qp 9 S w xs) := by
 obtain ⟨i0, h1, h2, h3, h4⟩ := Ze (P := prog) (t := 9) (z := .string ⟨#[]⟩) (n := 1) (b := 16) (by kernel_rfl)
 exact J5 Tryz.clStr Qp (by decide) 16 i0 _ h1 h2 h3 h4 rfl sizeOf9 (by omega) Xa S v xs w hs
theorem cloneRel (S : Nat → Prop) (v : Value) (xs : List Rel) (w : World) (hs : Sl Z8 S w v xs) : Calls prog 97 #[v] w (Vi Z8 57 S w xs) := by
 obtain ⟨i0, h1, h2, h3, h4⟩ := Ze (P := prog) (t := 57) (z := .agg #[.string ⟨#[]⟩, .slice none 0 0]) (n := 2) (b := 40) (by kernel_rfl)
 exact J5 Tryz.clRel Z8 (by decide) 40 i0 _ h1 h2 h3 h4 rfl sizeOf57 (by omega) Oj S v xs w hs
theorem cloneRef (S : Nat → Prop) (v : Value) (xs : List Rf) (w : World) (hs : Sl Ut S w v xs) : Calls prog 80 #[v] w (Vi Ut 80 S w xs) := by
 obtain ⟨i0, h1, h2, h3, h4⟩ := Ze (P := prog) (t := 80) (z := .agg #[.string ⟨#[]⟩, .string ⟨#[]⟩]) (n := 2) (b := 32) (by kernel_rfl)
 exact J5 Tryz.clRef Ut (by decide) 32 i0 _ h1 h2 h3 h4 rfl sizeOf80 (by omega) rf_one S v xs w hs
theorem Ll (S : Nat → Prop) (v : Value) (xs : List Col) (w : World) (hs : Sl Yy S w v xs) : Calls prog 78 #[v] w (Vi Yy 78 S w xs) := by
 obtain ⟨i0, h1, h2, h3, h4⟩ := Ze (P := prog) (t := 78) (z := .agg #[.string ⟨#[]⟩, .int .i64 0, .string ⟨#[]⟩, .int .i64 0, .slice none 0 0, .slice none 0 0]) (n := 6) (b := 96) (by kernel_rfl)
 exact J5 Tryz.clCol Yy (by decide) 96 i0 _ h1 h2 h3 h4 rfl sizeOf78 (by omega) Nn S v xs w hs
theorem Bg (S : Nat → Prop) (v : Value) (l : List Rel) (t : Bs) (w : World) (hs : Sl Z8 S w v l) :
  Calls prog 41 #[v, sv t] w fun e w' => e = .returned (.int .i64 (X6 (fun r => decide (r.table = t)) l)) ∧ Below w.heap.size w w' := by
 have hp : ∀ w1 : World, Below w.heap.size w w1 → w1.cell? ⟨w.heap.size, 0, none⟩ = some (sv t) → Xt prog 82 #[.pointer (some ⟨w.heap.size, 0, none⟩)] Z8 S l (fun r => decide (r.table = t)) w1 := by
  rintro w1 hb1 hc W x cs hb hx ⟨rv, rfl, _, _⟩
  have hc' : W.cell? ⟨w.heap.size, 0, none⟩ = some (sv t) := (hb.cell (p := ⟨w.heap.size, 0, none⟩) (Qv w1 _ hc)).trans hc
  have hlt := Qv W _ hc'
  have hne : w.heap.size ≠ W.heap.size := by
   intro e; rw [e] at hlt; simp at hlt
  have hq : (x.table == t) = decide (x.table = t) := by rw [Bool.eq_iff_iff, beq_iff_eq, decide_eq_true_eq]
  have HQ := Qq hq
  clear hq hc hb hb1 hx
  show Calls prog 82 #[.agg #[sv x.table, rv], .pointer (some ⟨w.heap.size, 0, none⟩)] W _
  unfold sv at hc' ⊢
  go_enter func82, ntmps82
  go_wp2_with fail
  go_ret
  exact ⟨by rw [← HQ.out]; rfl, Qo _ _⟩
 have HI : ∀ w1 : World, Below w.heap.size w w1 → w1.cell? ⟨w.heap.size, 0, none⟩ = some (sv t) → Calls prog 81 #[v, .func (.func 82) #[] #[.pointer (some ⟨w.heap.size, 0, none⟩)]] w1 fun e w' => e = .returned (.int .i64 (X6 (fun r => decide (r.table = t)) l)) ∧ Below w1.heap.size w1 w' :=
  fun w1 hb hc => Le Tryz.ixRel Z8 isAgg57 sizeOf57 _ _ (enters_of func82 (by kernel_rfl) rfl) S v l w1 _ (hs.below hb) (hp w1 hb hc)
 have HI2 := Qq HI
 clear HI hp hs
 generalize X6 _ l = r at HI2 ⊢
 unfold sv at HI2 ⊢
 go_enter func41, ntmps41
 go_wp2_with (go_at_call 81; refine (HI2.out _ (Qo _ _) (by simp)).mono ?_; rintro e w' ⟨rfl, hw⟩)
 go_ret
 exact ⟨rfl, (Qo _ _).thn hw⟩
end Go.Proofs.YtppbaladeefnkaaGreatDoor

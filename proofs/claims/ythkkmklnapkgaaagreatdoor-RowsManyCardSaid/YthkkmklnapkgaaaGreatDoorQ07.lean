import Derived.Test.YthkkmklnapkgaaaGreatDoorQ05
import Derived.Test.YthkkmklnapkgaaaGreatDoorQ06
import Derived.Shelf.SlicesQ.IndexFunc
import Derived.Shelf.SlicesE.Clone
/- slices.IndexFunc, slices.ContainsFunc, slices.Clone over whatever is read by a reading; at this dump. -/
namespace Go.Proofs.YthkkmklnapkgaaaGreatDoor
open Go.RowKit Go.Shelf Go.Lib

/-- The place of the first element for which p holds, or -1. -/
def idxP {T : Type} (p : T → Bool) (xs : List T) : Int := match xs.findIdx? p with
  | some i => i
  | none => -1
theorem idxP_hit {T : Type} {p : T → Bool} {xs : List T} {k : Nat} {x : T} (hx : xs[k]? = some x) (hp : p x = true) (hne : ∀ (j : Nat) (y : T), j < k → xs[j]? = some y → p y = false) : idxP p xs = k := by
  have : xs.findIdx? p = some k := by
    obtain ⟨hk, rfl⟩ := List.getElem?_eq_some_iff.1 hx
    rw [List.findIdx?_eq_some_iff_getElem]
    exact ⟨hk, hp, fun j hj => by simpa using hne j _ hj (List.getElem?_eq_getElem (by omega))⟩
  unfold idxP; rw [this]
theorem idxP_miss {T : Type} {p : T → Bool} {xs : List T} (hne : ∀ (j : Nat) (y : T), xs[j]? = some y → p y = false) : idxP p xs = -1 := by
  have : xs.findIdx? p = none := by
    rw [List.findIdx?_eq_none_iff]
    intro y hy
    obtain ⟨j, hj⟩ := List.getElem?_of_mem hy
    exact hne j y hj
  unfold idxP; rw [this]
theorem idxP_nonneg {T : Type} (p : T → Bool) (xs : List T) : decide (0 ≤ idxP p xs) = xs.any p := by
  unfold idxP
  cases h : xs.findIdx? p with
  | none =>
    rw [List.findIdx?_eq_none_iff] at h
    have : xs.any p = false := by rw [List.any_eq_false]; intro x hx; simp [h x hx]
    rw [this]; rfl
  | some i =>
    rw [List.findIdx?_eq_some_iff_getElem] at h
    obtain ⟨hi, hp, _⟩ := h
    have : xs.any p = true := List.any_eq_true.2 ⟨_, List.getElem_mem hi, hp⟩
    rw [this]; simp

/-- A predicate on elements, as a function value may compute it. -/
def PredRd {T : Type} (P : Program) (g : Nat) (lb : Array Value) (r : Rd T) (S : Nat → Prop) (xs : List T) (p : T → Bool) (w : World) : Prop :=
  ∀ (W : World) (x : T) (cs : List Value), Below w.heap.size w W → x ∈ xs → r.R S W cs x →
    Calls P g (#[.agg cs.toArray] ++ lb) W fun e w' => e = .returned (.bool (p x)) ∧ Below W.heap.size W w'

/-- An element of a slice, asked for in a later world. -/
theorem Sl.elem {T : Type} {r : Rd T} {S : Nat → Prop} {w : World} {p : Option Addr} {n cap : Nat} {xs : List T} (h : Sl r S w (.slice p n cap) xs) {i : Nat} {x : T} (hx : xs[i]? = some x) :
    ∃ b off cs, p = some ⟨b, off, none⟩ ∧ b < w.heap.size ∧ S b ∧ cs.length = r.k ∧ r.R S w cs x ∧ ∀ j u, cs[j]? = some u → w.cell? ⟨b, off + i * r.k + j, none⟩ = some u := by
  obtain ⟨p', c', h1, _, h3⟩ := h
  simp only [Value.slice.injEq] at h1
  obtain ⟨rfl, _, _⟩ := h1
  obtain ⟨b, off, e, hS, hb, hc⟩ := h3 (by intro e; subst e; simp at hx)
  obtain ⟨cs, h4, h5⟩ := hc i x hx
  exact ⟨b, off, cs, e, hb, hS, r.len h5, h5, h4⟩

section
variable {P : Program} {ρ : Ren} {T : Type}
set_option maxHeartbeats 1000000 in
theorem idxFn (L : SlLaysH0.n6 P ρ) (r : Rd T) (aE : ∀ w, (isAgg (ρ.t 23)).run P w = .ok true w) (zE : ∀ w, (Go.sizeOf (ρ.t 23)).run P w = .ok r.k w) (g : Nat) (lb : Array Value)
    (eg : ∀ args w, (callFunc g args).run P w = .ok (.enter g args) w) (S : Nat → Prop) (v : Value) (xs : List T) (w : World) (p : T → Bool) (hs : Sl r S w v xs) (hp : PredRd P g lb r S xs p w) :
    Calls P (ρ.f 6) #[v, .func (.func g) #[] lb] w fun e w' => e = .returned (.int .i64 (idxP p xs)) ∧ Below w.heap.size w w' := by
  obtain ⟨q, cap, rfl, hl⟩ := hs.len
  have mixed := L.mixed; have t0 := L.t0; have a0 := L.a0; have z0 := L.z0; have v0 := L.v0; have t3 := L.t3; have a3 := L.a3; have z3 := L.z3; have v3 := L.v3; have t4 := L.t4; have a4 := L.a4; have z4 := L.z4; have v4 := L.v4; have t22 := L.t22; have a22 := L.a22; have z22 := L.z22; have v22 := L.v22; have t25 := L.t25; have a25 := L.a25; have z25 := L.z25; have v25 := L.v25
  obtain ⟨_, _, FG⟩ := L.f6
  have HS := Lib.hid hs; have HP := Lib.hid hp
  clear hs hp
  obtain ⟨n, hn⟩ : ∃ n, xs.length = n := ⟨_, rfl⟩
  rw [hn] at HS hl
  rw [hn]
  have HN := Lib.hid hn
  clear hn
  go_enter FG, SlBodyH.n6_ntmps ρ
  go_wp2
  go_loopg [5, 8] n (fun gg _ s8 wr => ∃ kk : Nat, kk ≤ n ∧ n - kk ≤ gg ∧ s8 = .int .i64 kk ∧ Aside (Below w.heap.size w wr) ∧ Aside (∀ (j : Nat) (y : T), j < kk → xs[j]? = some y → p y = false))
  case atStart => exact ⟨0, Nat.zero_le _, by omega, rfl, Below.refl _ w, fun j _ hj => absurd hj (Nat.not_lt_zero _)⟩
  case round =>
    obtain ⟨kk, hkk, hg, rfl, BW, A⟩ := hrel
    by_cases hlt : kk < n
    · have hltz : (kk : Int) < (n : Int) := by omega
      have hx := List.getElem?_eq_getElem (l := xs) (i := kk) (by rw [HN.out]; exact hlt)
      generalize xs[kk]'_ = x at hx
      obtain ⟨b, off, cs, rfl, hb, -, hk, hR, hc⟩ := (HS.out.below BW.out).elem hx
      have l2 : Sem.run P (loadCellsFrom ⟨b, off + kk * r.k, none⟩ 0 r.k #[]) wr = .ok cs.toArray wr :=
        run_loadCellsFrom_list P _ _ cs r.k hk (fun i u hi => by rw [Addr.add_lit]; exact hc i u hi)
      have hcall := HP.out wr x cs BW.out (List.mem_of_getElem? hx) hR
      have HX := Lib.hid hx
      clear hc hR hx
      cases hq : p x with
      | true =>
        rw [hq] at hcall
        go_wp2_with (go_at_fn g; refine hcall.mono ?_; rintro e w' ⟨rfl, hb'⟩)
        go_ret
        refine ⟨?_, BW.out.thn hb'⟩
        rw [idxP_hit HX.out hq A.out]
        rfl
      | false =>
        rw [hq] at hcall
        go_wp2_with (go_at_fn g; refine hcall.mono ?_; rintro e w' ⟨rfl, hb'⟩)
        go_roundg (n - (kk + 1))
        case measure => omega
        case rel =>
          refine ⟨kk + 1, by omega, by omega, by go_num, BW.out.thn hb', (show Aside _ from fun j y hj hy => ?_)⟩
          by_cases e : j = kk
          · subst e
            have := HX.out
            rw [this] at hy
            cases hy
            exact hq
          · exact A.out j y (by omega) hy
    · have hltz : ¬ (kk : Int) < (n : Int) := by omega
      have : kk = n := by omega
      subst this
      go_wp2
      go_ret
      refine ⟨?_, BW.out⟩
      rw [idxP_miss (fun j y hy => A.out j y (by have := (List.getElem?_eq_some_iff.1 hy).1; have := HN.out; omega) hy)]
      rfl
theorem conFn (L : SlLaysH0.n8 P ρ) (r : Rd T) (aE : ∀ w, (isAgg (ρ.t 23)).run P w = .ok true w) (zE : ∀ w, (Go.sizeOf (ρ.t 23)).run P w = .ok r.k w) (g : Nat) (lb : Array Value)
    (eg : ∀ args w, (callFunc g args).run P w = .ok (.enter g args) w) (S : Nat → Prop) (v : Value) (xs : List T) (w : World) (p : T → Bool) (hs : Sl r S w v xs) (hp : PredRd P g lb r S xs p w) :
    Calls P (ρ.f 8) #[v, .func (.func g) #[] lb] w fun e w' => e = .returned (.bool (xs.any p)) ∧ Below w.heap.size w w' := by
  rw [← idxP_nonneg]
  have mixed := L.mixed; have t0 := L.t0; have a0 := L.a0; have z0 := L.z0; have v0 := L.v0; have t3 := L.t3; have a3 := L.a3; have z3 := L.z3; have v3 := L.v3; have t4 := L.t4; have a4 := L.a4; have z4 := L.z4; have v4 := L.v4; have t22 := L.t22; have a22 := L.a22; have z22 := L.z22; have v22 := L.v22; have t25 := L.t25; have a25 := L.a25; have z25 := L.z25; have v25 := L.v25
  have e6 : ∀ args w, (callFunc (ρ.f 6) args).run P w = .ok (.enter (ρ.f 6) args) w := L.f6.enters rfl
  have hC := Lib.hid (idxFn { L with } r aE zE g lb eg S v xs w p hs hp)
  obtain ⟨_, _, FG⟩ := L.f8
  generalize idxP p xs = i at hC ⊢
  clear hs hp
  go_enter FG, SlBodyH.n8_ntmps ρ
  go_wp2_with (go_at_fn (ρ.f 6); refine hC.out.mono ?_; rintro e w' ⟨rfl, hb'⟩)
  go_ret
  exact ⟨rfl, hb'⟩

set_option maxHeartbeats 2000000 in
set_option maxRecDepth 100000 in
theorem clone_empty (L : SlLaysE0.n41 P ρ) (i0 : TypeInfo) (z : Value) (size bytes : Nat) (hi : P.info? (ρ.t 23) = some i0) (hz0 : i0.zero = some z) (hz1 : i0.size = size) (hz2 : i0.bytes = bytes) (hzs : z.cells.size = size) (hsz : 0 < size)
    (z23 : ∀ w, (Go.sizeOf (ρ.t 23)).run P w = .ok size w) (ad : Addr) (c : Nat) (w : World) :
    Calls P (ρ.f 41) #[.slice (some ad) 0 c] w fun e w' => ∃ v', e = .returned v' ∧ w'.ownsRow w.heap.size (ρ.t 23) size v' 0 [] ∧ Below w.heap.size w w' := by
  have mixed := L.mixed; have t4 := L.t4; have a4 := L.a4; have z4 := L.z4; have v4 := L.v4; have t22 := L.t22; have a22 := L.a22; have z22 := L.z22; have v22 := L.v22
  have q22 : ∀ (w : World) (a : Option Addr) (n c n' c' : Nat), (binOp .eql (ρ.t 22) (.slice a n c) (.slice none n' c')).run P w = .ok (.bool a.isNone) w := fun w a n c n' c' => Lib.run_eql_slice_nil w _ _ a n c n' c' L.t22
  have u22 : ∀ w, Sem.run P (underlying (ρ.t 22)) w = .ok (TypeDesc.slice (ρ.t 23)) w := run_underlying t22
  obtain ⟨_, _, FG⟩ := L.f41
  go_enter FG, SlBodyN.n41_ntmps ρ
  go_wp2_with (at_builtin; refine wpList_append_own _ rfl _ _ (ρ.t 22) rfl w.heap.size (ρ.t 23) i0 z size bytes t22 hi hz0 hz1 hz2 hzs hsz _ _ _ rfl (World.ownsRow_made w #[] 0 (Nat.le_refl _) (Nat.zero_le _) (by simp)) ad 0 c [] rfl (by simp) (by simp) (by simp) (by unfold maxLen; omega) (by simp) (by simp) ?_)
  intro v' w1 hown hgrow hnil
  go_wp2
  go_ret
  refine ⟨v', rfl, by simpa using hown, ?_⟩
  exact ((Below.refl _ w).alloc (Nat.le_refl _) _).grown hgrow (by simp) (by intro k hk; simp [Value.ownBlock] at hk; omega)

/-- What slices.Clone leaves: a row of the call's own with the same elements. -/
def Cloned (r : Rd T) (E : TypeId) (S : Nat → Prop) (w : World) (xs : List T) (e : Ending) (w' : World) : Prop :=
  ∃ p cap css, e = .returned (.slice p xs.length cap) ∧ Own r E S w.heap.size w' (.slice p xs.length cap) xs css ∧ Below w.heap.size w w'
theorem Own.form {r : Rd T} {E : TypeId} {S : Nat → Prop} {B : Nat} {w : World} {v : Value} {xs : List T} {css : List (List Value)} (h : Own r E S B w v xs css) : ∃ p cap, v = .slice p xs.length cap := by
  rcases h.row.2 with ⟨rfl, h0⟩ | ⟨g, cap, cur, rfl, _⟩
  · exact ⟨none, 0, by rw [h0]⟩
  · exact ⟨_, _, rfl⟩
theorem cloned_of {r : Rd T} {E : TypeId} {S : Nat → Prop} {w w' : World} {v : Value} {xs : List T} {css : List (List Value)} (h : Own r E S w.heap.size w' v xs css) (hb : Below w.heap.size w w') : Cloned r E S w xs (.returned v) w' := by
  obtain ⟨p, cap, rfl⟩ := h.form
  exact ⟨p, cap, css, rfl, h, hb⟩
theorem cloneFn (L : SlLaysE0.n41 P ρ) (r : Rd T) (hk : 0 < r.k) (bytes : Nat) (i0 : TypeInfo) (z : Value) (hi : P.info? (ρ.t 23) = some i0) (hz0 : i0.zero = some z) (hz1 : i0.size = r.k) (hz2 : i0.bytes = bytes) (hzs : z.cells.size = r.k)
    (z23 : ∀ w, (Go.sizeOf (ρ.t 23)).run P w = .ok r.k w) (hby : bytes ≤ 1000) (h1 : ∀ S w cs x, r.R S w cs x → ∀ u ∈ cs, u.oneCell' = true) (S : Nat → Prop) (v : Value) (xs : List T) (w : World) (hs : Sl r S w v xs) :
    Calls P (ρ.f 41) #[v] w (Cloned r (ρ.t 23) S w xs) := by
  obtain ⟨p, cap, css, rfl, hCs, hne⟩ := hs.css hk
  obtain ⟨_, _, _, hl⟩ := hs.len
  have hown : ∀ w' v', Below w.heap.size w w' → w'.ownsRow w.heap.size (ρ.t 23) r.k v' xs.length css.flatten → Own r (ρ.t 23) S w.heap.size w' v' xs css := by
    intro w' v' hb ho
    refine ⟨ho, hCs.move (.of_below hb) (fun b hb h => ⟨h, fun e => ?_⟩)⟩
    have := (ho.lt b e.symm).1
    omega
  by_cases hx : xs = []
  · subst hx
    have hcs0 : css = [] := List.eq_nil_of_length_eq_zero hCs.len
    subst hcs0
    rcases p with _ | ad
    · refine (AnyE.slices_Clone_nil L 0 cap w).mono ?_
      rintro e w' ⟨rfl, rfl⟩
      exact cloned_of (hown _ _ (Below.refl _ _) (by simpa using World.ownsRow_nil w' w'.heap.size (ρ.t 23) r.k)) (Below.refl _ _)
    · refine (clone_empty L i0 z r.k bytes hi hz0 hz1 hz2 hzs hk z23 ad cap w).mono ?_
      rintro e w' ⟨v', rfl, ho, hb'⟩
      exact cloned_of (hown _ _ hb' (by simpa using ho)) hb'
  · obtain ⟨b, off, rfl, hS, hb, hc⟩ := hne hx
    refine (AnyE.slices_Clone L i0 z r.k bytes hi hz0 hz1 hz2 hzs hk z23 b off xs.length cap css.flatten w hCs.flat (by unfold maxLen; omega) (by
      have := Nat.mul_le_mul hl hby; omega) hc (fun u hu => ?_)).mono ?_
    · obtain ⟨c, hcm, huc⟩ := List.mem_flatten.1 hu
      obtain ⟨i, hi⟩ := List.getElem?_of_mem hcm
      have hil := (List.getElem?_eq_some_iff.1 hi).1
      exact h1 S w c _ (hCs.R i c _ hi (List.getElem?_eq_getElem (by rw [← hCs.len]; exact hil))) u huc
    · rintro e w' ⟨v', rfl, ho, _, hb'⟩
      exact cloned_of (hown _ _ hb' ho) hb'
end
end Go.Proofs.YthkkmklnapkgaaaGreatDoor

import Derived.Test.YthkkmklnapkgaaaGreatDoorQ34
/- What the constraints of rows.Check answer at tables and rows that are as they should be. -/
namespace Go.Proofs.YthkkmklnapkgaaaGreatDoor
open Go.RowKit Go.Shelf Go.Lib

/-- What is known of a table and its rows. -/
structure TblOk (t : Tbl) (rows : List Val) (p2 p5 : Val → Bool) (K : Val → List Int) : Prop where
  srt : Srt cmpCol t.columns
  few : t.columns.length ≤ 19
  some : t.columns ≠ []
  typed : ∀ x ∈ rows, GoodV x ∧ HasAt x (rowTy t) (p2 x)
  keys : IntKeys t rows K
  many : rows.length ≤ 100000
  key : t.key.length ≤ 1000
  simple : simpF t.check = true
  check : ∀ x ∈ rows, EvV t.check (envOf x) (truV (p5 x)) ∧ x.names.length ≤ x.kids.length
/-- The faults of the constraints, table by table. -/
def cfOf (s : Sc) (l : List Rel) (p2 p5 : Nat → Val → Bool) (K : Nat → Val → List Int) (c i : Nat) : Ft :=
  let rows := (l.getD i ⟨[], []⟩).rows
  match c with
  | 0 => con1 rows
  | 1 => badF 9 (p2 i) rows
  | 2 => uniqF rows (ust rows.length (rows.map fun r => kb (K i r)) rows.length)
  | 3 => refersF s l rows (s.tables.getD i Tbl.zero).refs
  | _ => badF 13 (p5 i) rows

theorem conOk_of (w : World) (S0 S1 : Nat → Prop) (s : Sc) (cs : List Value) (lv : Value) (l : List Rel) (p2 p5 : Nat → Val → Bool) (K : Nat → Val → List Int) (hs : IsSc S0 w cs s) (hl : Sl relRd S1 w lv l) (hkw : KwTab w)
    (hkey : ∀ t ∈ s.tables, t.key.length ≤ 1000) (hok : ∀ (i : Nat) (t : Tbl) (r : Rel), s.tables[i]? = some t → l[i]? = some r → TblOk t r.rows (p2 i) (p5 i) (K i)) : ConOk w s cs lv l (cfOf s l p2 p5 K) := by
  intro c hc i t r ht hr B C W ct rv hb hB hC hct hrv
  have ho := hok i t r ht hr
  have h1 : (l.getD i ⟨[], []⟩).rows = r.rows := by rw [List.getD_eq_getElem?_getD, hr]; rfl
  have h2 : s.tables.getD i Tbl.zero = t := by rw [List.getD_eq_getElem?_getD, ht]; rfl
  have hsW := hs.below hb
  obtain ⟨uv, tv, rfl, hu, hts⟩ := hs
  have hB0 : W.cell? ⟨B, 0, none⟩ = some uv := by rw [cell_of_row _ _ _ _ _ _ hB]; rfl
  have hB1 : W.cell? ⟨B, 1, none⟩ = some tv := by rw [cell_of_row _ _ _ _ _ _ hB]; rfl
  match c, hc with
  | 0, _ =>
    show Calls _ _ #[.agg ct.toArray, rv] W (FtAt _ W (con1 (l.getD i ⟨[], []⟩).rows))
    rw [h1]
    exact con1_any _ _ _ t ct rv r.rows W hct hrv
  | 1, _ =>
    show Calls _ _ #[.agg ct.toArray, rv, .pointer (some ⟨B, 0, none⟩)] W (FtAt _ W (badF 9 (p2 i) (l.getD i ⟨[], []⟩).rows))
    rw [h1]
    obtain ⟨ps, cps, rfl, _⟩ := hu.len
    exact con2_any B _ _ ps _ cps t ct rv r.rows (p2 i) W hB0 hct hrv ho.srt ho.few ho.some ho.typed (hkw.below hb)
  | 2, _ =>
    show Calls _ _ #[.agg ct.toArray, rv] W (FtAt _ W (uniqF (l.getD i ⟨[], []⟩).rows (ust (l.getD i ⟨[], []⟩).rows.length ((l.getD i ⟨[], []⟩).rows.map fun r => kb (K i r)) (l.getD i ⟨[], []⟩).rows.length)))
    rw [h1]
    exact con3_any _ _ t ct rv r.rows (K i) W hct hrv ho.keys ho.many ho.key
  | 3, _ =>
    show Calls _ _ #[.agg ct.toArray, rv, .pointer (some ⟨B, 0, none⟩), .pointer (some ⟨C, 0, none⟩)] W (FtAt _ W (refersF s l (l.getD i ⟨[], []⟩).rows (s.tables.getD i Tbl.zero).refs))
    rw [h1, h2]
    exact con4_any B C S0 S1 _ _ s uv tv lv l t ct rv r.rows W hB0 hB1 hC hsW (hl.below hb) hct hrv hkey
  | 4, _ =>
    show Calls _ _ #[.agg ct.toArray, rv] W (FtAt _ W (badF 13 (p5 i) (l.getD i ⟨[], []⟩).rows))
    rw [h1]
    exact con5_any _ _ t ct rv r.rows (p5 i) W hct hrv ho.simple ho.check

/-- rows.Check at such tables. -/
theorem checkOk (S0 S1 : Nat → Prop) (s : Sc) (cs : List Value) (lv : Value) (l : List Rel) (p2 p5 : Nat → Val → Bool) (K : Nat → Val → List Int) (w : World) (hs : IsSc S0 w cs s) (hl : Sl relRd S1 w lv l) (hkw : KwTab w)
    (hkey : ∀ t ∈ s.tables, t.key.length ≤ 1000) (hok : ∀ (i : Nat) (t : Tbl) (r : Rel), s.tables[i]? = some t → l[i]? = some r → TblOk t r.rows (p2 i) (p5 i) (K i)) :
    Calls Tryz.prog 8 #[.agg cs.toArray, lv] w (CheckIs w s l (cfOf s l p2 p5 K)) :=
  check_any S0 S1 s cs lv l w hs hl _ (conOk_of w S0 S1 s cs lv l p2 p5 K hs hl hkw hkey hok)

/-! ### Faults that are none. -/
theorem badF_none {code : Int} {p : Val → Bool} {rows : List Val} (h : ∀ x ∈ rows, p x = true) : badF code p rows = Ft.zero := by
  unfold badF
  rw [List.findIdx?_eq_none_iff.2 (fun x hx => by simp [h x hx])]
theorem con1_none {rows : List Val} (h : rows.length ≤ 256) : con1 rows = Ft.zero := by unfold con1; rw [if_neg (by omega)]
theorem con1_some {rows : List Val} (h : 256 < rows.length) : (con1 rows).code = 4 := by unfold con1; rw [if_pos h]
theorem ust_none (n : Nat) (ks : List Bs) (hd : ∀ (i j : Nat) (a b : Bs), i < j → ks[i]? = some a → ks[j]? = some b → a ≠ b) : ∀ i, i ≤ ks.length → ust n ks i = (n, 0)
  | 0, _ => rfl
  | i + 1, hi => by
    show ustep (ks.take i) (ust n ks i) (ks.getD i []) = (n, 0)
    rw [ust_none n ks hd i (by omega)]
    unfold ustep
    have hk : ks[i]? = some ks[i] := List.getElem?_eq_getElem (by omega)
    have : firstAt (ks.take i) (ks.getD i []) = none := by
      unfold firstAt
      rw [List.findIdx?_eq_none_iff]
      intro x hx
      obtain ⟨j, hj⟩ := List.getElem?_of_mem hx
      have hjl := (List.getElem?_eq_some_iff.1 hj).1
      rw [List.length_take] at hjl
      rw [List.getElem?_take_of_lt (by omega)] at hj
      have := hd j i x ks[i] (by omega) hj hk
      rw [List.getD_eq_getElem?_getD, hk]
      simpa using this
    rw [this]
theorem uniq_none {rows : List Val} {ks : List Bs} (hl : ks.length = rows.length) (hd : ∀ (i j : Nat) (a b : Bs), i < j → ks[i]? = some a → ks[j]? = some b → a ≠ b) : uniqF rows (ust rows.length ks rows.length) = Ft.zero := by
  rw [ust_none _ _ hd _ (by omega)]
  unfold uniqF
  rw [if_pos rfl]
end Go.Proofs.YthkkmklnapkgaaaGreatDoor

/- The law's example: its tables, rows, and the faults of its states. -/
namespace Go.Proofs.YthkkmklnapkgaaaGreatDoor
open Go.RowKit Go.Shelf Go.Lib

theorem FirstF.none {n : Nat} {cf : Nat → Nat → Ft} {nm : Nat → Bs} {f : Ft} (h : FirstF n cf nm f) (hz : ∀ c i, c < 5 → i < n → (cf c i).code = 0) : f = Ft.zero := by
  rcases h with ⟨h, _⟩ | ⟨c, i, hc, hi, hne, _⟩
  · exact h
  · exact absurd (hz c i hc hi) hne
theorem FirstF.at {n : Nat} {cf : Nat → Nat → Ft} {nm : Nat → Bs} {f : Ft} (h : FirstF n cf nm f) (c0 i0 : Nat) (hc0 : c0 < 5) (hi0 : i0 < n) (hne0 : (cf c0 i0).code ≠ 0) (hb0 : ∀ c i, i < n → (c < c0 ∨ c = c0 ∧ i < i0) → (cf c i).code = 0) :
    f.code = (cf c0 i0).code ∧ f.table = nm i0 := by
  rcases h with ⟨_, h⟩ | ⟨c, i, hc, hi, hne, rfl, hb⟩
  · exact absurd (h c0 i0 hc0 hi0) hne0
  · have h1 : ¬ (c < c0 ∨ c = c0 ∧ i < i0) := fun h => hne (hb0 c i hi h)
    have h2 : ¬ (c0 < c ∨ c0 = c ∧ i0 < i) := fun h => hne0 (hb c0 i0 hi0 h)
    have e1 : c = c0 := by omega
    have e2 : i = i0 := by omega
    subst e1; subst e2
    exact ⟨rfl, rfl⟩
theorem srt_pw {T : Type} {cf : T → T → Int} {xs : List T} (h : xs.Pairwise fun x y => 0 ≤ cf y x) : Srt cf xs := by
  intro i j x y hij hx hy
  obtain ⟨hi, rfl⟩ := List.getElem?_eq_some_iff.1 hx
  obtain ⟨hj, rfl⟩ := List.getElem?_eq_some_iff.1 hy
  exact List.pairwise_iff_getElem.1 h i j hi hj hij

/-- The key of a row whose first field is the key. -/
def K1 (v : Val) : List Int := match v.kids with
  | x :: _ => [x.n]
  | [] => []
def tyK : Ty → Int | .mk k _ _ _ _ => k
theorem has_leafs (x : Val) (y : Ty) (h : tyK y = 0 ∨ tyK y = 1 ∨ tyK y = 2) : HasAt x y (x.kind == tyK y) := by
  obtain ⟨k, s, n, names, kids⟩ := y
  exact hasLeaf x k h s n names kids

namespace Law
def tT : Tbl := ⟨[116], [⟨[97], Gen.whole⟩, ⟨[98], Gen.whole⟩], [[97]], [⟨[98], [117]⟩], Gen.op [60] [Gen.a, Gen.b]⟩
def uT : Tbl := ⟨[117], [⟨[107], Gen.whole⟩], [[107]], [], Gen.yes⟩
def sc : Sc := ⟨[], [tT, uT]⟩
def rT (x y : Int) : Val := vRec [[97], [98]] [vInt x, vInt y]
def rU (x : Int) : Val := vRec [[107]] [vInt x]
def st (l : List (Int × Int)) : List Rel := [⟨[116], l.map fun p => rT p.1 p.2⟩, ⟨[117], [rU 3]⟩]

theorem wordA : WordOk [97] := ⟨by decide, by decide, by intro c hc; simp at hc; subst hc; decide, by decide, by decide⟩
theorem wordB : WordOk [98] := ⟨by decide, by decide, by intro c hc; simp at hc; subst hc; decide, by decide, by decide⟩
theorem wordK : WordOk [107] := ⟨by decide, by decide, by intro c hc; simp at hc; subst hc; decide, by decide, by decide⟩
theorem wordN : WordOk [110] := ⟨by decide, by decide, by intro c hc; simp at hc; subst hc; decide, by decide, by decide⟩
def less (v : Val) : Bool := match v.kids with
  | x :: y :: _ => decide (cmpV x y < 0)
  | _ => true

theorem tT_ok (l : List (Int × Int)) (hl : l.length ≤ 1000) (hb : ∀ p ∈ l, -1000 ≤ p.1 ∧ p.1 ≤ 1000) : TblOk tT (l.map fun p => rT p.1 p.2) (fun _ => true) less K1 where
  srt := srt_pw (by decide)
  few := by decide
  some := by decide
  typed := by
    intro x hx
    obtain ⟨p, hp, rfl⟩ := List.mem_map.1 hx
    refine ⟨.record _ _ rfl ?_ ?_ ?_, ?_⟩
    · intro y hy
      simp at hy
      rcases hy with rfl | rfl
      · exact wordA
      · exact wordB
    · intro i a b ha hb
      match i, ha, hb with
      | 0, ha, hb => simp at ha hb; subst ha; subst hb; decide
      | i + 1, ha, hb => simp at hb
    · intro k hk
      simp at hk
      rcases hk with rfl | rfl <;> exact .int _
    · have := hasRec (rT p.1 p.2) [] [[97], [98]] [Gen.whole, Gen.whole] (fun x y => x.kind == tyK y) (fun x _ y hy => has_leafs x y (by
        simp at hy; subst hy; exact .inl rfl))
      exact this
  keys := ⟨fun r hr => by obtain ⟨p, hp, rfl⟩ := List.mem_map.1 hr; rfl, fun r hr x hx => by
    obtain ⟨p, hp, rfl⟩ := List.mem_map.1 hr
    have := hb p hp
    simp [K1, rT, vRec, Val.kids, vInt, Val.n] at hx
    subst hx; omega, fun r hr => by obtain ⟨p, hp, rfl⟩ := List.mem_map.1 hr; exact (by decide : 1 ≤ 3)⟩
  many := by rw [List.length_map]; omega
  key := by decide
  simple := by decide
  check := by
    intro x hx
    obtain ⟨p, hp, rfl⟩ := List.mem_map.1 hx
    refine ⟨?_, Nat.le_refl 2⟩
    exact ev_less 0 [] [] [] Gen.a Gen.b 0 0 _ (vInt p.1) (vInt p.2) (ev_var [97] 0 [] [] [] [] 0 0 _ _ rfl) (ev_var [98] 0 [] [] [] [] 0 0 _ _ rfl)
theorem uT_ok : TblOk uT [rU 3] (fun _ => true) (fun _ => true) K1 where
  srt := srt_pw (by decide)
  few := by decide
  some := by decide
  typed := by
    intro x hx
    simp at hx
    subst hx
    refine ⟨.record _ _ rfl ?_ ?_ ?_, ?_⟩
    · intro y hy
      simp at hy
      subst hy
      exact wordK
    · intro i a b ha hb
      simp at hb
    · intro k hk
      simp at hk
      subst hk; exact .int _
    · have := hasRec (rU 3) [] [[107]] [Gen.whole] (fun x y => x.kind == tyK y) (fun x _ y hy => has_leafs x y (by
        simp at hy; subst hy; exact .inl rfl))
      exact this
  keys := ⟨fun r hr => by simp at hr; subst hr; rfl, fun r hr x hx => by
    simp at hr; subst hr
    simp [K1, rU, vRec, Val.kids, vInt, Val.n] at hx
    subst hx; omega, fun r hr => by simp at hr; subst hr; decide⟩
  many := by decide
  key := by decide
  simple := by decide
  check := by
    intro x hx
    simp at hx
    subst hx
    refine ⟨?_, by decide⟩
    exact ev_bool [] 1 [] [] [] [] 0 0 _

/-! ### The faults of the example's states. -/
def cf (l : List (Int × Int)) : Nat → Nat → Ft := cfOf sc (st l) (fun _ _ => true) (fun i => if i = 0 then less else fun _ => true) (fun _ => K1)
theorem st_ok (l : List (Int × Int)) (hl : l.length ≤ 1000) (hb : ∀ p ∈ l, -1000 ≤ p.1 ∧ p.1 ≤ 1000) (i : Nat) (t : Tbl) (r : Rel) (ht : sc.tables[i]? = some t) (hr : (st l)[i]? = some r) :
    TblOk t r.rows ((fun _ _ => true : Nat → Val → Bool) i) ((fun i => if i = 0 then less else fun _ => true : Nat → Val → Bool) i) ((fun _ => K1 : Nat → Val → List Int) i) := by
  match i, ht, hr with
  | 0, ht, hr =>
    cases ht; cases hr
    exact tT_ok l hl hb
  | 1, ht, hr =>
    cases ht; cases hr
    exact uT_ok
  | i + 2, ht, hr => simp [sc] at ht
theorem cf_u (l : List (Int × Int)) (c : Nat) (hc : c < 5) : (cf l c 1).code = 0 := by
  match c, hc with
  | 0, _ => show (con1 [rU 3]).code = 0; rw [con1_none (by decide)]; rfl
  | 1, _ => show (badF 9 (fun _ => true) [rU 3]).code = 0; rw [badF_none (fun _ _ => rfl)]; rfl
  | 2, _ =>
    show (uniqF [rU 3] (ust [rU 3].length ([rU 3].map fun r => kb (K1 r)) [rU 3].length)).code = 0
    rw [uniq_none rfl (fun i j a b hij ha hb => by
      have h1 := (List.getElem?_eq_some_iff.1 hb).1
      simp at h1
      omega)]
    rfl
  | 3, _ => rfl
  | 4, _ => show (badF 13 (fun _ => true) [rU 3]).code = 0; rw [badF_none (fun _ _ => rfl)]; rfl
theorem cf_t0 (l : List (Int × Int)) (hl : l.length ≤ 256) : (cf l 0 0).code = 0 := by
  show (con1 (l.map fun p => rT p.1 p.2)).code = 0
  rw [con1_none (by rw [List.length_map]; exact hl)]; rfl
theorem cf_t1 (l : List (Int × Int)) : (cf l 1 0).code = 0 := by
  show (badF 9 (fun _ => true) (l.map fun p => rT p.1 p.2)).code = 0
  rw [badF_none (fun _ _ => rfl)]; rfl
theorem kb1_inj {a b : Int} (h : kb [a] = kb [b]) : a = b := by
  unfold kb at h
  simp at h
  exact encI_inj h
theorem cf_t2 (l : List (Int × Int)) (hd : (l.map Prod.fst).Pairwise (· ≠ ·)) : (cf l 2 0).code = 0 := by
  show (uniqF (l.map fun p => rT p.1 p.2) (ust (l.map fun p => rT p.1 p.2).length ((l.map fun p => rT p.1 p.2).map fun r => kb (K1 r)) (l.map fun p => rT p.1 p.2).length)).code = 0
  rw [uniq_none (by rw [List.length_map]) (fun i j a b hij ha hb => ?_)]
  · rfl
  · rw [List.map_map, List.getElem?_map] at ha hb
    cases hx : l[i]? with
    | none => rw [hx] at ha; cases ha
    | some x =>
      cases hy : l[j]? with
      | none => rw [hy] at hb; cases hb
      | some y =>
        rw [hx] at ha; rw [hy] at hb
        cases ha; cases hb
        intro e
        have e1 : x.1 = y.1 := kb1_inj e
        obtain ⟨hi, hx'⟩ := List.getElem?_eq_some_iff.1 hx
        obtain ⟨hj, hy'⟩ := List.getElem?_eq_some_iff.1 hy
        have := List.pairwise_iff_getElem.1 hd i j (by simpa using hi) (by simpa using hj) hij
        simp only [List.getElem_map] at this
        rw [hx', hy'] at this
        exact this e1
theorem cf_t2d (a x y : Int) : (cf [(a, x), (a, y)] 2 0).code = 11 := by
  show (uniqF [rT a x, rT a y] (ust 2 [kb [a], kb [a]] 2)).code = 11
  generalize kb [a] = k
  have : ust 2 [k, k] 2 = (0, 1) := by
    show ustep [k] (ustep [] (2, 0) k) k = (0, 1)
    have h1 : firstAt [] k = none := rfl
    have h2 : firstAt [k] k = some 0 := by unfold firstAt; simp
    unfold ustep
    rw [h1]
    simp only [h2]
    rfl
  rw [this]
  rfl
theorem refT (l : List (Int × Int)) (a y : Int) : refP sc (st l) ⟨[98], [117]⟩ (rT a y) = decide (y = 3) := by
  show (lookF sc (st l) [117] [vInt y]).isSome = _
  have h1 : lookF sc (st l) [117] [vInt y] = atP (lkP [[107]] [vInt y]) [rU 3] := rfl
  rw [h1]
  have h2 : lkP [[107]] [vInt y] (rU 3) = decide (y = 3) := by
    show eqL eqv [vInt 3] [vInt y] = _
    simp only [eqL, Bool.and_true]
    unfold eqv
    rw [decide_eq_decide]
    simp [key, vInt]
    exact eq_comm
  unfold atP
  by_cases h : y = 3
  · subst h; simp [h2]
  · simp [h2, h]
theorem cf_t3 (l : List (Int × Int)) (h : ∀ p ∈ l, p.2 = 3) : (cf l 3 0).code = 0 := by
  show (refersF sc (st l) (l.map fun p => rT p.1 p.2) [⟨[98], [117]⟩]).code = 0
  have : badF 12 (refP sc (st l) ⟨[98], [117]⟩) (l.map fun p => rT p.1 p.2) = Ft.zero := badF_none (fun x hx => by
    obtain ⟨p, hp, rfl⟩ := List.mem_map.1 hx
    rw [refT, h p hp]; rfl)
  unfold refersF
  rw [this]
  rfl
theorem cf_t3d (a b y : Int) (hy : y ≠ 3) : (cf [(a, 3), (b, y)] 3 0).code = 12 := by
  show (refersF sc (st [(a, 3), (b, y)]) [rT a 3, rT b y] [⟨[98], [117]⟩]).code = 12
  have : (badF 12 (refP sc (st [(a, 3), (b, y)]) ⟨[98], [117]⟩) [rT a 3, rT b y]).code = 12 := by
    unfold badF
    simp [List.findIdx?_cons, refT, hy]
  unfold refersF
  rw [this, if_neg (by decide)]
  exact this
theorem less_rT (x y : Int) : less (rT x y) = decide (x < y) := by
  show decide (cmpV (vInt x) (vInt y) < 0) = _
  rw [decide_eq_decide]
  simp [cmpV, vInt]
  exact ord_lt
theorem cf_t4 (l : List (Int × Int)) (h : ∀ p ∈ l, p.1 < p.2) : (cf l 4 0).code = 0 := by
  show (badF 13 less (l.map fun p => rT p.1 p.2)).code = 0
  rw [badF_none (fun x hx => by
    obtain ⟨p, hp, rfl⟩ := List.mem_map.1 hx
    rw [less_rT]; exact decide_eq_true (h p hp))]
  rfl
theorem cf_t4d (a b x y : Int) (h1 : a < x) (h2 : ¬ b < y) : (cf [(a, x), (b, y)] 4 0).code = 13 := by
  show (badF 13 less [rT a x, rT b y]).code = 13
  unfold badF
  simp [List.findIdx?_cons, less_rT, h1, h2]

/-- The state with the rows l (first, second field) of t and one row of u is normal. -/
theorem st_norm (l : List (Int × Int)) (h : incV (l.map fun p => rT p.1 p.2) = true) : normF sc (st l) = true := by
  show (incV (l.map fun p => rT p.1 p.2) && decide (([116] : Bs) = [116]) && ((incV [rU 3] && decide (([117] : Bs) = [117])) && true)) = true
  rw [h]; rfl
theorem inc1 (a b : Int) : incV ([(a, b)].map fun p => rT p.1 p.2) = true := rfl
theorem cmp_rT (a b c d : Int) : cmpV (rT a b) (rT c d) = thn (ord a c) (thn (ord b d) 0) := by
  simp [rT, vRec, vInt, cmpV, cmpVs, cmpN, cmpB, ord_self, thn]
theorem inc2 (a b c d : Int) (h : a < c ∨ a = c ∧ b < d) : incV ([(a, b), (c, d)].map fun p => rT p.1 p.2) = true := by
  show (decide (cmpV (rT a b) (rT c d) < 0) && true) = true
  rw [Bool.and_true, decide_eq_true_eq, cmp_rT]
  rcases h with h | ⟨rfl, h⟩
  · have : ord a c = -1 := by unfold ord; rw [if_pos h]
    rw [this]; show (-1 : Int) < 0; omega
  · rw [ord_self, thn_zero]
    have : ord b d = -1 := by unfold ord; rw [if_pos h]
    rw [this]; decide
/-- The fault's code for each of the example's states. -/
theorem code0 {f : Ft} (h : FirstF sc.tables.length (cf [(1, 3)]) (fun i => ((sc.tables[i]?).getD Tbl.zero).name) f) : f.code = 0 := by
  rw [h.none (fun c i hc hi => ?_)]
  · rfl
  · have hi' : i < 2 := hi
    match i, hi' with
    | 1, _ => exact cf_u _ c hc
    | 0, _ =>
      match c, hc with
      | 0, _ => exact cf_t0 _ (by decide)
      | 1, _ => exact cf_t1 _
      | 2, _ => exact cf_t2 _ (by decide)
      | 3, _ => exact cf_t3 _ (by decide)
      | 4, _ => exact cf_t4 _ (by decide)
theorem code1 {f : Ft} (h : FirstF sc.tables.length (cf [(1, 3), (1, 4)]) (fun i => ((sc.tables[i]?).getD Tbl.zero).name) f) : f.code = 11 := by
  have h2 := cf_t2d 1 3 4
  rw [(h.at 2 0 (by decide) (by decide) (by rw [h2]; decide) (fun c i hi hb => ?_)).1, h2]
  have hi' : i < 2 := hi
  match i, hi' with
  | 1, _ => exact cf_u _ c (by omega)
  | 0, _ =>
    match c, hb with
    | 0, _ => exact cf_t0 _ (by decide)
    | 1, _ => exact cf_t1 _
    | c + 2, hb => omega
theorem code2 {f : Ft} (h : FirstF sc.tables.length (cf [(1, 3), (2, 4)]) (fun i => ((sc.tables[i]?).getD Tbl.zero).name) f) : f.code = 12 := by
  have h2 := cf_t3d 1 2 4 (by decide)
  rw [(h.at 3 0 (by decide) (by decide) (by rw [h2]; decide) (fun c i hi hb => ?_)).1, h2]
  have hi' : i < 2 := hi
  match i, hi' with
  | 1, _ => exact cf_u _ c (by omega)
  | 0, _ =>
    match c, hb with
    | 0, _ => exact cf_t0 _ (by decide)
    | 1, _ => exact cf_t1 _
    | 2, _ => exact cf_t2 _ (by decide)
    | c + 3, hb => omega
theorem code3 {f : Ft} (h : FirstF sc.tables.length (cf [(1, 3), (5, 3)]) (fun i => ((sc.tables[i]?).getD Tbl.zero).name) f) : f.code = 13 := by
  have h2 := cf_t4d 1 5 3 3 (by decide) (by decide)
  rw [(h.at 4 0 (by decide) (by decide) (by rw [h2]; decide) (fun c i hi hb => ?_)).1, h2]
  have hi' : i < 2 := hi
  match i, hi' with
  | 1, _ => exact cf_u _ c (by omega)
  | 0, _ =>
    match c, hb with
    | 0, _ => exact cf_t0 _ (by decide)
    | 1, _ => exact cf_t1 _
    | 2, _ => exact cf_t2 _ (by decide)
    | 3, _ => exact cf_t3 _ (by decide)
    | c + 4, hb => omega
end Law
end Go.Proofs.YthkkmklnapkgaaaGreatDoor

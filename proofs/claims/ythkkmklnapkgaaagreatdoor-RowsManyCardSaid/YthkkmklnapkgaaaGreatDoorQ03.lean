import Derived.Test.YthkkmklnapkgaaaGreatDoorQ02
import Derived.Test.YthkkmklnapkgaaaGreatDoorProg
import Derived.WalkKit
import Derived.WalkSpells
import Derived.WalkLawsBesides
import Derived.Outline
import Derived.Lib.Hide
import Derived.Handy
/- Reading types and expressions out of memory. -/
namespace Go.Proofs.YthkkmklnapkgaaaGreatDoor
open Go.RowKit

/-- A type of the package api. -/
inductive Ty where
  | mk (kind : Int) (name : Bs) (n : Int) (names : List Bs) (kids : List Ty)
/-- An expression of the package api. -/
inductive Ex where
  | mk (kind : Int) (name : Bs) (n : Int) (s : Bs) (names binds : List Bs) (kids : List Ex) (a z : Int)

/-- A type in five cells. -/
inductive IsTy (S : Nat → Prop) (w : World) : List Value → Ty → Prop
  | mk (k n : Int) (s : Bs) (names : List Bs) (kids : List Ty) (nv : Value) (p : Option Addr) (cap b off : Nat) (cs : Nat → List Value) (hs : s.length ≤ 1000000) (hn : Sl strRd S w nv names) (hl : kids.length ≤ 1000000)
      (hp : kids ≠ [] → p = some ⟨b, off, none⟩ ∧ S b ∧ b < w.heap.size) (hc : ∀ i x, kids[i]? = some x → ∀ j u, (cs i)[j]? = some u → w.cell? ⟨b, off + i * 5 + j, none⟩ = some u)
      (hr : ∀ i x, kids[i]? = some x → IsTy S w (cs i) x) : IsTy S w [.int .i64 k, sv s, .int .i64 n, nv, .slice p kids.length cap] (.mk k s n names kids)

theorem IsTy.length {S : Nat → Prop} {w : World} {cs : List Value} {x : Ty} (h : IsTy S w cs x) : cs.length = 5 := by cases h; rfl
theorem IsTy.move {S S' : Nat → Prop} {w w' : World} {cs : List Value} {x : Ty} (h : IsTy S w cs x) (hA : Agree S w w') (hS : ∀ b, b < w.heap.size → S b → S' b) : IsTy S' w' cs x := by
  induction h with
  | mk k n s names kids nv p cap b off cs hs hn hl hp hc hr ih =>
    refine .mk k n s names kids nv p cap b off cs hs ((hn.mono (S' := fun b => S b ∧ S' b) (fun b hb h => ⟨h, hS b hb h⟩)).frame (fun b hb => hA b hb.1) |>.mono (fun b _ h => h.2)) hl ?_ ?_ ih
    · intro hne
      obtain ⟨e, h1, h2⟩ := hp hne
      refine ⟨e, hS b h2 h1, ?_⟩
      have := hA b h1 h2
      rw [Array.getElem?_eq_getElem h2] at this
      exact (Array.getElem?_eq_some_iff.1 this).1
    · intro i x hx j u hu
      have hne : kids ≠ [] := by intro e; rw [e] at hx; simp at hx
      exact hA.cell (a := ⟨b, _, none⟩) (hp hne).2.1 (hc i x hx j u hu)
def tyRd : Rd Ty where
  k := 5
  R := IsTy
  len h := h.length
  frame h hA := h.move hA (fun _ _ h => h)
  mono h hS := h.move (.refl _ _) hS

theorem isTy_mk {S : Nat → Prop} {w : World} {k n : Int} {s : Bs} {names : List Bs} {kids : List Ty} {nv kv : Value} (hs : s.length ≤ 1000000) (hn : Sl strRd S w nv names) (hk : Sl tyRd S w kv kids) :
    IsTy S w [.int .i64 k, sv s, .int .i64 n, nv, kv] (.mk k s n names kids) := by
  obtain ⟨p, cap, rfl, hl, h⟩ := hk
  by_cases hne : kids = []
  · subst hne
    exact .mk k n s names [] nv p cap 0 0 (fun _ => []) hs hn hl (fun h => absurd rfl h) (fun i x hx => by simp at hx) (fun i x hx => by simp at hx)
  · obtain ⟨b, off, e, hS, hb, hc⟩ := h hne
    obtain ⟨cs, hcs⟩ : ∃ cs : Nat → List Value, ∀ i x, kids[i]? = some x → (∀ j u, (cs i)[j]? = some u → w.cell? ⟨b, off + i * 5 + j, none⟩ = some u) ∧ IsTy S w (cs i) x := by
      refine ⟨fun i => if h : i < kids.length then Classical.choose (hc i kids[i] (List.getElem?_eq_getElem h)) else [], fun i x hx => ?_⟩
      obtain ⟨hi, rfl⟩ := List.getElem?_eq_some_iff.1 hx
      simp only [dif_pos hi]
      exact Classical.choose_spec (hc i kids[i] (List.getElem?_eq_getElem hi))
    exact .mk k n s names kids nv p cap b off cs hs hn hl (fun _ => ⟨e, hS, hb⟩) (fun i x hx => (hcs i x hx).1) (fun i x hx => (hcs i x hx).2)
theorem isTy_iff {S : Nat → Prop} {w : World} {cs : List Value} {k n : Int} {s : Bs} {names : List Bs} {kids : List Ty} :
    IsTy S w cs (.mk k s n names kids) ↔ ∃ nv kv, cs = [.int .i64 k, sv s, .int .i64 n, nv, kv] ∧ s.length ≤ 1000000 ∧ Sl strRd S w nv names ∧ Sl tyRd S w kv kids := by
  constructor
  · intro h
    cases h with
    | mk _ _ _ _ _ nv p cap b off cs hs hn hl hp hc hr =>
      exact ⟨nv, _, rfl, hs, hn, p, cap, rfl, hl, fun hne => ⟨b, off, (hp hne).1, (hp hne).2.1, (hp hne).2.2, fun i x hx => ⟨cs i, hc i x hx, hr i x hx⟩⟩⟩
  · rintro ⟨nv, kv, rfl, hs, hn, hk⟩
    exact isTy_mk hs hn hk

/-- An expression in nine cells. -/
inductive IsEx (S : Nat → Prop) (w : World) : List Value → Ex → Prop
  | mk (k : Int) (nm : Bs) (n : Int) (s : Bs) (names binds : List Bs) (kids : List Ex) (a z : Int) (nv bv : Value) (p : Option Addr) (cap b off : Nat) (cs : Nat → List Value) (hm : nm.length ≤ 1000000) (hs : s.length ≤ 1000000) (hn : Sl strRd S w nv names) (hb : Sl strRd S w bv binds) (hl : kids.length ≤ 1000000)
      (hp : kids ≠ [] → p = some ⟨b, off, none⟩ ∧ S b ∧ b < w.heap.size) (hc : ∀ i x, kids[i]? = some x → ∀ j u, (cs i)[j]? = some u → w.cell? ⟨b, off + i * 9 + j, none⟩ = some u)
      (hr : ∀ i x, kids[i]? = some x → IsEx S w (cs i) x) : IsEx S w [.int .i64 k, sv nm, .int .i64 n, sv s, nv, bv, .slice p kids.length cap, .int .i64 a, .int .i64 z] (.mk k nm n s names binds kids a z)

theorem IsEx.length {S : Nat → Prop} {w : World} {cs : List Value} {x : Ex} (h : IsEx S w cs x) : cs.length = 9 := by cases h; rfl
theorem IsEx.move {S S' : Nat → Prop} {w w' : World} {cs : List Value} {x : Ex} (h : IsEx S w cs x) (hA : Agree S w w') (hS : ∀ b, b < w.heap.size → S b → S' b) : IsEx S' w' cs x := by
  induction h with
  | mk k nm n s names binds kids a z nv bv p cap b off cs hm hs hn hb hl hp hc hr ih =>
    refine .mk k nm n s names binds kids a z nv bv p cap b off cs hm hs ((hn.mono (S' := fun b => S b ∧ S' b) (fun b hb h => ⟨h, hS b hb h⟩)).frame (fun b hb => hA b hb.1) |>.mono (fun b _ h => h.2)) ((hb.mono (S' := fun b => S b ∧ S' b) (fun b hb' h => ⟨h, hS b hb' h⟩)).frame (fun b hb' => hA b hb'.1) |>.mono (fun b _ h => h.2)) hl ?_ ?_ ih
    · intro hne
      obtain ⟨e, h1, h2⟩ := hp hne
      refine ⟨e, hS b h2 h1, ?_⟩
      have := hA b h1 h2
      rw [Array.getElem?_eq_getElem h2] at this
      exact (Array.getElem?_eq_some_iff.1 this).1
    · intro i x hx j u hu
      have hne : kids ≠ [] := by intro e; rw [e] at hx; simp at hx
      exact hA.cell (a := ⟨b, _, none⟩) (hp hne).2.1 (hc i x hx j u hu)
def exRd : Rd Ex where
  k := 9
  R := IsEx
  len h := h.length
  frame h hA := h.move hA (fun _ _ h => h)
  mono h hS := h.move (.refl _ _) hS

theorem isEx_mk {S : Nat → Prop} {w : World} {k : Int} {nm : Bs} {n : Int} {s : Bs} {names binds : List Bs} {kids : List Ex} {a z : Int} {nv bv kv : Value} (hm : nm.length ≤ 1000000) (hs : s.length ≤ 1000000) (hn : Sl strRd S w nv names) (hb : Sl strRd S w bv binds) (hk : Sl exRd S w kv kids) :
    IsEx S w [.int .i64 k, sv nm, .int .i64 n, sv s, nv, bv, kv, .int .i64 a, .int .i64 z] (.mk k nm n s names binds kids a z) := by
  obtain ⟨p, cap, rfl, hl, h⟩ := hk
  by_cases hne : kids = []
  · subst hne
    exact .mk k nm n s names binds [] a z nv bv p cap 0 0 (fun _ => []) hm hs hn hb hl (fun h => absurd rfl h) (fun i x hx => by simp at hx) (fun i x hx => by simp at hx)
  · obtain ⟨b, off, e, hS, hbb, hc⟩ := h hne
    obtain ⟨cs, hcs⟩ : ∃ cs : Nat → List Value, ∀ i x, kids[i]? = some x → (∀ j u, (cs i)[j]? = some u → w.cell? ⟨b, off + i * 9 + j, none⟩ = some u) ∧ IsEx S w (cs i) x := by
      refine ⟨fun i => if h : i < kids.length then Classical.choose (hc i kids[i] (List.getElem?_eq_getElem h)) else [], fun i x hx => ?_⟩
      obtain ⟨hi, rfl⟩ := List.getElem?_eq_some_iff.1 hx
      simp only [dif_pos hi]
      exact Classical.choose_spec (hc i kids[i] (List.getElem?_eq_getElem hi))
    exact .mk k nm n s names binds kids a z nv bv p cap b off cs hm hs hn hb hl (fun _ => ⟨e, hS, hbb⟩) (fun i x hx => (hcs i x hx).1) (fun i x hx => (hcs i x hx).2)
theorem isEx_iff {S : Nat → Prop} {w : World} {cs : List Value} {k : Int} {nm : Bs} {n : Int} {s : Bs} {names binds : List Bs} {kids : List Ex} {a z : Int} :
    IsEx S w cs (.mk k nm n s names binds kids a z) ↔ ∃ nv bv kv, cs = [.int .i64 k, sv nm, .int .i64 n, sv s, nv, bv, kv, .int .i64 a, .int .i64 z] ∧ nm.length ≤ 1000000 ∧ s.length ≤ 1000000 ∧ Sl strRd S w nv names ∧ Sl strRd S w bv binds ∧ Sl exRd S w kv kids := by
  constructor
  · intro h
    cases h with
    | mk _ _ _ _ _ _ _ _ _ nv bv p cap b off cs hm hs hn hb hl hp hc hr =>
      exact ⟨nv, bv, _, rfl, hm, hs, hn, hb, p, cap, rfl, hl, fun hne => ⟨b, off, (hp hne).1, (hp hne).2.1, (hp hne).2.2, fun i x hx => ⟨cs i, hc i x hx, hr i x hx⟩⟩⟩
  · rintro ⟨nv, bv, kv, rfl, hm, hs, hn, hb, hk⟩
    exact isEx_mk hm hs hn hb hk
end Go.Proofs.YthkkmklnapkgaaaGreatDoor

/- The plain rows: relations, keys, insertion, deletion, in words of keys. -/
namespace Go.Proofs.YthkkmklnapkgaaaGreatDoor

/-- Two values are equal in the order of values. -/
def eqv (a b : Val) : Bool := decide (key a = key b)
theorem eqv_iff {a b : Val} : eqv a b = true ↔ key a = key b := by unfold eqv; exact decide_eq_true_iff
theorem eqv_cmp (a b : Val) : decide (cmpV a b = 0) = eqv a b := by unfold eqv; rw [decide_eq_decide]; exact cmpV_zero
theorem eqv_comm (a b : Val) : eqv a b = eqv b a := by unfold eqv; rw [decide_eq_decide]; exact eq_comm

/-- A relation: the rows of a table. -/
structure Rel where
  table : Bs
  rows : List Val

/-- The rows of a table. -/
def relAt (l : List Rel) (t : Bs) : Option Nat := l.findIdx? (fun r => decide (r.table = t))
def rowsOf (l : List Rel) (t : Bs) : List Val := match relAt l t with
  | some i => (l.getD i ⟨[], []⟩).rows
  | none => []

/-- A row put among others in front of the first greater one, unless it is there. -/
def hasV (l : List Val) (x : Val) : Bool := l.any (fun y => eqv y x)
def placeV (l : List Val) (x : Val) : Nat := (l.takeWhile (fun y => decide (cmpV y x ≤ 0))).length
def putV (l : List Val) (x : Val) : List Val := if hasV l x then l else l.take (placeV l x) ++ x :: l.drop (placeV l x)
def insS (l : List Rel) (t : Bs) (x : Val) : List Rel := match relAt l t with
  | some i => l.set i ⟨(l.getD i ⟨[], []⟩).table, putV (l.getD i ⟨[], []⟩).rows x⟩
  | none => l
def delV (l : List Val) (x : Val) : List Val := l.filter (fun y => !eqv y x)
def delS (l : List Rel) (t : Bs) (x : Val) : List Rel := match relAt l t with
  | some i => l.set i ⟨(l.getD i ⟨[], []⟩).table, delV (l.getD i ⟨[], []⟩).rows x⟩
  | none => l

/-- The place of a name. -/
def nameAt (l : List Bs) (x : Bs) : Option Nat := l.findIdx? (fun y => decide (y = x))
/-- A field of a record. -/
def getF (v : Val) (name : Bs) : Option Val := if v.kind = 4 then (match nameAt v.names name with
  | some i => v.kids[i]?
  | none => none) else none
/-- The values of a key; nothing if one lacks. -/
def keyOf : List Bs → Val → Option (List Val)
  | [], _ => some []
  | k :: ks, row => match getF row k, keyOf ks row with
    | some v, some l => some (v :: l)
    | _, _ => none
def sameVs (a b : List Val) : Bool := decide (a.map key = b.map key)

theorem sameVs_cons (a b : Val) (s t : List Val) : sameVs (a :: s) (b :: t) = (eqv a b && sameVs s t) := by
  unfold sameVs eqv
  rw [← Bool.decide_and, decide_eq_decide]
  simp

theorem putV_keys (l : List Val) (x : Val) (h : hasV l x = false) : putV l x = l.take (placeV l x) ++ x :: l.drop (placeV l x) := by unfold putV; rw [if_neg (by simp [h])]
end Go.Proofs.YthkkmklnapkgaaaGreatDoor

/- The plain schema: tables, checks; the schemas that the generator makes. -/
namespace Go.Proofs.YthkkmklnapkgaaaGreatDoor

structure Ct where
  name : Bs
  has : Bool
  arg : Ty
structure Sm where
  name : Bs
  ctors : List Ct
structure Col where
  name : Bs
  type : Ty
structure Rf where
  column : Bs
  table : Bs
structure Tbl where
  name : Bs
  columns : List Col
  key : List Bs
  refs : List Rf
  check : Ex
structure Sc where
  sums : List Sm
  tables : List Tbl

namespace Gen
def ty (k : Int) : Ty := .mk k [] 0 [] []
def whole : Ty := ty 0
def text : Ty := ty 1
def yesno : Ty := ty 2
def hueT : Ty := .mk 3 [72, 117, 101] 0 [] []
def hue : Sm := ⟨[72, 117, 101], [⟨[82, 101, 100], false, ty 0⟩, ⟨[68, 97, 114, 107], true, whole⟩]⟩
def var (x : Bs) : Ex := .mk 3 x 0 [] [] [] [] 0 0
def int (n : Int) : Ex := .mk 0 [] n [] [] [] [] 0 0
def bool (n : Int) : Ex := .mk 2 [] n [] [] [] [] 0 0
def str (s : Bs) : Ex := .mk 1 [] 0 s [] [] [] 0 0
def op (o : Bs) (l : List Ex) : Ex := .mk 14 o 0 [] [] [] l 0 0
def a : Ex := var [97]
def b : Ex := var [98]
def c : Ex := var [99]
def d : Ex := var [100]
def e : Ex := var [101]
def one : Ex := int 1
def yes : Ex := bool 1
def rec : Ex := .mk 6 [] 0 [] [[121], [120]] [] [a, b] 0 0
def wth : Ex := .mk 7 [] 0 [] [[120]] [] [rec, one] 0 0
/-- The check that a number chooses. -/
def check : Nat → Ex
  | 0 => yes
  | 1 => yes
  | 2 => yes
  | 3 => op [60, 61] [a, op [43] [b, op [42] [one, one]]]
  | 4 => op [111, 114] [d, op [33, 61] [c, str [97, 98]]]
  | 5 => .mk 12 [] 0 [] [] [] [d, op [60] [a, b], op [61, 61] [c, c]] 0 0
  | 6 => .mk 13 [] 0 [] [[82, 101, 100], [68, 97, 114, 107]] [[], [110]] [e, yes, op [60] [var [110], b]] 0 0
  | 7 => op [60] [.mk 8 [120] 0 [] [] [] [wth] 0 0, .mk 8 [121] 0 [] [] [] [rec] 0 0]
  | 8 => .mk 11 [97] 0 [] [] [] [op [45] [a, b], op [97, 110, 100] [op [60] [a, one], op [110, 111, 116] [d]]] 0 0
  | 9 => op [61, 61] [op [43, 43] [c, c], str []]
  | 10 => op [97, 110, 100] [d, op [43] [a, c]]
  | 11 => op [33, 61] [.mk 9 [] 0 [] [] [] [a, b] 0 0, .mk 9 [] 0 [] [] [] [one, a] 0 0]
  | _ => .mk 4 [97, 110, 121] 0 [] [] [] [.mk 9 [] 0 [] [] [] [] 0 0] 0 0
/-- The schema that numbers choose: the check, two key columns or one, the reference, the third table. -/
def schema (k : Nat) (two ref third : Bool) : Sc :=
  ⟨[hue], [⟨[116], [⟨[97], whole⟩, ⟨[98], whole⟩, ⟨[99], text⟩, ⟨[100], yesno⟩, ⟨[101], hueT⟩], if two then [[98], [97]] else [[97]], if ref then [⟨[98], [117]⟩] else [], check k⟩,
    ⟨[117], [⟨[107], whole⟩, ⟨[110], text⟩], [[107]], [], yes⟩] ++ if third then [⟨[118], [⟨[120], whole⟩, ⟨[121], whole⟩], [[120]], [⟨[121], [118]⟩, ⟨[120], [117]⟩], yes⟩] else []⟩
end Gen
end Go.Proofs.YthkkmklnapkgaaaGreatDoor

/- The plain value of a simple expression. -/
namespace Go.Proofs.YthkkmklnapkgaaaGreatDoor

def vInt (n : Int) : Val := .mk 0 n [] [] []
def vText (s : Bs) : Val := .mk 1 0 s [] []
def vBool (b : Bool) : Val := .mk 2 (if b then 1 else 0) [] [] []
def vMake (s : Bs) (l : List Val) : Val := .mk 3 0 s [] l
def vRec (l : List Bs) (m : List Val) : Val := .mk 4 0 [] l m
def vList (l : List Val) : Val := .mk 5 0 [] [] l

/-- A name is a word of at most 16 bytes. -/
def wordB (s : Bs) : Bool := decide (s ≠ [] ∧ (nxt s).2 = s.length ∧ (nxt s).1 = 2 ∧ s.length ≤ 16)
/-- The place of a name among sorted ones: how many are less. -/
def below (l : List Bs) (x : Bs) : Nat := (l.takeWhile (fun y => decide (cmpB y x < 0))).length
def insAt {T : Type} (l : List T) (i : Nat) (x : T) : List T := l.take i ++ x :: l.drop i
/-- A record made field by field. -/
def recGo : List Bs → List Val → List Bs → List Val → Option Val
  | l, m, [], [] => some (vRec l m)
  | l, m, x :: ns, v :: vs => if wordB x = false then none else if x ∈ l then none else recGo (insAt l (below l x) x) (insAt m (below l x) v) ns vs
  | _, _, _, _ => none
def recV (names : List Bs) (vals : List Val) : Option Val := recGo [] [] names vals
/-- A record with another value of a field. -/
def withF (v : Val) (name : Bs) (x : Val) : Option Val := if v.kind = 4 then (match nameAt v.names name with
  | some i => if i < v.kids.length then some (.mk v.kind v.n v.s v.names (v.kids.set i x)) else none
  | none => none) else none
def withGo : List Bs → Val → List Bs → List Val → Option Val
  | _, v, _, [] => some v
  | seen, v, x :: ns, y :: ys => if x ∈ seen then none else match withF v x y with
    | some u => withGo (seen ++ [x]) u ns ys
    | none => none
  | _, _, [], _ :: _ => none

def isB (v : Val) : Bool := decide (v.kind = 2)
def two (o : Bs) (a b : Val) : Option Val :=
  if o = [43] then (if a.kind = 0 ∧ b.kind = 0 then some (vInt (IntKind.i64.wrap (a.n + b.n))) else none)
  else if o = [45] then (if a.kind = 0 ∧ b.kind = 0 then some (vInt (IntKind.i64.wrap (a.n - b.n))) else none)
  else if o = [42] then (if a.kind = 0 ∧ b.kind = 0 then some (vInt (IntKind.i64.wrap (a.n * b.n))) else none)
  else if o = [43, 43] then (if a.kind = 1 ∧ b.kind = 1 ∧ a.s.length + b.s.length ≤ 4096 then some (vText (a.s ++ b.s)) else none)
  else if o = [61, 61] then some (vBool (decide (cmpV a b = 0)))
  else if o = [33, 61] then some (vBool (decide (cmpV a b ≠ 0)))
  else if o = [60] then some (vBool (decide (cmpV a b < 0)))
  else if o = [60, 61] then some (vBool (decide (cmpV a b ≤ 0)))
  else none
def lookE (x : Bs) : List (Bs × Val) → Option Val
  | [] => none
  | (y, v) :: env => if y = x then some v else lookE x env

/-- The value of a simple expression; none: it has none. -/
def ev : Nat → Ex → List (Bs × Val) → Option Val
  | 0, _, _ => none
  | f + 1, .mk k nm n s names binds kids _ _, env =>
    let kid : Nat → List (Bs × Val) → Option Val := fun i env => match kids[i]? with
      | some e => ev f e env
      | none => none
    let all : Option (List Val) := kids.mapM (fun e => ev f e env)
    if k = 0 then some (vInt n)
    else if k = 1 then (if s.length ≤ 4096 then some (vText s) else none)
    else if k = 2 then some (vBool (decide (n = 1)))
    else if k = 3 then lookE nm env
    else if k = 5 then all.map (vMake nm)
    else if k = 6 then all.bind (recV names)
    else if k = 7 then (match all with
      | some (v :: vs) => if v.kind = 4 then withGo [] v names vs else none
      | _ => none)
    else if k = 8 then (kid 0 env).bind (fun v => getF v nm)
    else if k = 9 then (if kids.length ≤ 4096 then all.map vList else none)
    else if k = 11 then (kid 0 env).bind (fun v => kid 1 ((nm, v) :: env))
    else if k = 12 then (kid 0 env).bind (fun v => if isB v then (if v.n = 1 then kid 1 env else kid 2 env) else none)
    else if k = 13 then (kid 0 env).bind (fun v => if v.kind = 3 then (match nameAt names v.s with
      | some i => if binds.getD i [] = [] then kid (i + 1) env else (match v.kids with
        | [x] => kid (i + 1) ((binds.getD i [], x) :: env)
        | _ => none)
      | none => none) else none)
    else if k = 14 then
      (if nm = [110, 111, 116] then (if kids.length = 1 then (kid 0 env).bind (fun v => if isB v then some (vBool (decide (v.n ≠ 1))) else none) else none)
       else if kids.length = 2 then
         (if nm = [97, 110, 100] then (kid 0 env).bind (fun v => if isB v then (if v.n = 1 then (kid 1 env).bind (fun u => if isB u then some (vBool (decide (u.n = 1))) else none) else some (vBool false)) else none)
          else if nm = [111, 114] then (kid 0 env).bind (fun v => if isB v then (if v.n = 1 then some (vBool true) else (kid 1 env).bind (fun u => if isB u then some (vBool (decide (u.n = 1))) else none)) else none)
          else (kid 0 env).bind (fun a => (kid 1 env).bind (fun b => two nm a b)))
       else none)
    else none

/-- How deep an expression is. -/
def Ex.depth : Ex → Nat
  | .mk _ _ _ _ _ _ kids _ _ => go kids + 1
where go : List Ex → Nat
  | [] => 0
  | e :: l => max e.depth (go l)
def Ex.kids : Ex → List Ex | .mk _ _ _ _ _ _ kids _ _ => kids
def Ex.kind : Ex → Int | .mk k _ _ _ _ _ _ _ _ => k
/-- No calls, comprehensions, holes. -/
def simpleGo : Nat → Ex → Bool
  | 0, _ => false
  | f + 1, e => !(decide (e.kind = 4) || decide (e.kind = 10) || decide (e.kind = 15) || decide (e.kind = 16)) && e.kids.all (simpleGo f)
end Go.Proofs.YthkkmklnapkgaaaGreatDoor

/- cmp.Compare at int and string, strings.Compare: the plain orders. -/
namespace Go.Proofs.YthkkmklnapkgaaaGreatDoor
open Go.RowKit

theorem nanI_any (x : Int) (w : World) : Calls Tryz.prog 107 #[.int .i64 x] w fun e w' => e = .returned (.bool false) ∧ w = w' := by
  go_enter Tryz.func107, Tryz.ntmps107
  go_wp2
  go_ret
  exact ⟨by simp, rfl⟩
theorem cmpI_any (x y : Int) (w : World) : Calls Tryz.prog 66 #[.int .i64 x, .int .i64 y] w fun e w' => e = .returned (.int .i64 (ord x y)) ∧ w = w' := by
  have key : ∀ r, ord x y = r → Calls Tryz.prog 66 #[.int .i64 x, .int .i64 y] w fun e w' => e = .returned (.int .i64 r) ∧ w = w' := by
    intro r hr
    by_cases h1 : x < y
    · have : r = -1 := by rw [← hr]; unfold ord; rw [if_pos h1]
      subst this
      clear hr
      go_enter Tryz.func66, Tryz.ntmps66
      go_wp2_with (go_at_call 107; refine (nanI_any _ _).mono ?_; rintro e w' ⟨rfl, rfl⟩)
      go_ret
      exact ⟨rfl, rfl⟩
    · by_cases h2 : y < x
      · have : r = 1 := by rw [← hr]; unfold ord; rw [if_neg h1, if_pos h2]
        subst this
        clear hr
        go_enter Tryz.func66, Tryz.ntmps66
        go_wp2_with (go_at_call 107; refine (nanI_any _ _).mono ?_; rintro e w' ⟨rfl, rfl⟩)
        go_ret
        exact ⟨rfl, rfl⟩
      · have : r = 0 := by rw [← hr]; unfold ord; rw [if_neg h1, if_neg h2]
        subst this
        clear hr
        go_enter Tryz.func66, Tryz.ntmps66
        go_wp2_with (go_at_call 107; refine (nanI_any _ _).mono ?_; rintro e w' ⟨rfl, rfl⟩)
        go_ret
        exact ⟨rfl, rfl⟩
  exact key _ rfl
end Go.Proofs.YthkkmklnapkgaaaGreatDoor

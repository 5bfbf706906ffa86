import Derived.Below
import Derived.Laws.AppendOwn
import Derived.Laws.Rows
import Derived.WalkKit
import Derived.WalkSpells
import Derived.WalkLawsBesides
import Derived.Outline
import Derived.Lib.Hide
import Derived.Handy
import Derived.Shelf.Small.Strs
import Derived.Shelf.Strings.Runes
import Derived.Shelf.Strings.IndexAny
import Derived.Shelf.Strings.AsciiSet
import Derived.Shelf.Strings.IndexAnyAll
import Derived.Sort.Grow
import Derived.Deep.Draws
import Derived.Maps.AppendAt
import Derived.Shelf.LaySoft
import Derived.Shelf.SlLaysH0
import Derived.Shelf.SlLaysE0
import Derived.Shelf.SlicesQ.IndexFunc
import Derived.Shelf.SlicesE.Clone
import Derived.Deep.RegionWith
import Derived.Deep.RegionHeld3
import Derived.Deep.AppendLies
import Derived.Deep.DeepCutAuto
import Derived.IntWalk
import Derived.Deep.QuietTactic
import Derived.BigQuiet
import Derived.Shelf.SlLaysF0
import Derived.Shelf.Lays2
import Derived.Shelf.SlSortCmp.InsertionK
import Derived.Shelf.SlSortCmp.QuietGrown
import Derived.Shelf.Spec.SearchS
import Derived.Maps.Own
import Derived.Maps.OwnSet
import Derived.StringKeys
import Derived.Lib.BufferRead
import Derived.Laws.IdiomStrings
import Derived.Deep.LoopGhost
import Derived.Defers
import Derived.Recover
import Derived.Laws.Pointers
import Derived.RegionTactic
import Derived.OwnWalk
import Derived.Laws.AppendOwnNone
import Derived.Laws.CopyRow
import Derived.Laws.NewBlocks
import Derived.Lib.Overlaps
import Derived.Lib.AppendZerosOnto
import Derived.Shelf.RegionOpenPlain
import Derived.Shelf.Spec.SlicesInsert
import Derived.Lib.SliceRun
import Derived.BigRegion
import Derived.ProofKit
import Derived.Lib.LaidU8
import Derived.LaidMore
import Derived.OpenShut
import Derived.ShutString
import Derived.MakeChecks
import Derived.Lay
import Derived.SevenTiedAt
import Derived.Stop.Joined
import Derived.ChangeOld
namespace Go.Proofs.YtppbaladeefnkaaGreatDoor
open Go Go.RowKit Go.Shelf Go.Lib
theorem row2 {w : World} {g : Nat} {x0 x1 : Value} {t : TypeId} {fr : Nat × Nat} (h : w.heap[g]? = some (.cells #[x0, x1] t fr)) : w.cell? ⟨g, 0, none⟩ = some x0 ∧ w.cell? ⟨g, 1, none⟩ = some x1 := ⟨(cell_of_row _ _ 0 _ _ _ h).trans rfl, (cell_of_row _ _ 1 _ _ _ h).trans rfl⟩
theorem frz2 {w : World} {g : Nat} {cs : Array Value} {t : TypeId} (h : w.heap[g]? = some (.cells cs t (0, 0))) : w.frozen? ⟨g, 0, none⟩ = false ∧ w.frozen? ⟨g, 1, none⟩ = false := ⟨frozen_of_row _ _ 0 _ _ h, frozen_of_row _ _ 1 _ _ h⟩
theorem row5 {w : World} {g : Nat} {x0 x1 x2 x3 x4 : Value} {t : TypeId} {fr : Nat × Nat} (h : w.heap[g]? = some (.cells #[x0, x1, x2, x3, x4] t fr)) : w.cell? ⟨g, 0, none⟩ = some x0 ∧ w.cell? ⟨g, 1, none⟩ = some x1 ∧ w.cell? ⟨g, 2, none⟩ = some x2 ∧ w.cell? ⟨g, 3, none⟩ = some x3 ∧ w.cell? ⟨g, 4, none⟩ = some x4 := ⟨(cell_of_row _ _ 0 _ _ _ h).trans rfl, (cell_of_row _ _ 1 _ _ _ h).trans rfl, (cell_of_row _ _ 2 _ _ _ h).trans rfl, (cell_of_row _ _ 3 _ _ _ h).trans rfl, (cell_of_row _ _ 4 _ _ _ h).trans rfl⟩
theorem frz5 {w : World} {g : Nat} {cs : Array Value} {t : TypeId} (h : w.heap[g]? = some (.cells cs t (0, 0))) : w.frozen? ⟨g, 0, none⟩ = false ∧ w.frozen? ⟨g, 1, none⟩ = false ∧ w.frozen? ⟨g, 2, none⟩ = false ∧ w.frozen? ⟨g, 3, none⟩ = false ∧ w.frozen? ⟨g, 4, none⟩ = false := ⟨frozen_of_row _ _ 0 _ _ h, frozen_of_row _ _ 1 _ _ h, frozen_of_row _ _ 2 _ _ h, frozen_of_row _ _ 3 _ _ h, frozen_of_row _ _ 4 _ _ h⟩
theorem row9 {w : World} {g : Nat} {x0 x1 x2 x3 x4 x5 x6 x7 x8 : Value} {t : TypeId} {fr : Nat × Nat} (h : w.heap[g]? = some (.cells #[x0, x1, x2, x3, x4, x5, x6, x7, x8] t fr)) : w.cell? ⟨g, 0, none⟩ = some x0 ∧ w.cell? ⟨g, 1, none⟩ = some x1 ∧ w.cell? ⟨g, 2, none⟩ = some x2 ∧ w.cell? ⟨g, 3, none⟩ = some x3 ∧ w.cell? ⟨g, 4, none⟩ = some x4 ∧ w.cell? ⟨g, 5, none⟩ = some x5 ∧ w.cell? ⟨g, 6, none⟩ = some x6 ∧ w.cell? ⟨g, 7, none⟩ = some x7 ∧ w.cell? ⟨g, 8, none⟩ = some x8 := ⟨(cell_of_row _ _ 0 _ _ _ h).trans rfl, (cell_of_row _ _ 1 _ _ _ h).trans rfl, (cell_of_row _ _ 2 _ _ _ h).trans rfl, (cell_of_row _ _ 3 _ _ _ h).trans rfl, (cell_of_row _ _ 4 _ _ _ h).trans rfl, (cell_of_row _ _ 5 _ _ _ h).trans rfl, (cell_of_row _ _ 6 _ _ _ h).trans rfl, (cell_of_row _ _ 7 _ _ _ h).trans rfl, (cell_of_row _ _ 8 _ _ _ h).trans rfl⟩
theorem frz9 {w : World} {g : Nat} {cs : Array Value} {t : TypeId} (h : w.heap[g]? = some (.cells cs t (0, 0))) : w.frozen? ⟨g, 0, none⟩ = false ∧ w.frozen? ⟨g, 1, none⟩ = false ∧ w.frozen? ⟨g, 2, none⟩ = false ∧ w.frozen? ⟨g, 3, none⟩ = false ∧ w.frozen? ⟨g, 4, none⟩ = false ∧ w.frozen? ⟨g, 5, none⟩ = false ∧ w.frozen? ⟨g, 6, none⟩ = false ∧ w.frozen? ⟨g, 7, none⟩ = false ∧ w.frozen? ⟨g, 8, none⟩ = false := ⟨frozen_of_row _ _ 0 _ _ h, frozen_of_row _ _ 1 _ _ h, frozen_of_row _ _ 2 _ _ h, frozen_of_row _ _ 3 _ _ h, frozen_of_row _ _ 4 _ _ h, frozen_of_row _ _ 5 _ _ h, frozen_of_row _ _ 6 _ _ h, frozen_of_row _ _ 7 _ _ h, frozen_of_row _ _ 8 _ _ h⟩
theorem row12 {w : World} {g : Nat} {x0 x1 x2 x3 x4 x5 x6 x7 x8 x9 x10 x11 : Value} {t : TypeId} {fr : Nat × Nat} (h : w.heap[g]? = some (.cells #[x0, x1, x2, x3, x4, x5, x6, x7, x8, x9, x10, x11] t fr)) : w.cell? ⟨g, 0, none⟩ = some x0 ∧ w.cell? ⟨g, 1, none⟩ = some x1 ∧ w.cell? ⟨g, 2, none⟩ = some x2 ∧ w.cell? ⟨g, 3, none⟩ = some x3 ∧ w.cell? ⟨g, 4, none⟩ = some x4 ∧ w.cell? ⟨g, 5, none⟩ = some x5 ∧ w.cell? ⟨g, 6, none⟩ = some x6 ∧ w.cell? ⟨g, 7, none⟩ = some x7 ∧ w.cell? ⟨g, 8, none⟩ = some x8 ∧ w.cell? ⟨g, 9, none⟩ = some x9 ∧ w.cell? ⟨g, 10, none⟩ = some x10 ∧ w.cell? ⟨g, 11, none⟩ = some x11 := ⟨(cell_of_row _ _ 0 _ _ _ h).trans rfl, (cell_of_row _ _ 1 _ _ _ h).trans rfl, (cell_of_row _ _ 2 _ _ _ h).trans rfl, (cell_of_row _ _ 3 _ _ _ h).trans rfl, (cell_of_row _ _ 4 _ _ _ h).trans rfl, (cell_of_row _ _ 5 _ _ _ h).trans rfl, (cell_of_row _ _ 6 _ _ _ h).trans rfl, (cell_of_row _ _ 7 _ _ _ h).trans rfl, (cell_of_row _ _ 8 _ _ _ h).trans rfl, (cell_of_row _ _ 9 _ _ _ h).trans rfl, (cell_of_row _ _ 10 _ _ _ h).trans rfl, (cell_of_row _ _ 11 _ _ _ h).trans rfl⟩
theorem frz12 {w : World} {g : Nat} {cs : Array Value} {t : TypeId} (h : w.heap[g]? = some (.cells cs t (0, 0))) : w.frozen? ⟨g, 0, none⟩ = false ∧ w.frozen? ⟨g, 1, none⟩ = false ∧ w.frozen? ⟨g, 2, none⟩ = false ∧ w.frozen? ⟨g, 3, none⟩ = false ∧ w.frozen? ⟨g, 4, none⟩ = false ∧ w.frozen? ⟨g, 5, none⟩ = false ∧ w.frozen? ⟨g, 6, none⟩ = false ∧ w.frozen? ⟨g, 7, none⟩ = false ∧ w.frozen? ⟨g, 8, none⟩ = false ∧ w.frozen? ⟨g, 9, none⟩ = false ∧ w.frozen? ⟨g, 10, none⟩ = false ∧ w.frozen? ⟨g, 11, none⟩ = false := ⟨frozen_of_row _ _ 0 _ _ h, frozen_of_row _ _ 1 _ _ h, frozen_of_row _ _ 2 _ _ h, frozen_of_row _ _ 3 _ _ h, frozen_of_row _ _ 4 _ _ h, frozen_of_row _ _ 5 _ _ h, frozen_of_row _ _ 6 _ _ h, frozen_of_row _ _ 7 _ _ h, frozen_of_row _ _ 8 _ _ h, frozen_of_row _ _ 9 _ _ h, frozen_of_row _ _ 10 _ _ h, frozen_of_row _ _ 11 _ _ h⟩
theorem row13 {w : World} {g : Nat} {x0 x1 x2 x3 x4 x5 x6 x7 x8 x9 x10 x11 x12 : Value} {t : TypeId} {fr : Nat × Nat} (h : w.heap[g]? = some (.cells #[x0, x1, x2, x3, x4, x5, x6, x7, x8, x9, x10, x11, x12] t fr)) : w.cell? ⟨g, 0, none⟩ = some x0 ∧ w.cell? ⟨g, 1, none⟩ = some x1 ∧ w.cell? ⟨g, 2, none⟩ = some x2 ∧ w.cell? ⟨g, 3, none⟩ = some x3 ∧ w.cell? ⟨g, 4, none⟩ = some x4 ∧ w.cell? ⟨g, 5, none⟩ = some x5 ∧ w.cell? ⟨g, 6, none⟩ = some x6 ∧ w.cell? ⟨g, 7, none⟩ = some x7 ∧ w.cell? ⟨g, 8, none⟩ = some x8 ∧ w.cell? ⟨g, 9, none⟩ = some x9 ∧ w.cell? ⟨g, 10, none⟩ = some x10 ∧ w.cell? ⟨g, 11, none⟩ = some x11 ∧ w.cell? ⟨g, 12, none⟩ = some x12 := ⟨(cell_of_row _ _ 0 _ _ _ h).trans rfl, (cell_of_row _ _ 1 _ _ _ h).trans rfl, (cell_of_row _ _ 2 _ _ _ h).trans rfl, (cell_of_row _ _ 3 _ _ _ h).trans rfl, (cell_of_row _ _ 4 _ _ _ h).trans rfl, (cell_of_row _ _ 5 _ _ _ h).trans rfl, (cell_of_row _ _ 6 _ _ _ h).trans rfl, (cell_of_row _ _ 7 _ _ _ h).trans rfl, (cell_of_row _ _ 8 _ _ _ h).trans rfl, (cell_of_row _ _ 9 _ _ _ h).trans rfl, (cell_of_row _ _ 10 _ _ _ h).trans rfl, (cell_of_row _ _ 11 _ _ _ h).trans rfl, (cell_of_row _ _ 12 _ _ _ h).trans rfl⟩
theorem frz13 {w : World} {g : Nat} {cs : Array Value} {t : TypeId} (h : w.heap[g]? = some (.cells cs t (0, 0))) : w.frozen? ⟨g, 0, none⟩ = false ∧ w.frozen? ⟨g, 1, none⟩ = false ∧ w.frozen? ⟨g, 2, none⟩ = false ∧ w.frozen? ⟨g, 3, none⟩ = false ∧ w.frozen? ⟨g, 4, none⟩ = false ∧ w.frozen? ⟨g, 5, none⟩ = false ∧ w.frozen? ⟨g, 6, none⟩ = false ∧ w.frozen? ⟨g, 7, none⟩ = false ∧ w.frozen? ⟨g, 8, none⟩ = false ∧ w.frozen? ⟨g, 9, none⟩ = false ∧ w.frozen? ⟨g, 10, none⟩ = false ∧ w.frozen? ⟨g, 11, none⟩ = false ∧ w.frozen? ⟨g, 12, none⟩ = false := ⟨frozen_of_row _ _ 0 _ _ h, frozen_of_row _ _ 1 _ _ h, frozen_of_row _ _ 2 _ _ h, frozen_of_row _ _ 3 _ _ h, frozen_of_row _ _ 4 _ _ h, frozen_of_row _ _ 5 _ _ h, frozen_of_row _ _ 6 _ _ h, frozen_of_row _ _ 7 _ _ h, frozen_of_row _ _ 8 _ _ h, frozen_of_row _ _ 9 _ _ h, frozen_of_row _ _ 10 _ _ h, frozen_of_row _ _ 11 _ _ h, frozen_of_row _ _ 12 _ _ h⟩
theorem rA0 {w : World} {g : Nat} {x0 : Value} {l : List Value} {t : TypeId} {fr : Nat × Nat} (h : w.heap[g]? = some (.cells (x0 :: l).toArray t fr)) : w.cell? ⟨g, 0, none⟩ = some x0 := (cell_of_row _ _ 0 _ _ _ h).trans (by simp)
theorem rA1 {w : World} {g : Nat} {x0 x1 : Value} {l : List Value} {t : TypeId} {fr : Nat × Nat} (h : w.heap[g]? = some (.cells (x0 :: x1 :: l).toArray t fr)) : w.cell? ⟨g, 1, none⟩ = some x1 := (cell_of_row _ _ 1 _ _ _ h).trans (by simp)
theorem rA2 {w : World} {g : Nat} {x0 x1 x2 : Value} {l : List Value} {t : TypeId} {fr : Nat × Nat} (h : w.heap[g]? = some (.cells (x0 :: x1 :: x2 :: l).toArray t fr)) : w.cell? ⟨g, 2, none⟩ = some x2 := (cell_of_row _ _ 2 _ _ _ h).trans (by simp)
theorem rA3 {w : World} {g : Nat} {x0 x1 x2 x3 : Value} {l : List Value} {t : TypeId} {fr : Nat × Nat} (h : w.heap[g]? = some (.cells (x0 :: x1 :: x2 :: x3 :: l).toArray t fr)) : w.cell? ⟨g, 3, none⟩ = some x3 := (cell_of_row _ _ 3 _ _ _ h).trans (by simp)
theorem rA4 {w : World} {g : Nat} {x0 x1 x2 x3 x4 : Value} {l : List Value} {t : TypeId} {fr : Nat × Nat} (h : w.heap[g]? = some (.cells (x0 :: x1 :: x2 :: x3 :: x4 :: l).toArray t fr)) : w.cell? ⟨g, 4, none⟩ = some x4 := (cell_of_row _ _ 4 _ _ _ h).trans (by simp)
theorem rA5 {w : World} {g : Nat} {x0 x1 x2 x3 x4 x5 : Value} {l : List Value} {t : TypeId} {fr : Nat × Nat} (h : w.heap[g]? = some (.cells (x0 :: x1 :: x2 :: x3 :: x4 :: x5 :: l).toArray t fr)) : w.cell? ⟨g, 5, none⟩ = some x5 := (cell_of_row _ _ 5 _ _ _ h).trans (by simp)
theorem rA6 {w : World} {g : Nat} {x0 x1 x2 x3 x4 x5 x6 : Value} {l : List Value} {t : TypeId} {fr : Nat × Nat} (h : w.heap[g]? = some (.cells (x0 :: x1 :: x2 :: x3 :: x4 :: x5 :: x6 :: l).toArray t fr)) : w.cell? ⟨g, 6, none⟩ = some x6 := (cell_of_row _ _ 6 _ _ _ h).trans (by simp)
theorem rA7 {w : World} {g : Nat} {x0 x1 x2 x3 x4 x5 x6 x7 : Value} {l : List Value} {t : TypeId} {fr : Nat × Nat} (h : w.heap[g]? = some (.cells (x0 :: x1 :: x2 :: x3 :: x4 :: x5 :: x6 :: x7 :: l).toArray t fr)) : w.cell? ⟨g, 7, none⟩ = some x7 := (cell_of_row _ _ 7 _ _ _ h).trans (by simp)
theorem rA8 {w : World} {g : Nat} {x0 x1 x2 x3 x4 x5 x6 x7 x8 : Value} {l : List Value} {t : TypeId} {fr : Nat × Nat} (h : w.heap[g]? = some (.cells (x0 :: x1 :: x2 :: x3 :: x4 :: x5 :: x6 :: x7 :: x8 :: l).toArray t fr)) : w.cell? ⟨g, 8, none⟩ = some x8 := (cell_of_row _ _ 8 _ _ _ h).trans (by simp)
theorem rA9 {w : World} {g : Nat} {x0 x1 x2 x3 x4 x5 x6 x7 x8 x9 : Value} {l : List Value} {t : TypeId} {fr : Nat × Nat} (h : w.heap[g]? = some (.cells (x0 :: x1 :: x2 :: x3 :: x4 :: x5 :: x6 :: x7 :: x8 :: x9 :: l).toArray t fr)) : w.cell? ⟨g, 9, none⟩ = some x9 := (cell_of_row _ _ 9 _ _ _ h).trans (by simp)
theorem rA10 {w : World} {g : Nat} {x0 x1 x2 x3 x4 x5 x6 x7 x8 x9 x10 : Value} {l : List Value} {t : TypeId} {fr : Nat × Nat} (h : w.heap[g]? = some (.cells (x0 :: x1 :: x2 :: x3 :: x4 :: x5 :: x6 :: x7 :: x8 :: x9 :: x10 :: l).toArray t fr)) : w.cell? ⟨g, 10, none⟩ = some x10 := (cell_of_row _ _ 10 _ _ _ h).trans (by simp)
theorem rA11 {w : World} {g : Nat} {x0 x1 x2 x3 x4 x5 x6 x7 x8 x9 x10 x11 : Value} {l : List Value} {t : TypeId} {fr : Nat × Nat} (h : w.heap[g]? = some (.cells (x0 :: x1 :: x2 :: x3 :: x4 :: x5 :: x6 :: x7 :: x8 :: x9 :: x10 :: x11 :: l).toArray t fr)) : w.cell? ⟨g, 11, none⟩ = some x11 := (cell_of_row _ _ 11 _ _ _ h).trans (by simp)
theorem rA12 {w : World} {g : Nat} {x0 x1 x2 x3 x4 x5 x6 x7 x8 x9 x10 x11 x12 : Value} {l : List Value} {t : TypeId} {fr : Nat × Nat} (h : w.heap[g]? = some (.cells (x0 :: x1 :: x2 :: x3 :: x4 :: x5 :: x6 :: x7 :: x8 :: x9 :: x10 :: x11 :: x12 :: l).toArray t fr)) : w.cell? ⟨g, 12, none⟩ = some x12 := (cell_of_row _ _ 12 _ _ _ h).trans (by simp)
theorem fA (j : Nat) {w : World} {g : Nat} {cs : Array Value} {t : TypeId} (h : w.heap[g]? = some (.cells cs t (0, 0))) : w.frozen? ⟨g, j, none⟩ = false := frozen_of_row _ _ _ _ _ h
theorem eX {α : Type} (a : α) : ∃ n, a = n := ⟨a, rfl⟩
theorem eqH {w W : World} (e : w = W) {b : Nat} {o : Obj} (h : w.heap[b]? = some o) : W.heap[b]? = some o := e ▸ h
theorem eqB {w W V : World} {B : Nat} (e : w = W) (h : Below B V w) : Below B V W := e ▸ h
abbrev zV : Array Value := #[.int .i64 0, .int .i64 0, .string ⟨#[]⟩, .slice none 0 0, .slice none 0 0]
abbrev zT : Array Value := #[.string ⟨#[]⟩, .slice none 0 0, .slice none 0 0, .slice none 0 0, .int .i64 0, .string ⟨#[]⟩, .int .i64 0, .string ⟨#[]⟩, .slice none 0 0, .slice none 0 0, .slice none 0 0, .int .i64 0, .int .i64 0]
abbrev zF : Array Value := #[.int .i64 0, .string ⟨#[]⟩, .int .i64 0, .int .i64 0, .string ⟨#[]⟩, .slice none 0 0, .slice none 0 0, .int .i64 0, .int .i64 0, .string ⟨#[]⟩, .slice none 0 0, .slice none 0 0]
abbrev zY : Array Value := #[.int .i64 0, .string ⟨#[]⟩, .int .i64 0, .slice none 0 0, .slice none 0 0]
abbrev zQ : Array Value := #[.int .i64 3, .string ⟨#[100]⟩, .int .i64 0, .string ⟨#[]⟩, .slice none 0 0, .slice none 0 0, .slice none 0 0, .int .i64 0, .int .i64 0]
theorem kC {w W : World} {b j : Nat} {u : Value} (h : Below w.heap.size w W) (f : w.cell? ⟨b, j, none⟩ = some u) : W.cell? ⟨b, j, none⟩ = some u := (h.cell (p := ⟨_, _, none⟩) (World.block_lt_of_cell? _ _ f)).trans f
theorem kD {B : Nat} {w W : World} {b j : Nat} {u : Option Value} (h : Below B w W) (q : b < B) (f : w.cell? ⟨b, j, none⟩ = u) : W.cell? ⟨b, j, none⟩ = u := (h.cell (p := ⟨_, _, none⟩) q).trans f
theorem kE {B : Nat} {w W : World} {b : Nat} {u : Option Obj} (h : Below B w W) (q : b < B) (f : w.heap[b]? = u) : W.heap[b]? = u := (h.block b q).trans f
theorem kB {w W : World} {b : Nat} {u : Obj} (h : Below w.heap.size w W) (f : w.heap[b]? = some u) : W.heap[b]? = some u := kE h (by by_cases q : b < w.heap.size; exact q; rw [Array.getElem?_eq_none (by omega)] at f; cases f) f
theorem hT2 {w : World} {b o : Nat} {x0 x1 : Value} (q : b < w.heap.size) (c : ∀ (j : Nat) (v : Value), [x0, x1][j]? = some v → w.cell? ⟨b, o + j, none⟩ = some v) : RowKit.Hid (∀ W, Below w.heap.size w W → W.cell? ⟨b, o, none⟩ = some x0 ∧ W.cell? ⟨b, o + 1, none⟩ = some x1) := Go.Lib.hid (fun _ h => ⟨kD h q (c 0 _ rfl), kD h q (c 1 _ rfl)⟩)
theorem hT13 {w : World} {b o : Nat} {x0 x1 x2 x3 x4 x5 x6 x7 x8 x9 x10 x11 x12 : Value} (q : b < w.heap.size) (c : ∀ (j : Nat) (v : Value), [x0, x1, x2, x3, x4, x5, x6, x7, x8, x9, x10, x11, x12][j]? = some v → w.cell? ⟨b, o + j, none⟩ = some v) : RowKit.Hid (∀ W, Below w.heap.size w W → W.cell? ⟨b, o, none⟩ = some x0 ∧ W.cell? ⟨b, o + 1, none⟩ = some x1 ∧ W.cell? ⟨b, o + 2, none⟩ = some x2 ∧ W.cell? ⟨b, o + 3, none⟩ = some x3 ∧ W.cell? ⟨b, o + 4, none⟩ = some x4 ∧ W.cell? ⟨b, o + 5, none⟩ = some x5 ∧ W.cell? ⟨b, o + 6, none⟩ = some x6 ∧ W.cell? ⟨b, o + 7, none⟩ = some x7 ∧ W.cell? ⟨b, o + 8, none⟩ = some x8 ∧ W.cell? ⟨b, o + 9, none⟩ = some x9 ∧ W.cell? ⟨b, o + 10, none⟩ = some x10 ∧ W.cell? ⟨b, o + 11, none⟩ = some x11 ∧ W.cell? ⟨b, o + 12, none⟩ = some x12) := Go.Lib.hid (fun _ h => ⟨kD h q (c 0 _ rfl), kD h q (c 1 _ rfl), kD h q (c 2 _ rfl), kD h q (c 3 _ rfl), kD h q (c 4 _ rfl), kD h q (c 5 _ rfl), kD h q (c 6 _ rfl), kD h q (c 7 _ rfl), kD h q (c 8 _ rfl), kD h q (c 9 _ rfl), kD h q (c 10 _ rfl), kD h q (c 11 _ rfl), kD h q (c 12 _ rfl)⟩)
theorem Qj {α : Type} {l : List α} {i : Nat} {a : α} (h : l[i]? = some a) : ∃ q : i < l.length, l[i] = a := List.getElem?_eq_some_iff.1 h
abbrev Qq := @Lib.hid
abbrev Qz := @Below.refl
abbrev Qk := @cell_of_row
abbrev Qv := @World.block_lt_of_cell?
abbrev Qx := @List.getElem?_eq_getElem
abbrev Qy := @List.mem_of_getElem?
abbrev Qw := @heap_alloc_new
abbrev Q5 := @heap_alloc2_old
abbrev Q6 := @heap_alloc2_new
abbrev Q7 := @bodyPost_ret
abbrev Q8 := @Nat.zero_le
abbrev Q9 := @Nat.le_refl
abbrev Qa := @Nat.lt_of_lt_of_le
abbrev Qb := @Option.some.inj
abbrev Qc := @Nat.le_trans
abbrev Qd := @List.getElem_mem
abbrev Qe := @And.intro
end Go.Proofs.YtppbaladeefnkaaGreatDoor

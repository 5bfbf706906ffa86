import Derived.Below
import Derived.Laws.AppendOwn
import Derived.Laws.Rows
import Derived.WalkKit
import Derived.WalkSpells
import Derived.WalkLawsBesides
import Derived.Outline
import Derived.Lib.Hide
import Derived.Handy
import Derived.Shelf.Small.Strs
import Derived.Shelf.Small.Wraps
import Derived.Shelf.Strconv.Itoa0
import Derived.Shelf.Strings.Prefix
import Derived.Shelf.Strings.Runes
import Derived.Shelf.Strings.AsciiSet
import Derived.Shelf.Slices.Turned
import Derived.Shelf.Slices.Equal
import Derived.Shelf.Slices.Empties2
import Derived.Ground.SlgnProg
import Derived.Shelf.SlicesE.Clone
import Derived.Sort.Grow
import Derived.Deep.Draws
import Derived.Maps.AppendAt
import Derived.Shelf.SlLaysH0
import Derived.Shelf.SlLaysE0
import Derived.Shelf.SlicesQ.IndexFunc
import Derived.Deep.RegionWith
import Derived.Deep.RegionHeld3
import Derived.Deep.AppendLies
import Derived.Deep.DeepCutAuto
import Derived.IntWalk
import Derived.Deep.QuietTactic
import Derived.BigQuiet
import Derived.Shelf.SlLaysF0
import Derived.Shelf.Lays2
import Derived.Shelf.SlSortCmp.InsertionK
import Derived.Shelf.Spec.SearchS
import Derived.Maps.Own
import Derived.Maps.OwnSet
import Derived.StringKeys
import Derived.Lib.BufferRead
import Derived.Laws.IdiomStrings
import Derived.Deep.LoopGhost
import Derived.Shelf.SlSortCmp.QuietGrown
import Derived.Defers
import Derived.Recover
import Derived.Laws.Pointers
import Derived.RegionTactic
import Derived.OwnWalk
import Derived.Laws.AppendOwnNone
import Derived.BigRegion
import Derived.Lib.AppendStr
import Derived.Sort.LotA
import Derived.ProofKit
import Derived.Lib.LaidU8
import Derived.LaidMore
import Derived.OpenShut
import Derived.ShutString
import Derived.MakeChecks
import Derived.Lay
import Derived.SevenTiedAt
import Derived.Stop.Joined
import Derived.ChangeOld
namespace Go.Proofs.YtlanplhphiikjaaGreatDoor
open Go Go.RowKit Go.Shelf Go.Lib
theorem row2 {w:World} {g:Nat} {x0 x1:Value} {l:List Value} {t:TypeId} {fr:Nat × Nat} (h:w.heap[g]?=some (.cells (x0::x1::l).toArray t fr)):w.cell? ⟨g,0,none⟩=some x0∧w.cell? ⟨g,1,none⟩=some x1:=⟨(cell_of_row _ _ 0 _ _ _ h).trans (by simp),(cell_of_row _ _ 1 _ _ _ h).trans (by simp)⟩
theorem frz2 {w:World} {g:Nat} {cs:Array Value} {t:TypeId} (h:w.heap[g]?=some (.cells cs t (0,0))):w.frozen? ⟨g,0,none⟩=false∧w.frozen? ⟨g,1,none⟩=false:=⟨frozen_of_row _ _ 0 _ _ h,frozen_of_row _ _ 1 _ _ h⟩
theorem row5 {w:World} {g:Nat} {x0 x1 x2 x3 x4:Value} {l:List Value} {t:TypeId} {fr:Nat × Nat} (h:w.heap[g]?=some (.cells (x0::x1::x2::x3::x4::l).toArray t fr)):w.cell? ⟨g,0,none⟩=some x0∧w.cell? ⟨g,1,none⟩=some x1∧w.cell? ⟨g,2,none⟩=some x2∧w.cell? ⟨g,3,none⟩=some x3∧w.cell? ⟨g,4,none⟩=some x4:=⟨(cell_of_row _ _ 0 _ _ _ h).trans (by simp),(cell_of_row _ _ 1 _ _ _ h).trans (by simp),(cell_of_row _ _ 2 _ _ _ h).trans (by simp),(cell_of_row _ _ 3 _ _ _ h).trans (by simp),(cell_of_row _ _ 4 _ _ _ h).trans (by simp)⟩
theorem frz5 {w:World} {g:Nat} {cs:Array Value} {t:TypeId} (h:w.heap[g]?=some (.cells cs t (0,0))):w.frozen? ⟨g,0,none⟩=false∧w.frozen? ⟨g,1,none⟩=false∧w.frozen? ⟨g,2,none⟩=false∧w.frozen? ⟨g,3,none⟩=false∧w.frozen? ⟨g,4,none⟩=false:=⟨frozen_of_row _ _ 0 _ _ h,frozen_of_row _ _ 1 _ _ h,frozen_of_row _ _ 2 _ _ h,frozen_of_row _ _ 3 _ _ h,frozen_of_row _ _ 4 _ _ h⟩
theorem row9 {w:World} {g:Nat} {x0 x1 x2 x3 x4 x5 x6 x7 x8:Value} {l:List Value} {t:TypeId} {fr:Nat × Nat} (h:w.heap[g]?=some (.cells (x0::x1::x2::x3::x4::x5::x6::x7::x8::l).toArray t fr)):w.cell? ⟨g,0,none⟩=some x0∧w.cell? ⟨g,1,none⟩=some x1∧w.cell? ⟨g,2,none⟩=some x2∧w.cell? ⟨g,3,none⟩=some x3∧w.cell? ⟨g,4,none⟩=some x4∧w.cell? ⟨g,5,none⟩=some x5∧w.cell? ⟨g,6,none⟩=some x6∧w.cell? ⟨g,7,none⟩=some x7∧w.cell? ⟨g,8,none⟩=some x8:=⟨(cell_of_row _ _ 0 _ _ _ h).trans (by simp),(cell_of_row _ _ 1 _ _ _ h).trans (by simp),(cell_of_row _ _ 2 _ _ _ h).trans (by simp),(cell_of_row _ _ 3 _ _ _ h).trans (by simp),(cell_of_row _ _ 4 _ _ _ h).trans (by simp),(cell_of_row _ _ 5 _ _ _ h).trans (by simp),(cell_of_row _ _ 6 _ _ _ h).trans (by simp),(cell_of_row _ _ 7 _ _ _ h).trans (by simp),(cell_of_row _ _ 8 _ _ _ h).trans (by simp)⟩
theorem frz9 {w:World} {g:Nat} {cs:Array Value} {t:TypeId} (h:w.heap[g]?=some (.cells cs t (0,0))):w.frozen? ⟨g,0,none⟩=false∧w.frozen? ⟨g,1,none⟩=false∧w.frozen? ⟨g,2,none⟩=false∧w.frozen? ⟨g,3,none⟩=false∧w.frozen? ⟨g,4,none⟩=false∧w.frozen? ⟨g,5,none⟩=false∧w.frozen? ⟨g,6,none⟩=false∧w.frozen? ⟨g,7,none⟩=false∧w.frozen? ⟨g,8,none⟩=false:=⟨frozen_of_row _ _ 0 _ _ h,frozen_of_row _ _ 1 _ _ h,frozen_of_row _ _ 2 _ _ h,frozen_of_row _ _ 3 _ _ h,frozen_of_row _ _ 4 _ _ h,frozen_of_row _ _ 5 _ _ h,frozen_of_row _ _ 6 _ _ h,frozen_of_row _ _ 7 _ _ h,frozen_of_row _ _ 8 _ _ h⟩
theorem row12 {w:World} {g:Nat} {x0 x1 x2 x3 x4 x5 x6 x7 x8 x9 x10 x11:Value} {l:List Value} {t:TypeId} {fr:Nat × Nat} (h:w.heap[g]?=some (.cells (x0::x1::x2::x3::x4::x5::x6::x7::x8::x9::x10::x11::l).toArray t fr)):w.cell? ⟨g,0,none⟩=some x0∧w.cell? ⟨g,1,none⟩=some x1∧w.cell? ⟨g,2,none⟩=some x2∧w.cell? ⟨g,3,none⟩=some x3∧w.cell? ⟨g,4,none⟩=some x4∧w.cell? ⟨g,5,none⟩=some x5∧w.cell? ⟨g,6,none⟩=some x6∧w.cell? ⟨g,7,none⟩=some x7∧w.cell? ⟨g,8,none⟩=some x8∧w.cell? ⟨g,9,none⟩=some x9∧w.cell? ⟨g,10,none⟩=some x10∧w.cell? ⟨g,11,none⟩=some x11:=⟨(cell_of_row _ _ 0 _ _ _ h).trans (by simp),(cell_of_row _ _ 1 _ _ _ h).trans (by simp),(cell_of_row _ _ 2 _ _ _ h).trans (by simp),(cell_of_row _ _ 3 _ _ _ h).trans (by simp),(cell_of_row _ _ 4 _ _ _ h).trans (by simp),(cell_of_row _ _ 5 _ _ _ h).trans (by simp),(cell_of_row _ _ 6 _ _ _ h).trans (by simp),(cell_of_row _ _ 7 _ _ _ h).trans (by simp),(cell_of_row _ _ 8 _ _ _ h).trans (by simp),(cell_of_row _ _ 9 _ _ _ h).trans (by simp),(cell_of_row _ _ 10 _ _ _ h).trans (by simp),(cell_of_row _ _ 11 _ _ _ h).trans (by simp)⟩
theorem frz12 {w:World} {g:Nat} {cs:Array Value} {t:TypeId} (h:w.heap[g]?=some (.cells cs t (0,0))):w.frozen? ⟨g,0,none⟩=false∧w.frozen? ⟨g,1,none⟩=false∧w.frozen? ⟨g,2,none⟩=false∧w.frozen? ⟨g,3,none⟩=false∧w.frozen? ⟨g,4,none⟩=false∧w.frozen? ⟨g,5,none⟩=false∧w.frozen? ⟨g,6,none⟩=false∧w.frozen? ⟨g,7,none⟩=false∧w.frozen? ⟨g,8,none⟩=false∧w.frozen? ⟨g,9,none⟩=false∧w.frozen? ⟨g,10,none⟩=false∧w.frozen? ⟨g,11,none⟩=false:=⟨frozen_of_row _ _ 0 _ _ h,frozen_of_row _ _ 1 _ _ h,frozen_of_row _ _ 2 _ _ h,frozen_of_row _ _ 3 _ _ h,frozen_of_row _ _ 4 _ _ h,frozen_of_row _ _ 5 _ _ h,frozen_of_row _ _ 6 _ _ h,frozen_of_row _ _ 7 _ _ h,frozen_of_row _ _ 8 _ _ h,frozen_of_row _ _ 9 _ _ h,frozen_of_row _ _ 10 _ _ h,frozen_of_row _ _ 11 _ _ h⟩
theorem row13 {w:World} {g:Nat} {x0 x1 x2 x3 x4 x5 x6 x7 x8 x9 x10 x11 x12:Value} {l:List Value} {t:TypeId} {fr:Nat × Nat} (h:w.heap[g]?=some (.cells (x0::x1::x2::x3::x4::x5::x6::x7::x8::x9::x10::x11::x12::l).toArray t fr)):w.cell? ⟨g,0,none⟩=some x0∧w.cell? ⟨g,1,none⟩=some x1∧w.cell? ⟨g,2,none⟩=some x2∧w.cell? ⟨g,3,none⟩=some x3∧w.cell? ⟨g,4,none⟩=some x4∧w.cell? ⟨g,5,none⟩=some x5∧w.cell? ⟨g,6,none⟩=some x6∧w.cell? ⟨g,7,none⟩=some x7∧w.cell? ⟨g,8,none⟩=some x8∧w.cell? ⟨g,9,none⟩=some x9∧w.cell? ⟨g,10,none⟩=some x10∧w.cell? ⟨g,11,none⟩=some x11∧w.cell? ⟨g,12,none⟩=some x12:=⟨(cell_of_row _ _ 0 _ _ _ h).trans (by simp),(cell_of_row _ _ 1 _ _ _ h).trans (by simp),(cell_of_row _ _ 2 _ _ _ h).trans (by simp),(cell_of_row _ _ 3 _ _ _ h).trans (by simp),(cell_of_row _ _ 4 _ _ _ h).trans (by simp),(cell_of_row _ _ 5 _ _ _ h).trans (by simp),(cell_of_row _ _ 6 _ _ _ h).trans (by simp),(cell_of_row _ _ 7 _ _ _ h).trans (by simp),(cell_of_row _ _ 8 _ _ _ h).trans (by simp),(cell_of_row _ _ 9 _ _ _ h).trans (by simp),(cell_of_row _ _ 10 _ _ _ h).trans (by simp),(cell_of_row _ _ 11 _ _ _ h).trans (by simp),(cell_of_row _ _ 12 _ _ _ h).trans (by simp)⟩
theorem frz13 {w:World} {g:Nat} {cs:Array Value} {t:TypeId} (h:w.heap[g]?=some (.cells cs t (0,0))):w.frozen? ⟨g,0,none⟩=false∧w.frozen? ⟨g,1,none⟩=false∧w.frozen? ⟨g,2,none⟩=false∧w.frozen? ⟨g,3,none⟩=false∧w.frozen? ⟨g,4,none⟩=false∧w.frozen? ⟨g,5,none⟩=false∧w.frozen? ⟨g,6,none⟩=false∧w.frozen? ⟨g,7,none⟩=false∧w.frozen? ⟨g,8,none⟩=false∧w.frozen? ⟨g,9,none⟩=false∧w.frozen? ⟨g,10,none⟩=false∧w.frozen? ⟨g,11,none⟩=false∧w.frozen? ⟨g,12,none⟩=false:=⟨frozen_of_row _ _ 0 _ _ h,frozen_of_row _ _ 1 _ _ h,frozen_of_row _ _ 2 _ _ h,frozen_of_row _ _ 3 _ _ h,frozen_of_row _ _ 4 _ _ h,frozen_of_row _ _ 5 _ _ h,frozen_of_row _ _ 6 _ _ h,frozen_of_row _ _ 7 _ _ h,frozen_of_row _ _ 8 _ _ h,frozen_of_row _ _ 9 _ _ h,frozen_of_row _ _ 10 _ _ h,frozen_of_row _ _ 11 _ _ h,frozen_of_row _ _ 12 _ _ h⟩
theorem rA0 {w:World} {g:Nat} {x0:Value} {l:List Value} {t:TypeId} {fr:Nat × Nat} (h:w.heap[g]?=some (.cells (x0::l).toArray t fr)):w.cell? ⟨g,0,none⟩=some x0:=(cell_of_row _ _ 0 _ _ _ h).trans (by simp)
theorem rA1 {w:World} {g:Nat} {x0 x1:Value} {l:List Value} {t:TypeId} {fr:Nat × Nat} (h:w.heap[g]?=some (.cells (x0::x1::l).toArray t fr)):w.cell? ⟨g,1,none⟩=some x1:=(cell_of_row _ _ 1 _ _ _ h).trans (by simp)
theorem rA2 {w:World} {g:Nat} {x0 x1 x2:Value} {l:List Value} {t:TypeId} {fr:Nat × Nat} (h:w.heap[g]?=some (.cells (x0::x1::x2::l).toArray t fr)):w.cell? ⟨g,2,none⟩=some x2:=(cell_of_row _ _ 2 _ _ _ h).trans (by simp)
theorem rA3 {w:World} {g:Nat} {x0 x1 x2 x3:Value} {l:List Value} {t:TypeId} {fr:Nat × Nat} (h:w.heap[g]?=some (.cells (x0::x1::x2::x3::l).toArray t fr)):w.cell? ⟨g,3,none⟩=some x3:=(cell_of_row _ _ 3 _ _ _ h).trans (by simp)
theorem rA4 {w:World} {g:Nat} {x0 x1 x2 x3 x4:Value} {l:List Value} {t:TypeId} {fr:Nat × Nat} (h:w.heap[g]?=some (.cells (x0::x1::x2::x3::x4::l).toArray t fr)):w.cell? ⟨g,4,none⟩=some x4:=(cell_of_row _ _ 4 _ _ _ h).trans (by simp)
theorem rA5 {w:World} {g:Nat} {x0 x1 x2 x3 x4 x5:Value} {l:List Value} {t:TypeId} {fr:Nat × Nat} (h:w.heap[g]?=some (.cells (x0::x1::x2::x3::x4::x5::l).toArray t fr)):w.cell? ⟨g,5,none⟩=some x5:=(cell_of_row _ _ 5 _ _ _ h).trans (by simp)
theorem rA6 {w:World} {g:Nat} {x0 x1 x2 x3 x4 x5 x6:Value} {l:List Value} {t:TypeId} {fr:Nat × Nat} (h:w.heap[g]?=some (.cells (x0::x1::x2::x3::x4::x5::x6::l).toArray t fr)):w.cell? ⟨g,6,none⟩=some x6:=(cell_of_row _ _ 6 _ _ _ h).trans (by simp)
theorem rA7 {w:World} {g:Nat} {x0 x1 x2 x3 x4 x5 x6 x7:Value} {l:List Value} {t:TypeId} {fr:Nat × Nat} (h:w.heap[g]?=some (.cells (x0::x1::x2::x3::x4::x5::x6::x7::l).toArray t fr)):w.cell? ⟨g,7,none⟩=some x7:=(cell_of_row _ _ 7 _ _ _ h).trans (by simp)
theorem rA8 {w:World} {g:Nat} {x0 x1 x2 x3 x4 x5 x6 x7 x8:Value} {l:List Value} {t:TypeId} {fr:Nat × Nat} (h:w.heap[g]?=some (.cells (x0::x1::x2::x3::x4::x5::x6::x7::x8::l).toArray t fr)):w.cell? ⟨g,8,none⟩=some x8:=(cell_of_row _ _ 8 _ _ _ h).trans (by simp)
theorem rA9 {w:World} {g:Nat} {x0 x1 x2 x3 x4 x5 x6 x7 x8 x9:Value} {l:List Value} {t:TypeId} {fr:Nat × Nat} (h:w.heap[g]?=some (.cells (x0::x1::x2::x3::x4::x5::x6::x7::x8::x9::l).toArray t fr)):w.cell? ⟨g,9,none⟩=some x9:=(cell_of_row _ _ 9 _ _ _ h).trans (by simp)
theorem rA10 {w:World} {g:Nat} {x0 x1 x2 x3 x4 x5 x6 x7 x8 x9 x10:Value} {l:List Value} {t:TypeId} {fr:Nat × Nat} (h:w.heap[g]?=some (.cells (x0::x1::x2::x3::x4::x5::x6::x7::x8::x9::x10::l).toArray t fr)):w.cell? ⟨g,10,none⟩=some x10:=(cell_of_row _ _ 10 _ _ _ h).trans (by simp)
theorem rA11 {w:World} {g:Nat} {x0 x1 x2 x3 x4 x5 x6 x7 x8 x9 x10 x11:Value} {l:List Value} {t:TypeId} {fr:Nat × Nat} (h:w.heap[g]?=some (.cells (x0::x1::x2::x3::x4::x5::x6::x7::x8::x9::x10::x11::l).toArray t fr)):w.cell? ⟨g,11,none⟩=some x11:=(cell_of_row _ _ 11 _ _ _ h).trans (by simp)
theorem rA12 {w:World} {g:Nat} {x0 x1 x2 x3 x4 x5 x6 x7 x8 x9 x10 x11 x12:Value} {l:List Value} {t:TypeId} {fr:Nat × Nat} (h:w.heap[g]?=some (.cells (x0::x1::x2::x3::x4::x5::x6::x7::x8::x9::x10::x11::x12::l).toArray t fr)):w.cell? ⟨g,12,none⟩=some x12:=(cell_of_row _ _ 12 _ _ _ h).trans (by simp)
theorem fA (j:Nat) {w:World} {g:Nat} {cs:Array Value} {t:TypeId} (h:w.heap[g]?=some (.cells cs t (0,0))):w.frozen? ⟨g,j,none⟩=false:=frozen_of_row _ _ _ _ _ h
theorem eX {α:Type} (a:α):∃ n,a=n:=⟨a,rfl⟩
theorem eqH {w W:World} (e:w=W) {b:Nat} {o:Obj} (h:w.heap[b]?=some o):W.heap[b]?=some o:=e ▸ h
theorem eqB {w W V:World} {B:Nat} (e:w=W) (h:Below B V w):Below B V W:=e ▸ h
abbrev zV:Array Value:=#[.int .i64 0,.int .i64 0,.string ⟨#[]⟩,.slice none 0 0,.slice none 0 0]
abbrev zT:Array Value:=#[.string ⟨#[]⟩,.slice none 0 0,.slice none 0 0,.slice none 0 0,.int .i64 0,.string ⟨#[]⟩,.int .i64 0,.string ⟨#[]⟩,.slice none 0 0,.slice none 0 0,.slice none 0 0,.int .i64 0,.int .i64 0]
abbrev zF:Array Value:=#[.int .i64 0,.string ⟨#[]⟩,.int .i64 0,.int .i64 0,.string ⟨#[]⟩,.slice none 0 0,.slice none 0 0,.int .i64 0,.int .i64 0,.string ⟨#[]⟩,.slice none 0 0,.slice none 0 0]
abbrev zY:Array Value:=#[.int .i64 0,.string ⟨#[]⟩,.int .i64 0,.slice none 0 0,.slice none 0 0]
abbrev zQ:Array Value:=#[.int .i64 3,.string ⟨#[100]⟩,.int .i64 0,.string ⟨#[]⟩,.slice none 0 0,.slice none 0 0,.slice none 0 0,.int .i64 0,.int .i64 0]
theorem kC {w W:World} {b j:Nat} {u:Value} (h:Below w.heap.size w W) (f:w.cell? ⟨b,j,none⟩=some u):W.cell? ⟨b,j,none⟩=some u:=(h.cell (p:=⟨_,_,none⟩) (World.block_lt_of_cell? _ _ f)).trans f
theorem kD {B:Nat} {w W:World} {b j:Nat} {u:Option Value} (h:Below B w W) (q:b<B) (f:w.cell? ⟨b,j,none⟩=u):W.cell? ⟨b,j,none⟩=u:=(h.cell (p:=⟨_,_,none⟩) q).trans f
theorem kE {B:Nat} {w W:World} {b:Nat} {u:Option Obj} (h:Below B w W) (q:b<B) (f:w.heap[b]?=u):W.heap[b]?=u:=(h.block b q).trans f
theorem kB {w W:World} {b:Nat} {u:Obj} (h:Below w.heap.size w W) (f:w.heap[b]?=some u):W.heap[b]?=some u:=kE h (by by_cases q:b<w.heap.size;exact q;rw [Array.getElem?_eq_none (by omega)] at f;cases f) f
structure P7 where
 n:Nat
instance P7_w:Coe World Nat:=⟨fun w=>w.heap.size⟩
instance P7_i:Coe Int Value:=⟨fun n=>.int .i64 n⟩
instance P7_s:Coe (List UInt8) Value:=⟨fun l=>.string ⟨l.toArray⟩⟩
instance P7_g:Coe (List Value) Value:=⟨fun l=>.agg l.toArray⟩
instance P7_n:Coe Nat Value:=⟨fun n=>.int .i64 (n:Int)⟩
def On:P7:=⟨0⟩
instance On_v:CoeDep P7 On Value:=⟨.int .i64 0⟩
def Oo:P7:=⟨0⟩
instance Oo_v:CoeDep P7 Oo Value:=⟨.string ⟨#[]⟩⟩
def Ot:P7:=⟨0⟩
instance Ot_v:CoeDep P7 Ot Value:=⟨.slice none 0 0⟩
def Oi (_:World) (_ _:Nat) (_:Value):P7:=⟨0⟩
instance Oi_p {w:World} {b j:Nat} {v:Value}:CoeDep P7 (Oi w b j v) Prop:=⟨w.cell? ⟨b,j,none⟩=some v⟩
def Ol (_ _ _ _:Nat):P7:=⟨0⟩
instance Ol_v {b o n c:Nat}:CoeDep P7 (Ol b o n c) Value:=⟨.slice (some ⟨b,o,none⟩) n c⟩
def Om (_:Nat):P7:=⟨0⟩
instance Om_v {b:Nat}:CoeDep P7 (Om b) Value:=⟨.pointer (some ⟨b,0,none⟩)⟩
def Pq (_:Int) (_:ByteArray) (_:Int) (_:ByteArray) (_:Option Addr) (_ _:Nat) (_:Option Addr) (_ _:Nat) (_:Option Addr) (_ _:Nat) (_ _:Int):P7:=⟨0⟩
instance Pq_l {k:Int} {s:ByteArray} {n:Int} {t:ByteArray} {p:Option Addr} {a b:Nat} {q:Option Addr} {c d:Nat} {r:Option Addr} {e f:Nat} {x z:Int}:CoeDep P7 (Pq k s n t p a b q c d r e f x z) (List Value):=⟨[.int .i64 k,.string s,.int .i64 n,.string t,.slice p a b,.slice q c d,.slice r e f,.int .i64 x,.int .i64 z]⟩
instance Pq_a {k:Int} {s:ByteArray} {n:Int} {t:ByteArray} {p:Option Addr} {a b:Nat} {q:Option Addr} {c d:Nat} {r:Option Addr} {e f:Nat} {x z:Int}:CoeDep P7 (Pq k s n t p a b q c d r e f x z) (Array Value):=⟨#[.int .i64 k,.string s,.int .i64 n,.string t,.slice p a b,.slice q c d,.slice r e f,.int .i64 x,.int .i64 z]⟩
theorem Oa {p:Prop} (h:p:=by omega):p:=h
theorem Od {p:Prop} (h:p:=by simp):p:=h
theorem Oe {p:Prop} (h:p:=by rfl):p:=h
theorem Of {p:Prop} (h:p:=by decide):p:=h
theorem Og {p:Prop} (h:p:=by kernel_rfl):p:=h
theorem Oh {p:Prop} (h:p:=by assumption):p:=h
theorem Ob {p q:Prop} (a:q) (h:q→p:=by intro _;omega):p:=h a
theorem Oc {p q r:Prop} (a:q) (b:r) (h:q→r→p:=by intro _ _;omega):p:=h a b
theorem P8 {A S:Nat→Prop}:∀ b,A b→S b→S b:=fun _ _ h=>h
theorem P9 {B:Nat} {w W:World} {b j:Nat} {u:Bool} (h:Below B w W) (q:b<B) (f:w.frozen? ⟨b,j,none⟩=u):W.frozen? ⟨b,j,none⟩=u:=(h.frozen (p:=⟨_,_,none⟩) q).trans f
variable {w:World} {b o:Nat} {x0 x1 x2 x3 x4 x5 x6 x7 x8 x9 x10 x11 x12:Value} {P:Prop}
def Pa (_:World) (_:Nat) (_ _ _ _ _:Value) (_:Prop):P7:=⟨0⟩
instance Pa_p:CoeDep P7 (Pa w b x0 x1 x2 x3 x4 P) Prop:=⟨Oi w b 0 x0∧Oi w b 1 x1∧Oi w b 2 x2∧Oi w b 3 x3∧Oi w b 4 x4∧P⟩
def Pf (_:World) (_:Nat) (_ _ _ _ _:Value):P7:=⟨0⟩
instance Pf_p:CoeDep P7 (Pf w b x0 x1 x2 x3 x4) Prop:=⟨Oi w b 0 x0∧Oi w b 1 x1∧Oi w b 2 x2∧Oi w b 3 x3∧Oi w b 4 x4⟩
def Pd (_:World) (_ _:Nat) (_ _ _ _ _:Value) (_:Prop):P7:=⟨0⟩
instance Pd_p:CoeDep P7 (Pd w b o x0 x1 x2 x3 x4 P) Prop:=⟨Oi w b o x0∧Oi w b (o+1) x1∧Oi w b (o+2) x2∧Oi w b (o+3) x3∧Oi w b (o+4) x4∧P⟩
def Pi (_:World) (_ _:Nat) (_ _ _ _ _:Value):P7:=⟨0⟩
instance Pi_p:CoeDep P7 (Pi w b o x0 x1 x2 x3 x4) Prop:=⟨Oi w b o x0∧Oi w b (o+1) x1∧Oi w b (o+2) x2∧Oi w b (o+3) x3∧Oi w b (o+4) x4⟩
def Pb (_:World) (_:Nat) (_ _ _ _ _ _ _ _ _:Value) (_:Prop):P7:=⟨0⟩
instance Pb_p:CoeDep P7 (Pb w b x0 x1 x2 x3 x4 x5 x6 x7 x8 P) Prop:=⟨Oi w b 0 x0∧Oi w b 1 x1∧Oi w b 2 x2∧Oi w b 3 x3∧Oi w b 4 x4∧Oi w b 5 x5∧Oi w b 6 x6∧Oi w b 7 x7∧Oi w b 8 x8∧P⟩
def Pg (_:World) (_:Nat) (_ _ _ _ _ _ _ _ _:Value):P7:=⟨0⟩
instance Pg_p:CoeDep P7 (Pg w b x0 x1 x2 x3 x4 x5 x6 x7 x8) Prop:=⟨Oi w b 0 x0∧Oi w b 1 x1∧Oi w b 2 x2∧Oi w b 3 x3∧Oi w b 4 x4∧Oi w b 5 x5∧Oi w b 6 x6∧Oi w b 7 x7∧Oi w b 8 x8⟩
def Pc (_:World) (_:Nat) (_ _ _ _ _ _ _ _ _ _ _ _ _:Value) (_:Prop):P7:=⟨0⟩
instance Pc_p:CoeDep P7 (Pc w b x0 x1 x2 x3 x4 x5 x6 x7 x8 x9 x10 x11 x12 P) Prop:=⟨Oi w b 0 x0∧Oi w b 1 x1∧Oi w b 2 x2∧Oi w b 3 x3∧Oi w b 4 x4∧Oi w b 5 x5∧Oi w b 6 x6∧Oi w b 7 x7∧Oi w b 8 x8∧Oi w b 9 x9∧Oi w b 10 x10∧Oi w b 11 x11∧Oi w b 12 x12∧P⟩
def Ph (_:World) (_:Nat) (_ _ _ _ _ _ _ _ _ _ _ _ _:Value):P7:=⟨0⟩
instance Ph_p:CoeDep P7 (Ph w b x0 x1 x2 x3 x4 x5 x6 x7 x8 x9 x10 x11 x12) Prop:=⟨Oi w b 0 x0∧Oi w b 1 x1∧Oi w b 2 x2∧Oi w b 3 x3∧Oi w b 4 x4∧Oi w b 5 x5∧Oi w b 6 x6∧Oi w b 7 x7∧Oi w b 8 x8∧Oi w b 9 x9∧Oi w b 10 x10∧Oi w b 11 x11∧Oi w b 12 x12⟩
def Pe (_:World) (_ _:Nat) (_ _ _ _ _ _ _ _ _ _ _ _ _:Value) (_:Prop):P7:=⟨0⟩
instance Pe_p:CoeDep P7 (Pe w b o x0 x1 x2 x3 x4 x5 x6 x7 x8 x9 x10 x11 x12 P) Prop:=⟨Oi w b o x0∧Oi w b (o+1) x1∧Oi w b (o+2) x2∧Oi w b (o+3) x3∧Oi w b (o+4) x4∧Oi w b (o+5) x5∧Oi w b (o+6) x6∧Oi w b (o+7) x7∧Oi w b (o+8) x8∧Oi w b (o+9) x9∧Oi w b (o+10) x10∧Oi w b (o+11) x11∧Oi w b (o+12) x12∧P⟩
def Pl (_:World) (_ _:Nat) (_ _ _ _ _ _ _ _ _ _ _ _ _:Value):P7:=⟨0⟩
instance Pl_p:CoeDep P7 (Pl w b o x0 x1 x2 x3 x4 x5 x6 x7 x8 x9 x10 x11 x12) Prop:=⟨Oi w b o x0∧Oi w b (o+1) x1∧Oi w b (o+2) x2∧Oi w b (o+3) x3∧Oi w b (o+4) x4∧Oi w b (o+5) x5∧Oi w b (o+6) x6∧Oi w b (o+7) x7∧Oi w b (o+8) x8∧Oi w b (o+9) x9∧Oi w b (o+10) x10∧Oi w b (o+11) x11∧Oi w b (o+12) x12⟩
theorem Px {p0 p1 p2:Prop} (h0:p0) (h1:p1) (h2:p2):RowKit.Hid p0∧RowKit.Hid p1∧RowKit.Hid p2:=⟨Go.Lib.hid h0,Go.Lib.hid h1,Go.Lib.hid h2⟩
theorem Py {p0 p1 p2 p3:Prop} (h0:p0) (h1:p1) (h2:p2) (h3:p3):RowKit.Hid p0∧RowKit.Hid p1∧RowKit.Hid p2∧RowKit.Hid p3:=⟨Go.Lib.hid h0,Go.Lib.hid h1,Go.Lib.hid h2,Go.Lib.hid h3⟩
theorem Pw {p0 p1 p2 p3 p4:Prop} (h0:p0) (h1:p1) (h2:p2) (h3:p3) (h4:p4):RowKit.Hid p0∧RowKit.Hid p1∧RowKit.Hid p2∧RowKit.Hid p3∧RowKit.Hid p4:=⟨Go.Lib.hid h0,Go.Lib.hid h1,Go.Lib.hid h2,Go.Lib.hid h3,Go.Lib.hid h4⟩
theorem P0 {p0 p1 p2 p3 p4 p5:Prop} (h0:p0) (h1:p1) (h2:p2) (h3:p3) (h4:p4) (h5:p5):RowKit.Hid p0∧RowKit.Hid p1∧RowKit.Hid p2∧RowKit.Hid p3∧RowKit.Hid p4∧RowKit.Hid p5:=⟨Go.Lib.hid h0,Go.Lib.hid h1,Go.Lib.hid h2,Go.Lib.hid h3,Go.Lib.hid h4,Go.Lib.hid h5⟩
theorem P1 {p0 p1 p2 p3 p4 p5 p6:Prop} (h0:p0) (h1:p1) (h2:p2) (h3:p3) (h4:p4) (h5:p5) (h6:p6):RowKit.Hid p0∧RowKit.Hid p1∧RowKit.Hid p2∧RowKit.Hid p3∧RowKit.Hid p4∧RowKit.Hid p5∧RowKit.Hid p6:=⟨Go.Lib.hid h0,Go.Lib.hid h1,Go.Lib.hid h2,Go.Lib.hid h3,Go.Lib.hid h4,Go.Lib.hid h5,Go.Lib.hid h6⟩
theorem P2 {p0 p1 p2 p3 p4 p5 p6 p7:Prop} (h0:p0) (h1:p1) (h2:p2) (h3:p3) (h4:p4) (h5:p5) (h6:p6) (h7:p7):RowKit.Hid p0∧RowKit.Hid p1∧RowKit.Hid p2∧RowKit.Hid p3∧RowKit.Hid p4∧RowKit.Hid p5∧RowKit.Hid p6∧RowKit.Hid p7:=⟨Go.Lib.hid h0,Go.Lib.hid h1,Go.Lib.hid h2,Go.Lib.hid h3,Go.Lib.hid h4,Go.Lib.hid h5,Go.Lib.hid h6,Go.Lib.hid h7⟩
theorem P3 {P:Nat→Prop} (h:∀ j,P j):P 0∧P 1∧P 2∧P 3∧P 4:=⟨h 0,h 1,h 2,h 3,h 4⟩
theorem P4 {P:Nat→Prop} (h:∀ j,P j):P 0∧P 1∧P 2∧P 3∧P 4∧P 5∧P 6∧P 7∧P 8:=⟨h 0,h 1,h 2,h 3,h 4,h 5,h 6,h 7,h 8⟩
theorem P5 {P:Nat→Prop} (h:∀ j,P j):P 0∧P 1∧P 2∧P 3∧P 4∧P 5∧P 6∧P 7∧P 8∧P 9∧P 10∧P 11:=⟨h 0,h 1,h 2,h 3,h 4,h 5,h 6,h 7,h 8,h 9,h 10,h 11⟩
theorem P6 {P:Nat→Prop} (h:∀ j,P j):P 0∧P 1∧P 2∧P 3∧P 4∧P 5∧P 6∧P 7∧P 8∧P 9∧P 10∧P 11∧P 12:=⟨h 0,h 1,h 2,h 3,h 4,h 5,h 6,h 7,h 8,h 9,h 10,h 11,h 12⟩
theorem hT2 {w:World} {b o:Nat} {x0 x1:Value} (q:b<w.heap.size) (c:∀ (j:Nat) (v:Value),[x0,x1][j]?=some v→w.cell? ⟨b,o+j,none⟩=some v):RowKit.Hid (∀ W,Below w.heap.size w W→W.cell? ⟨b,o,none⟩=some x0∧W.cell? ⟨b,o+1,none⟩=some x1):=Go.Lib.hid (fun _ h=>⟨kD h q (c 0 _ rfl),kD h q (c 1 _ rfl)⟩)
theorem hT13 {w:World} {b o:Nat} {x0 x1 x2 x3 x4 x5 x6 x7 x8 x9 x10 x11 x12:Value} (q:b<w.heap.size) (c:∀ (j:Nat) (v:Value),[x0,x1,x2,x3,x4,x5,x6,x7,x8,x9,x10,x11,x12][j]?=some v→w.cell? ⟨b,o+j,none⟩=some v):RowKit.Hid (∀ W,Below w.heap.size w W→W.cell? ⟨b,o,none⟩=some x0∧W.cell? ⟨b,o+1,none⟩=some x1∧W.cell? ⟨b,o+2,none⟩=some x2∧W.cell? ⟨b,o+3,none⟩=some x3∧W.cell? ⟨b,o+4,none⟩=some x4∧W.cell? ⟨b,o+5,none⟩=some x5∧W.cell? ⟨b,o+6,none⟩=some x6∧W.cell? ⟨b,o+7,none⟩=some x7∧W.cell? ⟨b,o+8,none⟩=some x8∧W.cell? ⟨b,o+9,none⟩=some x9∧W.cell? ⟨b,o+10,none⟩=some x10∧W.cell? ⟨b,o+11,none⟩=some x11∧W.cell? ⟨b,o+12,none⟩=some x12):=Go.Lib.hid (fun _ h=>⟨kD h q (c 0 _ rfl),kD h q (c 1 _ rfl),kD h q (c 2 _ rfl),kD h q (c 3 _ rfl),kD h q (c 4 _ rfl),kD h q (c 5 _ rfl),kD h q (c 6 _ rfl),kD h q (c 7 _ rfl),kD h q (c 8 _ rfl),kD h q (c 9 _ rfl),kD h q (c 10 _ rfl),kD h q (c 11 _ rfl),kD h q (c 12 _ rfl)⟩)
theorem Qj {α:Type} {l:List α} {i:Nat} {a:α} (h:l[i]?=some a):∃ q:i<l.length,l[i]=a:=List.getElem?_eq_some_iff.1 h
abbrev Qq:=@Lib.hid
abbrev Qz:=@Below.refl
abbrev Qk:=@cell_of_row
abbrev Qv:=@World.block_lt_of_cell?
abbrev Qx:=@List.getElem?_eq_getElem
abbrev Qy:=@List.mem_of_getElem?
abbrev Qw:=@heap_alloc_new
abbrev Q0:=@heap_alloc2_old
abbrev Q1:=@heap_alloc2_new
abbrev Q2:=@bodyPost_ret
abbrev Q3:=@Nat.zero_le
abbrev Q4:=@Nat.le_refl
abbrev Q5:=@Nat.lt_of_lt_of_le
abbrev Q6:=@Option.some.inj
abbrev Q7:=@Nat.le_trans
abbrev Q8:=@List.getElem_mem
abbrev Q9:=@And.intro
abbrev Qa:=@List.getElem?_toArray
abbrev Qb:=@List.getElem?_cons_zero
abbrev Qc:=@List.getElem?_cons_succ
abbrev Qd:=@heap_setCell_same
abbrev Qe:=@List.length_append
abbrev Qf:=@List.length_take
abbrev Qg:=@frozen_of_row
abbrev Qh:=@AllReadyH.nil
abbrev Qi:=@List.drop_eq_getElem_cons
abbrev Ql:=@Value.slice.injEq
abbrev Qm:=@List.getD_eq_getElem?_getD
abbrev Qn:=@Bool.not_eq_true
abbrev Qo:=@List.drop_eq_nil_of_le
abbrev Qp:=@List.take_of_length_le
abbrev Qr:=@List.length_drop
abbrev Qs:=@List.take_succ_eq_append_getElem
abbrev Qt:=@List.getElem?_of_mem
abbrev Qu:=@Option.some.injEq
abbrev Zj:=@List.getElem?_append_right
abbrev Zq:=@List.eq_nil_of_length_eq_zero
abbrev Zz:=@List.mem_of_mem_drop
abbrev Zk:=@Nat.min_eq_left
abbrev Zv:=@List.take_append_of_le_length
abbrev Zx:=@List.not_mem_nil
abbrev Zy:=@List.mem_cons
abbrev Zw:=@List.mem_append
abbrev Z0:=@List.mem_singleton
abbrev Z1:=@Nat.not_lt_zero
abbrev Z2:=@List.length_map
variable {P:Program} {md:Region.Mode} {ops:Array Oper} {Q:Exit→Act→World→Prop} {S:World→Prop} {fuel:Nat} {listed:Array Bool} {a a':Act} {w:World} {d:Option Nat} {o:Op} {t:TypeId} {p:String} {f:Array Edge} {g:Option (Nat × Bool)}
theorem tkD (i:Nat) {v:Value} (hl:∀ w0,S w0→(execOp a.eval ⟨d,o,t,p,f,g⟩).run P w0=.ok (.value v) w0) (h:wpAnyH P md ops Q S fuel (listed.setIfInBounds i true) a' w) (hi:ops[i]?=some ⟨d,o,t,p,f,g⟩:=by rfl) (hs:Region.noSelect ops=true:=by kernel_rfl) (hf:Region.free md ops listed i=true:=by kernel_rfl) (hr:(Region.ready md ops listed).contains i=true:=by kernel_rfl) (hQ:∀ c a w,Q (.panic c) (a.put d v) w→Q (.panic c) a w:=by intro _ _ _ h;exact h) (hg:Region.wanted ⟨d,o,t,p,f,g⟩ (yielded ops a.tmps)=true:=by rfl) (hS:S w:=by assumption) (e:a.put d v=a':=by simp only [Act.put,List.setIfInBounds_toArray,List.set_cons_zero,List.set_cons_succ];exact rfl):wpAnyH P md ops Q S (fuel+1) listed a w:=wpAnyH_take hi hs hf hr hQ (Or.inl ⟨hg,hl⟩) hS (e ▸ h)
theorem tkN (i:Nat) (h:wpAnyH P md ops Q S fuel (listed.setIfInBounds i true) a' w) (hi:ops[i]?=some ⟨d,o,t,p,f,g⟩:=by rfl) (hs:Region.noSelect ops=true:=by kernel_rfl) (hf:Region.free md ops listed i=true:=by kernel_rfl) (hr:(Region.ready md ops listed).contains i=true:=by kernel_rfl) (hQ:∀ c a w,Q (.panic c) (a.put d undef) w→Q (.panic c) a w:=by intro _ _ _ h;exact h) (hg:Region.wanted ⟨d,o,t,p,f,g⟩ (yielded ops a.tmps)=false:=by rfl) (hS:S w:=by assumption) (e:a.put d undef=a':=by simp only [Act.put,List.setIfInBounds_toArray,List.set_cons_zero,List.set_cons_succ];exact rfl):wpAnyH P md ops Q S (fuel+1) listed a w:=wpAnyH_take hi hs hf hr hQ (Or.inr ⟨hg,rfl⟩) hS (e ▸ h)
theorem rsD (rs:List Nat) (h:AllReadyH P md ops Q S fuel listed a w rs) (hr:Region.ready md ops listed=rs:=by kernel_rfl) (hne:rs≠[]:=by simp):wpAnyH P md ops Q S (fuel+1) listed a w:=wpAnyH_ready hr hne h
theorem rcD {i:Nat} {rs:List Nat} (h:∀ K':Act→World→Prop,Shut (∀ a w,S w→(S w→wpAnyH P md ops Q S fuel (listed.setIfInBounds i true) a w)→K' a w)→if Region.wanted ⟨d,o,t,p,f,g⟩ (yielded ops a.tmps)=true then Oper.wp P ⟨d,o,t,p,f,g⟩ a w K' Q else K' (a.put d undef) w) (hs:AllReadyH P md ops Q S fuel listed a w rs) (ho:ops[i]?=some ⟨d,o,t,p,f,g⟩:=by rfl):AllReadyH P md ops Q S fuel listed a w (i::rs):=AllReadyH.cons ho h hs
theorem rdD (i:Nat) (h:∀ K':Act→World→Prop,Shut (∀ a w,S w→(S w→wpAnyH P md ops Q S fuel (listed.setIfInBounds i true) a w)→K' a w)→if Region.wanted ⟨d,o,t,p,f,g⟩ (yielded ops a.tmps)=true then Oper.wp P ⟨d,o,t,p,f,g⟩ a w K' Q else K' (a.put d undef) w) (hs:AllReadyH P md ops Q S fuel listed a w []) (ho:ops[i]?=some ⟨d,o,t,p,f,g⟩:=by rfl) (hr:Region.ready md ops listed=[i]:=by kernel_rfl):wpAnyH P md ops Q S (fuel+1) listed a w:=rsD [i] (rcD h hs ho) hr
end Go.Proofs.YtlanplhphiikjaaGreatDoor

/-
  DERIVED: THE SHELF's CONTRACTS AT THIS DUMP, IN PLAIN WORDS (tools/lay-plain.mjs out of 'YtolgoojlpmgblaaDoorShelfS.lean', which tools/lay-shelf.mjs wrote): THE SAME DECLARATIONS UNDER THE SAME NAMES: 'import', 'namespace', 'open', 'def', 'theorem' AND NOTHING ELSE: no command of the shelf's: FOR A HAND-IN. Each laying: the table of numbers ('.._ren') and one theorem, a field a fact of the dump's own or the kernel's comparison; each contract: ONE APPLICATION.
-/
import Derived.Shelf.SlSorted.Search
import Derived.Test.YtolgoojlpmgblaaDoorProg
namespace Go.Proofs
open Go.Shelf
def Tryd.searchInts_ren : Go.Shelf.Ren := ⟨fun | 14 => 44 | 22 => 62 | 16 => 61 | n => n, fun | 28 => 22 | 3 => 3 | 0 => 0 | 35 => 85 | 4 => 4 | 38 => 91 | n => n, fun | n => n⟩
theorem Tryd.searchInts : Go.Proofs.SlLaysO.n14 Tryd.prog Tryd.searchInts_ren := {
  mixed := by kernel_rfl
  f14 := Tryd.func44.trans (congrArg some (by kernel_rfl))
  f16 := Tryd.func61.trans (congrArg some (by kernel_rfl))
  f22 := Tryd.func62.trans (congrArg some (by kernel_rfl))
  t0 := Tryd.underlying0
  a0 := Tryd.isAgg0
  z0 := Tryd.sizeOf0
  v0 := Tryd.zeroValue0
  t3 := Tryd.underlying3
  a3 := Tryd.isAgg3
  z3 := Tryd.sizeOf3
  v3 := Tryd.zeroValue3
  t4 := Tryd.underlying4
  a4 := Tryd.isAgg4
  z4 := Tryd.sizeOf4
  v4 := Tryd.zeroValue4
  t28 := Tryd.underlying22
  a28 := Tryd.isAgg22
  z28 := Tryd.sizeOf22
  v28 := Tryd.zeroValue22
  t35 := Tryd.underlying85
  a35 := Tryd.isAgg85
  z35 := Tryd.sizeOf85
  v35 := Tryd.zeroValue85
  t38 := Tryd.underlying91
  a38 := Tryd.isAgg91
  z38 := Tryd.sizeOf91
  v38 := Tryd.zeroValue91 }
open Go.RowKit Go.Sort Go.Lib in
theorem Tryd.sort_SearchInts (blk off cap : Nat) (d : Array Int) (x : Int) (w : World) (hc : ∀ i, i < d.size → w.cell? ⟨blk, off + i, none⟩ = some ((Value.int .i64) d[i]!)) (hblk : blk < w.heap.size) (hsz : d.size < 4611686018427387904)
    (hs : ∀ a b, a ≤ b → b < d.size → decide (x ≤ d[a]!) = true → decide (x ≤ d[b]!) = true) :
    Calls Tryd.prog 44 #[.slice (some ⟨blk, off, none⟩) d.size cap, .int .i64 x] w fun e w' => e = .returned (.int .i64 (d.toList.countP (fun y => !decide (x ≤ y)) : Nat)) ∧ Below w.heap.size w w' := Any.sort_SearchInts Tryd.searchInts blk off cap d x w hc hblk hsz hs
end Go.Proofs

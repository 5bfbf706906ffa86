/- RowsEncoding returns true for every input, and each argument reads afterwards as it read before. Condition: when the call begins, the listed package variables hold what the program's own text lays there (tied to that text). -/
import Derived.Test.YtlanplhphiikjaaGreatDoorE51
import Derived.Test.YtlanplhphiikjaaGreatDoorE52
set_option maxRecDepth 100000
set_option maxHeartbeats 400000000
namespace Go.Proofs.YtlanplhphiikjaaGreatDoor
open Go.ChangeShapes Go.WideShapes Go.ChangeAt Go.RowKit
open Go.ChangeMaps (open_string shut_string)
theorem rowsEncoding_proved:Rows.RowsEncodingCardSaid:=
 Claim7.holds_tied_plain_at .later [] [.data,.data,.data,.data,.sentinel,.sentinel,.widerDeep,.data,.pinned] true (true, "4a68260ae78bb104a87c44fff8cd2f300e8622761c52abf211ab49aade80c325") true E6 (fun _ h=>by cases h) Qxx (fun _ h=>by cases h) rowsEncoding_row_tie rfl ⟨rfl,rfl⟩ Qxx rfl
  (fun f fn hf D=>by
   obtain rfl:f=3:=Qb ((show Tryz.prog.funcNamed "schemalens/schemalenslaw17.RowsEncoding"=some 3 by kernel_rfl).symm.trans hf) |>.symm
   obtain rfl:fn=Tryz.f3:=(Qb (Tryz.func3.symm.trans D)).symm
   exact ⟨Qxx,fun j t ht=>by
    rw [Tryz.params3] at ht
    have hm:t ∈ [22,22,22,3,5,23]:=by simpa using Array.mem_of_getElem? ht
    have A:([22,22,22,3,5,23].all fun u=>!Tryz.prog.wantsStandIn u)=true:=Qxx
    exact (show Tryz.prog.wantsStandIn t=false by simpa using List.all_eq_true.1 A t hm)⟩)
  goes_not
end Go.Proofs.YtlanplhphiikjaaGreatDoor

import Derived.Test.YtlanplhphiikjaaGreatDoorF48
import Derived.Test.YtlanplhphiikjaaGreatDoorF49
set_option maxRecDepth 100000
set_option maxHeartbeats 400000000
namespace Go.Proofs.YtlanplhphiikjaaGreatDoor
open Go.ChangeShapes Go.WideShapes Go.ChangeAt Go.RowKit
open Go.ChangeMaps (open_string shut_string)
theorem evalChecks_proved:Rows.EvalChecksCardSaid:=
 Claim7.holds_tied_plain_at .later [] [.data,.data,.data,.data,.sentinel,.sentinel,.widerDeep,.data,.pinned] true (true, "4a68260ae78bb104a87c44fff8cd2f300e8622761c52abf211ab49aade80c325") true Ds (fun _ h=>by cases h) Og (fun _ h=>by cases h) evalChecks_row_tie rfl ⟨rfl,rfl⟩ Og rfl
  (fun f fn hf G=>by
   obtain rfl:f=4:=Q6 ((show Tryz.prog.funcNamed "schemalens/schemalenslaw18.EvalChecks"=some 4 by kernel_rfl).symm.trans hf) |>.symm
   obtain rfl:fn=Tryz.f4:=(Q6 (Tryz.func4.symm.trans G)).symm
   exact ⟨Og,fun j t ht=>by
    rw [Tryz.params4] at ht
    have hm:t ∈ [22,22,3,3]:=by simpa using Array.mem_of_getElem? ht
    have D:([22,22,3,3].all fun u=>!Tryz.prog.wantsStandIn u)=true:=Og
    exact (show Tryz.prog.wantsStandIn t=false by simpa using List.all_eq_true.1 D t hm)⟩)
  goes_not
end Go.Proofs.YtlanplhphiikjaaGreatDoor

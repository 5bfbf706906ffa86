import Derived.Test.YtlanplhphiikjaaGreatDoorF00
import Derived.Test.YtlanplhphiikjaaGreatDoorRows
set_option maxRecDepth 100000
set_option maxHeartbeats 400000000
namespace Go.Proofs.YtlanplhphiikjaaGreatDoor
open Go.ChangeShapes Go.WideShapes Go.ChangeAt Go.RowKit
open Go.ChangeMaps (open_string shut_string)
set_option maxRecDepth 100000
theorem goes_not:false=Rows.evalChecksRow.goesBy Tryz.prog:=Og
end Go.Proofs.YtlanplhphiikjaaGreatDoor

/- Joined: Rf01, Rf01b. -/
import Derived.Test.YtfknkmlocbojhaaGreatDoorGc
import Derived.Test.YtfknkmlocbojhaaGreatDoorGa
import Derived.Laws.BitsAllLaws
import Derived.Laws.ShiftsVarLaws
set_option linter.unusedVariables false
set_option linter.unusedSimpArgs false
namespace Go.Proofs.YtfknkmlocbojhaaGreatDoor
open Go.RowKit Go.Bw Go.Maps
end Go.Proofs.YtfknkmlocbojhaaGreatDoor

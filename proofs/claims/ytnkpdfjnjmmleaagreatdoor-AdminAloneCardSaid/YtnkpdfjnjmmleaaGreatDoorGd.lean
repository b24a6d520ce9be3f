/- Joined: Rf01, Rf01b. -/
import Derived.Test.YtnkpdfjnjmmleaaGreatDoorGc
import Derived.Test.YtnkpdfjnjmmleaaGreatDoorGa
import Derived.Laws.BitsAllLaws
import Derived.Laws.ShiftsVarLaws
set_option linter.unusedVariables false
set_option linter.unusedSimpArgs false
namespace Go.Proofs.YtnkpdfjnjmmleaaGreatDoor
open Go.RowKit Go.Bw Go.Maps
end Go.Proofs.YtnkpdfjnjmmleaaGreatDoor

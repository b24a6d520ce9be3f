/- Joined: LocR, RGood, RgTo. -/
import Derived.Test.YtnkpdfjnjmmleaaGreatDoorGg
import Derived.Test.YtnkpdfjnjmmleaaGreatDoorGd
set_option linter.unusedVariables false
set_option linter.unusedSimpArgs false
namespace Go.Proofs.YtnkpdfjnjmmleaaGreatDoor
open Go.RowKit Go.Bw Go.Maps Go.Shelf
end Go.Proofs.YtnkpdfjnjmmleaaGreatDoor

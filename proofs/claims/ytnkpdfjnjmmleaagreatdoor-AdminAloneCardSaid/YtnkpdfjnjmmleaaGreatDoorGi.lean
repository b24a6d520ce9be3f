/- Joined: Rf11, Rf12, RGain, UnderR, RLoss, RNeed. -/
import Derived.Test.YtnkpdfjnjmmleaaGreatDoorGd
import Derived.Test.YtnkpdfjnjmmleaaGreatDoorGb
import Derived.Test.YtnkpdfjnjmmleaaGreatDoorGe
import Derived.Test.YtnkpdfjnjmmleaaGreatDoorGf
import Derived.Test.YtnkpdfjnjmmleaaGreatDoorGg
set_option linter.unusedVariables false
set_option linter.unusedSimpArgs false
namespace Go.Proofs.YtnkpdfjnjmmleaaGreatDoor
open Go.RowKit Go.Bw Go.Maps Go.Shelf
end Go.Proofs.YtnkpdfjnjmmleaaGreatDoor
namespace Go.Proofs.YtnkpdfjnjmmleaaGreatDoor
open Go.RowKit Go.Bw Go.Maps Go.Shelf Go.Bw.Fall
end Go.Proofs.YtnkpdfjnjmmleaaGreatDoor
namespace Go.Proofs.YtnkpdfjnjmmleaaGreatDoor
open Go.RowKit Go.Bw Go.Maps Go.Shelf
end Go.Proofs.YtnkpdfjnjmmleaaGreatDoor
namespace Go.Proofs.YtnkpdfjnjmmleaaGreatDoor
open Go.RowKit Go.Bw Go.Maps Go.Shelf Go.Bw.Fall
end Go.Proofs.YtnkpdfjnjmmleaaGreatDoor

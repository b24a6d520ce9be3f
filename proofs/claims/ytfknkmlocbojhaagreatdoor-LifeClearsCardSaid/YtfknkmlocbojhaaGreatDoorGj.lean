/- Joined: LocR, RGood, RgTo. -/
import Derived.Test.YtfknkmlocbojhaaGreatDoorGg
import Derived.Test.YtfknkmlocbojhaaGreatDoorGd
set_option linter.unusedVariables false
set_option linter.unusedSimpArgs false
namespace Go.Proofs.YtfknkmlocbojhaaGreatDoor
open Go.RowKit Go.Bw Go.Maps Go.Shelf
end Go.Proofs.YtfknkmlocbojhaaGreatDoor

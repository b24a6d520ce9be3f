/- Joined: Rf11, Rf12, RGain, UnderR, RLoss, RNeed. -/
import Derived.Test.YtfknkmlocbojhaaGreatDoorGd
import Derived.Test.YtfknkmlocbojhaaGreatDoorGb
import Derived.Test.YtfknkmlocbojhaaGreatDoorGe
import Derived.Test.YtfknkmlocbojhaaGreatDoorGf
import Derived.Test.YtfknkmlocbojhaaGreatDoorGg
set_option linter.unusedVariables false
set_option linter.unusedSimpArgs false
namespace Go.Proofs.YtfknkmlocbojhaaGreatDoor
open Go.RowKit Go.Bw Go.Maps Go.Shelf
end Go.Proofs.YtfknkmlocbojhaaGreatDoor
namespace Go.Proofs.YtfknkmlocbojhaaGreatDoor
open Go.RowKit Go.Bw Go.Maps Go.Shelf Go.Bw.Fall
end Go.Proofs.YtfknkmlocbojhaaGreatDoor
namespace Go.Proofs.YtfknkmlocbojhaaGreatDoor
open Go.RowKit Go.Bw Go.Maps Go.Shelf
end Go.Proofs.YtfknkmlocbojhaaGreatDoor
namespace Go.Proofs.YtfknkmlocbojhaaGreatDoor
open Go.RowKit Go.Bw Go.Maps Go.Shelf Go.Bw.Fall
end Go.Proofs.YtfknkmlocbojhaaGreatDoor

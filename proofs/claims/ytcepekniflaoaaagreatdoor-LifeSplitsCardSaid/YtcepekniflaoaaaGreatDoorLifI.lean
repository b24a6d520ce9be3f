/- life's calls on the turn: Rename. -/
import Derived.Test.YtcepekniflaoaaaGreatDoorLifC
import Derived.Test.YtcepekniflaoaaaGreatDoorHk
set_option linter.unusedVariables false
set_option linter.unusedSimpArgs false
namespace Go.Proofs.YtcepekniflaoaaaGreatDoor
open Go.RowKit Go.Bw Go.Maps Go.Shelf Go.Bw.Fall
end Go.Proofs.YtcepekniflaoaaaGreatDoor

/- Joined: MiQ, LalIn. -/
import Derived.Test.YtcepekniflaoaaaGreatDoorGh
import Derived.Test.YtcepekniflaoaaaGreatDoorHw
set_option linter.unusedVariables false
set_option linter.unusedSimpArgs false
namespace Go.Proofs.YtcepekniflaoaaaGreatDoor
open Go.RowKit Go.Bw Go.Maps Go.WideShapes
end Go.Proofs.YtcepekniflaoaaaGreatDoor

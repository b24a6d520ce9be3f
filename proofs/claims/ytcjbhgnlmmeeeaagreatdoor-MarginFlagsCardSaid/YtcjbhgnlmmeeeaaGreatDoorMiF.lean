/- What came in, opened, for MarginFlags. -/
import Derived.Test.YtcjbhgnlmmeeeaaGreatDoorLawF
import Derived.Test.YtcjbhgnlmmeeeaaGreatDoorGh
namespace Go.Proofs.YtcjbhgnlmmeeeaaGreatDoor
open Go.RowKit Go.Bw Go.Maps Go.WideShapes
set_option linter.unusedVariables false
theorem marginFlags_in (W : World) (n0 : Array Value) (V0 : HasVal Tryz.prog W 31 n0.toList) (HL : Grd W) :
    Calls Tryz.prog 8 #[.agg n0] W fun e w' => e = .returned (.bool true) ∧ Below W.heap.size W w' := by
  obtain ⟨V, l, e, h, s⟩ := led_in V0
  rw [e]
  exact flags_law W V l h s HL
end Go.Proofs.YtcjbhgnlmmeeeaaGreatDoor

/- What came in, opened, for MarginApart. -/
import Derived.Test.YtcjbhgnlmmeeeaaGreatDoorLawA
import Derived.Test.YtcjbhgnlmmeeeaaGreatDoorGh
namespace Go.Proofs.YtcjbhgnlmmeeeaaGreatDoor
open Go.RowKit Go.Bw Go.Maps Go.WideShapes
set_option linter.unusedVariables false
theorem marginApart_in (W : World) (n0 : Array Value) (n1 : Int) (V0 : HasVal Tryz.prog W 31 n0.toList) (V1 : HasVal Tryz.prog W 3 [.int .i64 n1]) (HL : Grd W) :
    Calls Tryz.prog 5 #[.agg n0, .int .i64 n1] W fun e w' => e = .returned (.bool true) ∧ Below W.heap.size W w' := by
  obtain ⟨V, l, e, h, s⟩ := led_in V0
  rw [e]
  exact apart_law W V l h s HL n1
end Go.Proofs.YtcjbhgnlmmeeeaaGreatDoor

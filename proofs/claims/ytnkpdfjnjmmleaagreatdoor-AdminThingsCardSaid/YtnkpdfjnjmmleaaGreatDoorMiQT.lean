/- What came in, opened, for AdminThings. -/
import Derived.Test.YtnkpdfjnjmmleaaGreatDoorLawQT
import Derived.Test.YtnkpdfjnjmmleaaGreatDoorMiQ
namespace Go.Proofs.YtnkpdfjnjmmleaaGreatDoor
open Go.RowKit Go.Bw Go.Maps Go.WideShapes
set_option linter.unusedVariables false
theorem adminThings_in (W:World) (n0:Array Value) (n1 n2:Array Value) (V0:HasVal Tryz.prog W 31 n0.toList) (V1:HasVal Tryz.prog W 33 n1.toList) (V2:HasVal Tryz.prog W 35 n2.toList) (HL:Grd W) :
 Calls Tryz.prog 3 #[.agg n0,.agg n1,.agg n2] W fun e w'=>e=.returned (.bool true)∧Below W.heap.size W w':=by
 obtain⟨V,l,e,h,s⟩:=led_in V0
 obtain⟨u,rfl,hu⟩:=und_one_in V1
 obtain⟨i,rfl⟩:=ins_one_in V2
 rw[e]
 exact adminThings_law W V l h s HL u i hu
end Go.Proofs.YtnkpdfjnjmmleaaGreatDoor

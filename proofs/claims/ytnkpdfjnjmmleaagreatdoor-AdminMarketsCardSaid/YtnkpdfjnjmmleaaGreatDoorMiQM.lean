/- What came in, opened, for AdminMarkets. -/
import Derived.Test.YtnkpdfjnjmmleaaGreatDoorLawQM
import Derived.Test.YtnkpdfjnjmmleaaGreatDoorMiQ
namespace Go.Proofs.YtnkpdfjnjmmleaaGreatDoor
open Go.RowKit Go.Bw Go.Maps Go.WideShapes
set_option linter.unusedVariables false
theorem adminMarkets_in (W:World) (n0:Array Value) (n1:Int) (n2:Array Value) (V0:HasVal Tryz.prog W 31 n0.toList) (V1:HasVal Tryz.prog W 3 [.int .i64 n1]) (V2:HasVal Tryz.prog W 44 n2.toList) (HL:Grd W) :
 Calls Tryz.prog 5 #[.agg n0,.int .i64 n1,.agg n2] W fun e w'=>e=.returned (.bool true)∧Below W.heap.size W w':=by
 obtain⟨V,l,e,h,s⟩:=led_in V0
 obtain⟨p,q,rfl,hp,hq⟩:=two_in V2
 rw[e]
 exact adminMarkets_law W V l h s HL n1 p q
end Go.Proofs.YtnkpdfjnjmmleaaGreatDoor

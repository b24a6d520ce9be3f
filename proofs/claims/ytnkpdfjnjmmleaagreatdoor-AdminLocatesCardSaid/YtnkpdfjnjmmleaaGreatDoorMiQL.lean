/- What came in, opened, for AdminLocates. -/
import Derived.Test.YtnkpdfjnjmmleaaGreatDoorLawQL
import Derived.Test.YtnkpdfjnjmmleaaGreatDoorMiQ
set_option linter.unusedVariables false
set_option linter.unusedSimpArgs false
namespace Go.Proofs.YtnkpdfjnjmmleaaGreatDoor
open Go.RowKit Go.Bw Go.Maps Go.WideShapes
theorem adminLocates_in (W:World) (n0:Array Value) (n1:Array Value) (n2:Int) (V0:HasVal Tryz.prog W 31 n0.toList) (V1:HasVal Tryz.prog W 44 n1.toList) (V2:HasVal Tryz.prog W 3 [.int .i64 n2]) (HL:Grd W) :
 Calls Tryz.prog 6 #[.agg n0,.agg n1,.int .i64 n2] W fun e w'=>e=.returned (.bool true) /\ Below W.heap.size W w':=by
 obtain⟨V,l,e,h,s⟩:=led_in V0
 obtain⟨p,q,rfl,hp,hq⟩:=two_in V1
 obtain⟨x,hx,hx1,hx2⟩:=i64_in V2
 injection hx with hx1
 rw[e]
 exact adminLocates_law W V l h s HL p q n2 ⟨by omega,by omega⟩ ⟨by omega,by omega⟩ ⟨by omega,by omega⟩
end Go.Proofs.YtnkpdfjnjmmleaaGreatDoor

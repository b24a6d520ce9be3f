/- Joined: LawLX, MiLX. -/
import Derived.Test.YtfknkmlocbojhaaGreatDoorLawX0
import Derived.Test.YtfknkmlocbojhaaGreatDoorLawX1
import Derived.Test.YtfknkmlocbojhaaGreatDoorLawX2
import Derived.Test.YtfknkmlocbojhaaGreatDoorLawX3
import Derived.Test.YtfknkmlocbojhaaGreatDoorHm
set_option linter.unusedVariables false
set_option linter.unusedSimpArgs false
namespace Go.Proofs.YtfknkmlocbojhaaGreatDoor
open Go.RowKit Go.Bw Go.Maps Go.Shelf Go.Bw.Fall
theorem uY (w:World) (V:aC) (L:aH) (h:bJ w V L) (hs0:L.Short) (hG:nM w) (c:qB) (hu:c.s.size<=maxLen) (hx:I64 c.a/\I64 c.b) :
 Calls Tryz.prog 10 #[V.val L,.agg c.cells] w fun e w'=>e=.returned (.bool true)/\Below w.heap.size w w':=by
 have ch:c.k=0\/c.k=1\/c.k=2\/c.k=3:=by unfold qB.k;omega
 rcases ch with e|e|e|e
 ·exact tZ w V L h hs0 hG c hu hx e
 ·exact uf w V L h hs0 hG c hu hx e
 ·exact ug w V L h hs0 hG c hu hx e
 exact uh w V L h hs0 hG c hu hx e
end Go.Proofs.YtfknkmlocbojhaaGreatDoor
namespace Go.Proofs.YtfknkmlocbojhaaGreatDoor
open Go.RowKit Go.Bw Go.Maps Go.WideShapes
theorem wP (W:World) (n0:Array Value) (n1:Array Value) (V0:dm Tryz.prog W 31 n0.toList) (V1:dm Tryz.prog W 41 n1.toList) (HL:nM W) :
 Calls Tryz.prog 10 #[.agg n0,.agg n1] W fun e w'=>e=.returned (.bool true)/\Below W.heap.size W w':=by
 obtain⟨V,l,e,h,s⟩:=NK V0;obtain⟨c,rfl,hs,ha,hb⟩:=NJ V1;rw[e];exact uY W V l h s HL c hs ⟨ha,hb⟩
end Go.Proofs.YtfknkmlocbojhaaGreatDoor

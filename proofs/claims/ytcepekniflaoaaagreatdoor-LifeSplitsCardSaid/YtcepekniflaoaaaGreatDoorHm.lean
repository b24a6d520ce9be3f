/- Joined: MiQ, LalIn. -/
import Derived.Test.YtcepekniflaoaaaGreatDoorGh
import Derived.Test.YtcepekniflaoaaaGreatDoorHw
set_option linter.unusedVariables false
set_option linter.unusedSimpArgs false
set_option maxRecDepth 100000
namespace Go.Proofs.YtcepekniflaoaaaGreatDoor
open Go.RowKit Go.Bw Go.Maps Go.WideShapes
theorem okWide_arr {P:Program} {w:World} {r:Reach} {base:Nat} {t e:TypeId} {n:Nat} {v:Value} (ht:P.underlying t=some (.array n e)) (h:Value.okWide P w r base t v):∃ cs,v=.agg cs/\cs.size=P.cellsOf t:=by
 simp only[Value.okWide,ht] at h
 obtain⟨cs,h1,h2,_⟩:=h;exact⟨cs,h1,h2⟩
theorem Qz {w:World} {cs:Array Value} (h:dn Tryz.prog w 32 cs.toList):∃ p0 p1:Int,cs=#[.int .i64 p0,.int .i64 p1]/\(-9223372036854775808<=p0/\p0<=9223372036854775807)/\(-9223372036854775808<=p1/\p1<=9223372036854775807):=by
 obtain⟨hl,hi⟩:=h.array Tryz.underlying32;rw[show Tryz.prog.cellsOf 32=2 from by kernel_rfl] at hl;obtain⟨cs⟩:=cs
 match cs,hl with
 | [c0,c1],_ =>
   have e1:Tryz.prog.cellsOf 3=1:=by kernel_rfl
   have g0:=hi 0 (by omega);have g1:=hi 1 (by omega);rw[e1] at g0 g1;obtain⟨x0,rfl,h0⟩:=i64_in (c:=c0) g0;obtain⟨x1,rfl,h1⟩:=i64_in (c:=c1) g1;exact⟨x0,x1,rfl,h0,h1⟩
end Go.Proofs.YtcepekniflaoaaaGreatDoor

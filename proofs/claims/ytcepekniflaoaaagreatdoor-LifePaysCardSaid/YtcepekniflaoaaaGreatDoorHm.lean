/- Joined: MiQ, LalIn. -/
import Derived.Test.YtcepekniflaoaaaGreatDoorGh
import Derived.Test.YtcepekniflaoaaaGreatDoorHw
set_option linter.unusedVariables false
set_option linter.unusedSimpArgs false
set_option maxRecDepth 100000
namespace Go.Proofs.YtcepekniflaoaaaGreatDoor
open Go.RowKit Go.Bw Go.Maps Go.WideShapes
theorem PU {w:World} {cs:Array Value} (h:dB Tryz.prog w 41 cs.toList):∃ c:Qn,cs=#[.int .i64 c.kind,.int .i64 c.u,.int .i64 c.a,.int .i64 c.b,.string c.s]/\c.s.size<=maxLen/\I64 c.a/\I64 c.b:=by
 obtain⟨hl,_⟩:=h.struct Tryz.underlying41;rw[show Tryz.prog.cellsOf 41=5 from by kernel_rfl] at hl;obtain⟨cs⟩:=cs
 match cs,hl with
 | [c0,c1,c2,c3,c4],_ =>
   have h0:=h.field Tryz.underlying41 0 (u := 3) rfl (by kernel_rfl) (c:=c0) rfl;have h1:=h.field Tryz.underlying41 1 (u := 3) rfl (by kernel_rfl) (c:=c1) rfl;have h2:=h.field Tryz.underlying41 2 (u := 3) rfl (by kernel_rfl) (c:=c2) rfl;have h3:=h.field Tryz.underlying41 3 (u := 3) rfl (by kernel_rfl) (c:=c3) rfl;have h4:=h.field Tryz.underlying41 4 (u := 9) rfl (by kernel_rfl) (c:=c4) rfl;obtain⟨x0,rfl,_⟩:=i64_in h0;obtain⟨x1,rfl,_⟩:=i64_in h1;obtain⟨x2,rfl,k2⟩:=i64_in h2;obtain⟨x3,rfl,k3⟩:=i64_in h3;obtain⟨x4,rfl,hx⟩:=NP h4;exact⟨⟨x0,x1,x2,x3,x4⟩,rfl,hx,⟨k2.1,k2.2⟩,⟨k3.1,k3.2⟩⟩
end Go.Proofs.YtcepekniflaoaaaGreatDoor

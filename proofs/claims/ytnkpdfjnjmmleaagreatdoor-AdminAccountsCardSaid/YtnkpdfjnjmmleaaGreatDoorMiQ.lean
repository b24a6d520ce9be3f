/- What came in, opened, at admin's laws. -/
import Derived.Test.YtnkpdfjnjmmleaaGreatDoorGh
namespace Go.Proofs.YtnkpdfjnjmmleaaGreatDoor
open Go.RowKit Go.Bw Go.Maps Go.WideShapes
set_option linter.unusedVariables false
theorem okWide_arr {P:Program} {w:World} {r:Reach} {base:Nat} {t e:TypeId} {n:Nat} {v:Value} (ht:P.underlying t=some (.array n e)) (h:Value.okWide P w r base t v):∃ cs,v=.agg cs∧cs.size=P.cellsOf t:=by
 simp only[Value.okWide,ht] at h
 obtain⟨cs,h1,h2,_⟩:=h
 exact⟨cs,h1,h2⟩
set_option maxRecDepth 100000 in
theorem two_in {w:World} {cs:Array Value} (h:HasVal Tryz.prog w 44 cs.toList):∃ p0 p1:Int,cs=#[.int .i64 p0,.int .i64 p1]∧(-9223372036854775808≤p0∧p0≤9223372036854775807)∧(-9223372036854775808≤p1∧p1≤9223372036854775807):=by
 obtain⟨hl,hi⟩:=h.array Tryz.underlying44
 rw[show Tryz.prog.cellsOf 44=2 from by kernel_rfl] at hl
 obtain⟨cs⟩:=cs
 match cs,hl with
 | [c0,c1],_ =>
   have e1:Tryz.prog.cellsOf 3=1:=by kernel_rfl
   have g0:=hi 0 (by omega)
   have g1:=hi 1 (by omega)
   rw[e1] at g0 g1
   obtain⟨x0,rfl,h0⟩:=i64_in (c:=c0) g0
   obtain⟨x1,rfl,h1⟩:=i64_in (c:=c1) g1
   exact⟨x0,x1,rfl,h0,h1⟩
set_option maxRecDepth 100000 in
theorem und_one_in {w:World} {cs:Array Value} (h:HasVal Tryz.prog w 33 cs.toList):∃ u:Und,cs=#[.string u.name,.int .i64 u.cur,.int .i64 u.price,.int .i64 u.vol]∧u.name.size≤maxLen:=by
 obtain⟨hl,_⟩:=h.struct Tryz.underlying33
 rw[show Tryz.prog.cellsOf 33=4 from by kernel_rfl] at hl
 obtain⟨cs⟩:=cs
 match cs,hl with
 | [c0,c1,c2,c3],_ =>
   have h0:=h.field Tryz.underlying33 0 (u := 9) rfl (by kernel_rfl) (c:=c0) rfl
   have h1:=h.field Tryz.underlying33 1 (u := 3) rfl (by kernel_rfl) (c:=c1) rfl
   have h2:=h.field Tryz.underlying33 2 (u := 3) rfl (by kernel_rfl) (c:=c2) rfl
   have h3:=h.field Tryz.underlying33 3 (u := 3) rfl (by kernel_rfl) (c:=c3) rfl
   obtain⟨x0,rfl,hx⟩:=str_in h0
   obtain⟨x1,rfl,_⟩:=i64_in h1
   obtain⟨x2,rfl,_⟩:=i64_in h2
   obtain⟨x3,rfl,_⟩:=i64_in h3
   exact⟨⟨x0,x1,x2,x3⟩,rfl,hx⟩
set_option maxRecDepth 100000 in
theorem ins_one_in {w:World} {cs:Array Value} (h:HasVal Tryz.prog w 35 cs.toList):∃ i:Ins,cs=#[.int .i64 i.kind,.int .i64 i.under,.int .i64 i.mult,.int .i64 i.strike,.int .i64 i.expiry,.bool i.call,.int .i64 i.mark]:=by
 obtain⟨hl,_⟩:=h.struct Tryz.underlying35
 rw[show Tryz.prog.cellsOf 35=7 from by kernel_rfl] at hl
 obtain⟨cs⟩:=cs
 match cs,hl with
 | [c0,c1,c2,c3,c4,c5,c6],_ =>
   have h0:=h.field Tryz.underlying35 0 (u := 3) rfl (by kernel_rfl) (c:=c0) rfl
   have h1:=h.field Tryz.underlying35 1 (u := 3) rfl (by kernel_rfl) (c:=c1) rfl
   have h2:=h.field Tryz.underlying35 2 (u := 3) rfl (by kernel_rfl) (c:=c2) rfl
   have h3:=h.field Tryz.underlying35 3 (u := 3) rfl (by kernel_rfl) (c:=c3) rfl
   have h4:=h.field Tryz.underlying35 4 (u := 3) rfl (by kernel_rfl) (c:=c4) rfl
   have h5:=h.field Tryz.underlying35 5 (u := 4) rfl (by kernel_rfl) (c:=c5) rfl
   have h6:=h.field Tryz.underlying35 6 (u := 3) rfl (by kernel_rfl) (c:=c6) rfl
   obtain⟨x0,rfl,_⟩:=i64_in h0
   obtain⟨x1,rfl,_⟩:=i64_in h1
   obtain⟨x2,rfl,_⟩:=i64_in h2
   obtain⟨x3,rfl,_⟩:=i64_in h3
   obtain⟨x4,rfl,_⟩:=i64_in h4
   obtain⟨x5,rfl⟩:=bool_in h5
   obtain⟨x6,rfl,_⟩:=i64_in h6
   exact⟨⟨x0,x1,x2,x3,x4,x5,x6⟩,rfl⟩
end Go.Proofs.YtnkpdfjnjmmleaaGreatDoor

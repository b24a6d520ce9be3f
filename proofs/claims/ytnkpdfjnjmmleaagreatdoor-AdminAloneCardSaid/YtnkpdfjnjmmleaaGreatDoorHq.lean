/- Joined: MiQ, CalIn. -/
import Derived.Test.YtnkpdfjnjmmleaaGreatDoorGh
import Derived.Test.YtnkpdfjnjmmleaaGreatDoorAfter
set_option linter.unusedVariables false
set_option linter.unusedSimpArgs false
set_option maxRecDepth 100000
namespace Go.Proofs.YtnkpdfjnjmmleaaGreatDoor
open Go.RowKit Go.Bw Go.Maps Go.WideShapes
theorem und_one_in {w:World} {cs:Array Value} (h:HasVal Tryz.prog w 33 cs.toList):∃ u:Und,cs=#[.string u.name,.int .i64 u.cur,.int .i64 u.price,.int .i64 u.vol] /\ u.name.size <= maxLen:=by
 obtain⟨hl,_⟩:=h.struct Tryz.underlying33
 rw[show Tryz.prog.cellsOf 33=4 from by kernel_rfl] at hl
 obtain⟨cs⟩:=cs
 match cs,hl with
 | [c0,c1,c2,c3],_ =>
   have h0:=h.field Tryz.underlying33 0 (u := 9) rfl (by kernel_rfl) (c:=c0) rfl
   have h1:=h.field Tryz.underlying33 1 (u := 3) rfl (by kernel_rfl) (c:=c1) rfl
   have h2:=h.field Tryz.underlying33 2 (u := 3) rfl (by kernel_rfl) (c:=c2) rfl
   have h3:=h.field Tryz.underlying33 3 (u := 3) rfl (by kernel_rfl) (c:=c3) rfl
   obtain⟨x0,rfl,hx⟩:=str_in h0
   obtain⟨x1,rfl,_⟩:=i64_in h1
   obtain⟨x2,rfl,_⟩:=i64_in h2
   obtain⟨x3,rfl,_⟩:=i64_in h3
   exact⟨⟨x0,x1,x2,x3⟩,rfl,hx⟩
theorem ins_one_in {w:World} {cs:Array Value} (h:HasVal Tryz.prog w 35 cs.toList):∃ i:Ins,cs=#[.int .i64 i.kind,.int .i64 i.under,.int .i64 i.mult,.int .i64 i.strike,.int .i64 i.expiry,.bool i.call,.int .i64 i.mark]:=by
 obtain⟨hl,_⟩:=h.struct Tryz.underlying35
 rw[show Tryz.prog.cellsOf 35=7 from by kernel_rfl] at hl
 obtain⟨cs⟩:=cs
 match cs,hl with
 | [c0,c1,c2,c3,c4,c5,c6],_ =>
   have h0:=h.field Tryz.underlying35 0 (u := 3) rfl (by kernel_rfl) (c:=c0) rfl
   have h1:=h.field Tryz.underlying35 1 (u := 3) rfl (by kernel_rfl) (c:=c1) rfl
   have h2:=h.field Tryz.underlying35 2 (u := 3) rfl (by kernel_rfl) (c:=c2) rfl
   have h3:=h.field Tryz.underlying35 3 (u := 3) rfl (by kernel_rfl) (c:=c3) rfl
   have h4:=h.field Tryz.underlying35 4 (u := 3) rfl (by kernel_rfl) (c:=c4) rfl
   have h5:=h.field Tryz.underlying35 5 (u := 4) rfl (by kernel_rfl) (c:=c5) rfl
   have h6:=h.field Tryz.underlying35 6 (u := 3) rfl (by kernel_rfl) (c:=c6) rfl
   obtain⟨x0,rfl,_⟩:=i64_in h0
   obtain⟨x1,rfl,_⟩:=i64_in h1
   obtain⟨x2,rfl,_⟩:=i64_in h2
   obtain⟨x3,rfl,_⟩:=i64_in h3
   obtain⟨x4,rfl,_⟩:=i64_in h4
   obtain⟨x5,rfl⟩:=bool_in h5
   obtain⟨x6,rfl,_⟩:=i64_in h6
   exact⟨⟨x0,x1,x2,x3,x4,x5,x6⟩,rfl⟩
theorem cal_in {w:World} {cs:Array Value} (h:HasVal Tryz.prog w 51 cs.toList):∃ c:Cal,cs=c.cells /\ c.u.name.size <= maxLen /\ I64 c.c:=by
 obtain⟨hl,hh⟩:=h.struct Tryz.underlying51
 rw[show Tryz.prog.cellsOf 51=15 from by kernel_rfl] at hl
 obtain⟨cs⟩:=cs
 match cs,hl with
 | [c0,c1,c2,c3,c4,c5,c6,c7,c8,c9,c10,c11,c12,c13,c14],_ =>
   have h0:=h.field Tryz.underlying51 0 (u := 3) rfl (by kernel_rfl) (c:=c0) rfl
   have h1:=h.field Tryz.underlying51 1 (u := 3) rfl (by kernel_rfl) (c:=c1) rfl
   have h2:=h.field Tryz.underlying51 2 (u := 3) rfl (by kernel_rfl) (c:=c2) rfl
   have h3:=h.field Tryz.underlying51 3 (u := 3) rfl (by kernel_rfl) (c:=c3) rfl
   have h4:HasVal Tryz.prog w 33 (#[c4,c5,c6,c7]:Array Value).toList:=hh 4 _ rfl
   have h5:HasVal Tryz.prog w 35 (#[c8,c9,c10,c11,c12,c13,c14]:Array Value).toList:=hh 5 _ rfl
   obtain⟨x0,rfl,_⟩:=i64_in h0
   obtain⟨x1,rfl,_⟩:=i64_in h1
   obtain⟨x2,rfl,_⟩:=i64_in h2
   obtain⟨x3,rfl,hx⟩:=i64_in h3
   obtain⟨u,eu,hu⟩:=und_one_in h4
   obtain⟨i,ei⟩:=ins_one_in h5
   simp only[Array.mk.injEq,List.cons.injEq,and_true] at eu ei
   obtain⟨rfl,rfl,rfl,rfl⟩:=eu
   obtain⟨rfl,rfl,rfl,rfl,rfl,rfl,rfl⟩:=ei
   exact⟨⟨x0,x1,x2,x3,u,i⟩,rfl,hu,show I64 x3 from ⟨by omega,by omega⟩⟩
end Go.Proofs.YtnkpdfjnjmmleaaGreatDoor

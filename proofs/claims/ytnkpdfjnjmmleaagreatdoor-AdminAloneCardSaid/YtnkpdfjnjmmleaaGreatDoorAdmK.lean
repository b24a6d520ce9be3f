/- grid.Now: what a unit of an instrument is worth. -/
import Derived.Test.YtnkpdfjnjmmleaaGreatDoorHb
import Derived.Test.YtnkpdfjnjmmleaaGreatDoorGe
set_option linter.unusedVariables false
set_option linter.unusedSimpArgs false
set_option maxRecDepth 100000
set_option maxHeartbeats 4000000
namespace Go.Proofs.YtnkpdfjnjmmleaaGreatDoor
open Go.RowKit Go.Bw Go.Maps Go.Shelf Go.Bw.Fall
theorem now_any (i:Ins) (u:Und) (n m:Nat) (hi:i.Ok n) (hu:u.Ok m) (day:Int) (d0:0 <= day) (d1:day <= 100000) (w:World) :
 Calls Tryz.prog 50 #[.agg #[.int .i64 i.kind,.int .i64 i.under,.int .i64 i.mult,.int .i64 i.strike,.int .i64 i.expiry,.bool i.call,.int .i64 i.mark],.agg #[.string u.name,.int .i64 u.cur,.int .i64 u.price,.int .i64 u.vol],.int .i64 day] w fun e w'=>e=.returned (.tuple #[.int .i64 (unitA i u.price u.vol day).1,.int .i64 0]) /\ Below w.heap.size w w':=by
 obtain⟨_,_,_,p0,p1,v0,v1⟩:=hu
 have U:=zq (fun W=>ounit_any i n hi u.price u.vol day (by omega) (by omega) v0 (by omega) d0 d1 W)
 obtain⟨r,hr⟩:∃ r,r=(unitA i u.price u.vol day).1:=⟨_,rfl⟩
 rw[<- hr] at U ⊢
 have q0:¬ u.price<0:=by omega
 have q1:¬ (1000000000000:Int)<u.price:=by omega
 have q2:¬ u.vol<0:=by omega
 have q3:¬ (50000:Int)<u.vol:=by omega
 have B:=zq (show ∀ c1 c2,Below w.heap.size w ((w.alloc (.cells c1 35)).alloc (.cells c2 33)) from fun c1 c2=>((Below.refl _ _).alloc (Nat.le_refl _) _).alloc (by simp) _)
 clear hr hi d0 d1 p0 p1 v0 v1
 go_enter Tryz.func50,Tryz.ntmps50
 go_wp2_with fail
 refine (U.o _).mono ?_
 rintro e w' ⟨rfl,hb⟩
 have BB:=zq ((B.o _ _).trans (hb.mono (B.o _ _).size))
 clear hb
 go_wp2_with fail
 go_ret2
 exact⟨rfl,BB.o⟩
end Go.Proofs.YtnkpdfjnjmmleaaGreatDoor

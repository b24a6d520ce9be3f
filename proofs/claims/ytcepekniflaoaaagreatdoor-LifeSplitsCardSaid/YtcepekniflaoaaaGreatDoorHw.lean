/- Joined: LifW0, LifAf. -/
import Derived.Test.YtcepekniflaoaaaGreatDoorGn
import Derived.Test.YtcepekniflaoaaaGreatDoorGh
import Derived.Test.YtcepekniflaoaaaGreatDoorGl
import Derived.Test.YtcepekniflaoaaaGreatDoorGk
import Derived.Test.YtcepekniflaoaaaGreatDoorHt
set_option linter.unusedVariables false
set_option linter.unusedSimpArgs false
set_option maxRecDepth 100000
set_option maxHeartbeats 4000000
namespace Go.Proofs.YtcepekniflaoaaaGreatDoor
open Go.RowKit Go.Bw Go.Maps Go.Shelf
theorem Eb (w:World) (V:aB) (L:aH) (h:bK w V L) (hb:L.Short) :
 Calls Tryz.prog 7 #[V.val L] w fun e w'=>e=.returned (.bool (decide (1024<L.bulk)))/\Below w.heap.size w w':=by
 obtain⟨b1,b2,b3,b4,b5,b6,b7,b8⟩:=hb;obtain⟨a1,c1,a2,c2,a3,c3,a4,c4,a5,c5,a6,c6,a7,c7,a8,c8,e1,e2,e3,e4,e5,e6,e7,e8⟩:=bK.opened h;have R:=zq (show decide (1024<L.bulk)=decide ((1024:Int)<(((((((L.aQ.length:Int)+L.ah.length)+L.af.length)+L.au.length)+L.orders.length)+L.aG.length)+L.aJ.length)+L.ai.length) from by
  unfold aH.bulk;rw[Bool.eq_iff_iff];simp only[decide_eq_true_eq];omega)
 rw[R.o];unfold aB.val aB.cells;rw[e1,e2,e3,e4,e5,e6,e7,e8];obtain⟨n1,hn1⟩:=Zn L.aQ.length;obtain⟨n2,hn2⟩:=Zn L.ah.length;obtain⟨n3,hn3⟩:=Zn L.af.length;obtain⟨n4,hn4⟩:=Zn L.ai.length;obtain⟨n5,hn5⟩:=Zn L.au.length;obtain⟨n6,hn6⟩:=Zn L.orders.length;obtain⟨n7,hn7⟩:=Zn L.aG.length;obtain⟨n8,hn8⟩:=Zn L.aJ.length;rw[<-hn1] at b1;rw[<-hn2] at b2;rw[<-hn3] at b3;rw[<-hn4] at b4;rw[<-hn5] at b5;rw[<-hn6] at b6;rw[<-hn7] at b7;rw[<-hn8] at b8;rw[<-hn1,<-hn2,<-hn3,<-hn4,<-hn5,<-hn6,<-hn7,<-hn8];clear h e1 e2 e3 e4 e5 e6 e7 e8 hn1 hn2 hn3 hn4 hn5 hn6 hn7 hn8 R
 go_enter Tryz.func7,Tryz.ntmps7
 go_wp2_with fail
 go_ret;exact⟨rfl,Zb⟩
theorem Eo (L:aH) (r:yP):(jM L r).1.Short:=by
 by_cases hg:L.Good
 ·by_cases he:r.err=0
  ·by_cases hf:(gJ r.led).2=0
   ·rw[sG hg he hf];exact Aa _
   rw[uz hg he hf];exact yh
  rw[jk hg he];exact yh
 rw[sF hg];exact yh
end Go.Proofs.YtcepekniflaoaaaGreatDoor
namespace Go.Bw
structure Rl where
 kind:Int
 u:Int
 a:Int
 b:Int
 s:ByteArray
def Rl.cells (c:Rl):Array Value:=#[.int .i64 c.kind,.int .i64 c.u,.int .i64 c.a,.int .i64 c.b,.string c.s]
def Rl.k (c:Rl):Nat:=(c.kind % 4).toNat
end Go.Bw
namespace Go.Proofs.YtcepekniflaoaaaGreatDoor
open Go.RowKit Go.Bw Go.Maps Go.Shelf Go.Bw.Fall
end Go.Proofs.YtcepekniflaoaaaGreatDoor

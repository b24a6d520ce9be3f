/- Joined: AdmM, LifH, RLifA, AdmE. -/
import Derived.Test.YtfknkmlocbojhaaGreatDoorHc
import Derived.Test.YtfknkmlocbojhaaGreatDoorHd
import Derived.Test.YtfknkmlocbojhaaGreatDoorGd
import Derived.Test.YtfknkmlocbojhaaGreatDoorGi
set_option linter.unusedVariables false
set_option linter.unusedSimpArgs false
set_option maxRecDepth 100000
set_option maxHeartbeats 4000000
namespace Go.Proofs.YtfknkmlocbojhaaGreatDoor
open Go.RowKit Go.Bw Go.Maps Go.Shelf Go.Bw.Fall
theorem Ef (w:World) (V:aG) (L:aI) (h:bJ w V L) (n:Nat) (hn:n<L.af.length) (q v:Int) :
 Calls Tryz.prog 47 #[V.val L,.int .i64 (n:Int),.int .i64 q,.int .i64 v] w fun e w'=>e=.returned (.tuple #[.int .i64 (dH (L.ins n) q v).1,.int .i64 (dH (L.ins n) q v).2])/\Below w.heap.size w w':=by
 obtain⟨m,hm⟩:=Zn ((L.ins n).mult);obtain⟨x1,e1,h1⟩:∃ x e,gB q m=(x,e):=⟨_,_,rfl⟩;obtain⟨x2,e2,h2⟩:∃ x e,gB x1 v=(x,e):=⟨_,_,rfl⟩;obtain⟨R,hR⟩:=Zn (dH (L.ins n) q v);have R1:=zq (show e1≠0->R=(0,e1) from fun h=>by rw[hR];unfold dH;rw[<-hm,h1,if_neg h]);have R2:=zq (show e1=0->R=(x2,e2) from fun h=>by rw[hR];unfold dH;rw[<-hm,h1,if_pos h,h2]);have C1:=zq (fun W=>zi q m W);have C2:=zq (fun W=>zi x1 v W);rw[h1] at C1;rw[h2] at C2;rw[<-hR];unfold aG.val;obtain⟨C,hC⟩:=Zn (V.cells L);rw[<-hC];obtain⟨b3,o3,c3,e3,h3⟩:=h.af.place (aI.fA hn);obtain⟨n3,hn3⟩:=Zn L.af.length;rw[<-hn3] at e3 hn;obtain⟨W0,hW0⟩:=Zn (w.alloc (.cells C 31));obtain⟨b0,hb0⟩:=Zn w.heap.size;have BB:=zq (show Below w.heap.size w W0 from by rw[hW0];exact Zb);have y3:W0.cell? ⟨b0,3,none⟩=some (.slice (some ⟨b3,o3,none⟩) n3 c3):=by rw[hW0,hb0,<-e3];exact (cell_of_heap (heap_alloc_new w _) 3).trans (by rw[hC];rfl)
 have q2:W0.cell? ⟨b3,o3+n*7+2,none⟩=some (.int .i64 m):=by rw[hW0,hm];exact ((Mod.refl (fun _=>False) w).alloc _).cell (h3 2 _ rfl) (fun h=>h)
 have k0:(0:Int)<=(n:Int):=by omega
 have k1:(n:Int)<(n3:Int):=by omega
 clear h hn hm h1 h2 hR hC e3 h3 hn3
 go_enter Tryz.func47,Tryz.ntmps47
 go_upto_region 1 with (fail)
 rw[<-hW0,<-hb0];clear hW0 hb0
 go_wp2_with fail
 refine (C1.o _).mono ?_;rintro e w1 ⟨rfl,hb⟩;have B1:=zq (BB.o.trans (hb.mono BB.o.size));clear hb;by_cases hz:e1=0
 ·have RE:=zq (R2.o hz);subst hz;clear R1 R2 C1 y3 q2
  go_wp2_with fail
  refine (C2.o _).mono ?_;rintro e w2 ⟨rfl,hb⟩;have B2:=zq (B1.o.trans (hb.mono B1.o.size));clear hb
  go_wp2_with fail
  go_ret2;exact⟨by rw[RE.o] <;> rfl,B2.o⟩
 have RE:=zq (R1.o hz);have hz':(e1 != 0)=true:=by rw[bne_iff_ne];exact hz
 clear R1 R2 C1 y3 q2 hz
 go_wp2_with fail
 go_ret2;exact⟨by rw[RE.o] <;> rfl,B1.o⟩
theorem Rz (i:Ins) (u:fU) (n m:Nat) (hi:i.Ok n) (hu:u.Ok m) (day:Int) (d0:0<=day) (d1:day<=100000) (w:World) :
 Calls Tryz.prog 24 #[.agg #[.int .i64 i.kind,.int .i64 i.under,.int .i64 i.mult,.int .i64 i.strike,.int .i64 i.aO,.bool i.call,.int .i64 i.mark],.agg #[.string u.name,.int .i64 u.cur,.int .i64 u.price,.int .i64 u.dI],.int .i64 day] w fun e w'=>e=.returned (.tuple #[.int .i64 (lq i u.price u.dI day).1,.int .i64 0])/\Below w.heap.size w w':=by
 obtain⟨_,_,_,p0,p1,v0,v1⟩:=hu;have FI:=zq (fun W=>H7 u.price u.dI (by omega) p1 v0 v1 W);have U:=zq (fun W=>Oo i n hi u.price u.dI day (by omega) (by omega) v0 (by omega) d0 d1 W);obtain⟨r,hr⟩:=Zn ((lq i u.price u.dI day).1);rw[<-hr] at U ⊢;have B:=zq (show ∀ c1 c2,Below w.heap.size w ((w.alloc (.cells c1 51)).alloc (.cells c2 55)) from fun c1 c2=>(Zb).alloc (by simp) _);clear hr hi d0 d1 p0 p1 v0 v1
 go_enter Tryz.func24,Tryz.ntmps24
 go_wp2_with fail
 refine (FI.o _).mono ?_;rintro e w' ⟨rfl,rfl⟩
 go_wp2_with fail
 refine (U.o _).mono ?_;rintro e w' ⟨rfl,hb⟩;have BB:=zq ((B.o _ _).trans (hb.mono (B.o _ _).size));clear hb
 go_wp2_with fail
 go_ret2;exact⟨rfl,BB.o⟩
end Go.Proofs.YtfknkmlocbojhaaGreatDoor

/- The laws' wide, alike. -/
import Derived.Test.YtnkpdfjnjmmleaaGreatDoorGn
import Derived.Test.YtnkpdfjnjmmleaaGreatDoorGh
import Derived.Test.YtnkpdfjnjmmleaaGreatDoorGl
import Derived.Test.YtnkpdfjnjmmleaaGreatDoorGk
set_option linter.unusedVariables false
set_option linter.unusedSimpArgs false
set_option maxRecDepth 100000
set_option maxHeartbeats 4000000
namespace Go.Proofs.YtnkpdfjnjmmleaaGreatDoor
open Go.RowKit Go.Bw Go.Maps Go.Shelf
theorem wide_any (w:World) (V:LedV) (L:Led) (h:LedAt w V L) (hb:L.Short) :
 Calls Tryz.prog 12 #[V.val L] w fun e w'=>e=.returned (.bool (decide (1024<L.bulk))) /\ Below w.heap.size w w':=by
 obtain⟨b1,b2,b3,b4,b5,b6,b7,b8⟩:=hb
 obtain⟨a1,c1,a2,c2,a3,c3,a4,c4,a5,c5,a6,c6,a7,c7,a8,c8,e1,e2,e3,e4,e5,e6,e7,e8⟩:=LedAt.opened h
 have R:=zq (show decide (1024<L.bulk)=decide ((1024:Int)<(((((((L.curs.length:Int)+L.unders.length)+L.instrs.length)+L.poss.length)+L.orders.length)+L.avail.length)+L.locs.length)+L.accts.length) from by
  unfold Led.bulk;rw[Bool.eq_iff_iff];simp only[decide_eq_true_eq];omega)
 rw[R.o]
 unfold LedV.val LedV.cells
 rw[e1,e2,e3,e4,e5,e6,e7,e8]
 obtain⟨n1,hn1⟩:∃ n,n=L.curs.length:=⟨_,rfl⟩
 obtain⟨n2,hn2⟩:∃ n,n=L.unders.length:=⟨_,rfl⟩
 obtain⟨n3,hn3⟩:∃ n,n=L.instrs.length:=⟨_,rfl⟩
 obtain⟨n4,hn4⟩:∃ n,n=L.accts.length:=⟨_,rfl⟩
 obtain⟨n5,hn5⟩:∃ n,n=L.poss.length:=⟨_,rfl⟩
 obtain⟨n6,hn6⟩:∃ n,n=L.orders.length:=⟨_,rfl⟩
 obtain⟨n7,hn7⟩:∃ n,n=L.avail.length:=⟨_,rfl⟩
 obtain⟨n8,hn8⟩:∃ n,n=L.locs.length:=⟨_,rfl⟩
 rw[<- hn1] at b1
 rw[<- hn2] at b2
 rw[<- hn3] at b3
 rw[<- hn4] at b4
 rw[<- hn5] at b5
 rw[<- hn6] at b6
 rw[<- hn7] at b7
 rw[<- hn8] at b8
 rw[<- hn1,<- hn2,<- hn3,<- hn4,<- hn5,<- hn6,<- hn7,<- hn8]
 clear h e1 e2 e3 e4 e5 e6 e7 e8 hn1 hn2 hn3 hn4 hn5 hn6 hn7 hn8 R
 go_enter Tryz.func12,Tryz.ntmps12
 go_wp2_with fail
 go_ret
 exact⟨rfl,(Below.refl _ _).alloc (Nat.le_refl _) _⟩
theorem admA_short (L:Led) (r:Adm):(admA L r).1.Short:=by
 by_cases hg:L.Good
 ·by_cases he:r.err=0
  ·by_cases hf:(flagsA r.led).2=0
   ·rw[admA_ok hg he hf];exact flagsA_short _
   ·rw[admA_over hg he hf];exact short0
  ·rw[admA_err hg he];exact short0
 ·rw[admA_bad hg];exact short0
theorem alike_yes (w:World) (V U:LedV) (M:Led) (h:LedAt w V M) (h':LedAt w U M) (hs:M.Short) (n e:Int) :
 Calls Tryz.prog 15 #[V.val M,.int .i64 n,.int .i64 e,U.val M,.int .i64 n,.int .i64 e] w fun x w'=>x=.returned (.bool true) /\ Below w.heap.size w w':=by
 have LC:=zq (ledc h)
 have LD:=zq (ledc h')
 have SM:=zq (fun W (hb:Below w.heap.size w W)=>rsame_any W V U M M (h.below hb) (h'.below hb) hs)
 rw[eqB_yes rfl] at SM
 unfold LedV.val at SM ⊢
 obtain⟨C,hC⟩:∃ C,C=V.cells M:=⟨_,rfl⟩
 obtain⟨D,hD⟩:∃ C,C=U.cells M:=⟨_,rfl⟩
 rw[<- hC,<- hD] at SM ⊢
 rw[<- hC] at LC
 rw[<- hD] at LD
 obtain⟨W0,hW0⟩:∃ s,s=(w.alloc (.cells C 31)).alloc (.cells D 31):=⟨_,rfl⟩
 obtain⟨b0,hb0⟩:∃ n,n=w.heap.size:=⟨_,rfl⟩
 have X0:=zq (show At w W0 [(b0, 31,C),(b0+1, 31,D)] from by
  have a:=((At.start w).alloc 31 C).alloc 31 D
  have e:∀ (w:World) (o:Obj),(w.alloc o).heap.size=w.heap.size+1:=fun w o=>by simp
  simp only[e] at a
  rw[<- hW0,<- hb0] at a
  exact a)
 clear h h' hs hC hD
 go_enter Tryz.func15,Tryz.ntmps15
 go_upto_region 1 with (fail)
 rw[<- hW0,<- hb0]
 clear hW0 hb0
 go_wp2_with (first|refine led_load (X0.o.get 0 rfl) LC.o rfl rfl rfl ?_|refine led_load (X0.o.get 1 rfl) LD.o rfl rfl rfl ?_)
 refine (SM.o W0 X0.o.low).mono ?_
 rintro x w2 ⟨rfl,hb⟩
 have X2:=zq (X0.o.go hb)
 clear hb
 go_wp2_with fail
 go_ret
 exact⟨rfl,X2.o.low⟩
end Go.Proofs.YtnkpdfjnjmmleaaGreatDoor

/- AdminLocates, walked (printed by tools/gen_lawq.py). -/
import Derived.Test.YtnkpdfjnjmmleaaGreatDoorAdmW0
import Derived.Test.YtnkpdfjnjmmleaaGreatDoorAdmY
import Derived.Test.YtnkpdfjnjmmleaaGreatDoorAdmTsupply
import Derived.Test.YtnkpdfjnjmmleaaGreatDoorAdmTreserve
import Derived.Test.YtnkpdfjnjmmleaaGreatDoorAdmRsupply
import Derived.Test.YtnkpdfjnjmmleaaGreatDoorAdmRreserve
set_option linter.unusedVariables false
set_option linter.unusedSimpArgs false
set_option maxRecDepth 100000
set_option maxHeartbeats 8000000
namespace Go.Proofs.YtnkpdfjnjmmleaaGreatDoor
open Go.RowKit Go.Bw Go.Maps Go.Shelf Go.Bw.Fall
theorem adminLocates_law (w:World) (V:LedV) (L:Led) (h:LedAt w V L) (hs0:L.Short) (hG:Grd w) (p q n:Int) (hp:I64 p) (hq:I64 q) (hn:I64 n) :
 Calls Tryz.prog 6 #[V.val L,.agg #[.int .i64 p,.int .i64 q],.int .i64 n] w fun e w'=>e=.returned (.bool true) /\ Below w.heap.size w w':=by
 classical
 have WK:=zq (fun W (hb:Below w.heap.size w W)=>wakes18_any W (hG.below hb))
 have WD:=zq (fun W (hb:Below w.heap.size w W)=>wide_any W V L (h.below hb) hs0)
 have CA1:=zq (fun W (hb:Below w.heap.size w W) (hL:L.accts.length <= 1024)=>asupply_any W V L (h.below hb) hL (hG.below hb) q n)
 have CD1:=zq (fun W (hb:Below w.heap.size w W) (hL:L.accts.length <= 1024)=>dsupply_any W V L (h.below hb) hL q n)
 have SH1:=zq (admA_short L (supplyS L q n))
 have CA2:=zq (fun W (hb:Below w.heap.size w W) (hL:L.accts.length <= 1024)=>areserve_any W V L (h.below hb) hL (hG.below hb) p q n)
 have CD2:=zq (fun W (hb:Below w.heap.size w W) (hL:L.accts.length <= 1024)=>dreserve_any W V L (h.below hb) hL p q n)
 have SH2:=zq (admA_short L (reserveS L p q n))
 have LC:=zq (ledc h)
 have BK:=zq (show ¬ 1024<L.bulk -> L.accts.length <= 1024 from fun hb=>by unfold Led.bulk at hb;omega)
 obtain⟨M1,n1,e1,hM1⟩:∃ M num er,admA L (supplyS L q n)=(M,num,er):=⟨_,_,_,rfl⟩
 rw[hM1] at CA1 CD1 SH1
 clear hM1
 obtain⟨M2,n2,e2,hM2⟩:∃ M num er,admA L (reserveS L p q n)=(M,num,er):=⟨_,_,_,rfl⟩
 rw[hM2] at CA2 CD2 SH2
 clear hM2
 unfold LedV.val at WD CA1 CA2 CD1 CD2 ⊢
 obtain⟨C,hC⟩:∃ C,C=V.cells L:=⟨_,rfl⟩
 rw[<- hC] at WD CA1 CA2 CD1 CD2 LC ⊢
 obtain⟨BB,hBB⟩:∃ B,B=decide (1024<L.bulk):=⟨_,rfl⟩
 rw[<- hBB] at WD
 have HB:=zq hBB
 obtain⟨W0,hW0⟩:∃ s,s=(w.alloc (.cells C 31)).alloc (.cells #[.int .i64 p,.int .i64 q] 44):=⟨_,rfl⟩
 obtain⟨b0,hb0⟩:∃ n,n=w.heap.size:=⟨_,rfl⟩
 have X0:=zq (show At w W0 [(b0, 31,C),(b0+1, 44,#[.int .i64 p,.int .i64 q])] from by
  have a:=(((At.start w).alloc 31 C).alloc 44 #[.int .i64 p,.int .i64 q])
  have e:∀ (w:World) (o:Obj),(w.alloc o).heap.size=w.heap.size+1:=fun w o=>by simp
  simp only[e] at a
  rw[<- hW0,<- hb0] at a
  exact a)
 clear h hs0 hG hC hBB hp hq hn
 go_enter Tryz.func6,Tryz.ntmps6
 go_upto_region 1 with (fail)
 rw[<- hW0,<- hb0]
 clear hW0 hb0
 go_wp2_with fail
 refine (WK.o W0 X0.o.low).mono ?_
 rintro e w1 ⟨rfl,hb⟩
 have X1:=zq (X0.o.go hb)
 clear hb X0
 go_wp2_with (refine led_load (X1.o.get 0 rfl) LC.o rfl rfl rfl ?_)
 refine (WD.o w1 X1.o.low).mono ?_
 rintro e w2 ⟨rfl,hb⟩
 have X2:=zq (X1.o.go hb)
 clear hb X1
 cases hbb:BB with
 | true =>
   subst hbb
   go_wp2_with fail
   go_ret
   exact⟨rfl,X2.o.low⟩
 | false =>
   subst hbb
   have HL:=zq (BK.o (of_decide_eq_false HB.o.symm))
   have z00:w2.cell? ⟨b0+1,0,none⟩=some (.int .i64 p):=X2.o.cell 1 rfl 0 rfl
   have z01:w2.cell? ⟨b0+1,1,none⟩=some (.int .i64 q):=X2.o.cell 1 rfl 1 rfl
   go_wp2_with (refine led_load (X2.o.get 0 rfl) LC.o rfl rfl rfl ?_)
   refine (CA1.o w2 X2.o.low HL.o).mono ?_
   rintro e w3 ⟨U1,rfl,own,hb⟩
   have X3:=zq (X2.o.go hb)
   have O1:=zq own
   have L1:=zq (ledc own.led)
   unfold LedV.val
   clear own hb CA1 z00 z01
   go_upto_region 6 with (refine led_store (heap_alloc_last _ _) ledc0 L1.o rfl rfl rfl rfl ?_;rw[World.setRow_alloc_new])
   have X4:=zq (X3.o.alloc 31 (U1.cells M1))
   have O1:=zq (O1.o.below ((Below.refl _ _).alloc (Nat.le_refl _) (.cells (U1.cells M1) 31)))
   obtain⟨w4,hw4⟩:∃ s,s=w3.alloc (.cells (U1.cells M1) 31):=⟨_,rfl⟩
   obtain⟨q1,hq1⟩:∃ n,n=w3.heap.size:=⟨_,rfl⟩
   rw[<- hw4] at O1
   rw[<- hw4,<- hq1] at X4
   rw[<- hw4,<- hq1]
   clear hw4 hq1 X3
   have z00:w4.cell? ⟨b0+1,0,none⟩=some (.int .i64 p):=X4.o.cell 1 rfl 0 rfl
   have z01:w4.cell? ⟨b0+1,1,none⟩=some (.int .i64 q):=X4.o.cell 1 rfl 1 rfl
   go_simp
   go_wp2_with (refine led_load (X4.o.get 0 rfl) LC.o rfl rfl rfl ?_)
   refine (CD1.o w4 X4.o.low HL.o).mono ?_
   rintro e w5 ⟨U2,rfl,own,hb⟩
   have X5:=zq (X4.o.go hb)
   have O1:=zq (O1.o.below hb)
   have O2:=zq own
   have L2:=zq (ledc own.led)
   unfold LedV.val
   clear own hb CD1 z00 z01
   go_upto_region 7 with (refine led_store (heap_alloc_last _ _) ledc0 L2.o rfl rfl rfl rfl ?_;rw[World.setRow_alloc_new])
   have X6:=zq (X5.o.alloc 31 (U2.cells M1))
   have AL:=zq (alike_yes (w5.alloc (.cells (U2.cells M1) 31)) U1 U2 M1 (O1.o.below ((Below.refl _ _).alloc (Nat.le_refl _) _)).led (O2.o.below ((Below.refl _ _).alloc (Nat.le_refl _) _)).led SH1.o n1 e1)
   unfold LedV.val at AL
   obtain⟨w6,hw6⟩:∃ s,s=w5.alloc (.cells (U2.cells M1) 31):=⟨_,rfl⟩
   obtain⟨q2,hq2⟩:∃ n,n=w5.heap.size:=⟨_,rfl⟩
   rw[<- hw6] at AL
   rw[<- hw6,<- hq2] at X6
   rw[<- hw6,<- hq2]
   clear hw6 hq2 X5 O1 O2 SH1
   go_simp
   go_wp2_with (first|refine led_load (X6.o.get 2 rfl) L1.o rfl rfl rfl ?_|refine led_load (X6.o.get 3 rfl) L2.o rfl rfl rfl ?_)
   refine AL.o.mono ?_
   rintro e w7 ⟨rfl,hb⟩
   have X7:=zq (X6.o.go hb)
   clear hb AL X6
   have z00:w7.cell? ⟨b0+1,0,none⟩=some (.int .i64 p):=X7.o.cell 1 rfl 0 rfl
   have z01:w7.cell? ⟨b0+1,1,none⟩=some (.int .i64 q):=X7.o.cell 1 rfl 1 rfl
   go_wp2_with (refine led_load (X7.o.get 0 rfl) LC.o rfl rfl rfl ?_)
   refine (CA2.o w7 X7.o.low HL.o).mono ?_
   rintro e w8 ⟨U3,rfl,own,hb⟩
   have X8:=zq (X7.o.go hb)
   have O3:=zq own
   have L3:=zq (ledc own.led)
   have S7:=zq (show q1<w7.heap.size /\ q2<w7.heap.size from ⟨X7.o.lt (q1, 31,U1.cells M1) (by simp),X7.o.lt (q2, 31,U2.cells M1) (by simp)⟩)
   unfold LedV.val
   clear own hb CA2 z00 z01
   go_simp
   go_upto_region 10 with (refine led_store (X8.o.get 2 rfl) L1.o L3.o rfl rfl rfl rfl ?_)
   have X9:=zq (X8.o.setRow 2 rfl (U3.cells M2))
   have O3:=zq (O3.o.mod (mod_setRow' (w:=w8) q1 (U3.cells M2)) (fun k hk _ e=>by have:=S7.o;omega))
   obtain⟨w9,hw9⟩:∃ s,s=w8.setRow q1 (U3.cells M2):=⟨_,rfl⟩
   rw[<- hw9] at O3 X9
   rw[<- hw9]
   clear hw9 X8
   have z00:w9.cell? ⟨b0+1,0,none⟩=some (.int .i64 p):=X9.o.cell 1 rfl 0 rfl
   have z01:w9.cell? ⟨b0+1,1,none⟩=some (.int .i64 q):=X9.o.cell 1 rfl 1 rfl
   go_simp
   go_wp2_with (refine led_load (X9.o.get 0 rfl) LC.o rfl rfl rfl ?_)
   refine (CD2.o w9 X9.o.low HL.o).mono ?_
   rintro e w10 ⟨U4,rfl,own,hb⟩
   have X10:=zq (X9.o.go hb)
   have O3:=zq (O3.o.below hb)
   have O4:=zq own
   have L4:=zq (ledc own.led)
   have S9:=zq (show q2<w9.heap.size from X9.o.lt (q2, 31,U2.cells M1) (by simp))
   unfold LedV.val
   clear own hb CD2 z00 z01
   go_simp
   go_upto_region 11 with (refine led_store (X10.o.get 3 rfl) L2.o L4.o rfl rfl rfl rfl ?_)
   have X11:=zq (X10.o.setRow 3 rfl (U4.cells M2))
   have O3:=zq (O3.o.mod (mod_setRow' (w:=w10) q2 (U4.cells M2)) (fun k hk _ e=>by have:=S7.o;omega))
   have O4:=zq (O4.o.mod (mod_setRow' (w:=w10) q2 (U4.cells M2)) (fun k hk _ e=>by have:=S9.o;omega))
   obtain⟨w11,hw11⟩:∃ s,s=w10.setRow q2 (U4.cells M2):=⟨_,rfl⟩
   rw[<- hw11] at O3 O4 X11
   rw[<- hw11]
   clear hw11 X10
   have AL:=zq (alike_yes w11 U3 U4 M2 O3.o.led O4.o.led SH2.o n2 e2)
   unfold LedV.val at AL
   go_simp
   go_wp2_with (first|refine led_load (X11.o.get 2 rfl) L3.o rfl rfl rfl ?_|refine led_load (X11.o.get 3 rfl) L4.o rfl rfl rfl ?_)
   refine AL.o.mono ?_
   rintro e w12 ⟨rfl,hb⟩
   have X12:=zq (X11.o.go hb)
   clear hb
   go_wp2_with fail
   go_ret
   exact⟨rfl,X12.o.low⟩
end Go.Proofs.YtnkpdfjnjmmleaaGreatDoor

/- AdminMarkets, walked (printed by tools/gen_lawq.py). -/
import Derived.Test.YtnkpdfjnjmmleaaGreatDoorAdmW0
import Derived.Test.YtnkpdfjnjmmleaaGreatDoorAdmY
import Derived.Test.YtnkpdfjnjmmleaaGreatDoorAdmTprice
import Derived.Test.YtnkpdfjnjmmleaaGreatDoorAdmTrate
import Derived.Test.YtnkpdfjnjmmleaaGreatDoorAdmRprice
import Derived.Test.YtnkpdfjnjmmleaaGreatDoorAdmRrate
namespace Go.Proofs.YtnkpdfjnjmmleaaGreatDoor
open Go.RowKit Go.Bw Go.Maps Go.Shelf Go.Bw.Fall
set_option linter.unusedVariables false
set_option linter.unusedSimpArgs false
set_option maxRecDepth 100000 in
set_option maxHeartbeats 8000000 in
theorem adminMarkets_law (w:World) (V:LedV) (L:Led) (h:LedAt w V L) (hs0:L.Short) (hG:Grd w) (n p q:Int) :
 Calls Tryz.prog 5 #[V.val L,.int .i64 n,.agg #[.int .i64 p,.int .i64 q]] w fun e w'=>e=.returned (.bool true)∧Below w.heap.size w w':=by
 classical
 have WK:=Lib.hid (fun W (hb:Below w.heap.size w W)=>wakes18_any W (hG.below hb))
 have WD:=Lib.hid (fun W (hb:Below w.heap.size w W)=>wide_any W V L (h.below hb) hs0)
 have CA1:=Lib.hid (fun W (hb:Below w.heap.size w W) (hL:L.accts.length≤1024)=>aprice_any W V L (h.below hb) hL (hG.below hb) n p q)
 have CD1:=Lib.hid (fun W (hb:Below w.heap.size w W) (hL:L.accts.length≤1024)=>dprice_any W V L (h.below hb) hL n p q)
 have SH1:=Lib.hid (admA_short L (priceS L n p q))
 have CA2:=Lib.hid (fun W (hb:Below w.heap.size w W) (hL:L.accts.length≤1024)=>arate_any W V L (h.below hb) hL (hG.below hb) n p q)
 have CD2:=Lib.hid (fun W (hb:Below w.heap.size w W) (hL:L.accts.length≤1024)=>drate_any W V L (h.below hb) hL n p q)
 have SH2:=Lib.hid (admA_short L (rateS L n p q))
 have LC:=Lib.hid (ledc h)
 have BK:=Lib.hid (show ¬ 1024<L.bulk→L.accts.length≤1024 from fun hb=>by unfold Led.bulk at hb;omega)
 obtain⟨M1,n1,e1,hM1⟩:∃ M num er,admA L (priceS L n p q)=(M,num,er):=⟨_,_,_,rfl⟩
 rw[hM1] at CA1 CD1 SH1
 clear hM1
 obtain⟨M2,n2,e2,hM2⟩:∃ M num er,admA L (rateS L n p q)=(M,num,er):=⟨_,_,_,rfl⟩
 rw[hM2] at CA2 CD2 SH2
 clear hM2
 unfold LedV.val at WD CA1 CA2 CD1 CD2 ⊢
 obtain⟨C,hC⟩:∃ C,C=V.cells L:=⟨_,rfl⟩
 rw[← hC] at WD CA1 CA2 CD1 CD2 LC ⊢
 obtain⟨BB,hBB⟩:∃ B,B=decide (1024<L.bulk):=⟨_,rfl⟩
 rw[← hBB] at WD
 have HB:=Lib.hid hBB
 obtain⟨W0,hW0⟩:∃ s,s=(w.alloc (.cells C 31)).alloc (.cells #[.int .i64 p,.int .i64 q] 44):=⟨_,rfl⟩
 obtain⟨b0,hb0⟩:∃ n,n=w.heap.size:=⟨_,rfl⟩
 have X0:=Lib.hid (show At w W0 [(b0, 31,C),(b0+1, 44,#[.int .i64 p,.int .i64 q])] from by
  have a:=(((At.start w).alloc 31 C).alloc 44 #[.int .i64 p,.int .i64 q])
  have e:∀ (w:World) (o:Obj),(w.alloc o).heap.size=w.heap.size+1:=fun w o=>by simp
  simp only[e] at a
  rw[← hW0,← hb0] at a
  exact a)
 clear h hs0 hG hC hBB
 go_enter Tryz.func5,Tryz.ntmps5
 go_upto_region 1 with (fail)
 rw[← hW0,← hb0]
 clear hW0 hb0
 go_wp2_with fail
 refine (WK.out W0 X0.out.low).mono ?_
 rintro e w1 ⟨rfl,hb⟩
 have X1:=Lib.hid (X0.out.go hb)
 clear hb X0
 go_wp2_with (refine led_load (X1.out.get 0 rfl) LC.out rfl rfl rfl ?_)
 refine (WD.out w1 X1.out.low).mono ?_
 rintro e w2 ⟨rfl,hb⟩
 have X2:=Lib.hid (X1.out.go hb)
 clear hb X1
 cases hbb:BB with
 | true =>
   subst hbb
   go_wp2_with fail
   go_ret
   exact⟨rfl,X2.out.low⟩
 | false =>
   subst hbb
   have HL:=Lib.hid (BK.out (of_decide_eq_false HB.out.symm))
   have z00:w2.cell? ⟨b0+1,0,none⟩=some (.int .i64 p):=X2.out.cell 1 rfl 0 rfl
   have z01:w2.cell? ⟨b0+1,1,none⟩=some (.int .i64 q):=X2.out.cell 1 rfl 1 rfl
   go_wp2_with (refine led_load (X2.out.get 0 rfl) LC.out rfl rfl rfl ?_)
   refine (CA1.out w2 X2.out.low HL.out).mono ?_
   rintro e w3 ⟨U1,rfl,own,hb⟩
   have X3:=Lib.hid (X2.out.go hb)
   have O1:=Lib.hid own
   have L1:=Lib.hid (ledc own.led)
   unfold LedV.val
   clear own hb CA1 z00 z01
   go_upto_region 6 with (refine led_store (heap_alloc_last _ _) ledc0 L1.out rfl rfl rfl rfl ?_;rw[World.setRow_alloc_new])
   have X4:=Lib.hid (X3.out.alloc 31 (U1.cells M1))
   have O1:=Lib.hid (O1.out.below ((Below.refl _ _).alloc (Nat.le_refl _) (.cells (U1.cells M1) 31)))
   obtain⟨w4,hw4⟩:∃ s,s=w3.alloc (.cells (U1.cells M1) 31):=⟨_,rfl⟩
   obtain⟨q1,hq1⟩:∃ n,n=w3.heap.size:=⟨_,rfl⟩
   rw[← hw4] at O1
   rw[← hw4,← hq1] at X4
   rw[← hw4,← hq1]
   clear hw4 hq1 X3
   have z00:w4.cell? ⟨b0+1,0,none⟩=some (.int .i64 p):=X4.out.cell 1 rfl 0 rfl
   have z01:w4.cell? ⟨b0+1,1,none⟩=some (.int .i64 q):=X4.out.cell 1 rfl 1 rfl
   go_simp
   go_wp2_with (refine led_load (X4.out.get 0 rfl) LC.out rfl rfl rfl ?_)
   refine (CD1.out w4 X4.out.low HL.out).mono ?_
   rintro e w5 ⟨U2,rfl,own,hb⟩
   have X5:=Lib.hid (X4.out.go hb)
   have O1:=Lib.hid (O1.out.below hb)
   have O2:=Lib.hid own
   have L2:=Lib.hid (ledc own.led)
   unfold LedV.val
   clear own hb CD1 z00 z01
   go_upto_region 7 with (refine led_store (heap_alloc_last _ _) ledc0 L2.out rfl rfl rfl rfl ?_;rw[World.setRow_alloc_new])
   have X6:=Lib.hid (X5.out.alloc 31 (U2.cells M1))
   have AL:=Lib.hid (alike_yes (w5.alloc (.cells (U2.cells M1) 31)) U1 U2 M1 (O1.out.below ((Below.refl _ _).alloc (Nat.le_refl _) _)).led (O2.out.below ((Below.refl _ _).alloc (Nat.le_refl _) _)).led SH1.out n1 e1)
   unfold LedV.val at AL
   obtain⟨w6,hw6⟩:∃ s,s=w5.alloc (.cells (U2.cells M1) 31):=⟨_,rfl⟩
   obtain⟨q2,hq2⟩:∃ n,n=w5.heap.size:=⟨_,rfl⟩
   rw[← hw6] at AL
   rw[← hw6,← hq2] at X6
   rw[← hw6,← hq2]
   clear hw6 hq2 X5 O1 O2 SH1
   go_simp
   go_wp2_with (first|refine led_load (X6.out.get 2 rfl) L1.out rfl rfl rfl ?_|refine led_load (X6.out.get 3 rfl) L2.out rfl rfl rfl ?_)
   refine AL.out.mono ?_
   rintro e w7 ⟨rfl,hb⟩
   have X7:=Lib.hid (X6.out.go hb)
   clear hb AL X6
   have z00:w7.cell? ⟨b0+1,0,none⟩=some (.int .i64 p):=X7.out.cell 1 rfl 0 rfl
   have z01:w7.cell? ⟨b0+1,1,none⟩=some (.int .i64 q):=X7.out.cell 1 rfl 1 rfl
   go_wp2_with (refine led_load (X7.out.get 0 rfl) LC.out rfl rfl rfl ?_)
   refine (CA2.out w7 X7.out.low HL.out).mono ?_
   rintro e w8 ⟨U3,rfl,own,hb⟩
   have X8:=Lib.hid (X7.out.go hb)
   have O3:=Lib.hid own
   have L3:=Lib.hid (ledc own.led)
   have S7:=Lib.hid (show q1<w7.heap.size∧q2<w7.heap.size from ⟨X7.out.lt (q1, 31,U1.cells M1) (by simp),X7.out.lt (q2, 31,U2.cells M1) (by simp)⟩)
   unfold LedV.val
   clear own hb CA2 z00 z01
   go_simp
   go_upto_region 10 with (refine led_store (X8.out.get 2 rfl) L1.out L3.out rfl rfl rfl rfl ?_)
   have X9:=Lib.hid (X8.out.setRow 2 rfl (U3.cells M2))
   have O3:=Lib.hid (O3.out.mod (mod_setRow' (w:=w8) q1 (U3.cells M2)) (fun k hk _ e=>by have:=S7.out;omega))
   obtain⟨w9,hw9⟩:∃ s,s=w8.setRow q1 (U3.cells M2):=⟨_,rfl⟩
   rw[← hw9] at O3 X9
   rw[← hw9]
   clear hw9 X8
   have z00:w9.cell? ⟨b0+1,0,none⟩=some (.int .i64 p):=X9.out.cell 1 rfl 0 rfl
   have z01:w9.cell? ⟨b0+1,1,none⟩=some (.int .i64 q):=X9.out.cell 1 rfl 1 rfl
   go_simp
   go_wp2_with (refine led_load (X9.out.get 0 rfl) LC.out rfl rfl rfl ?_)
   refine (CD2.out w9 X9.out.low HL.out).mono ?_
   rintro e w10 ⟨U4,rfl,own,hb⟩
   have X10:=Lib.hid (X9.out.go hb)
   have O3:=Lib.hid (O3.out.below hb)
   have O4:=Lib.hid own
   have L4:=Lib.hid (ledc own.led)
   have S9:=Lib.hid (show q2<w9.heap.size from X9.out.lt (q2, 31,U2.cells M1) (by simp))
   unfold LedV.val
   clear own hb CD2 z00 z01
   go_simp
   go_upto_region 11 with (refine led_store (X10.out.get 3 rfl) L2.out L4.out rfl rfl rfl rfl ?_)
   have X11:=Lib.hid (X10.out.setRow 3 rfl (U4.cells M2))
   have O3:=Lib.hid (O3.out.mod (mod_setRow' (w:=w10) q2 (U4.cells M2)) (fun k hk _ e=>by have:=S7.out;omega))
   have O4:=Lib.hid (O4.out.mod (mod_setRow' (w:=w10) q2 (U4.cells M2)) (fun k hk _ e=>by have:=S9.out;omega))
   obtain⟨w11,hw11⟩:∃ s,s=w10.setRow q2 (U4.cells M2):=⟨_,rfl⟩
   rw[← hw11] at O3 O4 X11
   rw[← hw11]
   clear hw11 X10
   have AL:=Lib.hid (alike_yes w11 U3 U4 M2 O3.out.led O4.out.led SH2.out n2 e2)
   unfold LedV.val at AL
   go_simp
   go_wp2_with (first|refine led_load (X11.out.get 2 rfl) L3.out rfl rfl rfl ?_|refine led_load (X11.out.get 3 rfl) L4.out rfl rfl rfl ?_)
   refine AL.out.mono ?_
   rintro e w12 ⟨rfl,hb⟩
   have X12:=Lib.hid (X11.out.go hb)
   clear hb
   go_wp2_with fail
   go_ret
   exact⟨rfl,X12.out.low⟩
end Go.Proofs.YtnkpdfjnjmmleaaGreatDoor

/- AdminThings, walked (printed by tools/gen_lawq.py). -/
import Derived.Test.YtnkpdfjnjmmleaaGreatDoorAdmW0
import Derived.Test.YtnkpdfjnjmmleaaGreatDoorAdmY
import Derived.Test.YtnkpdfjnjmmleaaGreatDoorAdmTunder
import Derived.Test.YtnkpdfjnjmmleaaGreatDoorAdmTinstr
import Derived.Test.YtnkpdfjnjmmleaaGreatDoorAdmRunder
import Derived.Test.YtnkpdfjnjmmleaaGreatDoorAdmRinstr
namespace Go.Proofs.YtnkpdfjnjmmleaaGreatDoor
open Go.RowKit Go.Bw Go.Maps Go.Shelf Go.Bw.Fall
set_option linter.unusedVariables false
set_option linter.unusedSimpArgs false
set_option maxRecDepth 100000 in
set_option maxHeartbeats 8000000 in
theorem adminThings_law (w:World) (V:LedV) (L:Led) (h:LedAt w V L) (hs0:L.Short) (hG:Grd w) (u:Und) (i:Ins) (hs:u.name.size≤maxLen) :
 Calls Tryz.prog 3 #[V.val L,.agg #[.string u.name,.int .i64 u.cur,.int .i64 u.price,.int .i64 u.vol],.agg #[.int .i64 i.kind,.int .i64 i.under,.int .i64 i.mult,.int .i64 i.strike,.int .i64 i.expiry,.bool i.call,.int .i64 i.mark]] w fun e w'=>e=.returned (.bool true)∧Below w.heap.size w w':=by
 classical
 have WK:=Lib.hid (fun W (hb:Below w.heap.size w W)=>wakes18_any W (hG.below hb))
 have WD:=Lib.hid (fun W (hb:Below w.heap.size w W)=>wide_any W V L (h.below hb) hs0)
 have CA1:=Lib.hid (fun W (hb:Below w.heap.size w W) (hL:L.accts.length≤1024)=>aunder_any W V L (h.below hb) hL (hG.below hb) u hs)
 have CD1:=Lib.hid (fun W (hb:Below w.heap.size w W) (hL:L.accts.length≤1024)=>dunder_any W V L (h.below hb) hL u hs)
 have SH1:=Lib.hid (admA_short L (underS L u))
 have CA2:=Lib.hid (fun W (hb:Below w.heap.size w W) (hL:L.accts.length≤1024)=>ainstr_any W V L (h.below hb) hL (hG.below hb) i)
 have CD2:=Lib.hid (fun W (hb:Below w.heap.size w W) (hL:L.accts.length≤1024)=>dinstr_any W V L (h.below hb) hL i)
 have SH2:=Lib.hid (admA_short L (instrS L i))
 have LC:=Lib.hid (ledc h)
 have BK:=Lib.hid (show ¬ 1024<L.bulk→L.accts.length≤1024 from fun hb=>by unfold Led.bulk at hb;omega)
 obtain⟨M1,n1,e1,hM1⟩:∃ M num er,admA L (underS L u)=(M,num,er):=⟨_,_,_,rfl⟩
 rw[hM1] at CA1 CD1 SH1
 clear hM1
 obtain⟨M2,n2,e2,hM2⟩:∃ M num er,admA L (instrS L i)=(M,num,er):=⟨_,_,_,rfl⟩
 rw[hM2] at CA2 CD2 SH2
 clear hM2
 unfold LedV.val at WD CA1 CA2 CD1 CD2 ⊢
 obtain⟨C,hC⟩:∃ C,C=V.cells L:=⟨_,rfl⟩
 rw[← hC] at WD CA1 CA2 CD1 CD2 LC ⊢
 obtain⟨BB,hBB⟩:∃ B,B=decide (1024<L.bulk):=⟨_,rfl⟩
 rw[← hBB] at WD
 have HB:=Lib.hid hBB
 obtain⟨W0,hW0⟩:∃ s,s=((w.alloc (.cells C 31)).alloc (.cells #[.string u.name,.int .i64 u.cur,.int .i64 u.price,.int .i64 u.vol] 33)).alloc (.cells #[.int .i64 i.kind,.int .i64 i.under,.int .i64 i.mult,.int .i64 i.strike,.int .i64 i.expiry,.bool i.call,.int .i64 i.mark] 35):=⟨_,rfl⟩
 obtain⟨b0,hb0⟩:∃ n,n=w.heap.size:=⟨_,rfl⟩
 have X0:=Lib.hid (show At w W0 [(b0, 31,C),(b0+1, 33,#[.string u.name,.int .i64 u.cur,.int .i64 u.price,.int .i64 u.vol]),(b0+1+1, 35,#[.int .i64 i.kind,.int .i64 i.under,.int .i64 i.mult,.int .i64 i.strike,.int .i64 i.expiry,.bool i.call,.int .i64 i.mark])] from by
  have a:=((((At.start w).alloc 31 C).alloc 33 #[.string u.name,.int .i64 u.cur,.int .i64 u.price,.int .i64 u.vol]).alloc 35 #[.int .i64 i.kind,.int .i64 i.under,.int .i64 i.mult,.int .i64 i.strike,.int .i64 i.expiry,.bool i.call,.int .i64 i.mark])
  have e:∀ (w:World) (o:Obj),(w.alloc o).heap.size=w.heap.size+1:=fun w o=>by simp
  simp only[e] at a
  rw[← hW0,← hb0] at a
  exact a)
 clear h hs0 hG hC hBB hs
 go_enter Tryz.func3,Tryz.ntmps3
 go_upto_region 1 with (fail)
 rw[← hW0,← hb0]
 clear hW0 hb0
 go_wp2_with fail
 refine (WK.out W0 X0.out.low).mono ?_
 rintro e w1 ⟨rfl,hb⟩
 have X1:=Lib.hid (X0.out.go hb)
 clear hb X0
 go_wp2_with (refine led_load (X1.out.get 0 rfl) LC.out rfl rfl rfl ?_)
 refine (WD.out w1 X1.out.low).mono ?_
 rintro e w2 ⟨rfl,hb⟩
 have X2:=Lib.hid (X1.out.go hb)
 clear hb X1
 cases hbb:BB with
 | true =>
   subst hbb
   go_wp2_with fail
   go_ret
   exact⟨rfl,X2.out.low⟩
 | false =>
   subst hbb
   have HL:=Lib.hid (BK.out (of_decide_eq_false HB.out.symm))
   have z00:w2.cell? ⟨b0+1,0,none⟩=some (.string u.name):=X2.out.cell 1 rfl 0 rfl
   have z01:w2.cell? ⟨b0+1,1,none⟩=some (.int .i64 u.cur):=X2.out.cell 1 rfl 1 rfl
   have z02:w2.cell? ⟨b0+1,2,none⟩=some (.int .i64 u.price):=X2.out.cell 1 rfl 2 rfl
   have z03:w2.cell? ⟨b0+1,3,none⟩=some (.int .i64 u.vol):=X2.out.cell 1 rfl 3 rfl
   have z10:w2.cell? ⟨b0+1+1,0,none⟩=some (.int .i64 i.kind):=X2.out.cell 2 rfl 0 rfl
   have z11:w2.cell? ⟨b0+1+1,1,none⟩=some (.int .i64 i.under):=X2.out.cell 2 rfl 1 rfl
   have z12:w2.cell? ⟨b0+1+1,2,none⟩=some (.int .i64 i.mult):=X2.out.cell 2 rfl 2 rfl
   have z13:w2.cell? ⟨b0+1+1,3,none⟩=some (.int .i64 i.strike):=X2.out.cell 2 rfl 3 rfl
   have z14:w2.cell? ⟨b0+1+1,4,none⟩=some (.int .i64 i.expiry):=X2.out.cell 2 rfl 4 rfl
   have z15:w2.cell? ⟨b0+1+1,5,none⟩=some (.bool i.call):=X2.out.cell 2 rfl 5 rfl
   have z16:w2.cell? ⟨b0+1+1,6,none⟩=some (.int .i64 i.mark):=X2.out.cell 2 rfl 6 rfl
   go_wp2_with (refine led_load (X2.out.get 0 rfl) LC.out rfl rfl rfl ?_)
   refine (CA1.out w2 X2.out.low HL.out).mono ?_
   rintro e w3 ⟨U1,rfl,own,hb⟩
   have X3:=Lib.hid (X2.out.go hb)
   have O1:=Lib.hid own
   have L1:=Lib.hid (ledc own.led)
   unfold LedV.val
   clear own hb CA1 z00 z01 z02 z03 z10 z11 z12 z13 z14 z15 z16
   go_upto_region 6 with (refine led_store (heap_alloc_last _ _) ledc0 L1.out rfl rfl rfl rfl ?_;rw[World.setRow_alloc_new])
   have X4:=Lib.hid (X3.out.alloc 31 (U1.cells M1))
   have O1:=Lib.hid (O1.out.below ((Below.refl _ _).alloc (Nat.le_refl _) (.cells (U1.cells M1) 31)))
   obtain⟨w4,hw4⟩:∃ s,s=w3.alloc (.cells (U1.cells M1) 31):=⟨_,rfl⟩
   obtain⟨q1,hq1⟩:∃ n,n=w3.heap.size:=⟨_,rfl⟩
   rw[← hw4] at O1
   rw[← hw4,← hq1] at X4
   rw[← hw4,← hq1]
   clear hw4 hq1 X3
   have z00:w4.cell? ⟨b0+1,0,none⟩=some (.string u.name):=X4.out.cell 1 rfl 0 rfl
   have z01:w4.cell? ⟨b0+1,1,none⟩=some (.int .i64 u.cur):=X4.out.cell 1 rfl 1 rfl
   have z02:w4.cell? ⟨b0+1,2,none⟩=some (.int .i64 u.price):=X4.out.cell 1 rfl 2 rfl
   have z03:w4.cell? ⟨b0+1,3,none⟩=some (.int .i64 u.vol):=X4.out.cell 1 rfl 3 rfl
   have z10:w4.cell? ⟨b0+1+1,0,none⟩=some (.int .i64 i.kind):=X4.out.cell 2 rfl 0 rfl
   have z11:w4.cell? ⟨b0+1+1,1,none⟩=some (.int .i64 i.under):=X4.out.cell 2 rfl 1 rfl
   have z12:w4.cell? ⟨b0+1+1,2,none⟩=some (.int .i64 i.mult):=X4.out.cell 2 rfl 2 rfl
   have z13:w4.cell? ⟨b0+1+1,3,none⟩=some (.int .i64 i.strike):=X4.out.cell 2 rfl 3 rfl
   have z14:w4.cell? ⟨b0+1+1,4,none⟩=some (.int .i64 i.expiry):=X4.out.cell 2 rfl 4 rfl
   have z15:w4.cell? ⟨b0+1+1,5,none⟩=some (.bool i.call):=X4.out.cell 2 rfl 5 rfl
   have z16:w4.cell? ⟨b0+1+1,6,none⟩=some (.int .i64 i.mark):=X4.out.cell 2 rfl 6 rfl
   go_simp
   go_wp2_with (refine led_load (X4.out.get 0 rfl) LC.out rfl rfl rfl ?_)
   refine (CD1.out w4 X4.out.low HL.out).mono ?_
   rintro e w5 ⟨U2,rfl,own,hb⟩
   have X5:=Lib.hid (X4.out.go hb)
   have O1:=Lib.hid (O1.out.below hb)
   have O2:=Lib.hid own
   have L2:=Lib.hid (ledc own.led)
   unfold LedV.val
   clear own hb CD1 z00 z01 z02 z03 z10 z11 z12 z13 z14 z15 z16
   go_upto_region 7 with (refine led_store (heap_alloc_last _ _) ledc0 L2.out rfl rfl rfl rfl ?_;rw[World.setRow_alloc_new])
   have X6:=Lib.hid (X5.out.alloc 31 (U2.cells M1))
   have AL:=Lib.hid (alike_yes (w5.alloc (.cells (U2.cells M1) 31)) U1 U2 M1 (O1.out.below ((Below.refl _ _).alloc (Nat.le_refl _) _)).led (O2.out.below ((Below.refl _ _).alloc (Nat.le_refl _) _)).led SH1.out n1 e1)
   unfold LedV.val at AL
   obtain⟨w6,hw6⟩:∃ s,s=w5.alloc (.cells (U2.cells M1) 31):=⟨_,rfl⟩
   obtain⟨q2,hq2⟩:∃ n,n=w5.heap.size:=⟨_,rfl⟩
   rw[← hw6] at AL
   rw[← hw6,← hq2] at X6
   rw[← hw6,← hq2]
   clear hw6 hq2 X5 O1 O2 SH1
   go_simp
   go_wp2_with (first|refine led_load (X6.out.get 3 rfl) L1.out rfl rfl rfl ?_|refine led_load (X6.out.get 4 rfl) L2.out rfl rfl rfl ?_)
   refine AL.out.mono ?_
   rintro e w7 ⟨rfl,hb⟩
   have X7:=Lib.hid (X6.out.go hb)
   clear hb AL X6
   have z00:w7.cell? ⟨b0+1,0,none⟩=some (.string u.name):=X7.out.cell 1 rfl 0 rfl
   have z01:w7.cell? ⟨b0+1,1,none⟩=some (.int .i64 u.cur):=X7.out.cell 1 rfl 1 rfl
   have z02:w7.cell? ⟨b0+1,2,none⟩=some (.int .i64 u.price):=X7.out.cell 1 rfl 2 rfl
   have z03:w7.cell? ⟨b0+1,3,none⟩=some (.int .i64 u.vol):=X7.out.cell 1 rfl 3 rfl
   have z10:w7.cell? ⟨b0+1+1,0,none⟩=some (.int .i64 i.kind):=X7.out.cell 2 rfl 0 rfl
   have z11:w7.cell? ⟨b0+1+1,1,none⟩=some (.int .i64 i.under):=X7.out.cell 2 rfl 1 rfl
   have z12:w7.cell? ⟨b0+1+1,2,none⟩=some (.int .i64 i.mult):=X7.out.cell 2 rfl 2 rfl
   have z13:w7.cell? ⟨b0+1+1,3,none⟩=some (.int .i64 i.strike):=X7.out.cell 2 rfl 3 rfl
   have z14:w7.cell? ⟨b0+1+1,4,none⟩=some (.int .i64 i.expiry):=X7.out.cell 2 rfl 4 rfl
   have z15:w7.cell? ⟨b0+1+1,5,none⟩=some (.bool i.call):=X7.out.cell 2 rfl 5 rfl
   have z16:w7.cell? ⟨b0+1+1,6,none⟩=some (.int .i64 i.mark):=X7.out.cell 2 rfl 6 rfl
   go_wp2_with (refine led_load (X7.out.get 0 rfl) LC.out rfl rfl rfl ?_)
   refine (CA2.out w7 X7.out.low HL.out).mono ?_
   rintro e w8 ⟨U3,rfl,own,hb⟩
   have X8:=Lib.hid (X7.out.go hb)
   have O3:=Lib.hid own
   have L3:=Lib.hid (ledc own.led)
   have S7:=Lib.hid (show q1<w7.heap.size∧q2<w7.heap.size from ⟨X7.out.lt (q1, 31,U1.cells M1) (by simp),X7.out.lt (q2, 31,U2.cells M1) (by simp)⟩)
   unfold LedV.val
   clear own hb CA2 z00 z01 z02 z03 z10 z11 z12 z13 z14 z15 z16
   go_simp
   go_upto_region 10 with (refine led_store (X8.out.get 3 rfl) L1.out L3.out rfl rfl rfl rfl ?_)
   have X9:=Lib.hid (X8.out.setRow 3 rfl (U3.cells M2))
   have O3:=Lib.hid (O3.out.mod (mod_setRow' (w:=w8) q1 (U3.cells M2)) (fun k hk _ e=>by have:=S7.out;omega))
   obtain⟨w9,hw9⟩:∃ s,s=w8.setRow q1 (U3.cells M2):=⟨_,rfl⟩
   rw[← hw9] at O3 X9
   rw[← hw9]
   clear hw9 X8
   have z00:w9.cell? ⟨b0+1,0,none⟩=some (.string u.name):=X9.out.cell 1 rfl 0 rfl
   have z01:w9.cell? ⟨b0+1,1,none⟩=some (.int .i64 u.cur):=X9.out.cell 1 rfl 1 rfl
   have z02:w9.cell? ⟨b0+1,2,none⟩=some (.int .i64 u.price):=X9.out.cell 1 rfl 2 rfl
   have z03:w9.cell? ⟨b0+1,3,none⟩=some (.int .i64 u.vol):=X9.out.cell 1 rfl 3 rfl
   have z10:w9.cell? ⟨b0+1+1,0,none⟩=some (.int .i64 i.kind):=X9.out.cell 2 rfl 0 rfl
   have z11:w9.cell? ⟨b0+1+1,1,none⟩=some (.int .i64 i.under):=X9.out.cell 2 rfl 1 rfl
   have z12:w9.cell? ⟨b0+1+1,2,none⟩=some (.int .i64 i.mult):=X9.out.cell 2 rfl 2 rfl
   have z13:w9.cell? ⟨b0+1+1,3,none⟩=some (.int .i64 i.strike):=X9.out.cell 2 rfl 3 rfl
   have z14:w9.cell? ⟨b0+1+1,4,none⟩=some (.int .i64 i.expiry):=X9.out.cell 2 rfl 4 rfl
   have z15:w9.cell? ⟨b0+1+1,5,none⟩=some (.bool i.call):=X9.out.cell 2 rfl 5 rfl
   have z16:w9.cell? ⟨b0+1+1,6,none⟩=some (.int .i64 i.mark):=X9.out.cell 2 rfl 6 rfl
   go_simp
   go_wp2_with (refine led_load (X9.out.get 0 rfl) LC.out rfl rfl rfl ?_)
   refine (CD2.out w9 X9.out.low HL.out).mono ?_
   rintro e w10 ⟨U4,rfl,own,hb⟩
   have X10:=Lib.hid (X9.out.go hb)
   have O3:=Lib.hid (O3.out.below hb)
   have O4:=Lib.hid own
   have L4:=Lib.hid (ledc own.led)
   have S9:=Lib.hid (show q2<w9.heap.size from X9.out.lt (q2, 31,U2.cells M1) (by simp))
   unfold LedV.val
   clear own hb CD2 z00 z01 z02 z03 z10 z11 z12 z13 z14 z15 z16
   go_simp
   go_upto_region 11 with (refine led_store (X10.out.get 4 rfl) L2.out L4.out rfl rfl rfl rfl ?_)
   have X11:=Lib.hid (X10.out.setRow 4 rfl (U4.cells M2))
   have O3:=Lib.hid (O3.out.mod (mod_setRow' (w:=w10) q2 (U4.cells M2)) (fun k hk _ e=>by have:=S7.out;omega))
   have O4:=Lib.hid (O4.out.mod (mod_setRow' (w:=w10) q2 (U4.cells M2)) (fun k hk _ e=>by have:=S9.out;omega))
   obtain⟨w11,hw11⟩:∃ s,s=w10.setRow q2 (U4.cells M2):=⟨_,rfl⟩
   rw[← hw11] at O3 O4 X11
   rw[← hw11]
   clear hw11 X10
   have AL:=Lib.hid (alike_yes w11 U3 U4 M2 O3.out.led O4.out.led SH2.out n2 e2)
   unfold LedV.val at AL
   go_simp
   go_wp2_with (first|refine led_load (X11.out.get 3 rfl) L3.out rfl rfl rfl ?_|refine led_load (X11.out.get 4 rfl) L4.out rfl rfl rfl ?_)
   refine AL.out.mono ?_
   rintro e w12 ⟨rfl,hb⟩
   have X12:=Lib.hid (X11.out.go hb)
   clear hb
   go_wp2_with fail
   go_ret
   exact⟨rfl,X12.out.low⟩
end Go.Proofs.YtnkpdfjnjmmleaaGreatDoor

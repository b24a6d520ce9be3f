/- Joined: LawPP, MiPP. -/
import Derived.Test.YtcepekniflaoaaaGreatDoorHw
import Derived.Test.YtcepekniflaoaaaGreatDoorHx
import Derived.Test.YtcepekniflaoaaaGreatDoorHv
import Derived.Test.YtcepekniflaoaaaGreatDoorHs
import Derived.Test.YtcepekniflaoaaaGreatDoorHm
set_option linter.unusedVariables false
set_option linter.unusedSimpArgs false
set_option maxRecDepth 100000
set_option maxHeartbeats 8000000
namespace Go.Proofs.YtcepekniflaoaaaGreatDoor
open Go.RowKit Go.Bw Go.Maps Go.Shelf Go.Bw.Fall
theorem zQ (w:World) (V:aC) (L:aI) (h:bJ w V L) (hs0:L.Short) (hG:qK w) (c:Qn) (hs:c.s.size<=maxLen) :
 Calls Tryz.prog 4 #[V.val L,.agg #[.int .i64 c.kind,.int .i64 c.u,.int .i64 c.a,.int .i64 c.b,.string c.s]] w fun e w'=>e=.returned (.bool true)/\Below w.heap.size w w':=by
 classical
 have WK:=zq (fun W (hb:Below w.heap.size w W)=>DY W (hG.below hb));have WD:=zq (fun W (hb:Below w.heap.size w W)=>DZ W V L (h.below hb) hs0);have CA1:=zq (fun W (hb:Below w.heap.size w W) (hL:L.ai.length<=1024)=>wX W V L (h.below hb) hL (hG.below hb) c.u c.a);have CD1:=zq (fun W (hb:Below w.heap.size w W) (hL:L.ai.length<=1024)=>Dx W V L (h.below hb) hL c.u c.a);have SH1:=zq (wG L (gX L c.u c.a));have CA2:=zq (fun W (hb:Below w.heap.size w W) (hL:L.ai.length<=1024)=>BJ W V L (h.below hb) hL (hG.below hb) c.u c.s hs);have CD2:=zq (fun W (hb:Below w.heap.size w W) (hL:L.ai.length<=1024)=>Aa W V L (h.below hb) hL c.u c.s hs);have SH2:=zq (wG L (dY L c.u c.s));have LC:=zq (iw h);have BK:=zq (show ¬ 1024<L.bulk->L.ai.length<=1024 from fun hb=>by unfold aI.bulk at hb;omega);obtain⟨M1,n1,e1,hM1⟩:∃ M num er,jh L (gX L c.u c.a)=(M,num,er):=⟨_,_,_,rfl⟩;rw[hM1] at CA1 CD1 SH1;clear hM1;obtain⟨M2,n2,e2,hM2⟩:∃ M num er,jh L (dY L c.u c.s)=(M,num,er):=⟨_,_,_,rfl⟩;rw[hM2] at CA2 CD2 SH2;clear hM2;unfold aC.val at WD CA1 CD1 CA2 CD2 ⊢;obtain⟨C,hC⟩:=Zn (V.cells L);rw[<-hC] at WD CA1 CD1 CA2 CD2 LC ⊢;obtain⟨BB,hBB⟩:=Zn (decide (1024<L.bulk));rw[<-hBB] at WD;have HB:=zq hBB;obtain⟨W0,hW0⟩:=Zn ((w.alloc (.cells C 31)).alloc (.cells #[.int .i64 c.kind,.int .i64 c.u,.int .i64 c.a,.int .i64 c.b,.string c.s] 41));obtain⟨b0,hb0⟩:=Zn w.heap.size;have X0:=zq (show At w W0 [(b0, 31,C),(b0+1, 41,#[.int .i64 c.kind,.int .i64 c.u,.int .i64 c.a,.int .i64 c.b,.string c.s])] from by
  have a:=(((At.start w).alloc 31 C).alloc 41 #[.int .i64 c.kind,.int .i64 c.u,.int .i64 c.a,.int .i64 c.b,.string c.s]);have e:∀ (w:World) (o:Obj),(w.alloc o).heap.size=w.heap.size+1:=fun w o=>by simp
  try simp only[e] at a
  rw[<-hW0,<-hb0] at a;exact a)
 clear h hs0 hG hC hBB hs
 go_enter Tryz.func4,Tryz.ntmps4
 go_upto_region 1 with (fail)
 rw[<-hW0,<-hb0];clear hW0 hb0
 go_wp2_with fail
 refine (WK.o W0 X0.o.low).mono ?_;rintro e w1 ⟨rfl,hb⟩;have X1:=zq (X0.o.go hb);clear hb X0
 go_wp2_with (refine bW (X1.o.get 0 rfl) LC.o rfl rfl rfl ?_)
 refine (WD.o w1 X1.o.low).mono ?_;rintro e w2 ⟨rfl,hb⟩;have X2:=zq (X1.o.go hb);clear hb X1
 cases hbb:BB with
 | true =>
   subst hbb
   go_wp2_with fail
   go_ret;exact⟨rfl,X2.o.low⟩
 | false =>
   subst hbb;have HL:=zq (BK.o (of_decide_eq_false HB.o.symm));have z00:w2.cell? ⟨b0+1,0,none⟩=some (.int .i64 c.kind):=X2.o.cell 1 rfl 0 rfl;have z01:w2.cell? ⟨b0+1,1,none⟩=some (.int .i64 c.u):=X2.o.cell 1 rfl 1 rfl;have z02:w2.cell? ⟨b0+1,2,none⟩=some (.int .i64 c.a):=X2.o.cell 1 rfl 2 rfl;have z03:w2.cell? ⟨b0+1,3,none⟩=some (.int .i64 c.b):=X2.o.cell 1 rfl 3 rfl;have z04:w2.cell? ⟨b0+1,4,none⟩=some (.string c.s):=X2.o.cell 1 rfl 4 rfl
   go_wp2_with (refine bW (X2.o.get 0 rfl) LC.o rfl rfl rfl ?_)
   refine (CA1.o w2 X2.o.low HL.o).mono ?_;rintro e w3 ⟨U1,rfl,own,hb⟩;have X3:=zq (X2.o.go hb);have O1:=zq own;have L1:=zq (iw own.led);unfold aC.val;clear own hb CA1 z00 z01 z02 z03 z04
   go_upto_region 6 with (refine aZ (heap_alloc_last _ _) bI L1.o rfl rfl rfl rfl ?_;rw[World.setRow_alloc_new])
   have X4:=zq (X3.o.alloc 31 (U1.cells M1));have O1:=zq (O1.o.below ((Below.refl _ _).alloc (Nat.le_refl _) (.cells (U1.cells M1) 31)));obtain⟨w4,hw4⟩:=Zn (w3.alloc (.cells (U1.cells M1) 31));obtain⟨q1,hq1⟩:=Zn w3.heap.size;rw[<-hw4] at O1;rw[<-hw4,<-hq1] at X4;rw[<-hw4,<-hq1];clear hw4 hq1 X3;have z00:w4.cell? ⟨b0+1,0,none⟩=some (.int .i64 c.kind):=X4.o.cell 1 rfl 0 rfl;have z01:w4.cell? ⟨b0+1,1,none⟩=some (.int .i64 c.u):=X4.o.cell 1 rfl 1 rfl;have z02:w4.cell? ⟨b0+1,2,none⟩=some (.int .i64 c.a):=X4.o.cell 1 rfl 2 rfl;have z03:w4.cell? ⟨b0+1,3,none⟩=some (.int .i64 c.b):=X4.o.cell 1 rfl 3 rfl;have z04:w4.cell? ⟨b0+1,4,none⟩=some (.string c.s):=X4.o.cell 1 rfl 4 rfl;go_simp
   go_wp2_with (refine bW (X4.o.get 0 rfl) LC.o rfl rfl rfl ?_)
   refine (CD1.o w4 X4.o.low HL.o).mono ?_;rintro e w5 ⟨U2,rfl,own,hb⟩;have X5:=zq (X4.o.go hb);have O1:=zq (O1.o.below hb);have O2:=zq own;have L2:=zq (iw own.led);unfold aC.val;clear own hb CD1 z00 z01 z02 z03 z04
   go_upto_region 7 with (refine aZ (heap_alloc_last _ _) bI L2.o rfl rfl rfl rfl ?_;rw[World.setRow_alloc_new])
   have X6:=zq (X5.o.alloc 31 (U2.cells M1));have AL:=zq (zi (w5.alloc (.cells (U2.cells M1) 31)) U1 U2 M1 M1 (O1.o.below (Zb)).led (O2.o.below (Zb)).led SH1.o);rw[eu rfl] at AL;unfold aC.val at AL;obtain⟨w6,hw6⟩:=Zn (w5.alloc (.cells (U2.cells M1) 31));obtain⟨q2,hq2⟩:=Zn w5.heap.size;rw[<-hw6] at AL;rw[<-hw6,<-hq2] at X6;rw[<-hw6,<-hq2];clear hw6 hq2 X5 O1 O2 SH1;go_simp
   go_wp2_with (first|refine bW (X6.o.get 2 rfl) L1.o rfl rfl rfl ?_|refine bW (X6.o.get 3 rfl) L2.o rfl rfl rfl ?_)
   refine AL.o.mono ?_;rintro e w7 ⟨rfl,hb⟩;have X7:=zq (X6.o.go hb);clear hb AL X6;have z00:w7.cell? ⟨b0+1,0,none⟩=some (.int .i64 c.kind):=X7.o.cell 1 rfl 0 rfl;have z01:w7.cell? ⟨b0+1,1,none⟩=some (.int .i64 c.u):=X7.o.cell 1 rfl 1 rfl;have z02:w7.cell? ⟨b0+1,2,none⟩=some (.int .i64 c.a):=X7.o.cell 1 rfl 2 rfl;have z03:w7.cell? ⟨b0+1,3,none⟩=some (.int .i64 c.b):=X7.o.cell 1 rfl 3 rfl;have z04:w7.cell? ⟨b0+1,4,none⟩=some (.string c.s):=X7.o.cell 1 rfl 4 rfl
   go_wp2_with (refine bW (X7.o.get 0 rfl) LC.o rfl rfl rfl ?_)
   refine (CA2.o w7 X7.o.low HL.o).mono ?_;rintro e w8 ⟨U3,rfl,own,hb⟩;have X8:=zq (X7.o.go hb);have O3:=zq own;have L3:=zq (iw own.led);have S7:=zq (show q1<w7.heap.size/\q2<w7.heap.size from ⟨X7.o.lt (q1, 31,U1.cells M1) (by simp),X7.o.lt (q2, 31,U2.cells M1) (by simp)⟩);unfold aC.val;clear own hb CA2 z00 z01 z02 z03 z04;go_simp
   go_upto_region 10 with (refine aZ (X8.o.get 2 rfl) L1.o L3.o rfl rfl rfl rfl ?_)
   have X9:=zq (X8.o.setRow 2 rfl (U3.cells M2));have O3:=zq (O3.o.mod (bM (w:=w8) q1 (U3.cells M2)) (fun k hk _ e=>by have:=S7.o;omega));obtain⟨w9,hw9⟩:=Zn (w8.setRow q1 (U3.cells M2));rw[<-hw9] at O3 X9;rw[<-hw9];clear hw9 X8;have z00:w9.cell? ⟨b0+1,0,none⟩=some (.int .i64 c.kind):=X9.o.cell 1 rfl 0 rfl;have z01:w9.cell? ⟨b0+1,1,none⟩=some (.int .i64 c.u):=X9.o.cell 1 rfl 1 rfl;have z02:w9.cell? ⟨b0+1,2,none⟩=some (.int .i64 c.a):=X9.o.cell 1 rfl 2 rfl;have z03:w9.cell? ⟨b0+1,3,none⟩=some (.int .i64 c.b):=X9.o.cell 1 rfl 3 rfl;have z04:w9.cell? ⟨b0+1,4,none⟩=some (.string c.s):=X9.o.cell 1 rfl 4 rfl;go_simp
   go_wp2_with (refine bW (X9.o.get 0 rfl) LC.o rfl rfl rfl ?_)
   refine (CD2.o w9 X9.o.low HL.o).mono ?_;rintro e w10 ⟨U4,rfl,own,hb⟩;have X10:=zq (X9.o.go hb);have O3:=zq (O3.o.below hb);have O4:=zq own;have L4:=zq (iw own.led);have S9:=zq (show q2<w9.heap.size from X9.o.lt (q2, 31,U2.cells M1) (by simp));unfold aC.val;clear own hb CD2 z00 z01 z02 z03 z04;go_simp
   go_upto_region 11 with (refine aZ (X10.o.get 3 rfl) L2.o L4.o rfl rfl rfl rfl ?_)
   have X11:=zq (X10.o.setRow 3 rfl (U4.cells M2));have O3:=zq (O3.o.mod (bM (w:=w10) q2 (U4.cells M2)) (fun k hk _ e=>by have:=S7.o;omega));have O4:=zq (O4.o.mod (bM (w:=w10) q2 (U4.cells M2)) (fun k hk _ e=>by have:=S9.o;omega));obtain⟨w11,hw11⟩:=Zn (w10.setRow q2 (U4.cells M2));rw[<-hw11] at O3 O4 X11;rw[<-hw11];clear hw11 X10;have AL:=zq (zi w11 U3 U4 M2 M2 O3.o.led O4.o.led SH2.o);rw[eu rfl] at AL;unfold aC.val at AL;go_simp
   go_wp2_with (first|refine bW (X11.o.get 2 rfl) L3.o rfl rfl rfl ?_|refine bW (X11.o.get 3 rfl) L4.o rfl rfl rfl ?_)
   refine AL.o.mono ?_;rintro e w12 ⟨rfl,hb⟩;have X12:=zq (X11.o.go hb);clear hb
   go_wp2_with fail
   go_ret;exact⟨rfl,X12.o.low⟩
end Go.Proofs.YtcepekniflaoaaaGreatDoor
namespace Go.Proofs.YtcepekniflaoaaaGreatDoor
open Go.RowKit Go.Bw Go.Maps Go.WideShapes
theorem BQ (W:World) (n0:Array Value) (n1:Array Value) (V0:dB Tryz.prog W 31 n0.toList) (V1:dB Tryz.prog W 41 n1.toList) (HL:qK W) :
 Calls Tryz.prog 4 #[.agg n0,.agg n1] W fun e w'=>e=.returned (.bool true)/\Below W.heap.size W w':=by
 obtain⟨V,l,e,h,s⟩:=Qa V0;obtain⟨c,rfl,hs,_,_⟩:=PU V1;rw[e];exact zQ W V l h s HL c hs
end Go.Proofs.YtcepekniflaoaaaGreatDoor

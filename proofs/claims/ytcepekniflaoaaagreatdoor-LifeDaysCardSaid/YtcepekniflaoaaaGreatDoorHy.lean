/- Joined: LawPD, MiPD. -/
import Derived.Test.YtcepekniflaoaaaGreatDoorHw
import Derived.Test.YtcepekniflaoaaaGreatDoorHx
import Derived.Test.YtcepekniflaoaaaGreatDoorHe
import Derived.Test.YtcepekniflaoaaaGreatDoorHm
set_option linter.unusedVariables false
set_option linter.unusedSimpArgs false
set_option maxRecDepth 100000
set_option maxHeartbeats 8000000
namespace Go.Proofs.YtcepekniflaoaaaGreatDoor
open Go.RowKit Go.Bw Go.Maps Go.Shelf Go.Bw.Fall
theorem Ai (w:World) (V:aB) (L:aI) (h:bJ w V L) (hs0:L.Short) (hG:qY w) :
 Calls Tryz.prog 5 #[V.val L] w fun e w'=>e=.returned (.bool true)/\Below w.heap.size w w':=by
 classical
 have WK:=zq (fun W (hb:Below w.heap.size w W)=>En W (hG.below hb));have WD:=zq (fun W (hb:Below w.heap.size w W)=>Eo W V L (h.below hb) hs0);have CA1:=zq (fun W (hb:Below w.heap.size w W) (hL:L.ai.length<=1024)=>Gi W V L (h.below hb) hL (hG.below hb));have CD1:=zq (fun W (hb:Below w.heap.size w W) (hL:L.ai.length<=1024)=>D7 W V L (h.below hb) hL);have SH1:=zq (EK L (jT L));have LC:=zq (iT h);have BK:=zq (show ¬ 1024<L.bulk->L.ai.length<=1024 from fun hb=>by unfold aI.bulk at hb;omega);obtain⟨M1,n1,e1,hM1⟩:∃ M num er,jD L (jT L)=(M,num,er):=⟨_,_,_,rfl⟩;rw[hM1] at CA1 CD1 SH1;clear hM1;unfold aB.val at WD CA1 CD1 ⊢;obtain⟨C,hC⟩:=Zn (V.cells L);rw[<-hC] at WD CA1 CD1 LC ⊢;obtain⟨BB,hBB⟩:=Zn (decide (1024<L.bulk));rw[<-hBB] at WD;have HB:=zq hBB;obtain⟨W0,hW0⟩:=Zn (w.alloc (.cells C 31));obtain⟨b0,hb0⟩:=Zn w.heap.size;have X0:=zq (show At w W0 [(b0, 31,C)] from by
  have a:=((At.start w).alloc 31 C);have e:∀ (w:World) (o:Obj),(w.alloc o).heap.size=w.heap.size+1:=fun w o=>by simp
  try simp only[e] at a
  rw[<-hW0,<-hb0] at a;exact a)
 clear h hs0 hG hC hBB
 go_enter Tryz.func5,Tryz.ntmps5
 go_upto_region 1 with (fail)
 rw[<-hW0,<-hb0];clear hW0 hb0
 go_wp2_with fail
 refine (WK.o W0 X0.o.low).mono ?_;rintro e w1 ⟨rfl,hb⟩;have X1:=zq (X0.o.go hb);clear hb X0
 go_wp2_with (refine dm (X1.o.get 0 rfl) LC.o rfl rfl rfl ?_)
 refine (WD.o w1 X1.o.low).mono ?_;rintro e w2 ⟨rfl,hb⟩;have X2:=zq (X1.o.go hb);clear hb X1
 cases hbb:BB with
 | true =>
   subst hbb
   go_wp2_with fail
   go_ret;exact⟨rfl,X2.o.low⟩
 | false =>
   subst hbb;have HL:=zq (BK.o (of_decide_eq_false HB.o.symm))
   go_wp2_with (refine dm (X2.o.get 0 rfl) LC.o rfl rfl rfl ?_)
   refine (CA1.o w2 X2.o.low HL.o).mono ?_;rintro e w3 ⟨U1,rfl,own,hb⟩;have X3:=zq (X2.o.go hb);have O1:=zq own;have L1:=zq (iT own.led);unfold aB.val;clear own hb CA1 
   go_upto_region 6 with (refine bH (heap_alloc_last _ _) bU L1.o rfl rfl rfl rfl ?_;rw[World.setRow_alloc_new])
   have X4:=zq (X3.o.alloc 31 (U1.cells M1));have O1:=zq (O1.o.below ((Below.refl _ _).alloc (Nat.le_refl _) (.cells (U1.cells M1) 31)));obtain⟨w4,hw4⟩:=Zn (w3.alloc (.cells (U1.cells M1) 31));obtain⟨q1,hq1⟩:=Zn w3.heap.size;rw[<-hw4] at O1;rw[<-hw4,<-hq1] at X4;rw[<-hw4,<-hq1];clear hw4 hq1 X3;go_simp
   go_wp2_with (refine dm (X4.o.get 0 rfl) LC.o rfl rfl rfl ?_)
   refine (CD1.o w4 X4.o.low HL.o).mono ?_;rintro e w5 ⟨U2,rfl,own,hb⟩;have X5:=zq (X4.o.go hb);have O1:=zq (O1.o.below hb);have O2:=zq own;have L2:=zq (iT own.led);unfold aB.val;clear own hb CD1 
   go_upto_region 7 with (refine bH (heap_alloc_last _ _) bU L2.o rfl rfl rfl rfl ?_;rw[World.setRow_alloc_new])
   have X6:=zq (X5.o.alloc 31 (U2.cells M1));have AL:=zq (KE (w5.alloc (.cells (U2.cells M1) 31)) U1 U2 M1 M1 (O1.o.below (Zb)).led (O2.o.below (Zb)).led SH1.o);rw[eX rfl] at AL;unfold aB.val at AL;obtain⟨w6,hw6⟩:=Zn (w5.alloc (.cells (U2.cells M1) 31));obtain⟨q2,hq2⟩:=Zn w5.heap.size;rw[<-hw6] at AL;rw[<-hw6,<-hq2] at X6;rw[<-hw6,<-hq2];clear hw6 hq2 X5 O1 O2 SH1;go_simp
   go_wp2_with (first|refine dm (X6.o.get 1 rfl) L1.o rfl rfl rfl ?_|refine dm (X6.o.get 2 rfl) L2.o rfl rfl rfl ?_)
   refine AL.o.mono ?_;rintro e w7 ⟨rfl,hb⟩;have X7:=zq (X6.o.go hb);clear hb AL X6
   go_wp2_with fail
   go_ret;exact⟨rfl,X7.o.low⟩
end Go.Proofs.YtcepekniflaoaaaGreatDoor
namespace Go.Proofs.YtcepekniflaoaaaGreatDoor
open Go.RowKit Go.Bw Go.Maps Go.WideShapes
theorem Dk (W:World) (n0:Array Value) (V0:dJ Tryz.prog W 31 n0.toList) (HL:qY W) :
 Calls Tryz.prog 5 #[.agg n0] W fun e w'=>e=.returned (.bool true)/\Below W.heap.size W w':=by
 obtain⟨V,l,e,h,s⟩:=QJ V0;rw[e];exact Ai W V l h s HL
end Go.Proofs.YtcepekniflaoaaaGreatDoor

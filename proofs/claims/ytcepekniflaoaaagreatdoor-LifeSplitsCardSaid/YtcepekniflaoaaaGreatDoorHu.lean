/- Joined: LawPS, MiPS. -/
import Derived.Test.YtcepekniflaoaaaGreatDoorHw
import Derived.Test.YtcepekniflaoaaaGreatDoorHx
import Derived.Test.YtcepekniflaoaaaGreatDoorRLifN
import Derived.Test.YtcepekniflaoaaaGreatDoorHm
set_option linter.unusedVariables false
set_option linter.unusedSimpArgs false
set_option maxRecDepth 100000
set_option maxHeartbeats 8000000
namespace Go.Proofs.YtcepekniflaoaaaGreatDoor
open Go.RowKit Go.Bw Go.Maps Go.Shelf Go.Bw.Fall
theorem xB (w:World) (V:aB) (L:aH) (h:bK w V L) (hs0:L.Short) (hG:rF w) (n p q:Int) (hp:I64 p) (hq:I64 q) :
 Calls Tryz.prog 3 #[V.val L,.int .i64 n,.agg #[.int .i64 p,.int .i64 q]] w fun e w'=>e=.returned (.bool true)/\Below w.heap.size w w':=by
 classical
 have WK:=zq (fun W (hb:Below w.heap.size w W)=>Ea W (hG.below hb));have WD:=zq (fun W (hb:Below w.heap.size w W)=>Eb W V L (h.below hb) hs0);have CA1:=zq (fun W (hb:Below w.heap.size w W) (hL:L.ai.length<=1024)=>tq W V L (h.below hb) hL (hG.below hb) n p q hp hq);have CD1:=zq (fun W (hb:Below w.heap.size w W) (hL:L.ai.length<=1024)=>yM W V L (h.below hb) hL n p q);have SH1:=zq (Eo L (cO L n p q));have LC:=zq (iC h);have BK:=zq (show ¬ 1024<L.bulk->L.ai.length<=1024 from fun hb=>by unfold aH.bulk at hb;omega);obtain⟨M1,n1,e1,hM1⟩:∃ M num er,jM L (cO L n p q)=(M,num,er):=⟨_,_,_,rfl⟩;rw[hM1] at CA1 CD1 SH1;clear hM1;unfold aB.val at WD CA1 CD1 ⊢;obtain⟨C,hC⟩:=Zn (V.cells L);rw[<-hC] at WD CA1 CD1 LC ⊢;obtain⟨BB,hBB⟩:=Zn (decide (1024<L.bulk));rw[<-hBB] at WD;have HB:=zq hBB;obtain⟨W0,hW0⟩:=Zn ((w.alloc (.cells C 31)).alloc (.cells #[.int .i64 p,.int .i64 q] 32));obtain⟨b0,hb0⟩:=Zn w.heap.size;have X0:=zq (show At w W0 [(b0, 31,C),(b0+1, 32,#[.int .i64 p,.int .i64 q])] from by
  have a:=(((At.start w).alloc 31 C).alloc 32 #[.int .i64 p,.int .i64 q]);have e:∀ (w:World) (o:Obj),(w.alloc o).heap.size=w.heap.size+1:=fun w o=>by simp
  try simp only[e] at a
  rw[<-hW0,<-hb0] at a;exact a)
 clear h hs0 hG hC hBB hp hq
 go_enter Tryz.func3,Tryz.ntmps3
 go_upto_region 1 with (fail)
 rw[<-hW0,<-hb0];clear hW0 hb0
 go_wp2_with fail
 refine (WK.o W0 X0.o.low).mono ?_;rintro e w1 ⟨rfl,hb⟩;have X1:=zq (X0.o.go hb);clear hb X0
 go_wp2_with (refine bW (X1.o.get 0 rfl) LC.o rfl rfl rfl ?_)
 refine (WD.o w1 X1.o.low).mono ?_;rintro e w2 ⟨rfl,hb⟩;have X2:=zq (X1.o.go hb);clear hb X1
 cases hbb:BB with
 | true =>
   subst hbb
   go_wp2_with fail
   go_ret;exact⟨rfl,X2.o.low⟩
 | false =>
   subst hbb;have HL:=zq (BK.o (of_decide_eq_false HB.o.symm));have z00:w2.cell? ⟨b0+1,0,none⟩=some (.int .i64 p):=X2.o.cell 1 rfl 0 rfl;have z01:w2.cell? ⟨b0+1,1,none⟩=some (.int .i64 q):=X2.o.cell 1 rfl 1 rfl
   go_wp2_with (refine bW (X2.o.get 0 rfl) LC.o rfl rfl rfl ?_)
   refine (CA1.o w2 X2.o.low HL.o).mono ?_;rintro e w3 ⟨U1,rfl,own,hb⟩;have X3:=zq (X2.o.go hb);have O1:=zq own;have L1:=zq (iC own.led);unfold aB.val;clear own hb CA1 z00 z01
   go_upto_region 6 with (refine aW (heap_alloc_last _ _) bG L1.o rfl rfl rfl rfl ?_;rw[World.setRow_alloc_new])
   have X4:=zq (X3.o.alloc 31 (U1.cells M1));have O1:=zq (O1.o.below ((Below.refl _ _).alloc (Nat.le_refl _) (.cells (U1.cells M1) 31)));obtain⟨w4,hw4⟩:=Zn (w3.alloc (.cells (U1.cells M1) 31));obtain⟨q1,hq1⟩:=Zn w3.heap.size;rw[<-hw4] at O1;rw[<-hw4,<-hq1] at X4;rw[<-hw4,<-hq1];clear hw4 hq1 X3;have z00:w4.cell? ⟨b0+1,0,none⟩=some (.int .i64 p):=X4.o.cell 1 rfl 0 rfl;have z01:w4.cell? ⟨b0+1,1,none⟩=some (.int .i64 q):=X4.o.cell 1 rfl 1 rfl;go_simp
   go_wp2_with (refine bW (X4.o.get 0 rfl) LC.o rfl rfl rfl ?_)
   refine (CD1.o w4 X4.o.low HL.o).mono ?_;rintro e w5 ⟨U2,rfl,own,hb⟩;have X5:=zq (X4.o.go hb);have O1:=zq (O1.o.below hb);have O2:=zq own;have L2:=zq (iC own.led);unfold aB.val;clear own hb CD1 z00 z01
   go_upto_region 7 with (refine aW (heap_alloc_last _ _) bG L2.o rfl rfl rfl rfl ?_;rw[World.setRow_alloc_new])
   have X6:=zq (X5.o.alloc 31 (U2.cells M1));have AL:=zq (J9 (w5.alloc (.cells (U2.cells M1) 31)) U1 U2 M1 M1 (O1.o.below (Zb)).led (O2.o.below (Zb)).led SH1.o);rw[fE rfl] at AL;unfold aB.val at AL;obtain⟨w6,hw6⟩:=Zn (w5.alloc (.cells (U2.cells M1) 31));obtain⟨q2,hq2⟩:=Zn w5.heap.size;rw[<-hw6] at AL;rw[<-hw6,<-hq2] at X6;rw[<-hw6,<-hq2];clear hw6 hq2 X5 O1 O2 SH1;go_simp
   go_wp2_with (first|refine bW (X6.o.get 2 rfl) L1.o rfl rfl rfl ?_|refine bW (X6.o.get 3 rfl) L2.o rfl rfl rfl ?_)
   refine AL.o.mono ?_;rintro e w7 ⟨rfl,hb⟩;have X7:=zq (X6.o.go hb);clear hb AL X6
   go_wp2_with fail
   go_ret;exact⟨rfl,X7.o.low⟩
end Go.Proofs.YtcepekniflaoaaaGreatDoor
namespace Go.Proofs.YtcepekniflaoaaaGreatDoor
open Go.RowKit Go.Bw Go.Maps Go.WideShapes
theorem yI (W:World) (n0:Array Value) (n1:Int) (n2:Array Value) (V0:dn Tryz.prog W 31 n0.toList) (V1:dn Tryz.prog W 3 [.int .i64 n1]) (V2:dn Tryz.prog W 32 n2.toList) (HL:rF W) :
 Calls Tryz.prog 3 #[.agg n0,.int .i64 n1,.agg n2] W fun e w'=>e=.returned (.bool true)/\Below W.heap.size W w':=by
 obtain⟨V,l,e,h,s⟩:=Qq V0;obtain⟨p,q,rfl,hp,hq⟩:=Qz V2;rw[e];exact xB W V l h s HL n1 p q ⟨hp.1,hp.2⟩ ⟨hq.1,hq.2⟩
end Go.Proofs.YtcepekniflaoaaaGreatDoor

/- Joined: LawLS, MiLS. -/
import Derived.Test.YtfknkmlocbojhaaGreatDoorHw
import Derived.Test.YtfknkmlocbojhaaGreatDoorHx
import Derived.Test.YtfknkmlocbojhaaGreatDoorHp
import Derived.Test.YtfknkmlocbojhaaGreatDoorHq
import Derived.Test.YtfknkmlocbojhaaGreatDoorGn
import Derived.Test.YtfknkmlocbojhaaGreatDoorGk
import Derived.Test.YtfknkmlocbojhaaGreatDoorHm
set_option linter.unusedVariables false
set_option linter.unusedSimpArgs false
set_option maxRecDepth 100000
set_option maxHeartbeats 16000000
namespace Go.Proofs.YtfknkmlocbojhaaGreatDoor
open Go.RowKit Go.Bw Go.Maps Go.Shelf Go.Bw.Fall
theorem zu (w:World) (V:aF) (L:aI) (h:bJ w V L) (hs0:L.Short) (hG:oP w) (c:qO) (hu:c.s.size <= maxLen) (hx:I64 c.a /\ I64 c.b) :
 Calls Tryz.prog 9 #[V.val L,.agg c.cells] w fun e w'=>e=.returned (.bool true) /\ Below w.heap.size w w':=by
 classical
 have GR:=zq (fun W (hb:Below w.heap.size w W)=>hG.below hb);have HH:=zq (fun W (hb:Below w.heap.size w W)=>h.below hb);have SH:=zq hs0;have HX:=zq (And.intro hu hx);have WK:=zq (fun W (hb:Below w.heap.size w W)=>nO W (hG.below hb));have WD:=zq (fun W (hb:Below w.heap.size w W)=>qK W V L (h.below hb) hs0);have LC:=zq (jg h);have BK:=zq (show ¬ 1024<L.bulk -> L.ai.length <= 1024 /\ L.bulk <= 1000000 from fun hb=>by unfold aI.bulk at hb ⊢;omega);have AF:=zq (fun W (hb:Below w.heap.size w W) (hL:L.ai.length <= 1024)=>nH W V L (h.below hb) hL (hG.below hb) c hu hx.1 hx.2);have GD:=zq (fun W (hb:Below w.heap.size w W) (hL:L.ai.length <= 1024) (B:Bool) (hB:decide L.Good=B)=>show Calls Tryz.prog 22 #[V.val L] W fun e x=>e=.returned (.bool B) /\ Below W.heap.size W x from lu (h.below hb) hL hB);unfold aF.val at WD AF GD ⊢;unfold qO.cells;obtain⟨C,hC⟩:=Zn (V.cells L);have EC:=zq hC;rw[<- hC] at WD LC AF GD ⊢;obtain⟨BB,hBB⟩:=Zn (decide (1024<L.bulk));rw[<- hBB] at WD;have HB:=zq hBB;obtain⟨W0,hW0⟩:=Zn ((w.alloc (.cells C 31)).alloc (.cells #[.int .i64 c.kind,.int .i64 c.u,.int .i64 c.a,.int .i64 c.b,.string c.s] 41));obtain⟨b0,hb0⟩:=Zn w.heap.size;have X0:=zq (show At w W0 [(b0, 31,C),(b0+1, 41,#[.int .i64 c.kind,.int .i64 c.u,.int .i64 c.a,.int .i64 c.b,.string c.s])] from by
  have a:=(((At.start w).alloc 31 C).alloc 41 #[.int .i64 c.kind,.int .i64 c.u,.int .i64 c.a,.int .i64 c.b,.string c.s]);have e:∀ (w:World) (o:Obj),(w.alloc o).heap.size=w.heap.size+1:=fun w o=>by simp
  simp only[e] at a
  rw[<- hW0,<- hb0] at a;exact a)
 clear h hs0 hG hC hBB hu hx
 go_enter Tryz.func9,Tryz.ntmps9
 go_upto_region 1 with (fail)
 rw[<- hW0,<- hb0];clear hW0 hb0
 go_wp2_with fail
 refine (WK.o W0 X0.o.low).mono ?_;rintro e w1 ⟨rfl,hb⟩;have X1:=zq (X0.o.go hb);clear hb X0
 go_wp2_with (refine bV (X1.o.get 0 rfl) LC.o rfl rfl rfl ?_)
 refine (WD.o w1 X1.o.low).mono ?_;rintro e w2 ⟨rfl,hb⟩;have X2:=zq (X1.o.go hb);clear hb X1
 cases hbb:BB with
 | true =>
   subst hbb
   go_wp2_with fail
   go_ret;exact⟨rfl,X2.o.low⟩
 | false =>
   subst hbb;have HL:=zq (BK.o (of_decide_eq_false HB.o.symm));obtain⟨M,num,er,hM⟩:∃ M num er,dL L (c.rJ L)=(M,num,er):=⟨_,_,_,rfl⟩;have EM:=zq hM;have CC:=zq (AF.o w2 X2.o.low HL.o.1);rw[hM] at CC;have SM:=zq (show M.Short from by have:=xJ L (c.rJ L);rw[hM] at this;exact this);clear hM AF;have z0:w2.cell? ⟨b0+1,0,none⟩=some (.int .i64 c.kind):=X2.o.cell 1 rfl 0 rfl;have z1:w2.cell? ⟨b0+1,1,none⟩=some (.int .i64 c.u):=X2.o.cell 1 rfl 1 rfl;have z2:w2.cell? ⟨b0+1,2,none⟩=some (.int .i64 c.a):=X2.o.cell 1 rfl 2 rfl;have z3:w2.cell? ⟨b0+1,3,none⟩=some (.int .i64 c.b):=X2.o.cell 1 rfl 3 rfl;have z4:w2.cell? ⟨b0+1,4,none⟩=some (.string c.s):=X2.o.cell 1 rfl 4 rfl
   go_wp2_with (refine bV (X2.o.get 0 rfl) LC.o rfl rfl rfl ?_)
   refine CC.o.mono ?_;rintro e u ⟨U,rfl,own,hb⟩;have Y:=zq (X2.o.go hb);have OW:=zq own;have BL:=zq hb;have LU:=zq (jg own.led);unfold aF.val;clear own hb z0 z1 z2 z3 z4;go_simp
   go_upto_region 6 with (refine di (heap_alloc_last _ _) eG LU.o rfl rfl rfl rfl ?_;rw[World.setRow_alloc_new])
   obtain⟨W4,hW4⟩:=Zn (u.alloc (.cells (U.cells M) 31));obtain⟨b5,hb5⟩:=Zn u.heap.size;have X4:=zq (show At w W4 [(b0, 31,C),(b0+1, 41,#[.int .i64 c.kind,.int .i64 c.u,.int .i64 c.a,.int .i64 c.b,.string c.s]),(b5, 31,U.cells M)] from by rw[hW4,hb5];exact Y.o.alloc _ _);have OM:=zq (show aW W4 w2.heap.size U M from by rw[hW4];exact OW.o.below (Zb));rw[<- hW4,<- hb5];clear hW4 hb5 Y OW CC;by_cases hgd:L.Good;rotate_left
   ·have GX:=zq (GD.o W4 X4.o.low HL.o.1 false (decide_eq_false hgd));have ZZ:=zq (show M=L0 /\ er=43 from by
     have:=EM.o;rw[qf hgd] at this;injection this with e1 e2;injection e2 with _ e3;exact⟨e1.symm,e3.symm⟩)
    obtain⟨a4,c4,e4⟩:=OM.o.led.ai.form;have hz4:U.ac.length=0:=by
     have:=OM.o.led.same;rw[ZZ.o.1] at this;have:=congrArg List.length this;rw[List.length_map] at this;exact this.symm
    rw[hz4] at e4;obtain rfl:=ZZ.o.2
    go_wp2_with (refine bV (X4.o.get 0 rfl) LC.o rfl rfl rfl ?_)
    refine GX.o.mono ?_;rintro e w5 ⟨rfl,hb⟩;have X5:=zq (X4.o.go hb);clear hb;have y4:w5.cell? ⟨b5,4,none⟩=some (.slice a4 0 c4):=X5.o.cell 2 rfl 4 (by rw[<- e4];rfl)
    go_wp2_with fail
    go_ret;exact⟨rfl,X5.o.low⟩
   have GX:=zq (GD.o W4 X4.o.low HL.o.1 true (decide_eq_true hgd));have HGD:=zq hgd;clear hgd GD
   go_wp2_with (refine bV (X4.o.get 0 rfl) LC.o rfl rfl rfl ?_)
   refine GX.o.mono ?_;rintro e w5 ⟨rfl,hb⟩;have X5:=zq (X4.o.go hb);have OM5:=zq (OM.o.below hb);clear hb GX X4 OM;by_cases he:er=0;rotate_left
   ·have heb:(er != 0)=true:=by simp[he]
    have ZZ:=zq (show M=L0 from by
     have h1:=(JG (L:=L) (r:=c.rJ L) (by rw[EM.o];exact he)).1;rw[EM.o] at h1;exact h1)
    obtain⟨a4,c4,e4⟩:=OM5.o.led.ai.form;have hz4:U.ac.length=0:=by
     have:=OM5.o.led.same;rw[ZZ.o] at this;have:=congrArg List.length this;rw[List.length_map] at this;exact this.symm
    rw[hz4] at e4;have y4:w5.cell? ⟨b5,4,none⟩=some (.slice a4 0 c4):=X5.o.cell 2 rfl 4 (by rw[<- e4];rfl)
    go_wp2_with fail
    go_ret;exact⟨rfl,X5.o.low⟩
   subst he;have ST:=zq (show M.Good /\ fC M=(M,0) from by
    have h1:(dL L (c.rJ L)).2.2=0:=by rw[EM.o]
    have:=lK (L:=L) (k:=c.k) (u:=c.u) (a:=c.a) (b:=c.b) (s:=c.s) h1;have e:dL L (dY L c.k c.u c.a c.b c.s)=(M,num,0):=EM.o;rw[e] at this;exact this)
   have ML:=zq (iw ST.o.1);have FL:=zq (zV w5 U M OM5.o.led (by have:=ML.o.2.2;omega) (GR.o w5 X5.o.low));rw[ST.o.2] at FL;unfold aF.val at FL
   go_wp2_with (refine bV (X5.o.get 2 rfl) LU.o rfl rfl rfl ?_)
   refine FL.o.mono ?_;rintro e w6 ⟨U2,rfl,own,hb⟩;have X6:=zq (X5.o.go hb);have OM6:=zq (OM5.o.below hb);have OF:=zq own;have L2:=zq (jg own.led);unfold aF.val;clear own hb FL X5 OM5;go_simp
   go_upto_region 11 with (refine di (heap_alloc_last _ _) eG L2.o rfl rfl rfl rfl ?_;rw[World.setRow_alloc_new])
   obtain⟨W7,hW7⟩:=Zn (w6.alloc (.cells (U2.cells M) 31));obtain⟨b7,hb7⟩:=Zn w6.heap.size;have X7:=zq (show At w W7 [(b0, 31,C),(b0+1, 41,#[.int .i64 c.kind,.int .i64 c.u,.int .i64 c.a,.int .i64 c.b,.string c.s]),(b5, 31,U.cells M),(b7, 31,U2.cells M)] from by rw[hW7,hb7];exact X6.o.alloc _ _);have OM7:=zq (show aW W7 w2.heap.size U M from by rw[hW7];exact OM6.o.below (Zb));have OF7:=zq (show aW W7 w5.heap.size U2 M from by rw[hW7];exact OF.o.below (Zb));rw[<- hW7,<- hb7];clear hW7 hb7 X6 OM6 OF;have GM:=zq (show Calls Tryz.prog 22 #[U.val M] W7 fun e w'=>e=.returned (.bool true) /\ Below W7.heap.size W7 w' from lu OM7.o.led (by have:=ML.o.2.2;omega) (decide_eq_true ST.o.1));unfold aF.val at GM
   go_wp2_with (refine bV (X7.o.get 2 rfl) LU.o rfl rfl rfl ?_)
   refine GM.o.mono ?_;rintro e w8 ⟨rfl,hb⟩;have X8:=zq (X7.o.go hb);have SQ:=zq (MH w8 U U2 M M (OM7.o.below hb).led (OF7.o.below hb).led SM.o (fun a ha=>by have:=ML.o.2.1 a ha;omega));rw[bZ rfl] at SQ;unfold aF.val at SQ;clear hb GM
   go_wp2_with (first|refine ja (X8.o.get 2 rfl) LU.o (by rfl) rfl rfl ?_|refine ja (X8.o.get 3 rfl) L2.o (by rfl) rfl rfl ?_)
   refine SQ.o.mono ?_;rintro e w9 ⟨rfl,hb⟩;have X9:=zq (X8.o.go hb);clear hb
   go_wp2_with fail
   go_ret;exact⟨rfl,X9.o.low⟩
end Go.Proofs.YtfknkmlocbojhaaGreatDoor
namespace Go.Proofs.YtfknkmlocbojhaaGreatDoor
open Go.RowKit Go.Bw Go.Maps Go.WideShapes
theorem Dc (W:World) (n0:Array Value) (n1:Array Value) (V0:cZ Tryz.prog W 31 n0.toList) (V1:cZ Tryz.prog W 41 n1.toList) (HL:oP W) :
 Calls Tryz.prog 9 #[.agg n0,.agg n1] W fun e w'=>e=.returned (.bool true) /\ Below W.heap.size W w':=by
 obtain⟨V,l,e,h,s⟩:=CO V0;obtain⟨c,rfl,hs,ha,hb⟩:=CJ V1;rw[e];exact zu W V l h s HL c hs ⟨ha,hb⟩
end Go.Proofs.YtfknkmlocbojhaaGreatDoor

/- LifeClears, walked (printed by tools/gen_laws19.py). -/
import Derived.Test.YtfknkmlocbojhaaGreatDoorLifClP
import Derived.Test.YtfknkmlocbojhaaGreatDoorHw
import Derived.Test.YtfknkmlocbojhaaGreatDoorHx
import Derived.Test.YtfknkmlocbojhaaGreatDoorHp
import Derived.Test.YtfknkmlocbojhaaGreatDoorHo
import Derived.Test.YtfknkmlocbojhaaGreatDoorHq
import Derived.Test.YtfknkmlocbojhaaGreatDoorGn
import Derived.Test.YtfknkmlocbojhaaGreatDoorGk
set_option linter.unusedVariables false
set_option linter.unusedSimpArgs false
set_option maxRecDepth 100000
set_option maxHeartbeats 40000000
namespace Go.Proofs.YtfknkmlocbojhaaGreatDoor
open Go.RowKit Go.Bw Go.Maps Go.Shelf Go.Bw.Fall
theorem tZ (w:World) (V:aC) (L:aH) (h:bJ w V L) (hs0:L.Short) (hG:nM w) (c:qB) (hu:c.s.size<=maxLen) (hx:I64 c.a/\I64 c.b) (hkk:c.k=0) :
 Calls Tryz.prog 10 #[V.val L,.agg c.cells] w fun e w'=>e=.returned (.bool true)/\Below w.heap.size w w':=by
 classical
 have HKC:=zq hkk;clear hkk;have GR:=zq (fun W (hb:Below w.heap.size w W)=>hG.below hb);have HH:=zq (fun W (hb:Below w.heap.size w W)=>h.below hb);have SH:=zq hs0;have HX:=zq (And.intro hu hx);have WK:=zq (fun W (hb:Below w.heap.size w W)=>lM W (hG.below hb));have WD:=zq (fun W (hb:Below w.heap.size w W)=>oL W V L (h.below hb) hs0);have LC:=zq (ig h);have BK:=zq (show ¬ 1024<L.bulk->L.ai.length<=1024/\L.bulk<=1000000 from fun hb=>by unfold aH.bulk at hb ⊢;omega);have AF:=zq (fun W (hb:Below w.heap.size w W) (hL:L.ai.length<=1024)=>lG W V L (h.below hb) hL (hG.below hb) c hu hx.1 hx.2);have GD:=zq (fun W (hb:Below w.heap.size w W) (hL:L.ai.length<=1024) (B:Bool) (hB:decide L.Good=B)=>show Calls Tryz.prog 22 #[V.val L] W fun e x=>e=.returned (.bool B)/\Below W.heap.size W x from jW (h.below hb) hL hB);unfold aC.val at WD AF GD ⊢;unfold qB.cells;obtain⟨C,hC⟩:=Zn (V.cells L);have EC:=zq hC;rw[<-hC] at WD LC AF GD ⊢;obtain⟨BB,hBB⟩:=Zn (decide (1024<L.bulk));rw[<-hBB] at WD;have HB:=zq hBB;obtain⟨W0,hW0⟩:=Zn ((w.alloc (.cells C 31)).alloc (.cells #[.int .i64 c.kind,.int .i64 c.u,.int .i64 c.a,.int .i64 c.b,.string c.s] 41));obtain⟨b0,hb0⟩:=Zn w.heap.size;have X0:=zq (show At w W0 [(b0, 31,C),(b0+1, 41,#[.int .i64 c.kind,.int .i64 c.u,.int .i64 c.a,.int .i64 c.b,.string c.s])] from by
  have a:=(((At.start w).alloc 31 C).alloc 41 #[.int .i64 c.kind,.int .i64 c.u,.int .i64 c.a,.int .i64 c.b,.string c.s]);have e:∀ (w:World) (o:Obj),(w.alloc o).heap.size=w.heap.size+1:=fun w o=>by simp
  simp only[e] at a
  rw[<-hW0,<-hb0] at a;exact a)
 clear h hs0 hG hC hBB hu hx
 go_enter Tryz.func10,Tryz.ntmps10
 go_upto_region 1 with (fail)
 rw[<-hW0,<-hb0];clear hW0 hb0
 go_wp2_with fail
 refine (WK.o W0 X0.o.low).mono ?_;rintro e w1 ⟨rfl,hb⟩;have X1:=zq (X0.o.go hb);clear hb X0
 go_wp2_with (refine bW (X1.o.get 0 rfl) LC.o rfl rfl rfl ?_)
 refine (WD.o w1 X1.o.low).mono ?_;rintro e w2 ⟨rfl,hb⟩;have X2:=zq (X1.o.go hb);clear hb X1
 cases hbb:BB with
 | true =>
   subst hbb
   go_wp2_with fail
   go_ret;exact⟨rfl,X2.o.low⟩
 | false =>
   subst hbb;have HL:=zq (BK.o (of_decide_eq_false HB.o.symm));obtain⟨M,num,er,hM⟩:∃ M num er,dV L (c.KO L)=(M,num,er):=⟨_,_,_,rfl⟩;have EM:=zq hM;by_cases hgd:L.Good;rotate_left
   ·have GX:=zq (GD.o w2 X2.o.low HL.o.1 false (decide_eq_false hgd));clear hgd hM
    go_wp2_with (refine ji (X2.o.get 0 rfl) LC.o (by rfl) rfl rfl ?_)
    refine GX.o.mono ?_;rintro e w5 ⟨rfl,hb⟩;have X5:=zq (X2.o.go hb);clear hb
    go_wp2_with fail
    go_ret;exact⟨rfl,X5.o.low⟩
   have GX:=zq (GD.o w2 X2.o.low HL.o.1 true (decide_eq_true hgd));have HGD:=zq hgd;clear hgd GD
   go_wp2_with (refine ji (X2.o.get 0 rfl) LC.o (by rfl) rfl rfl ?_)
   refine GX.o.mono ?_;rintro e w3 ⟨rfl,hb⟩;have X3:=zq (X2.o.go hb);clear hb X2;have CC:=zq (AF.o w3 X3.o.low HL.o.1);rw[hM] at CC;clear hM AF;have z0:w3.cell? ⟨b0+1,0,none⟩=some (.int .i64 c.kind):=X3.o.cell 1 rfl 0 rfl;have z1:w3.cell? ⟨b0+1,1,none⟩=some (.int .i64 c.u):=X3.o.cell 1 rfl 1 rfl;have z2:w3.cell? ⟨b0+1,2,none⟩=some (.int .i64 c.a):=X3.o.cell 1 rfl 2 rfl;have z3:w3.cell? ⟨b0+1,3,none⟩=some (.int .i64 c.b):=X3.o.cell 1 rfl 3 rfl;have z4:w3.cell? ⟨b0+1,4,none⟩=some (.string c.s):=X3.o.cell 1 rfl 4 rfl
   go_wp2_with (refine bW (X3.o.get 0 rfl) LC.o rfl rfl rfl ?_)
   refine CC.o.mono ?_;rintro e u ⟨U,rfl,own,hb⟩;have Y:=zq (X3.o.go hb);have OW:=zq own;have BL:=zq hb;have LU:=zq (ig own.led);unfold aC.val;clear own hb z0 z1 z2 z3 z4;go_simp
   go_upto_region 6 with (refine bV (heap_alloc_last _ _) dU LU.o rfl rfl rfl rfl ?_;rw[World.setRow_alloc_new])
   obtain⟨W4,hW4⟩:=Zn (u.alloc (.cells (U.cells M) 31));obtain⟨b5,hb5⟩:=Zn u.heap.size;have X4:=zq (show At w W4 [(b0, 31,C),(b0+1, 41,#[.int .i64 c.kind,.int .i64 c.u,.int .i64 c.a,.int .i64 c.b,.string c.s]),(b5, 31,U.cells M)] from by rw[hW4,hb5];exact Y.o.alloc _ _);have OM:=zq (show aZ W4 w3.heap.size U M from by rw[hW4];exact OW.o.below (Zb));rw[<-hW4,<-hb5];clear hW4 hb5 Y OW CC BL;by_cases he:er=0;rotate_left
   ·have heb:(er != 0)=true:=by simp[he]
    go_wp2_with fail
    go_ret;exact⟨rfl,X4.o.low⟩
   subst he;have CLG:=zq (show M.Good/\KT L M c.k c.u from by
    have h1:(dV L (c.KO L)).2.2=0:=by rw[EM.o]
    have g:=lK (L:=L) (k:=c.k) (u:=c.u) (a:=c.a) (b:=c.b) (s:=c.s) h1;have z:=(oN (L:=L) (k:=c.k) (by unfold qB.k;omega) (u:=c.u) (a:=c.a) (b:=c.b) (s:=c.s) h1).2;have e:dV L (iV L c.k c.u c.a c.b c.s)=(M,num,0):=EM.o;rw[e] at g z;exact⟨g.1,z⟩)
   have z0:W4.cell? ⟨b0+1,0,none⟩=some (.int .i64 c.kind):=X4.o.cell 1 rfl 0 rfl;have KK:=zq (show ((c.k:Nat):Int)=c.kind % 4/\c.k<4 from by unfold qB.k;omega);obtain⟨k,hk⟩:=Zn c.k;rw[<-hk] at KK CLG;have HQ:=zq hk;have hb3:bits .and .i64 c.kind 3=(k:Int):=by rw[zH];exact KK.o.1.symm
   clear hk
   go_upto_region 9 with fail
   clear z0 hb3;obtain⟨n2,hn2⟩:=Zn L.ah.length;obtain⟨n3,hn3⟩:=Zn L.af.length;obtain⟨n4,hn4⟩:=Zn L.ai.length;obtain⟨n5,hn5⟩:=Zn L.aB.length;obtain⟨a1,c1,e1⟩:=(HH.o _ X4.o.low).aO.form;obtain⟨a2,c2,e2⟩:=(HH.o _ X4.o.low).ah.form;obtain⟨a3,c3,e3⟩:=(HH.o _ X4.o.low).af.form;obtain⟨a4,c4,e4⟩:=(HH.o _ X4.o.low).ai.form;obtain⟨a5,c5,e5⟩:=(HH.o _ X4.o.low).aB.form;obtain⟨d1,f1,g1⟩:=OM.o.led.aO.form;obtain⟨d2,f2,g2⟩:=OM.o.led.ah.form;obtain⟨d3,f3,g3⟩:=OM.o.led.af.form;obtain⟨d4,f4,g4⟩:=OM.o.led.ai.form;have LA:=zq (show V.ac.length=L.ai.length/\U.ac.length=M.ai.length from ⟨by have:=congrArg List.length (HH.o _ X4.o.low).same;rw[List.length_map] at this;omega,by have:=congrArg List.length OM.o.led.same;rw[List.length_map] at this;omega⟩);rw[<-hn2] at e2;rw[<-hn3] at e3;rw[LA.o.1,<-hn4] at e4;rw[<-hn5] at e5;rw[CLG.o.2.aO] at g1;rw[CLG.o.2.MJ,<-hn2] at g2;rw[CLG.o.2.inl,<-hn3] at g3;rw[LA.o.2,CLG.o.2.acl,<-hn4] at g4;have N:=zq (show n2=L.ah.length/\n3=L.af.length/\n4=L.ai.length/\n5=L.aB.length from ⟨hn2,hn3,hn4,hn5⟩);have BN:=zq (show n2<=6/\n3<=12/\n4<=16/\n5<=64 from ⟨by rw[hn2];exact HGD.o.things.u1,by rw[hn3];exact HGD.o.things.i1,by rw[hn4];exact (dM HGD.o).2.2,by rw[hn5];exact HGD.o.aB.len⟩);have VF:=zq (show V.ah=.slice a2 n2 c2/\V.af=.slice a3 n3 c3/\V.ai=.slice a4 n4 c4/\V.aB=.slice a5 n5 c5/\U.ah=.slice d2 n2 f2/\U.af=.slice d3 n3 f3/\U.ai=.slice d4 n4 f4 from ⟨e2,e3,e4,e5,g2,g3,g4⟩);have CF:=zq (show C[0]?=some (.int .i64 L.day)/\C[1]?=some (.slice a1 L.aO.length c1)/\C[2]?=some (.slice a2 n2 c2)/\C[3]?=some (.slice a3 n3 c3)/\C[4]?=some (.slice a4 n4 c4)/\C[5]?=some (.slice a5 n5 c5) from by
    rw[EC.o];exact⟨rfl,by rw[<-e1];rfl,by rw[<-e2];rfl,by rw[<-e3];rfl,by rw[<-e4];rfl,by rw[<-e5];rfl⟩)
   have UF_:=zq (show (U.cells M)[0]?=some (.int .i64 M.day)/\(U.cells M)[1]?=some (.slice d1 L.aO.length f1)/\(U.cells M)[2]?=some (.slice d2 n2 f2)/\(U.cells M)[3]?=some (.slice d3 n3 f3)/\(U.cells M)[4]?=some (.slice d4 n4 f4) from
    ⟨rfl,by rw[<-g1];rfl,by rw[<-g2];rfl,by rw[<-g3];rfl,by rw[<-g4];rfl⟩)
   clear e1 e2 e3 e4 e5 g1 g2 g3 g4 hn2 hn3 hn4 hn5;clear KK;have hk:k=0:=by rw[HQ.o];exact HKC.o
   clear HQ HKC;have HKK:=zq hk;have kb0:((k:Int)==0)=true:=by rw[hk];rfl
   have kb1:((k:Int)==1)=false:=by rw[hk];rfl
   have kb3:((k:Int)==3)=false:=by rw[hk];rfl
   have klt:(k:Int)<2:=by omega
   clear hk;obtain⟨eD,lD,eO,eL,eA,eP⟩:=CLG.o.2.Oi HKK.o;obtain⟨d6,f6,g6⟩:=OM.o.led.orders.form;obtain⟨d8,f8,g8⟩:=OM.o.led.aK.form;obtain⟨d7,f7,g7⟩:=OM.o.led.aF.form;obtain⟨d5,f5,g5⟩:=OM.o.led.aB.form;rw[eO] at g6;rw[eL] at g8;rw[eA,List.length_replicate,<-N.o.2.1] at g7;obtain⟨m5,hm5⟩:=Zn M.aB.length;rw[<-hm5] at g5;have M5:=zq hm5;have EP:=zq eP;have EA:=zq eA;have G5:=zq (show (U.cells M)[5]?=some (.slice d5 m5 f5)/\U.aB=.slice d5 m5 f5 from ⟨by rw[<-g5];rfl,g5⟩);have G7:=zq g7;obtain⟨dd,hdd⟩:=Zn L.day;have HDD:=zq hdd;have lo:0<=dd:=by rw[hdd];exact HGD.o.d0
   have hi:dd<100000:=by rw[hdd];exact lD
   have y0:W4.cell? ⟨b0,0,none⟩=some (.int .i64 dd):=X4.o.cell 0 rfl 0 (by rw[hdd];exact CF.o.1);have x0:W4.cell? ⟨b5,0,none⟩=some (.int .i64 (dd+1)):=X4.o.cell 2 rfl 0 (by rw[hdd,<-eD];exact UF_.o.1);have x6:W4.cell? ⟨b5,6,none⟩=some (.slice d6 0 f6):=X4.o.cell 2 rfl 6 (by rw[show (0:Nat)=([]:List Ord).length from rfl,<-g6];rfl);have x8:W4.cell? ⟨b5,8,none⟩=some (.slice d8 0 f8):=X4.o.cell 2 rfl 8 (by rw[show (0:Nat)=([]:List Pos).length from rfl,<-g8];rfl);have x7:W4.cell? ⟨b5,7,none⟩=some (.slice d7 n3 f7):=X4.o.cell 2 rfl 7 (by rw[<-g7];rfl);clear eD lD eO eL eA eP g5 g6 g7 g8 hm5 hdd
   go_wp2_with fail
   clear y0 x0 x6 x8 x7
   go_loopw [69] (fun i wr=>∃ j:Nat,j<=n3/\i=.int .i64 j/\∃ W,W=wr/\Hid (Below W4.heap.size W4 W)) (fun i _=>n3 - (intOf i).toNat)
   case atStart=>exact⟨0,Nat.zero_le _,rfl,_,rfl,zq (Below.refl _ _)⟩
   obtain⟨j,hj,rfl,W,rfl,BW⟩:=hrel;have n12:n3<=12:=BN.o.2.1;by_cases hlt:j<n3
   ·have hlt':(j:Int)<(n3:Int):=by omega
    have LT_:=zq hlt;have hr:=(OM.o.below BW.o).led.aF;rw[G7.o] at hr;obtain⟨g,o,eg,_,hc⟩:=hr.at_ (k:=j) (x:=(0:Int)) (by rw[EA.o,List.getElem?_replicate,if_pos (by have:=N.o.2.1;omega)]);have q0:W.cell? ⟨g,o+j,none⟩=some (.int .i64 0):=by have:=hc 0 _ rfl;simpa using this
    subst eg;clear hr hc
    go_wp2_with fail
    go_roundw
    case rel=>exact⟨j+1,by have:=LT_.o;omega,by go_num,_,rfl,BW⟩
    case measure=>have:=LT_.o;simp[intOf];omega
   have hlt':¬ (j:Int)<(n3:Int):=by omega
   have y5:W.cell? ⟨b0,5,none⟩=some (.slice a5 n5 c5):=(X4.o.go BW.o).cell 0 rfl 5 CF.o.2.2.2.2.2;have n64:n5<=64:=BN.o.2.2.2
   go_upto_region 19 with fail
   go_wp2_with fail
   clear y5 hj hlt hlt'
   go_loopw [11,79] (fun nn i wr=>∃ j m:Nat,j<=n5/\nn=.int .i64 m/\i=.int .i64 j/\∃ W,W=wr/\Hid (Below W4.heap.size W4 W/\m=((L.aB.take j).filter fun p=>gJ L.day (L.ins p.instr)).length)) (fun _ i _=>n5 - (intOf i).toNat)
   case atStart=>exact⟨0,0,Nat.zero_le _,rfl,rfl,_,rfl,zq ⟨BW.o,rfl⟩⟩
   clear BW;obtain⟨j,m,hj,rfl,rfl,W,rfl,BM⟩:=hrel;by_cases hlt:j<n5;rotate_left
   ·have hlt':¬ (j:Int)<(n5:Int):=by omega
    have em:m=m5:=by rw[BM.o.2,M5.o,EP.o,List.take_of_length_le (by have:=N.o.2.2.2;omega)]
    obtain rfl:m=m5:=em;have x5:W.cell? ⟨b5,5,none⟩=some (.slice d5 m f5):=(X4.o.go BM.o.1).cell 2 rfl 5 G5.o.1
    go_upto_region 32 with fail
    clear x5 hlt hlt' hj;have B5:=zq BM.o.1;obtain⟨W5,rfl⟩:=Zn W;clear BM;have X5:=zq (X4.o.go B5.o);have y4:W5.cell? ⟨b0,4,none⟩=some (.slice a4 n4 c4):=X5.o.cell 0 rfl 4 CF.o.2.2.2.2.1
    go_wp2_with fail
    clear y4 X5
    go_loopw [128] (fun i wr=>∃ j:Nat,j<=n4/\i=.int .i64 j/\∃ W,W=wr/\Hid (Below W4.heap.size W4 W)) (fun i _=>n4 - (intOf i).toNat)
    case atStart=>exact⟨0,Nat.zero_le _,rfl,_,rfl,B5⟩
    clear B5;obtain⟨j,hj,rfl,W,rfl,BW⟩:=hrel;have n16:n4<=16:=BN.o.2.2.1;by_cases hlt:j<n4
    ·have hlt':(j:Int)<(n4:Int):=by omega
     have LT_:=zq hlt;have XW:=zq (X4.o.go BW.o);obtain⟨p,hp⟩:∃ p,V.ac[j]?=some p:=⟨_,Zg (by have:=LA.o;have:=N.o;omega)⟩;obtain⟨q,hq⟩:∃ q,U.ac[j]?=some q:=⟨_,Zg (by have:=LA.o;have:=N.o;have:=CLG.o.2.acl;omega)⟩;have pq:=CLG.o.2.acc j p.1 q.1 (by rw[(HH.o _ XW.o.low).same,List.getElem?_map,hp];rfl) (by rw[OM.o.led.same,List.getElem?_map,hq];rfl);have hr:=(HH.o W XW.o.low).ai;rw[VF.o.2.2.1] at hr;have hs:=(OM.o.below BW.o).led.ai;rw[VF.o.2.2.2.2.2.2] at hs;obtain⟨g,o,eg,_,hc⟩:=hr.at_ hp;obtain⟨g',o',eg',_,hc'⟩:=hs.at_ hq;obtain⟨pp,hpp⟩:=Zn p.1.parent;obtain⟨pl,hpl⟩:=Zn p.1.last;have r0:W.cell? ⟨g,o+j*4,none⟩=some (.int .i64 pp):=by rw[hpp];have:=hc 0 _ rfl;simpa using this
     have r3:W.cell? ⟨g,o+j*4+3,none⟩=some (.int .i64 pl):=by rw[hpl];exact hc 3 _ rfl
     have t0:W.cell? ⟨g',o'+j*4,none⟩=some (.int .i64 pp):=by rw[hpp,<-pq.1];have:=hc' 0 _ rfl;simpa using this
     have t3:W.cell? ⟨g',o'+j*4+3,none⟩=some (.int .i64 pl):=by rw[hpl,<-pq.2];exact hc' 3 _ rfl
     have y4:W.cell? ⟨b0,4,none⟩=some (.slice (some ⟨g,o,none⟩) n4 c4):=by rw[<-eg];exact XW.o.cell 0 rfl 4 CF.o.2.2.2.2.1
     have x4:W.cell? ⟨b5,4,none⟩=some (.slice (some ⟨g',o',none⟩) n4 f4):=by rw[<-eg'];exact XW.o.cell 2 rfl 4 UF_.o.2.2.2.2
     have BD:=zq (show Below W4.heap.size W4 W.drew from ((Mod.of_below BW.o).drew).aN);clear hp hq pq hr hs hc hc' hpp hpl eg eg' XW
     go_upto_region 35 with fail
     refine ak.wz [] [] (.step 0 (.step 1 (.step 2 (.step 3 (.step 4 (.step 5 (.step 6 (.step 7 (.step 8 (.step 9 (.step 10 (.step 11 (.step 12 (.step 13 (.step 14 (.step 15 (.step 16 (.step 17 (.step 18 (.step 19 (.step 20 (.step 21 (.step 22 (.step 23 (.step 24 (.step 25 (.step 26 (.step 27 .leaf)))))))))))))))))))))))))))) (by kernel_rfl) (by kernel_rfl) ?_;refine ak.ay [0,1,2,3,4,5,6,7,8,9,10,11,12,13,14,15,16,17,18,19,20,21,22,23,24,25,26,27] (by kernel_rfl) ?_
     simp only[au,nth]
     repeat (go_big_quiet_step (fail))
     refine wpQuiet_nil ?_;refine ak.aQ ?_;go_simp;clear r0 r3 t0 t3 y4 x4
     go_wp2_with fail
     go_roundw
     case rel=>exact⟨j+1,by have:=LT_.o;omega,by go_num,_,rfl,BD⟩
     case measure=>have:=LT_.o;simp[intOf];omega
    have hlt':¬ (j:Int)<(n4:Int):=by omega
    have XW:=zq (X4.o.go BW.o);have y2:W.cell? ⟨b0,2,none⟩=some (.slice a2 n2 c2):=XW.o.cell 0 rfl 2 CF.o.2.2.1
    go_upto_region 38 with fail
    clear hlt hlt' hj n16
    go_wp2_with fail
    clear y2 XW
    go_loopw [163] (fun i wr=>∃ j:Nat,j<=n2/\i=.int .i64 j/\∃ W,W=wr/\Hid (Below W4.heap.size W4 W)) (fun i _=>n2 - (intOf i).toNat)
    case atStart=>exact⟨0,Nat.zero_le _,rfl,_,rfl,BW⟩
    clear BW;obtain⟨j,hj,rfl,W,rfl,BW⟩:=hrel;have n6:n2<=6:=BN.o.1;by_cases hlt:j<n2
    ·have hlt':(j:Int)<(n2:Int):=by omega
     have LT_:=zq hlt;have XW:=zq (X4.o.go BW.o);have hjM:j<M.ah.length:=by rw[CLG.o.2.MJ];have:=N.o.1;omega
     have hjL:j<L.ah.length:=by have:=N.o.1;omega
     obtain⟨x,hx⟩:∃ x,M.ah[j]?=some x:=⟨_,List.getElem?_eq_getElem hjM⟩;obtain⟨y,hy⟩:∃ y,L.ah[j]?=some y:=⟨_,List.getElem?_eq_getElem hjL⟩;have CU:=CLG.o.2.und j x y hx hy;have hr:=(HH.o W XW.o.low).ah;rw[VF.o.1] at hr;have hs:=(OM.o.below BW.o).led.ah;rw[VF.o.2.2.2.2.1] at hs;obtain⟨g,o,eg,_,hc⟩:=hr.at_ hy;obtain⟨g',o',eg',_,hc'⟩:=hs.at_ hx;obtain⟨xn,xc,xp,xv⟩:=x;obtain⟨yn,yc,yp,yv⟩:=y
     simp only at CU
     have HCU:=zq CU;have RD:=zq (show ∀ W2,Mod (fun _=>False) W W2 ->
      W2.cell? ⟨b0,2,none⟩=some (.slice (some ⟨g,o,none⟩) n2 c2)/\W2.cell? ⟨b5,2,none⟩=some (.slice (some ⟨g',o',none⟩) n2 f2) /\
      (W2.cell? ⟨g,o+j*4,none⟩=some (.string yn)/\W2.cell? ⟨g,o+j*4+1,none⟩=some (.int .i64 yc)/\W2.cell? ⟨g,o+j*4+2,none⟩=some (.int .i64 yp)/\W2.cell? ⟨g,o+j*4+3,none⟩=some (.int .i64 yv)) /\
      (W2.cell? ⟨g',o'+j*4,none⟩=some (.string xn)/\W2.cell? ⟨g',o'+j*4+1,none⟩=some (.int .i64 xc)/\W2.cell? ⟨g',o'+j*4+2,none⟩=some (.int .i64 xp)/\W2.cell? ⟨g',o'+j*4+3,none⟩=some (.int .i64 xv)) from fun W2 hm =>
      ⟨hm.cell (by rw[<-eg];exact XW.o.cell 0 rfl 2 CF.o.2.2.1) (fun h=>h),hm.cell (by rw[<-eg'];exact XW.o.cell 2 rfl 2 UF_.o.2.2.1) (fun h=>h),
       ⟨hm.cell (by have:=hc 0 _ rfl;simpa using this) (fun h=>h),hm.cell (hc 1 _ rfl) (fun h=>h),hm.cell (hc 2 _ rfl) (fun h=>h),hm.cell (hc 3 _ rfl) (fun h=>h)⟩,
       hm.cell (by have:=hc' 0 _ rfl;simpa using this) (fun h=>h),hm.cell (hc' 1 _ rfl) (fun h=>h),hm.cell (hc' 2 _ rfl) (fun h=>h),hm.cell (hc' 3 _ rfl) (fun h=>h)⟩)
     clear hx hy CU hr hs hc hc' eg eg' hjM hjL XW
     go_upto_region 41 with fail
     have CL:=zq (show ∀ z:bD (fun W2:World=>Below W.heap.size W W2),Mod (fun _=>False) W z.w from fun z=>Mod.of_below z.ok);have z1:∀ z:bD (fun W2:World=>Below W.heap.size W W2),z.w.cell? ⟨b0,2,none⟩=some (.slice (some ⟨g,o,none⟩) n2 c2):=fun z=>(RD.o z.w (CL.o z)).1
     have z2:∀ z:bD (fun W2:World=>Below W.heap.size W W2),z.w.cell? ⟨b5,2,none⟩=some (.slice (some ⟨g',o',none⟩) n2 f2):=fun z=>(RD.o z.w (CL.o z)).2.1
     have ya0:∀ z:bD (fun W2:World=>Below W.heap.size W W2),z.w.cell? ⟨g,o+j*4,none⟩=some (.string yn):=fun z=>(RD.o z.w (CL.o z)).2.2.1.1
     have ya1:∀ z:bD (fun W2:World=>Below W.heap.size W W2),z.w.cell? ⟨g,o+j*4+1,none⟩=some (.int .i64 yc):=fun z=>(RD.o z.w (CL.o z)).2.2.1.2.1
     have ya2:∀ z:bD (fun W2:World=>Below W.heap.size W W2),z.w.cell? ⟨g,o+j*4+2,none⟩=some (.int .i64 yp):=fun z=>(RD.o z.w (CL.o z)).2.2.1.2.2.1
     have ya3:∀ z:bD (fun W2:World=>Below W.heap.size W W2),z.w.cell? ⟨g,o+j*4+3,none⟩=some (.int .i64 yv):=fun z=>(RD.o z.w (CL.o z)).2.2.1.2.2.2
     have xa0:∀ z:bD (fun W2:World=>Below W.heap.size W W2),z.w.cell? ⟨g',o'+j*4,none⟩=some (.string xn):=fun z=>(RD.o z.w (CL.o z)).2.2.2.1
     have xa1:∀ z:bD (fun W2:World=>Below W.heap.size W W2),z.w.cell? ⟨g',o'+j*4+1,none⟩=some (.int .i64 xc):=fun z=>(RD.o z.w (CL.o z)).2.2.2.2.1
     have xa2:∀ z:bD (fun W2:World=>Below W.heap.size W W2),z.w.cell? ⟨g',o'+j*4+2,none⟩=some (.int .i64 xp):=fun z=>(RD.o z.w (CL.o z)).2.2.2.2.2.1
     have xa3:∀ z:bD (fun W2:World=>Below W.heap.size W W2),z.w.cell? ⟨g',o'+j*4+3,none⟩=some (.int .i64 xv):=fun z=>(RD.o z.w (CL.o z)).2.2.2.2.2.2
     haveI ne:Nonempty (bD (fun W2:World=>Below W.heap.size W W2)):=⟨⟨W,Below.refl _ _⟩⟩
     have BD:=zq (show Below W.heap.size W W.drew from ((Mod.refl (fun _=>False) W).drew).aN);have A0:=zq (show At W4 W.drew [] from ⟨((Mod.of_below BW.o).drew).aN,by simp,by simp,by simp⟩);refine ak.aJ (C:=fun w'=>∃ z:bD (fun W2:World=>Below W.heap.size W W2),w'=z.w) [10,11,12,13] [0,1,2,3,4,5,6,7,8,9] (.step 0 (.step 1 (.step 2 (.step 3 (.step 4 (.step 5 (.step 6 (.step 7 (.step 8 (.step 9 (.fork 10 (.step 11 (.step 12 (.step 13 .leaf))) 11 (.step 10 (.step 12 (.step 13 .leaf)))))))))))))) (fun _ _ _=>False) (by kernel_rfl) (fun _ _ _ h=>h.elim) (by kernel_rfl) ⟨⟨_,BD.o⟩,rfl⟩ ?_;refine ak.bn [0,1,2,3,4,5,6,7,8,9] (by kernel_rfl) ?_
     simp only[au,nth]
     repeat (go_big_quiet_step (fail))
     refine wpQuiet_nil ?_;clear z1 z2 ya0 xa0 ya1 xa1 ya2 xa2 ya3 xa3;obtain⟨WD,hWD⟩:=Zn W.drew;rw[<-hWD] at BD A0 ⊢;obtain⟨H0,hH0⟩:=Zn WD.heap.size;have HH0:=zq hH0;have A1:=zq (show At W4 (WD.alloc (.cells #[.string ⟨#[]⟩,.int .i64 0,.int .i64 0,.int .i64 0] 55)) [(H0, 55,#[.string ⟨#[]⟩,.int .i64 0,.int .i64 0,.int .i64 0])] from by rw[hH0];exact A0.o.alloc _ _);have A2:=zq (show At W4 ((WD.alloc (.cells #[.string ⟨#[]⟩,.int .i64 0,.int .i64 0,.int .i64 0] 55)).alloc (.cells #[.string ⟨#[]⟩,.int .i64 0,.int .i64 0,.int .i64 0] 55)) [(H0, 55,#[.string ⟨#[]⟩,.int .i64 0,.int .i64 0,.int .i64 0]),(H0+1, 55,#[.string ⟨#[]⟩,.int .i64 0,.int .i64 0,.int .i64 0])] from by
      have a:=A1.o.alloc 55 #[.string ⟨#[]⟩,.int .i64 0,.int .i64 0,.int .i64 0];rw[show (WD.alloc (.cells #[.string ⟨#[]⟩,.int .i64 0,.int .i64 0,.int .i64 0] 55)).heap.size=H0+1 from by rw[hH0];simp] at a;exact a)
     have B1:=zq (show Below W.heap.size W (WD.alloc (.cells #[.string ⟨#[]⟩,.int .i64 0,.int .i64 0,.int .i64 0] 55)) from BD.o.alloc BD.o.size _);have B2:=zq (show Below W.heap.size W ((WD.alloc (.cells #[.string ⟨#[]⟩,.int .i64 0,.int .i64 0,.int .i64 0] 55)).alloc (.cells #[.string ⟨#[]⟩,.int .i64 0,.int .i64 0,.int .i64 0] 55)) from B1.o.alloc B1.o.size _);clear hWD hH0 CL;refine ak.eG ?_ ?_
     ·refine ak.aA (by kernel_rfl) rfl (fun K hK=>?_)
      simp only[au,nth]
      refine aj ?_;go_simp
      try rw[<-HH0.o]
      refine hK _ _ (fun _=>⟨⟨_,B1.o⟩,rfl⟩) ?_;clear hK;refine ak.aA (by kernel_rfl) rfl (fun K hK=>?_)
      simp only[au,nth]
      refine aj ?_;go_simp
      try rw[<-HH0.o]
      refine hK _ _ (fun _=>⟨⟨_,B2.o⟩,rfl⟩) ?_;clear hK;obtain⟨WB,hWB⟩:=Zn ((WD.alloc (.cells #[.string ⟨#[]⟩,.int .i64 0,.int .i64 0,.int .i64 0] 55)).alloc (.cells #[.string ⟨#[]⟩,.int .i64 0,.int .i64 0,.int .i64 0] 55));rw[<-hWB] at A2 B2 ⊢;have A3:=zq (show At W4 (WB.setRow (H0) #[.string xn,.int .i64 xc,.int .i64 xp,.int .i64 xv]) [(H0, 55,#[.string xn,.int .i64 xc,.int .i64 xp,.int .i64 xv]),(H0+1, 55,#[.string ⟨#[]⟩,.int .i64 0,.int .i64 0,.int .i64 0])] from A2.o.setRow 0 rfl #[.string xn,.int .i64 xc,.int .i64 xp,.int .i64 xv]);have A4:=zq (show At W4 ((WB.setRow (H0) #[.string xn,.int .i64 xc,.int .i64 xp,.int .i64 xv]).setRow (H0+1) #[.string yn,.int .i64 yc,.int .i64 yp,.int .i64 yv]) [(H0, 55,#[.string xn,.int .i64 xc,.int .i64 xp,.int .i64 xv]),(H0+1, 55,#[.string yn,.int .i64 yc,.int .i64 yp,.int .i64 yv])] from A3.o.setRow 1 rfl #[.string yn,.int .i64 yc,.int .i64 yp,.int .i64 yv]);clear hWB;have HS:=zq (show W.heap.size<=H0 from by rw[HH0.o];exact BD.o.size);have B3:=zq (show Below W.heap.size W (WB.setRow (H0) #[.string xn,.int .i64 xc,.int .i64 xp,.int .i64 xv]) from bK B2.o rfl (by have:=HS.o;omega));have B4:=zq (show Below W.heap.size W ((WB.setRow (H0) #[.string xn,.int .i64 xc,.int .i64 xp,.int .i64 xv]).setRow (H0+1) #[.string yn,.int .i64 yc,.int .i64 yp,.int .i64 yv]) from bK B3.o rfl (by have:=HS.o;omega));refine ak.aA (by kernel_rfl) rfl (fun K hK=>?_)
      simp only[au,nth]
      refine aj ?_;refine wp_store_row 55 (.tmp 17) (.tmp 170) rfl (H0) #[.string xn,.int .i64 xc,.int .i64 xp,.int .i64 xv] rfl rfl 55 _ (A2.o.get 0 rfl) CO rfl (oQ _ _ _ _) ?_;go_simp;refine hK _ _ (fun _=>⟨⟨_,B3.o⟩,rfl⟩) ?_;clear hK;obtain⟨WE,hWE⟩:=Zn (WB.setRow (H0) #[.string xn,.int .i64 xc,.int .i64 xp,.int .i64 xv]);rw[<-hWE] at A3 A4 B3 B4 ⊢;clear hWE;refine ak.aA (by kernel_rfl) rfl (fun K hK=>?_)
      simp only[au,nth]
      refine aj ?_;refine wp_store_row 55 (.tmp 18) (.tmp 175) rfl (H0+1) #[.string yn,.int .i64 yc,.int .i64 yp,.int .i64 yv] rfl rfl 55 _ (A3.o.get 1 rfl) CO rfl (oQ _ _ _ _) ?_;go_simp;refine hK _ _ (fun _=>⟨⟨_,B4.o⟩,rfl⟩) ?_;clear hK;refine ak.aQ ?_;obtain⟨W1,hW1⟩:=Zn (WE.setRow (H0+1) #[.string yn,.int .i64 yc,.int .i64 yp,.int .i64 yv]);rw[<-hW1] at A4 B4 ⊢;have MW:=zq (Mod.of_below B4.o);obtain⟨bx,hbx⟩:=Zn H0;obtain⟨by_,hby⟩:=Zn (H0+1);have BX:=zq (show At W4 W1 [(bx, 55,#[.string xn,.int .i64 xc,.int .i64 xp,.int .i64 xv]),(by_, 55,#[.string yn,.int .i64 yc,.int .i64 yp,.int .i64 yv])] from by rw[hbx,hby];exact A4.o);have NB:=zq (show W.heap.size<=bx/\W.heap.size<=by_ from by have:=HS.o;omega);rw[<-hby,<-hbx];clear hW1 hbx hby A1 A2 A3 A4 B1 B2 B3 B4 BD A0 HH0 HS;have BY:=zq (X4.o.go BX.o.low);have u1:W1.cell? ⟨b0+1,1,none⟩=some (.int .i64 c.u):=BY.o.cell 1 rfl 1 rfl;have LOW:=zq BX.o.low;by_cases hju:(j:Int)=c.u
      ·have jb:((j:Int)==c.u)=true:=by rw[hju];simp
       have SM:=zq (show xn=yn/\xc=yc/\xp=yp/\xv=yv from by
        have h:=HCU.o.1.resolve_right (fun h=>by have:=HKK.o;omega)
        simp only[eU.mk.injEq] at h
        exact h)
       obtain⟨rfl,rfl,rfl,rfl⟩:=SM.o;clear SM;have p0:W1.cell? ⟨bx,0,none⟩=some (.string xn):=BX.o.cell 0 rfl 0 rfl;have q0:W1.cell? ⟨by_,0,none⟩=some (.string xn):=BX.o.cell 1 rfl 0 rfl;have p1:W1.cell? ⟨bx,1,none⟩=some (.int .i64 xc):=BX.o.cell 0 rfl 1 rfl;have q1:W1.cell? ⟨by_,1,none⟩=some (.int .i64 xc):=BX.o.cell 1 rfl 1 rfl;have p2:W1.cell? ⟨bx,2,none⟩=some (.int .i64 xp):=BX.o.cell 0 rfl 2 rfl;have q2:W1.cell? ⟨by_,2,none⟩=some (.int .i64 xp):=BX.o.cell 1 rfl 2 rfl;have p3:W1.cell? ⟨bx,3,none⟩=some (.int .i64 xv):=BX.o.cell 0 rfl 3 rfl;have q3:W1.cell? ⟨by_,3,none⟩=some (.int .i64 xv):=BX.o.cell 1 rfl 3 rfl;clear hju HCU RD
       go_wp2_with fail
       go_roundw
       case rel=>exact⟨j+1,by have:=LT_.o;omega,by go_num,_,rfl,LOW⟩
       case measure=>have:=LT_.o;simp[intOf];omega
      have jb:((j:Int)==c.u)=false:=by rw[beq_eq_false_iff_ne];exact hju
      have SM:=zq (show xn=yn/\xc=yc/\xp=yp/\xv=yv from by
       have h:=HCU.o.1.resolve_right (fun h=>by have:=HKK.o;omega)
       simp only[eU.mk.injEq] at h
       exact h)
      obtain⟨rfl,rfl,rfl,rfl⟩:=SM.o;clear SM;have p0:W1.cell? ⟨bx,0,none⟩=some (.string xn):=BX.o.cell 0 rfl 0 rfl;have q0:W1.cell? ⟨by_,0,none⟩=some (.string xn):=BX.o.cell 1 rfl 0 rfl;have p1:W1.cell? ⟨bx,1,none⟩=some (.int .i64 xc):=BX.o.cell 0 rfl 1 rfl;have q1:W1.cell? ⟨by_,1,none⟩=some (.int .i64 xc):=BX.o.cell 1 rfl 1 rfl;have p2:W1.cell? ⟨bx,2,none⟩=some (.int .i64 xp):=BX.o.cell 0 rfl 2 rfl;have q2:W1.cell? ⟨by_,2,none⟩=some (.int .i64 xp):=BX.o.cell 1 rfl 2 rfl;have p3:W1.cell? ⟨bx,3,none⟩=some (.int .i64 xv):=BX.o.cell 0 rfl 3 rfl;have q3:W1.cell? ⟨by_,3,none⟩=some (.int .i64 xv):=BX.o.cell 1 rfl 3 rfl;clear hju HCU RD
      go_wp2_with fail
      go_roundw
      case rel=>exact⟨j+1,by have:=LT_.o;omega,by go_num,_,rfl,LOW⟩
      case measure=>have:=LT_.o;simp[intOf];omega
     refine ak.aA (by kernel_rfl) rfl (fun K hK=>?_)
     simp only[au,nth]
     refine aj ?_;go_simp
     try rw[<-HH0.o]
     refine hK _ _ (fun _=>⟨⟨_,B1.o⟩,rfl⟩) ?_;clear hK;refine ak.aA (by kernel_rfl) rfl (fun K hK=>?_)
     simp only[au,nth]
     refine aj ?_;go_simp
     try rw[<-HH0.o]
     refine hK _ _ (fun _=>⟨⟨_,B2.o⟩,rfl⟩) ?_;clear hK;obtain⟨WB,hWB⟩:=Zn ((WD.alloc (.cells #[.string ⟨#[]⟩,.int .i64 0,.int .i64 0,.int .i64 0] 55)).alloc (.cells #[.string ⟨#[]⟩,.int .i64 0,.int .i64 0,.int .i64 0] 55));rw[<-hWB] at A2 B2 ⊢;have A3:=zq (show At W4 (WB.setRow (H0+1) #[.string xn,.int .i64 xc,.int .i64 xp,.int .i64 xv]) [(H0, 55,#[.string ⟨#[]⟩,.int .i64 0,.int .i64 0,.int .i64 0]),(H0+1, 55,#[.string xn,.int .i64 xc,.int .i64 xp,.int .i64 xv])] from A2.o.setRow 1 rfl #[.string xn,.int .i64 xc,.int .i64 xp,.int .i64 xv]);have A4:=zq (show At W4 ((WB.setRow (H0+1) #[.string xn,.int .i64 xc,.int .i64 xp,.int .i64 xv]).setRow (H0) #[.string yn,.int .i64 yc,.int .i64 yp,.int .i64 yv]) [(H0, 55,#[.string yn,.int .i64 yc,.int .i64 yp,.int .i64 yv]),(H0+1, 55,#[.string xn,.int .i64 xc,.int .i64 xp,.int .i64 xv])] from A3.o.setRow 0 rfl #[.string yn,.int .i64 yc,.int .i64 yp,.int .i64 yv]);clear hWB;have HS:=zq (show W.heap.size<=H0 from by rw[HH0.o];exact BD.o.size);have B3:=zq (show Below W.heap.size W (WB.setRow (H0+1) #[.string xn,.int .i64 xc,.int .i64 xp,.int .i64 xv]) from bK B2.o rfl (by have:=HS.o;omega));have B4:=zq (show Below W.heap.size W ((WB.setRow (H0+1) #[.string xn,.int .i64 xc,.int .i64 xp,.int .i64 xv]).setRow (H0) #[.string yn,.int .i64 yc,.int .i64 yp,.int .i64 yv]) from bK B3.o rfl (by have:=HS.o;omega));refine ak.aA (by kernel_rfl) rfl (fun K hK=>?_)
     simp only[au,nth]
     refine aj ?_;refine wp_store_row 55 (.tmp 17) (.tmp 170) rfl (H0+1) #[.string xn,.int .i64 xc,.int .i64 xp,.int .i64 xv] rfl rfl 55 _ (A2.o.get 1 rfl) CO rfl (oQ _ _ _ _) ?_;go_simp;refine hK _ _ (fun _=>⟨⟨_,B3.o⟩,rfl⟩) ?_;clear hK;obtain⟨WE,hWE⟩:=Zn (WB.setRow (H0+1) #[.string xn,.int .i64 xc,.int .i64 xp,.int .i64 xv]);rw[<-hWE] at A3 A4 B3 B4 ⊢;clear hWE;refine ak.aA (by kernel_rfl) rfl (fun K hK=>?_)
     simp only[au,nth]
     refine aj ?_;refine wp_store_row 55 (.tmp 18) (.tmp 175) rfl (H0) #[.string yn,.int .i64 yc,.int .i64 yp,.int .i64 yv] rfl rfl 55 _ (A3.o.get 0 rfl) CO rfl (oQ _ _ _ _) ?_;go_simp;refine hK _ _ (fun _=>⟨⟨_,B4.o⟩,rfl⟩) ?_;clear hK;refine ak.aQ ?_;obtain⟨W1,hW1⟩:=Zn (WE.setRow (H0) #[.string yn,.int .i64 yc,.int .i64 yp,.int .i64 yv]);rw[<-hW1] at A4 B4 ⊢;have MW:=zq (Mod.of_below B4.o);obtain⟨bx,hbx⟩:=Zn (H0+1);obtain⟨by_,hby⟩:=Zn H0;have BX:=zq (show At W4 W1 [(bx, 55,#[.string xn,.int .i64 xc,.int .i64 xp,.int .i64 xv]),(by_, 55,#[.string yn,.int .i64 yc,.int .i64 yp,.int .i64 yv])] from by rw[hbx,hby];exact A4.o.swap2);have NB:=zq (show W.heap.size<=bx/\W.heap.size<=by_ from by have:=HS.o;omega);rw[<-hbx,<-hby];clear hW1 hbx hby A1 A2 A3 A4 B1 B2 B3 B4 BD A0 HH0 HS;have BY:=zq (X4.o.go BX.o.low);have u1:W1.cell? ⟨b0+1,1,none⟩=some (.int .i64 c.u):=BY.o.cell 1 rfl 1 rfl;have LOW:=zq BX.o.low;by_cases hju:(j:Int)=c.u
     ·have jb:((j:Int)==c.u)=true:=by rw[hju];simp
      have SM:=zq (show xn=yn/\xc=yc/\xp=yp/\xv=yv from by
       have h:=HCU.o.1.resolve_right (fun h=>by have:=HKK.o;omega)
       simp only[eU.mk.injEq] at h
       exact h)
      obtain⟨rfl,rfl,rfl,rfl⟩:=SM.o;clear SM;have p0:W1.cell? ⟨bx,0,none⟩=some (.string xn):=BX.o.cell 0 rfl 0 rfl;have q0:W1.cell? ⟨by_,0,none⟩=some (.string xn):=BX.o.cell 1 rfl 0 rfl;have p1:W1.cell? ⟨bx,1,none⟩=some (.int .i64 xc):=BX.o.cell 0 rfl 1 rfl;have q1:W1.cell? ⟨by_,1,none⟩=some (.int .i64 xc):=BX.o.cell 1 rfl 1 rfl;have p2:W1.cell? ⟨bx,2,none⟩=some (.int .i64 xp):=BX.o.cell 0 rfl 2 rfl;have q2:W1.cell? ⟨by_,2,none⟩=some (.int .i64 xp):=BX.o.cell 1 rfl 2 rfl;have p3:W1.cell? ⟨bx,3,none⟩=some (.int .i64 xv):=BX.o.cell 0 rfl 3 rfl;have q3:W1.cell? ⟨by_,3,none⟩=some (.int .i64 xv):=BX.o.cell 1 rfl 3 rfl;clear hju HCU RD
      go_wp2_with fail
      go_roundw
      case rel=>exact⟨j+1,by have:=LT_.o;omega,by go_num,_,rfl,LOW⟩
      case measure=>have:=LT_.o;simp[intOf];omega
     have jb:((j:Int)==c.u)=false:=by rw[beq_eq_false_iff_ne];exact hju
     have SM:=zq (show xn=yn/\xc=yc/\xp=yp/\xv=yv from by
      have h:=HCU.o.1.resolve_right (fun h=>by have:=HKK.o;omega)
      simp only[eU.mk.injEq] at h
      exact h)
     obtain⟨rfl,rfl,rfl,rfl⟩:=SM.o;clear SM;have p0:W1.cell? ⟨bx,0,none⟩=some (.string xn):=BX.o.cell 0 rfl 0 rfl;have q0:W1.cell? ⟨by_,0,none⟩=some (.string xn):=BX.o.cell 1 rfl 0 rfl;have p1:W1.cell? ⟨bx,1,none⟩=some (.int .i64 xc):=BX.o.cell 0 rfl 1 rfl;have q1:W1.cell? ⟨by_,1,none⟩=some (.int .i64 xc):=BX.o.cell 1 rfl 1 rfl;have p2:W1.cell? ⟨bx,2,none⟩=some (.int .i64 xp):=BX.o.cell 0 rfl 2 rfl;have q2:W1.cell? ⟨by_,2,none⟩=some (.int .i64 xp):=BX.o.cell 1 rfl 2 rfl;have p3:W1.cell? ⟨bx,3,none⟩=some (.int .i64 xv):=BX.o.cell 0 rfl 3 rfl;have q3:W1.cell? ⟨by_,3,none⟩=some (.int .i64 xv):=BX.o.cell 1 rfl 3 rfl;clear hju HCU RD
     go_wp2_with fail
     go_roundw
     case rel=>exact⟨j+1,by have:=LT_.o;omega,by go_num,_,rfl,LOW⟩
     case measure=>have:=LT_.o;simp[intOf];omega
    have hlt':¬ (j:Int)<(n2:Int):=by omega
    have XW:=zq (X4.o.go BW.o);have y3:W.cell? ⟨b0,3,none⟩=some (.slice a3 n3 c3):=XW.o.cell 0 rfl 3 CF.o.2.2.2.1
    go_upto_region 46 with fail
    clear hlt hlt' hj n6
    go_wp2_with fail
    clear y3 XW
    go_loopw [235] (fun i wr=>∃ j:Nat,j<=n3/\i=.int .i64 j/\∃ W,W=wr/\Hid (Below W4.heap.size W4 W)) (fun i _=>n3 - (intOf i).toNat)
    case atStart=>exact⟨0,Nat.zero_le _,rfl,_,rfl,BW⟩
    clear BW;obtain⟨j,hj,rfl,W,rfl,BW⟩:=hrel;have n12:n3<=12:=BN.o.2.1;by_cases hlt:j<n3
    ·have hlt':(j:Int)<(n3:Int):=by omega
     have LT_:=zq hlt;have XW:=zq (X4.o.go BW.o);have hjM:j<M.af.length:=by rw[CLG.o.2.inl];have:=N.o.2.1;omega
     have hjL:j<L.af.length:=by have:=N.o.2.1;omega
     obtain⟨x,hx⟩:∃ x,M.af[j]?=some x:=⟨_,List.getElem?_eq_getElem hjM⟩;obtain⟨y,hy⟩:∃ y,L.af[j]?=some y:=⟨_,List.getElem?_eq_getElem hjL⟩;have CU:=CLG.o.2.ins j x y hx hy;have hr:=(HH.o W XW.o.low).af;rw[VF.o.2.1] at hr;have hs:=(OM.o.below BW.o).led.af;rw[VF.o.2.2.2.2.2.1] at hs;obtain⟨g,o,eg,_,hc⟩:=hr.at_ hy;obtain⟨g',o',eg',_,hc'⟩:=hs.at_ hx;obtain⟨xk,xu,xm,xs,xe,xc,xr⟩:=x;obtain⟨yk,yu,ym,ys,ye,yc,yr⟩:=y
     simp only[Ins.mk.injEq] at CU
     have HCU:=zq CU;have RD:=zq (show ∀ W2,Mod (fun _=>False) W W2 ->
      W2.cell? ⟨b0,3,none⟩=some (.slice (some ⟨g,o,none⟩) n3 c3)/\W2.cell? ⟨b5,3,none⟩=some (.slice (some ⟨g',o',none⟩) n3 f3) /\
      (W2.cell? ⟨g,o+j*7,none⟩=some (.int .i64 yk)/\W2.cell? ⟨g,o+j*7+1,none⟩=some (.int .i64 yu)/\W2.cell? ⟨g,o+j*7+2,none⟩=some (.int .i64 ym)/\W2.cell? ⟨g,o+j*7+3,none⟩=some (.int .i64 ys)/\W2.cell? ⟨g,o+j*7+4,none⟩=some (.int .i64 ye)/\W2.cell? ⟨g,o+j*7+5,none⟩=some (.bool yc)/\W2.cell? ⟨g,o+j*7+6,none⟩=some (.int .i64 yr))/\(W2.cell? ⟨g',o'+j*7,none⟩=some (.int .i64 xk)/\W2.cell? ⟨g',o'+j*7+1,none⟩=some (.int .i64 xu)/\W2.cell? ⟨g',o'+j*7+2,none⟩=some (.int .i64 xm)/\W2.cell? ⟨g',o'+j*7+3,none⟩=some (.int .i64 xs)/\W2.cell? ⟨g',o'+j*7+4,none⟩=some (.int .i64 xe)/\W2.cell? ⟨g',o'+j*7+5,none⟩=some (.bool xc)/\W2.cell? ⟨g',o'+j*7+6,none⟩=some (.int .i64 xr)) from fun W2 hm =>
      ⟨hm.cell (by rw[<-eg];exact XW.o.cell 0 rfl 3 CF.o.2.2.2.1) (fun h=>h),hm.cell (by rw[<-eg'];exact XW.o.cell 2 rfl 3 UF_.o.2.2.2.1) (fun h=>h),⟨hm.cell (by have:=hc 0 _ rfl;simpa using this) (fun h=>h),hm.cell (hc 1 _ rfl) (fun h=>h),hm.cell (hc 2 _ rfl) (fun h=>h),hm.cell (hc 3 _ rfl) (fun h=>h),hm.cell (hc 4 _ rfl) (fun h=>h),hm.cell (hc 5 _ rfl) (fun h=>h),hm.cell (hc 6 _ rfl) (fun h=>h)⟩,hm.cell (by have:=hc' 0 _ rfl;simpa using this) (fun h=>h),hm.cell (hc' 1 _ rfl) (fun h=>h),hm.cell (hc' 2 _ rfl) (fun h=>h),hm.cell (hc' 3 _ rfl) (fun h=>h),hm.cell (hc' 4 _ rfl) (fun h=>h),hm.cell (hc' 5 _ rfl) (fun h=>h),hm.cell (hc' 6 _ rfl) (fun h=>h)⟩)
     clear hx hy CU hr hs hc hc' eg eg' hjM hjL XW
     go_upto_region 49 with fail
     have CL:=zq (show ∀ z:bD (fun W2:World=>Below W.heap.size W W2),Mod (fun _=>False) W z.w from fun z=>Mod.of_below z.ok);have z1:∀ z:bD (fun W2:World=>Below W.heap.size W W2),z.w.cell? ⟨b0,3,none⟩=some (.slice (some ⟨g,o,none⟩) n3 c3):=fun z=>(RD.o z.w (CL.o z)).1
     have z2:∀ z:bD (fun W2:World=>Below W.heap.size W W2),z.w.cell? ⟨b5,3,none⟩=some (.slice (some ⟨g',o',none⟩) n3 f3):=fun z=>(RD.o z.w (CL.o z)).2.1
     have ya0:∀ z:bD (fun W2:World=>Below W.heap.size W W2),z.w.cell? ⟨g,o+j*7,none⟩=some (.int .i64 yk):=fun z=>(RD.o z.w (CL.o z)).2.2.1.1
     have ya1:∀ z:bD (fun W2:World=>Below W.heap.size W W2),z.w.cell? ⟨g,o+j*7+1,none⟩=some (.int .i64 yu):=fun z=>(RD.o z.w (CL.o z)).2.2.1.2.1
     have ya2:∀ z:bD (fun W2:World=>Below W.heap.size W W2),z.w.cell? ⟨g,o+j*7+2,none⟩=some (.int .i64 ym):=fun z=>(RD.o z.w (CL.o z)).2.2.1.2.2.1
     have ya3:∀ z:bD (fun W2:World=>Below W.heap.size W W2),z.w.cell? ⟨g,o+j*7+3,none⟩=some (.int .i64 ys):=fun z=>(RD.o z.w (CL.o z)).2.2.1.2.2.2.1
     have ya4:∀ z:bD (fun W2:World=>Below W.heap.size W W2),z.w.cell? ⟨g,o+j*7+4,none⟩=some (.int .i64 ye):=fun z=>(RD.o z.w (CL.o z)).2.2.1.2.2.2.2.1
     have ya5:∀ z:bD (fun W2:World=>Below W.heap.size W W2),z.w.cell? ⟨g,o+j*7+5,none⟩=some (.bool yc):=fun z=>(RD.o z.w (CL.o z)).2.2.1.2.2.2.2.2.1
     have ya6:∀ z:bD (fun W2:World=>Below W.heap.size W W2),z.w.cell? ⟨g,o+j*7+6,none⟩=some (.int .i64 yr):=fun z=>(RD.o z.w (CL.o z)).2.2.1.2.2.2.2.2.2
     have xa0:∀ z:bD (fun W2:World=>Below W.heap.size W W2),z.w.cell? ⟨g',o'+j*7,none⟩=some (.int .i64 xk):=fun z=>(RD.o z.w (CL.o z)).2.2.2.1
     have xa1:∀ z:bD (fun W2:World=>Below W.heap.size W W2),z.w.cell? ⟨g',o'+j*7+1,none⟩=some (.int .i64 xu):=fun z=>(RD.o z.w (CL.o z)).2.2.2.2.1
     have xa2:∀ z:bD (fun W2:World=>Below W.heap.size W W2),z.w.cell? ⟨g',o'+j*7+2,none⟩=some (.int .i64 xm):=fun z=>(RD.o z.w (CL.o z)).2.2.2.2.2.1
     have xa3:∀ z:bD (fun W2:World=>Below W.heap.size W W2),z.w.cell? ⟨g',o'+j*7+3,none⟩=some (.int .i64 xs):=fun z=>(RD.o z.w (CL.o z)).2.2.2.2.2.2.1
     have xa4:∀ z:bD (fun W2:World=>Below W.heap.size W W2),z.w.cell? ⟨g',o'+j*7+4,none⟩=some (.int .i64 xe):=fun z=>(RD.o z.w (CL.o z)).2.2.2.2.2.2.2.1
     have xa5:∀ z:bD (fun W2:World=>Below W.heap.size W W2),z.w.cell? ⟨g',o'+j*7+5,none⟩=some (.bool xc):=fun z=>(RD.o z.w (CL.o z)).2.2.2.2.2.2.2.2.1
     have xa6:∀ z:bD (fun W2:World=>Below W.heap.size W W2),z.w.cell? ⟨g',o'+j*7+6,none⟩=some (.int .i64 xr):=fun z=>(RD.o z.w (CL.o z)).2.2.2.2.2.2.2.2.2
     haveI ne:Nonempty (bD (fun W2:World=>Below W.heap.size W W2)):=⟨⟨W,Below.refl _ _⟩⟩
     have BD:=zq (show Below W.heap.size W W.drew from ((Mod.refl (fun _=>False) W).drew).aN);have A0:=zq (show At W4 W.drew [] from ⟨((Mod.of_below BW.o).drew).aN,by simp,by simp,by simp⟩);refine ak.aJ (C:=fun w'=>∃ z:bD (fun W2:World=>Below W.heap.size W W2),w'=z.w) [10,11,12,13] [0,1,2,3,4,5,6,7,8,9] (.step 0 (.step 1 (.step 2 (.step 3 (.step 4 (.step 5 (.step 6 (.step 7 (.step 8 (.step 9 (.fork 10 (.step 11 (.step 12 (.step 13 .leaf))) 11 (.step 10 (.step 12 (.step 13 .leaf)))))))))))))) (fun _ _ _=>False) (by kernel_rfl) (fun _ _ _ h=>h.elim) (by kernel_rfl) ⟨⟨_,BD.o⟩,rfl⟩ ?_;refine ak.bn [0,1,2,3,4,5,6,7,8,9] (by kernel_rfl) ?_
     simp only[au,nth]
     repeat (go_big_quiet_step (fail))
     refine wpQuiet_nil ?_;clear z1 z2 ya0 xa0 ya1 xa1 ya2 xa2 ya3 xa3 ya4 xa4 ya5 xa5 ya6 xa6;obtain⟨WD,hWD⟩:=Zn W.drew;rw[<-hWD] at BD A0 ⊢;obtain⟨H0,hH0⟩:=Zn WD.heap.size;have HH0:=zq hH0;have A1:=zq (show At W4 (WD.alloc (.cells #[.int .i64 0,.int .i64 0,.int .i64 0,.int .i64 0,.int .i64 0,.bool false,.int .i64 0] 51)) [(H0, 51,#[.int .i64 0,.int .i64 0,.int .i64 0,.int .i64 0,.int .i64 0,.bool false,.int .i64 0])] from by rw[hH0];exact A0.o.alloc _ _);have A2:=zq (show At W4 ((WD.alloc (.cells #[.int .i64 0,.int .i64 0,.int .i64 0,.int .i64 0,.int .i64 0,.bool false,.int .i64 0] 51)).alloc (.cells #[.int .i64 0,.int .i64 0,.int .i64 0,.int .i64 0,.int .i64 0,.bool false,.int .i64 0] 51)) [(H0, 51,#[.int .i64 0,.int .i64 0,.int .i64 0,.int .i64 0,.int .i64 0,.bool false,.int .i64 0]),(H0+1, 51,#[.int .i64 0,.int .i64 0,.int .i64 0,.int .i64 0,.int .i64 0,.bool false,.int .i64 0])] from by
      have a:=A1.o.alloc 51 #[.int .i64 0,.int .i64 0,.int .i64 0,.int .i64 0,.int .i64 0,.bool false,.int .i64 0];rw[show (WD.alloc (.cells #[.int .i64 0,.int .i64 0,.int .i64 0,.int .i64 0,.int .i64 0,.bool false,.int .i64 0] 51)).heap.size=H0+1 from by rw[hH0];simp] at a;exact a)
     have B1:=zq (show Below W.heap.size W (WD.alloc (.cells #[.int .i64 0,.int .i64 0,.int .i64 0,.int .i64 0,.int .i64 0,.bool false,.int .i64 0] 51)) from BD.o.alloc BD.o.size _);have B2:=zq (show Below W.heap.size W ((WD.alloc (.cells #[.int .i64 0,.int .i64 0,.int .i64 0,.int .i64 0,.int .i64 0,.bool false,.int .i64 0] 51)).alloc (.cells #[.int .i64 0,.int .i64 0,.int .i64 0,.int .i64 0,.int .i64 0,.bool false,.int .i64 0] 51)) from B1.o.alloc B1.o.size _);clear hWD hH0 CL;refine ak.eG ?_ ?_
     ·refine ak.aA (by kernel_rfl) rfl (fun K hK=>?_)
      simp only[au,nth]
      refine aj ?_;go_simp
      try rw[<-HH0.o]
      refine hK _ _ (fun _=>⟨⟨_,B1.o⟩,rfl⟩) ?_;clear hK;refine ak.aA (by kernel_rfl) rfl (fun K hK=>?_)
      simp only[au,nth]
      refine aj ?_;go_simp
      try rw[<-HH0.o]
      refine hK _ _ (fun _=>⟨⟨_,B2.o⟩,rfl⟩) ?_;clear hK;obtain⟨WB,hWB⟩:=Zn ((WD.alloc (.cells #[.int .i64 0,.int .i64 0,.int .i64 0,.int .i64 0,.int .i64 0,.bool false,.int .i64 0] 51)).alloc (.cells #[.int .i64 0,.int .i64 0,.int .i64 0,.int .i64 0,.int .i64 0,.bool false,.int .i64 0] 51));rw[<-hWB] at A2 B2 ⊢;have A3:=zq (show At W4 (WB.setRow (H0) #[.int .i64 xk,.int .i64 xu,.int .i64 xm,.int .i64 xs,.int .i64 xe,.bool xc,.int .i64 xr]) [(H0, 51,#[.int .i64 xk,.int .i64 xu,.int .i64 xm,.int .i64 xs,.int .i64 xe,.bool xc,.int .i64 xr]),(H0+1, 51,#[.int .i64 0,.int .i64 0,.int .i64 0,.int .i64 0,.int .i64 0,.bool false,.int .i64 0])] from A2.o.setRow 0 rfl #[.int .i64 xk,.int .i64 xu,.int .i64 xm,.int .i64 xs,.int .i64 xe,.bool xc,.int .i64 xr]);have A4:=zq (show At W4 ((WB.setRow (H0) #[.int .i64 xk,.int .i64 xu,.int .i64 xm,.int .i64 xs,.int .i64 xe,.bool xc,.int .i64 xr]).setRow (H0+1) #[.int .i64 yk,.int .i64 yu,.int .i64 ym,.int .i64 ys,.int .i64 ye,.bool yc,.int .i64 yr]) [(H0, 51,#[.int .i64 xk,.int .i64 xu,.int .i64 xm,.int .i64 xs,.int .i64 xe,.bool xc,.int .i64 xr]),(H0+1, 51,#[.int .i64 yk,.int .i64 yu,.int .i64 ym,.int .i64 ys,.int .i64 ye,.bool yc,.int .i64 yr])] from A3.o.setRow 1 rfl #[.int .i64 yk,.int .i64 yu,.int .i64 ym,.int .i64 ys,.int .i64 ye,.bool yc,.int .i64 yr]);clear hWB;have HS:=zq (show W.heap.size<=H0 from by rw[HH0.o];exact BD.o.size);have B3:=zq (show Below W.heap.size W (WB.setRow (H0) #[.int .i64 xk,.int .i64 xu,.int .i64 xm,.int .i64 xs,.int .i64 xe,.bool xc,.int .i64 xr]) from bK B2.o rfl (by have:=HS.o;omega));have B4:=zq (show Below W.heap.size W ((WB.setRow (H0) #[.int .i64 xk,.int .i64 xu,.int .i64 xm,.int .i64 xs,.int .i64 xe,.bool xc,.int .i64 xr]).setRow (H0+1) #[.int .i64 yk,.int .i64 yu,.int .i64 ym,.int .i64 ys,.int .i64 ye,.bool yc,.int .i64 yr]) from bK B3.o rfl (by have:=HS.o;omega));refine ak.aA (by kernel_rfl) rfl (fun K hK=>?_)
      simp only[au,nth]
      refine aj ?_;refine wp_store_row 51 (.tmp 21) (.tmp 242) rfl (H0) #[.int .i64 xk,.int .i64 xu,.int .i64 xm,.int .i64 xs,.int .i64 xe,.bool xc,.int .i64 xr] rfl rfl 51 _ (A2.o.get 0 rfl) CJ rfl (allI _ _ _ _ _ _ _) ?_;go_simp;refine hK _ _ (fun _=>⟨⟨_,B3.o⟩,rfl⟩) ?_;clear hK;obtain⟨WE,hWE⟩:=Zn (WB.setRow (H0) #[.int .i64 xk,.int .i64 xu,.int .i64 xm,.int .i64 xs,.int .i64 xe,.bool xc,.int .i64 xr]);rw[<-hWE] at A3 A4 B3 B4 ⊢;clear hWE;refine ak.aA (by kernel_rfl) rfl (fun K hK=>?_)
      simp only[au,nth]
      refine aj ?_;refine wp_store_row 51 (.tmp 22) (.tmp 247) rfl (H0+1) #[.int .i64 yk,.int .i64 yu,.int .i64 ym,.int .i64 ys,.int .i64 ye,.bool yc,.int .i64 yr] rfl rfl 51 _ (A3.o.get 1 rfl) CJ rfl (allI _ _ _ _ _ _ _) ?_;go_simp;refine hK _ _ (fun _=>⟨⟨_,B4.o⟩,rfl⟩) ?_;clear hK;refine ak.aQ ?_;obtain⟨W1,hW1⟩:=Zn (WE.setRow (H0+1) #[.int .i64 yk,.int .i64 yu,.int .i64 ym,.int .i64 ys,.int .i64 ye,.bool yc,.int .i64 yr]);rw[<-hW1] at A4 B4 ⊢;have MW:=zq (Mod.of_below B4.o);obtain⟨bx,hbx⟩:=Zn H0;obtain⟨by_,hby⟩:=Zn (H0+1);have BX:=zq (show At W4 W1 [(bx, 51,#[.int .i64 xk,.int .i64 xu,.int .i64 xm,.int .i64 xs,.int .i64 xe,.bool xc,.int .i64 xr]),(by_, 51,#[.int .i64 yk,.int .i64 yu,.int .i64 ym,.int .i64 ys,.int .i64 ye,.bool yc,.int .i64 yr])] from by rw[hbx,hby];exact A4.o);have NB:=zq (show W.heap.size<=bx/\W.heap.size<=by_ from by have:=HS.o;omega);rw[<-hby,<-hbx];clear hW1 hbx hby A1 A2 A3 A4 B1 B2 B3 B4 BD A0 HH0 HS;have BY:=zq (X4.o.go BX.o.low);have u1:W1.cell? ⟨b0+1,1,none⟩=some (.int .i64 c.u):=BY.o.cell 1 rfl 1 rfl;have SM:=zq (show xk=yk/\xu=yu/\xm=ym/\xs=ys/\xe=ye/\xc=yc from by
       rcases HCU.o with h|h|h
       ·exact⟨h.1,h.2.1,h.2.2.1,h.2.2.2.1,h.2.2.2.2.1,h.2.2.2.2.2.1⟩
       ·obtain⟨_,h1,h2,h3,h4,h5,h6,_⟩:=h;exact⟨h1,h2,h3,h4,h5,h6⟩
       have:=HKK.o;omega)
      obtain⟨rfl,rfl,rfl,rfl,rfl,rfl⟩:=SM.o;clear SM HCU;have p0:W1.cell? ⟨bx,0,none⟩=some (.int .i64 xk):=BX.o.cell 0 rfl 0 rfl;have q0:W1.cell? ⟨by_,0,none⟩=some (.int .i64 xk):=BX.o.cell 1 rfl 0 rfl;have p1:W1.cell? ⟨bx,1,none⟩=some (.int .i64 xu):=BX.o.cell 0 rfl 1 rfl;have q1:W1.cell? ⟨by_,1,none⟩=some (.int .i64 xu):=BX.o.cell 1 rfl 1 rfl;have p2:W1.cell? ⟨bx,2,none⟩=some (.int .i64 xm):=BX.o.cell 0 rfl 2 rfl;have q2:W1.cell? ⟨by_,2,none⟩=some (.int .i64 xm):=BX.o.cell 1 rfl 2 rfl;have p3:W1.cell? ⟨bx,3,none⟩=some (.int .i64 xs):=BX.o.cell 0 rfl 3 rfl;have q3:W1.cell? ⟨by_,3,none⟩=some (.int .i64 xs):=BX.o.cell 1 rfl 3 rfl;have p4:W1.cell? ⟨bx,4,none⟩=some (.int .i64 xe):=BX.o.cell 0 rfl 4 rfl;have q4:W1.cell? ⟨by_,4,none⟩=some (.int .i64 xe):=BX.o.cell 1 rfl 4 rfl;have p5:W1.cell? ⟨bx,5,none⟩=some (.bool xc):=BX.o.cell 0 rfl 5 rfl;have q5:W1.cell? ⟨by_,5,none⟩=some (.bool xc):=BX.o.cell 1 rfl 5 rfl;have p6:W1.cell? ⟨bx,6,none⟩=some (.int .i64 xr):=BX.o.cell 0 rfl 6 rfl;have q6:W1.cell? ⟨by_,6,none⟩=some (.int .i64 yr):=BX.o.cell 1 rfl 6 rfl
      go_upto_region 51 with fail
      have BXD:=zq BX.o.drew;have f6:W1.frozen? ⟨by_,6,none⟩=false:=BX.o.free 1 rfl 6;have f3:W1.frozen? ⟨by_,3,none⟩=false:=BX.o.free 1 rfl 3;have C1:=zq (show At W4 (W1.drew.setCell ⟨by_,6,none⟩ (.int .i64 xr)) [(bx, 51,#[.int .i64 xk,.int .i64 xu,.int .i64 xm,.int .i64 xs,.int .i64 xe,.bool xc,.int .i64 xr]),(by_, 51,#[.int .i64 xk,.int .i64 xu,.int .i64 xm,.int .i64 xs,.int .i64 xe,.bool xc,.int .i64 xr])] from BXD.o.setCell 1 rfl 6 _);have C2:=zq (show At W4 ((W1.drew.setCell ⟨by_,6,none⟩ (.int .i64 xr)).setCell ⟨by_,3,none⟩ (.int .i64 xs)) [(bx, 51,#[.int .i64 xk,.int .i64 xu,.int .i64 xm,.int .i64 xs,.int .i64 xe,.bool xc,.int .i64 xr]),(by_, 51,#[.int .i64 xk,.int .i64 xu,.int .i64 xm,.int .i64 xs,.int .i64 xe,.bool xc,.int .i64 xr])] from C1.o.setCell 1 rfl 3 _);have M2:=zq (show Mod (fun _=>False) W ((W1.drew.setCell ⟨by_,6,none⟩ (.int .i64 xr)).setCell ⟨by_,3,none⟩ (.int .i64 xs)) from ((MW.o.drew).setCell _ (fun h=>by have:=NB.o;simp only at h;omega)).setCell _ (fun h=>by have:=NB.o;simp only at h;omega));have j3:∀ z:bD (fun W2:World=>W2.cell? ⟨bx,3,none⟩=some (.int .i64 xs)/\W2.cell? ⟨bx,6,none⟩=some (.int .i64 xr)),z.w.cell? ⟨bx,3,none⟩=some (.int .i64 xs):=fun z=>z.ok.1
      have j6:∀ z:bD (fun W2:World=>W2.cell? ⟨bx,3,none⟩=some (.int .i64 xs)/\W2.cell? ⟨bx,6,none⟩=some (.int .i64 xr)),z.w.cell? ⟨bx,6,none⟩=some (.int .i64 xr):=fun z=>z.ok.2
      haveI ne2:Nonempty (bD (fun W2:World=>W2.cell? ⟨bx,3,none⟩=some (.int .i64 xs)/\W2.cell? ⟨bx,6,none⟩=some (.int .i64 xr))):=⟨⟨W1,p3,p6⟩⟩
      clear p0 q0 p1 q1 p2 q2 p3 q3 p4 q4 p5 q5 p6 q6;refine ak.aJ (C:=fun w'=>∃ z:bD (fun W2:World=>W2.cell? ⟨bx,3,none⟩=some (.int .i64 xs)/\W2.cell? ⟨bx,6,none⟩=some (.int .i64 xr)),w'=z.w) [5,7] [2,3] (.step 0 (.step 1 (.step 2 (.step 3 (.step 4 (.step 5 (.step 6 (.step 7 .leaf)))))))) (fun _ _ _=>False) (by kernel_rfl) (fun _ _ _ h=>h.elim) (by kernel_rfl) ⟨⟨_,BXD.o.cell 0 rfl 3 rfl,BXD.o.cell 0 rfl 6 rfl⟩,rfl⟩ ?_;have p6:W1.cell? ⟨bx,6,none⟩=some (.int .i64 xr):=BX.o.cell 0 rfl 6 rfl;refine ak.ay [0,1] (by kernel_rfl) ?_
      simp only[au,nth]
      repeat (go_big_quiet_step (fail))
      refine wpQuiet_nil ?_;refine ak.bn [2,3] (by kernel_rfl) ?_
      simp only[au,nth]
      repeat (go_big_quiet_step (fail))
      refine wpQuiet_nil ?_;clear j3 j6 p6;refine ak.ay [4] (by kernel_rfl) ?_
      simp only[au,nth]
      repeat (go_big_quiet_step (fail))
      refine wpQuiet_nil ?_;have g6:W1.drew.cell? ⟨by_,6,none⟩=some (.int .i64 yr):=BXD.o.cell 1 rfl 6 rfl;have g6f:W1.drew.frozen? ⟨by_,6,none⟩=false:=BXD.o.free 1 rfl 6;obtain⟨WD,hWD⟩:=Zn W1.drew;rw[<-hWD] at C1 C2 M2 g6 g6f ⊢;clear hWD;refine ak.aA (by kernel_rfl) rfl (fun K hK=>?_)
      simp only[au,nth]
      refine aj ?_;go_simp;refine hK _ _ (fun _=>⟨⟨_,C1.o.cell 0 rfl 3 rfl,C1.o.cell 0 rfl 6 rfl⟩,rfl⟩) ?_;clear hK g6 g6f;obtain⟨WE,hWE⟩:=Zn (WD.setCell ⟨by_,6,none⟩ (.int .i64 xr));rw[<-hWE] at C1 C2 M2 ⊢;clear hWE;refine ak.ay [6] (by kernel_rfl) ?_
      simp only[au,nth]
      repeat (go_big_quiet_step (fail))
      refine wpQuiet_nil ?_;have g3:WE.cell? ⟨by_,3,none⟩=some (.int .i64 xs):=C1.o.cell 1 rfl 3 rfl;have g3f:WE.frozen? ⟨by_,3,none⟩=false:=C1.o.free 1 rfl 3;refine ak.bF (by kernel_rfl) rfl (by kernel_rfl) (fun K hK=>?_)
      simp only[au,nth]
      refine aj ?_;go_simp;refine hK _ _ ?_;clear hK g3 g3f;refine ak.aQ ?_;obtain⟨W2,hW2⟩:=Zn (WE.setCell ⟨by_,3,none⟩ (.int .i64 xs));rw[<-hW2] at C2 M2 ⊢;clear hW2 C1 BX BXD BY f3 f6;have XE:=zq (X4.o.go C2.o.low);have LOW:=zq C2.o.low;have y3:W2.cell? ⟨b0,3,none⟩=some (.slice (some ⟨g,o,none⟩) n3 c3):=(RD.o W2 M2.o).1;have r3:W2.cell? ⟨g,o+j*7+3,none⟩=some (.int .i64 xs):=(RD.o W2 M2.o).2.2.1.2.2.2.1;have f3:W2.frozen? ⟨by_,3,none⟩=false:=C2.o.free 1 rfl 3;have p0:W2.cell? ⟨bx,0,none⟩=some (.int .i64 xk):=C2.o.cell 0 rfl 0 rfl;have q0:W2.cell? ⟨by_,0,none⟩=some (.int .i64 xk):=C2.o.cell 1 rfl 0 rfl;have p1:W2.cell? ⟨bx,1,none⟩=some (.int .i64 xu):=C2.o.cell 0 rfl 1 rfl;have q1:W2.cell? ⟨by_,1,none⟩=some (.int .i64 xu):=C2.o.cell 1 rfl 1 rfl;have p2:W2.cell? ⟨bx,2,none⟩=some (.int .i64 xm):=C2.o.cell 0 rfl 2 rfl;have q2:W2.cell? ⟨by_,2,none⟩=some (.int .i64 xm):=C2.o.cell 1 rfl 2 rfl;have p3:W2.cell? ⟨bx,3,none⟩=some (.int .i64 xs):=C2.o.cell 0 rfl 3 rfl;have q3:W2.cell? ⟨by_,3,none⟩=some (.int .i64 xs):=C2.o.cell 1 rfl 3 rfl;have p4:W2.cell? ⟨bx,4,none⟩=some (.int .i64 xe):=C2.o.cell 0 rfl 4 rfl;have q4:W2.cell? ⟨by_,4,none⟩=some (.int .i64 xe):=C2.o.cell 1 rfl 4 rfl;have p5:W2.cell? ⟨bx,5,none⟩=some (.bool xc):=C2.o.cell 0 rfl 5 rfl;have q5:W2.cell? ⟨by_,5,none⟩=some (.bool xc):=C2.o.cell 1 rfl 5 rfl;have p6:W2.cell? ⟨bx,6,none⟩=some (.int .i64 xr):=C2.o.cell 0 rfl 6 rfl;have q6:W2.cell? ⟨by_,6,none⟩=some (.int .i64 xr):=C2.o.cell 1 rfl 6 rfl;clear RD XE
      go_upto_region 54 with fail
      rw[kT q3];clear y3 r3 f3
      go_wp2_with fail
      go_roundw
      case rel=>exact⟨j+1,by have:=LT_.o;omega,by go_num,_,rfl,LOW⟩
      case measure=>have:=LT_.o;simp[intOf];omega
     refine ak.aA (by kernel_rfl) rfl (fun K hK=>?_)
     simp only[au,nth]
     refine aj ?_;go_simp
     try rw[<-HH0.o]
     refine hK _ _ (fun _=>⟨⟨_,B1.o⟩,rfl⟩) ?_;clear hK;refine ak.aA (by kernel_rfl) rfl (fun K hK=>?_)
     simp only[au,nth]
     refine aj ?_;go_simp
     try rw[<-HH0.o]
     refine hK _ _ (fun _=>⟨⟨_,B2.o⟩,rfl⟩) ?_;clear hK;obtain⟨WB,hWB⟩:=Zn ((WD.alloc (.cells #[.int .i64 0,.int .i64 0,.int .i64 0,.int .i64 0,.int .i64 0,.bool false,.int .i64 0] 51)).alloc (.cells #[.int .i64 0,.int .i64 0,.int .i64 0,.int .i64 0,.int .i64 0,.bool false,.int .i64 0] 51));rw[<-hWB] at A2 B2 ⊢;have A3:=zq (show At W4 (WB.setRow (H0+1) #[.int .i64 xk,.int .i64 xu,.int .i64 xm,.int .i64 xs,.int .i64 xe,.bool xc,.int .i64 xr]) [(H0, 51,#[.int .i64 0,.int .i64 0,.int .i64 0,.int .i64 0,.int .i64 0,.bool false,.int .i64 0]),(H0+1, 51,#[.int .i64 xk,.int .i64 xu,.int .i64 xm,.int .i64 xs,.int .i64 xe,.bool xc,.int .i64 xr])] from A2.o.setRow 1 rfl #[.int .i64 xk,.int .i64 xu,.int .i64 xm,.int .i64 xs,.int .i64 xe,.bool xc,.int .i64 xr]);have A4:=zq (show At W4 ((WB.setRow (H0+1) #[.int .i64 xk,.int .i64 xu,.int .i64 xm,.int .i64 xs,.int .i64 xe,.bool xc,.int .i64 xr]).setRow (H0) #[.int .i64 yk,.int .i64 yu,.int .i64 ym,.int .i64 ys,.int .i64 ye,.bool yc,.int .i64 yr]) [(H0, 51,#[.int .i64 yk,.int .i64 yu,.int .i64 ym,.int .i64 ys,.int .i64 ye,.bool yc,.int .i64 yr]),(H0+1, 51,#[.int .i64 xk,.int .i64 xu,.int .i64 xm,.int .i64 xs,.int .i64 xe,.bool xc,.int .i64 xr])] from A3.o.setRow 0 rfl #[.int .i64 yk,.int .i64 yu,.int .i64 ym,.int .i64 ys,.int .i64 ye,.bool yc,.int .i64 yr]);clear hWB;have HS:=zq (show W.heap.size<=H0 from by rw[HH0.o];exact BD.o.size);have B3:=zq (show Below W.heap.size W (WB.setRow (H0+1) #[.int .i64 xk,.int .i64 xu,.int .i64 xm,.int .i64 xs,.int .i64 xe,.bool xc,.int .i64 xr]) from bK B2.o rfl (by have:=HS.o;omega));have B4:=zq (show Below W.heap.size W ((WB.setRow (H0+1) #[.int .i64 xk,.int .i64 xu,.int .i64 xm,.int .i64 xs,.int .i64 xe,.bool xc,.int .i64 xr]).setRow (H0) #[.int .i64 yk,.int .i64 yu,.int .i64 ym,.int .i64 ys,.int .i64 ye,.bool yc,.int .i64 yr]) from bK B3.o rfl (by have:=HS.o;omega));refine ak.aA (by kernel_rfl) rfl (fun K hK=>?_)
     simp only[au,nth]
     refine aj ?_;refine wp_store_row 51 (.tmp 21) (.tmp 242) rfl (H0+1) #[.int .i64 xk,.int .i64 xu,.int .i64 xm,.int .i64 xs,.int .i64 xe,.bool xc,.int .i64 xr] rfl rfl 51 _ (A2.o.get 1 rfl) CJ rfl (allI _ _ _ _ _ _ _) ?_;go_simp;refine hK _ _ (fun _=>⟨⟨_,B3.o⟩,rfl⟩) ?_;clear hK;obtain⟨WE,hWE⟩:=Zn (WB.setRow (H0+1) #[.int .i64 xk,.int .i64 xu,.int .i64 xm,.int .i64 xs,.int .i64 xe,.bool xc,.int .i64 xr]);rw[<-hWE] at A3 A4 B3 B4 ⊢;clear hWE;refine ak.aA (by kernel_rfl) rfl (fun K hK=>?_)
     simp only[au,nth]
     refine aj ?_;refine wp_store_row 51 (.tmp 22) (.tmp 247) rfl (H0) #[.int .i64 yk,.int .i64 yu,.int .i64 ym,.int .i64 ys,.int .i64 ye,.bool yc,.int .i64 yr] rfl rfl 51 _ (A3.o.get 0 rfl) CJ rfl (allI _ _ _ _ _ _ _) ?_;go_simp;refine hK _ _ (fun _=>⟨⟨_,B4.o⟩,rfl⟩) ?_;clear hK;refine ak.aQ ?_;obtain⟨W1,hW1⟩:=Zn (WE.setRow (H0) #[.int .i64 yk,.int .i64 yu,.int .i64 ym,.int .i64 ys,.int .i64 ye,.bool yc,.int .i64 yr]);rw[<-hW1] at A4 B4 ⊢;have MW:=zq (Mod.of_below B4.o);obtain⟨bx,hbx⟩:=Zn (H0+1);obtain⟨by_,hby⟩:=Zn H0;have BX:=zq (show At W4 W1 [(bx, 51,#[.int .i64 xk,.int .i64 xu,.int .i64 xm,.int .i64 xs,.int .i64 xe,.bool xc,.int .i64 xr]),(by_, 51,#[.int .i64 yk,.int .i64 yu,.int .i64 ym,.int .i64 ys,.int .i64 ye,.bool yc,.int .i64 yr])] from by rw[hbx,hby];exact A4.o.swap2);have NB:=zq (show W.heap.size<=bx/\W.heap.size<=by_ from by have:=HS.o;omega);rw[<-hbx,<-hby];clear hW1 hbx hby A1 A2 A3 A4 B1 B2 B3 B4 BD A0 HH0 HS;have BY:=zq (X4.o.go BX.o.low);have u1:W1.cell? ⟨b0+1,1,none⟩=some (.int .i64 c.u):=BY.o.cell 1 rfl 1 rfl;have SM:=zq (show xk=yk/\xu=yu/\xm=ym/\xs=ys/\xe=ye/\xc=yc from by
      rcases HCU.o with h|h|h
      ·exact⟨h.1,h.2.1,h.2.2.1,h.2.2.2.1,h.2.2.2.2.1,h.2.2.2.2.2.1⟩
      ·obtain⟨_,h1,h2,h3,h4,h5,h6,_⟩:=h;exact⟨h1,h2,h3,h4,h5,h6⟩
      have:=HKK.o;omega)
     obtain⟨rfl,rfl,rfl,rfl,rfl,rfl⟩:=SM.o;clear SM HCU;have p0:W1.cell? ⟨bx,0,none⟩=some (.int .i64 xk):=BX.o.cell 0 rfl 0 rfl;have q0:W1.cell? ⟨by_,0,none⟩=some (.int .i64 xk):=BX.o.cell 1 rfl 0 rfl;have p1:W1.cell? ⟨bx,1,none⟩=some (.int .i64 xu):=BX.o.cell 0 rfl 1 rfl;have q1:W1.cell? ⟨by_,1,none⟩=some (.int .i64 xu):=BX.o.cell 1 rfl 1 rfl;have p2:W1.cell? ⟨bx,2,none⟩=some (.int .i64 xm):=BX.o.cell 0 rfl 2 rfl;have q2:W1.cell? ⟨by_,2,none⟩=some (.int .i64 xm):=BX.o.cell 1 rfl 2 rfl;have p3:W1.cell? ⟨bx,3,none⟩=some (.int .i64 xs):=BX.o.cell 0 rfl 3 rfl;have q3:W1.cell? ⟨by_,3,none⟩=some (.int .i64 xs):=BX.o.cell 1 rfl 3 rfl;have p4:W1.cell? ⟨bx,4,none⟩=some (.int .i64 xe):=BX.o.cell 0 rfl 4 rfl;have q4:W1.cell? ⟨by_,4,none⟩=some (.int .i64 xe):=BX.o.cell 1 rfl 4 rfl;have p5:W1.cell? ⟨bx,5,none⟩=some (.bool xc):=BX.o.cell 0 rfl 5 rfl;have q5:W1.cell? ⟨by_,5,none⟩=some (.bool xc):=BX.o.cell 1 rfl 5 rfl;have p6:W1.cell? ⟨bx,6,none⟩=some (.int .i64 xr):=BX.o.cell 0 rfl 6 rfl;have q6:W1.cell? ⟨by_,6,none⟩=some (.int .i64 yr):=BX.o.cell 1 rfl 6 rfl
     go_upto_region 51 with fail
     have BXD:=zq BX.o.drew;have f6:W1.frozen? ⟨by_,6,none⟩=false:=BX.o.free 1 rfl 6;have f3:W1.frozen? ⟨by_,3,none⟩=false:=BX.o.free 1 rfl 3;have C1:=zq (show At W4 (W1.drew.setCell ⟨by_,6,none⟩ (.int .i64 xr)) [(bx, 51,#[.int .i64 xk,.int .i64 xu,.int .i64 xm,.int .i64 xs,.int .i64 xe,.bool xc,.int .i64 xr]),(by_, 51,#[.int .i64 xk,.int .i64 xu,.int .i64 xm,.int .i64 xs,.int .i64 xe,.bool xc,.int .i64 xr])] from BXD.o.setCell 1 rfl 6 _);have C2:=zq (show At W4 ((W1.drew.setCell ⟨by_,6,none⟩ (.int .i64 xr)).setCell ⟨by_,3,none⟩ (.int .i64 xs)) [(bx, 51,#[.int .i64 xk,.int .i64 xu,.int .i64 xm,.int .i64 xs,.int .i64 xe,.bool xc,.int .i64 xr]),(by_, 51,#[.int .i64 xk,.int .i64 xu,.int .i64 xm,.int .i64 xs,.int .i64 xe,.bool xc,.int .i64 xr])] from C1.o.setCell 1 rfl 3 _);have M2:=zq (show Mod (fun _=>False) W ((W1.drew.setCell ⟨by_,6,none⟩ (.int .i64 xr)).setCell ⟨by_,3,none⟩ (.int .i64 xs)) from ((MW.o.drew).setCell _ (fun h=>by have:=NB.o;simp only at h;omega)).setCell _ (fun h=>by have:=NB.o;simp only at h;omega));have j3:∀ z:bD (fun W2:World=>W2.cell? ⟨bx,3,none⟩=some (.int .i64 xs)/\W2.cell? ⟨bx,6,none⟩=some (.int .i64 xr)),z.w.cell? ⟨bx,3,none⟩=some (.int .i64 xs):=fun z=>z.ok.1
     have j6:∀ z:bD (fun W2:World=>W2.cell? ⟨bx,3,none⟩=some (.int .i64 xs)/\W2.cell? ⟨bx,6,none⟩=some (.int .i64 xr)),z.w.cell? ⟨bx,6,none⟩=some (.int .i64 xr):=fun z=>z.ok.2
     haveI ne2:Nonempty (bD (fun W2:World=>W2.cell? ⟨bx,3,none⟩=some (.int .i64 xs)/\W2.cell? ⟨bx,6,none⟩=some (.int .i64 xr))):=⟨⟨W1,p3,p6⟩⟩
     clear p0 q0 p1 q1 p2 q2 p3 q3 p4 q4 p5 q5 p6 q6;refine ak.aJ (C:=fun w'=>∃ z:bD (fun W2:World=>W2.cell? ⟨bx,3,none⟩=some (.int .i64 xs)/\W2.cell? ⟨bx,6,none⟩=some (.int .i64 xr)),w'=z.w) [5,7] [2,3] (.step 0 (.step 1 (.step 2 (.step 3 (.step 4 (.step 5 (.step 6 (.step 7 .leaf)))))))) (fun _ _ _=>False) (by kernel_rfl) (fun _ _ _ h=>h.elim) (by kernel_rfl) ⟨⟨_,BXD.o.cell 0 rfl 3 rfl,BXD.o.cell 0 rfl 6 rfl⟩,rfl⟩ ?_;have p6:W1.cell? ⟨bx,6,none⟩=some (.int .i64 xr):=BX.o.cell 0 rfl 6 rfl;refine ak.ay [0,1] (by kernel_rfl) ?_
     simp only[au,nth]
     repeat (go_big_quiet_step (fail))
     refine wpQuiet_nil ?_;refine ak.bn [2,3] (by kernel_rfl) ?_
     simp only[au,nth]
     repeat (go_big_quiet_step (fail))
     refine wpQuiet_nil ?_;clear j3 j6 p6;refine ak.ay [4] (by kernel_rfl) ?_
     simp only[au,nth]
     repeat (go_big_quiet_step (fail))
     refine wpQuiet_nil ?_;have g6:W1.drew.cell? ⟨by_,6,none⟩=some (.int .i64 yr):=BXD.o.cell 1 rfl 6 rfl;have g6f:W1.drew.frozen? ⟨by_,6,none⟩=false:=BXD.o.free 1 rfl 6;obtain⟨WD,hWD⟩:=Zn W1.drew;rw[<-hWD] at C1 C2 M2 g6 g6f ⊢;clear hWD;refine ak.aA (by kernel_rfl) rfl (fun K hK=>?_)
     simp only[au,nth]
     refine aj ?_;go_simp;refine hK _ _ (fun _=>⟨⟨_,C1.o.cell 0 rfl 3 rfl,C1.o.cell 0 rfl 6 rfl⟩,rfl⟩) ?_;clear hK g6 g6f;obtain⟨WE,hWE⟩:=Zn (WD.setCell ⟨by_,6,none⟩ (.int .i64 xr));rw[<-hWE] at C1 C2 M2 ⊢;clear hWE;refine ak.ay [6] (by kernel_rfl) ?_
     simp only[au,nth]
     repeat (go_big_quiet_step (fail))
     refine wpQuiet_nil ?_;have g3:WE.cell? ⟨by_,3,none⟩=some (.int .i64 xs):=C1.o.cell 1 rfl 3 rfl;have g3f:WE.frozen? ⟨by_,3,none⟩=false:=C1.o.free 1 rfl 3;refine ak.bF (by kernel_rfl) rfl (by kernel_rfl) (fun K hK=>?_)
     simp only[au,nth]
     refine aj ?_;go_simp;refine hK _ _ ?_;clear hK g3 g3f;refine ak.aQ ?_;obtain⟨W2,hW2⟩:=Zn (WE.setCell ⟨by_,3,none⟩ (.int .i64 xs));rw[<-hW2] at C2 M2 ⊢;clear hW2 C1 BX BXD BY f3 f6;have XE:=zq (X4.o.go C2.o.low);have LOW:=zq C2.o.low;have y3:W2.cell? ⟨b0,3,none⟩=some (.slice (some ⟨g,o,none⟩) n3 c3):=(RD.o W2 M2.o).1;have r3:W2.cell? ⟨g,o+j*7+3,none⟩=some (.int .i64 xs):=(RD.o W2 M2.o).2.2.1.2.2.2.1;have f3:W2.frozen? ⟨by_,3,none⟩=false:=C2.o.free 1 rfl 3;have p0:W2.cell? ⟨bx,0,none⟩=some (.int .i64 xk):=C2.o.cell 0 rfl 0 rfl;have q0:W2.cell? ⟨by_,0,none⟩=some (.int .i64 xk):=C2.o.cell 1 rfl 0 rfl;have p1:W2.cell? ⟨bx,1,none⟩=some (.int .i64 xu):=C2.o.cell 0 rfl 1 rfl;have q1:W2.cell? ⟨by_,1,none⟩=some (.int .i64 xu):=C2.o.cell 1 rfl 1 rfl;have p2:W2.cell? ⟨bx,2,none⟩=some (.int .i64 xm):=C2.o.cell 0 rfl 2 rfl;have q2:W2.cell? ⟨by_,2,none⟩=some (.int .i64 xm):=C2.o.cell 1 rfl 2 rfl;have p3:W2.cell? ⟨bx,3,none⟩=some (.int .i64 xs):=C2.o.cell 0 rfl 3 rfl;have q3:W2.cell? ⟨by_,3,none⟩=some (.int .i64 xs):=C2.o.cell 1 rfl 3 rfl;have p4:W2.cell? ⟨bx,4,none⟩=some (.int .i64 xe):=C2.o.cell 0 rfl 4 rfl;have q4:W2.cell? ⟨by_,4,none⟩=some (.int .i64 xe):=C2.o.cell 1 rfl 4 rfl;have p5:W2.cell? ⟨bx,5,none⟩=some (.bool xc):=C2.o.cell 0 rfl 5 rfl;have q5:W2.cell? ⟨by_,5,none⟩=some (.bool xc):=C2.o.cell 1 rfl 5 rfl;have p6:W2.cell? ⟨bx,6,none⟩=some (.int .i64 xr):=C2.o.cell 0 rfl 6 rfl;have q6:W2.cell? ⟨by_,6,none⟩=some (.int .i64 xr):=C2.o.cell 1 rfl 6 rfl;clear RD XE
     go_upto_region 54 with fail
     rw[kT q3];clear y3 r3 f3
     go_wp2_with fail
     go_roundw
     case rel=>exact⟨j+1,by have:=LT_.o;omega,by go_num,_,rfl,LOW⟩
     case measure=>have:=LT_.o;simp[intOf];omega
    have hlt':¬ (j:Int)<(n3:Int):=by omega
    have XW:=zq (X4.o.go BW.o);have y1:W.cell? ⟨b0,1,none⟩=some (.slice a1 L.aO.length c1):=XW.o.cell 0 rfl 1 CF.o.2.1;have x1:W.cell? ⟨b5,1,none⟩=some (.slice d1 L.aO.length f1):=XW.o.cell 2 rfl 1 UF_.o.2.1
    go_wp2_with fail
    go_ret;exact⟨by simp,XW.o.low⟩
   have hlt':(j:Int)<(n5:Int):=by omega
   have LT_:=zq hlt;obtain⟨p,hp⟩:∃ p,L.aB[j]?=some p:=⟨_,Zg (by have:=N.o.2.2.2;omega)⟩;obtain⟨q1,q2,q3,q4,_⟩:=HGD.o.aB.all p (List.mem_of_getElem? hp);have hr:=(HH.o W (X4.o.go BM.o.1).low).aB;rw[VF.o.2.2.2.1] at hr;obtain⟨g,o,eg,_,hc⟩:=hr.at_ hp;obtain⟨pa,pi,pq⟩:=p;obtain⟨ni,rfl⟩:∃ n:Nat,pi=n:=⟨pi.toNat,by simp only at q3;omega⟩;have HP:=zq hp;have NI:=zq (show ni<L.af.length from by simp only at q4;omega);have r0:W.cell? ⟨g,o+j*3,none⟩=some (.int .i64 pa):=by have:=hc 0 _ rfl;simpa using this
   have r1:W.cell? ⟨g,o+j*3+1,none⟩=some (.int .i64 (ni:Int)):=hc 1 _ rfl;have r2:W.cell? ⟨g,o+j*3+2,none⟩=some (.int .i64 pq):=hc 2 _ rfl;subst eg;clear hr hc hp q1 q2 q3 q4
   go_upto_region 22 with fail
   clear r0 r1 r2;obtain⟨W1,hW1⟩:=Zn (W.alloc (.cells #[.int .i64 pa,.int .i64 (ni:Int),.int .i64 pq] 60));obtain⟨bp,hbp⟩:=Zn W.heap.size;have XP:=zq (show At W4 W1 [(bp, 60,#[.int .i64 pa,.int .i64 (ni:Int),.int .i64 pq])] from by
    rw[hW1,hbp];exact (show At W4 W [] from ⟨BM.o.1,by simp,by simp,by simp⟩).alloc _ _)
   have MM:=zq BM.o.2
   try rw[<-hW1]
   try rw[<-hbp]
   clear hW1 hbp BM;have X1:=zq (X4.o.go XP.o.low);have hr:=(HH.o W1 X1.o.low).af;rw[VF.o.2.1] at hr;obtain⟨g3,o3,eg,_,hc⟩:=hr.at_ (aH.jT NI.o);obtain⟨ex,hex⟩:=Zn ((L.ins ni).aU);have r4:W1.cell? ⟨g3,o3+ni*7+4,none⟩=some (.int .i64 ex):=by rw[hex];exact hc 4 _ rfl
   have y3:W1.cell? ⟨b0,3,none⟩=some (.slice a3 n3 c3):=X1.o.cell 0 rfl 3 CF.o.2.2.2.1;have y0:W1.cell? ⟨b0,0,none⟩=some (.int .i64 dd):=X1.o.cell 0 rfl 0 (by rw[HDD.o];exact CF.o.1);have p1:W1.cell? ⟨bp,1,none⟩=some (.int .i64 (ni:Int)):=XP.o.cell 0 rfl 1 rfl;have k0:(0:Int)<=(ni:Int):=by omega
   have k1:(ni:Int)<(n3:Int):=by have:=NI.o;have:=N.o.2.1;omega
   have FP:=zq (show gJ L.day (L.ins (⟨pa,(ni:Int),pq⟩:Pos).instr)=decide (ex≠dd\/dd=0) from by unfold gJ;rw[hex,HDD.o]);have GV:=zq eg;subst eg;clear hr hc hex;by_cases hz:ex=0
   ·have z1:(ex != 0)=false:=by simp[hz]
    have FT:=zq (show gJ L.day (L.ins (⟨pa,(ni:Int),pq⟩:Pos).instr)=true from by rw[FP.o];apply decide_eq_true;omega);clear hz
    go_upto_region 24 with fail
    try clear z2
    clear z1 r4 y3 y0 p1 k0 k1;have hat:=xH (f:=fun p=>gJ L.day (L.ins p.instr)) HP.o FT.o;rw[<-MM.o,<-EP.o] at hat;have hml:=(List.getElem?_eq_some_iff.1 hat).1;have hr:=(OM.o.below XP.o.low).led.aB;rw[G5.o.2] at hr;obtain⟨g9,o9,eg9,_,hc9⟩:=hr.at_ hat;have r0:W1.cell? ⟨g9,o9+m*3,none⟩=some (.int .i64 pa):=by have:=hc9 0 _ rfl;simpa using this
    have r1:W1.cell? ⟨g9,o9+m*3+1,none⟩=some (.int .i64 (ni:Int)):=hc9 1 _ rfl;have r2:W1.cell? ⟨g9,o9+m*3+2,none⟩=some (.int .i64 pq):=hc9 2 _ rfl;have x5:W1.cell? ⟨b5,5,none⟩=some (.slice (some ⟨g9,o9,none⟩) m5 f5):=by rw[<-eg9];exact X1.o.cell 2 rfl 5 G5.o.1
    have s0:W1.cell? ⟨bp,0,none⟩=some (.int .i64 pa):=XP.o.cell 0 rfl 0 rfl;have s1:W1.cell? ⟨bp,1,none⟩=some (.int .i64 (ni:Int)):=XP.o.cell 0 rfl 1 rfl;have s2:W1.cell? ⟨bp,2,none⟩=some (.int .i64 pq):=XP.o.cell 0 rfl 2 rfl;have m1:¬ (m5:Int)<=(m:Int):=by rw[M5.o];omega
    have m2:(m:Int)<(m5:Int):=by rw[M5.o];omega
    have m0:(0:Int)<=(m:Int):=by omega
    have mb:m<=64:=by
     have:=CLG.o.1.aB.len;omega
    clear hat hml hr hc9 eg9;refine ak.wz [] [] (.step 0 (.step 1 (.step 2 (.step 3 (.step 4 (.step 5 (.step 6 (.step 7 (.step 8 (.step 9 (.step 10 (.step 11 (.step 12 (.step 13 .leaf)))))))))))))) (by kernel_rfl) (by kernel_rfl) ?_;refine ak.ay [0,1,2,3,4,5,6,7,8,9,10,11,12,13] (by kernel_rfl) ?_
    simp only[au,nth]
    repeat (go_big_quiet_step (fail))
    refine wpQuiet_nil ?_;refine ak.aQ ?_;go_simp;clear r0 r1 r2 x5 s0 s1 s2 m0 m1 m2;have n64:n5<=64:=BN.o.2.2.2;have BD:=zq (show Below W4.heap.size W4 W1.drew from XP.o.drew.low)
    go_wp2_with fail
    go_roundw
    case rel=>exact⟨j+1,m+1,by have:=LT_.o;omega,by go_num,by go_num,_,rfl,zq ⟨BD.o,by rw[pU HP.o,FT.o,MM.o];simp⟩⟩
    case measure=>have:=LT_.o;simp[intOf];omega
   have z1:(ex != 0)=true:=by simp[hz]
   by_cases he:ex=dd
   ·have z2:(ex==dd)=true:=by simp[he]
    have FT:=zq (show gJ L.day (L.ins (⟨pa,(ni:Int),pq⟩:Pos).instr)=false from by rw[FP.o];apply decide_eq_false;omega);clear hz he;have n64:n5<=64:=BN.o.2.2.2
    go_wp2_with fail
    go_roundw
    case rel=>exact⟨j+1,m,by have:=LT_.o;omega,rfl,by go_num,_,rfl,zq ⟨XP.o.low,by rw[pU HP.o,FT.o,MM.o];simp⟩⟩
    case measure=>have:=LT_.o;simp[intOf];omega
   have z2:(ex==dd)=false:=by simp[he]
   have FT:=zq (show gJ L.day (L.ins (⟨pa,(ni:Int),pq⟩:Pos).instr)=true from by rw[FP.o];apply decide_eq_true;omega);clear hz he
   go_upto_region 24 with fail
   try clear z2
   clear z1 r4 y3 y0 p1 k0 k1;have hat:=xH (f:=fun p=>gJ L.day (L.ins p.instr)) HP.o FT.o;rw[<-MM.o,<-EP.o] at hat;have hml:=(List.getElem?_eq_some_iff.1 hat).1;have hr:=(OM.o.below XP.o.low).led.aB;rw[G5.o.2] at hr;obtain⟨g9,o9,eg9,_,hc9⟩:=hr.at_ hat;have r0:W1.cell? ⟨g9,o9+m*3,none⟩=some (.int .i64 pa):=by have:=hc9 0 _ rfl;simpa using this
   have r1:W1.cell? ⟨g9,o9+m*3+1,none⟩=some (.int .i64 (ni:Int)):=hc9 1 _ rfl;have r2:W1.cell? ⟨g9,o9+m*3+2,none⟩=some (.int .i64 pq):=hc9 2 _ rfl;have x5:W1.cell? ⟨b5,5,none⟩=some (.slice (some ⟨g9,o9,none⟩) m5 f5):=by rw[<-eg9];exact X1.o.cell 2 rfl 5 G5.o.1
   have s0:W1.cell? ⟨bp,0,none⟩=some (.int .i64 pa):=XP.o.cell 0 rfl 0 rfl;have s1:W1.cell? ⟨bp,1,none⟩=some (.int .i64 (ni:Int)):=XP.o.cell 0 rfl 1 rfl;have s2:W1.cell? ⟨bp,2,none⟩=some (.int .i64 pq):=XP.o.cell 0 rfl 2 rfl;have m1:¬ (m5:Int)<=(m:Int):=by rw[M5.o];omega
   have m2:(m:Int)<(m5:Int):=by rw[M5.o];omega
   have m0:(0:Int)<=(m:Int):=by omega
   have mb:m<=64:=by
    have:=CLG.o.1.aB.len;omega
   clear hat hml hr hc9 eg9;refine ak.wz [] [] (.step 0 (.step 1 (.step 2 (.step 3 (.step 4 (.step 5 (.step 6 (.step 7 (.step 8 (.step 9 (.step 10 (.step 11 (.step 12 (.step 13 .leaf)))))))))))))) (by kernel_rfl) (by kernel_rfl) ?_;refine ak.ay [0,1,2,3,4,5,6,7,8,9,10,11,12,13] (by kernel_rfl) ?_
   simp only[au,nth]
   repeat (go_big_quiet_step (fail))
   refine wpQuiet_nil ?_;refine ak.aQ ?_;go_simp;clear r0 r1 r2 x5 s0 s1 s2 m0 m1 m2;have n64:n5<=64:=BN.o.2.2.2;have BD:=zq (show Below W4.heap.size W4 W1.drew from XP.o.drew.low)
   go_wp2_with fail
   go_roundw
   case rel=>exact⟨j+1,m+1,by have:=LT_.o;omega,by go_num,by go_num,_,rfl,zq ⟨BD.o,by rw[pU HP.o,FT.o,MM.o];simp⟩⟩
   case measure=>have:=LT_.o;simp[intOf];omega
end Go.Proofs.YtfknkmlocbojhaaGreatDoor

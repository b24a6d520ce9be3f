/- Joined: LawLC, MiLC. -/
import Derived.Test.YtfknkmlocbojhaaGreatDoorHw
import Derived.Test.YtfknkmlocbojhaaGreatDoorHx
import Derived.Test.YtfknkmlocbojhaaGreatDoorHp
import Derived.Test.YtfknkmlocbojhaaGreatDoorHo
import Derived.Test.YtfknkmlocbojhaaGreatDoorGn
import Derived.Test.YtfknkmlocbojhaaGreatDoorGk
import Derived.Test.YtfknkmlocbojhaaGreatDoorHm
set_option linter.unusedVariables false
set_option linter.unusedSimpArgs false
set_option maxRecDepth 100000
set_option maxHeartbeats 16000000
namespace Go.Proofs.YtfknkmlocbojhaaGreatDoor
open Go.RowKit Go.Bw Go.Maps Go.Shelf Go.Bw.Fall
theorem KH {w:World} {V:aG} {L:aI} (h:bJ w V L) (v k:Int):I64 (L.aK v k):=by
 unfold aI.aK aI.acc;rw[List.getD_eq_getElem?_getD,List.getD_eq_getElem?_getD]
 cases ha:L.ai[v.toNat]? with
 | none=>show I64 (([]:List Int)[k.toNat]?.getD 0);simp only[List.getElem?_nil,Option.getD_none];exact⟨by omega,by omega⟩
 | some a =>
   simp only[Option.getD_some]
   cases hx:a.aK[k.toNat]? with
   | none=>simp only[Option.getD_none];exact⟨by omega,by omega⟩
   | some x =>
     simp only[Option.getD_some]
     have:=h.nums a (List.mem_of_getElem? ha) x (List.mem_of_getElem? hx);exact⟨by omega,by omega⟩
theorem DF {L:aI} {k:Int} (h:∀ v,I64 (L.aK v k)):∀ n:Nat,-(n*4294967296:Int)<=lK L k n/\lK L k n<=n*4294967296
 | 0=>by simp[lK]
 | n+1=>by
   obtain⟨h1,h2⟩:=DF h n;have a1:=(h n).1;have a2:=(h n).2;unfold lK;omega
theorem Ky (x:Int):bits .and .i64 x 2147483647=x % 2147483648:=by
 have h:bits .and .i64 x 2147483647=IntKind.i64.wrap (((x % 18446744073709551616).toNat &&& 2147483647:Nat):Int):=by
  simp only[bits,IntKind.bits,BitVec.toNat_and,BitVec.toNat_ofInt]
  rfl
 rw[h,show (2147483647:Nat)=2 ^ 31 - 1 from rfl,Nat.and_two_pow_sub_one_eq_mod,IntKind.wrap_i64];omega
theorem uF (w:World) (V:aG) (L:aI) (h:bJ w V L) (hs0:L.Short) (hG:nV w) (c:mO) (hu:c.s.size<=maxLen) (hx:I64 c.a/\I64 c.b) :
 Calls Tryz.prog 6 #[V.val L,.agg c.cells] w fun e w'=>e=.returned (.bool true)/\Below w.heap.size w w':=by
 classical
 have GR:=zq (fun W (hb:Below w.heap.size w W)=>hG.below hb);have HH:=zq (fun W (hb:Below w.heap.size w W)=>h.below hb);have SH:=zq hs0;have HX:=zq (And.intro hu hx);have WK:=zq (fun W (hb:Below w.heap.size w W)=>jK W (hG.below hb));have WD:=zq (fun W (hb:Below w.heap.size w W)=>mG W V L (h.below hb) hs0);have LC:=zq (iL h);have BK:=zq (show ¬ 1024<L.bulk->L.ai.length<=1024/\L.bulk<=1000000 from fun hb=>by unfold aI.bulk at hb ⊢;omega);have AF:=zq (fun W (hb:Below w.heap.size w W) (hL:L.ai.length<=1024)=>jD W V L (h.below hb) hL (hG.below hb) c hu hx.1 hx.2);have GD:=zq (fun W (hb:Below w.heap.size w W) (hL:L.ai.length<=1024) (B:Bool) (hB:decide L.Good=B)=>show Calls Tryz.prog 22 #[V.val L] W fun e x=>e=.returned (.bool B)/\Below W.heap.size W x from kD (h.below hb) hL hB);unfold aG.val at WD AF GD ⊢;unfold mO.cells;obtain⟨C,hC⟩:=Zn (V.cells L);have EC:=zq hC;rw[<-hC] at WD LC AF GD ⊢;obtain⟨BB,hBB⟩:=Zn (decide (1024<L.bulk));rw[<-hBB] at WD;have HB:=zq hBB;obtain⟨W0,hW0⟩:=Zn ((w.alloc (.cells C 31)).alloc (.cells #[.int .i64 c.kind,.int .i64 c.u,.int .i64 c.a,.int .i64 c.b,.string c.s] 41));obtain⟨b0,hb0⟩:=Zn w.heap.size;have X0:=zq (show At w W0 [(b0, 31,C),(b0+1, 41,#[.int .i64 c.kind,.int .i64 c.u,.int .i64 c.a,.int .i64 c.b,.string c.s])] from by
  have a:=(((At.start w).alloc 31 C).alloc 41 #[.int .i64 c.kind,.int .i64 c.u,.int .i64 c.a,.int .i64 c.b,.string c.s]);have e:∀ (w:World) (o:Obj),(w.alloc o).heap.size=w.heap.size+1:=fun w o=>by simp
  simp only[e] at a
  rw[<-hW0,<-hb0] at a;exact a)
 clear h hs0 hG hC hBB hu hx
 go_enter Tryz.func6,Tryz.ntmps6
 go_upto_region 1 with (fail)
 rw[<-hW0,<-hb0];clear hW0 hb0
 go_wp2_with fail
 refine (WK.o W0 X0.o.low).mono ?_;rintro e w1 ⟨rfl,hb⟩;have X1:=zq (X0.o.go hb);clear hb X0
 go_wp2_with (refine bM (X1.o.get 0 rfl) LC.o rfl rfl rfl ?_)
 refine (WD.o w1 X1.o.low).mono ?_;rintro e w2 ⟨rfl,hb⟩;have X2:=zq (X1.o.go hb);clear hb X1
 cases hbb:BB with
 | true =>
   subst hbb
   go_wp2_with fail
   go_ret;exact⟨rfl,X2.o.low⟩
 | false =>
   subst hbb;have HL:=zq (BK.o (of_decide_eq_false HB.o.symm));obtain⟨M,num,er,hM⟩:∃ M num er,dF L (c.qF L)=(M,num,er):=⟨_,_,_,rfl⟩;have EM:=zq hM;by_cases hgd:L.Good;rotate_left
   ·have GX:=zq (GD.o w2 X2.o.low HL.o.1 false (decide_eq_false hgd));clear hgd hM
    go_wp2_with (refine fO (X2.o.get 0 rfl) LC.o (by rfl) rfl rfl ?_)
    refine GX.o.mono ?_;rintro e w5 ⟨rfl,hb⟩;have X5:=zq (X2.o.go hb);clear hb
    go_wp2_with fail
    go_ret;exact⟨rfl,X5.o.low⟩
   have GX:=zq (GD.o w2 X2.o.low HL.o.1 true (decide_eq_true hgd));have HGD:=zq hgd;clear hgd GD
   go_wp2_with (refine fO (X2.o.get 0 rfl) LC.o (by rfl) rfl rfl ?_)
   refine GX.o.mono ?_;rintro e w3 ⟨rfl,hb⟩;have X3:=zq (X2.o.go hb);clear hb X2;have CC:=zq (AF.o w3 X3.o.low HL.o.1);rw[hM] at CC;clear hM AF;have z0:w3.cell? ⟨b0+1,0,none⟩=some (.int .i64 c.kind):=X3.o.cell 1 rfl 0 rfl;have z1:w3.cell? ⟨b0+1,1,none⟩=some (.int .i64 c.u):=X3.o.cell 1 rfl 1 rfl;have z2:w3.cell? ⟨b0+1,2,none⟩=some (.int .i64 c.a):=X3.o.cell 1 rfl 2 rfl;have z3:w3.cell? ⟨b0+1,3,none⟩=some (.int .i64 c.b):=X3.o.cell 1 rfl 3 rfl;have z4:w3.cell? ⟨b0+1,4,none⟩=some (.string c.s):=X3.o.cell 1 rfl 4 rfl
   go_wp2_with (refine bM (X3.o.get 0 rfl) LC.o rfl rfl rfl ?_)
   refine CC.o.mono ?_;rintro e u ⟨U,rfl,own,hb⟩;have Y:=zq (X3.o.go hb);have OW:=zq own;have BL:=zq hb;have LU:=zq (iL own.led);unfold aG.val;clear own hb z0 z1 z2 z3 z4;go_simp
   go_upto_region 6 with (refine bY (heap_alloc_last _ _) eF LU.o rfl rfl rfl rfl ?_;rw[World.setRow_alloc_new])
   obtain⟨W4,hW4⟩:=Zn (u.alloc (.cells (U.cells M) 31));obtain⟨b5,hb5⟩:=Zn u.heap.size;have X4:=zq (show At w W4 [(b0, 31,C),(b0+1, 41,#[.int .i64 c.kind,.int .i64 c.u,.int .i64 c.a,.int .i64 c.b,.string c.s]),(b5, 31,U.cells M)] from by rw[hW4,hb5];exact Y.o.alloc _ _);have OM:=zq (show aX W4 w3.heap.size U M from by rw[hW4];exact OW.o.below (Zb));rw[<-hW4,<-hb5];clear hW4 hb5 Y OW CC BL;by_cases he:er=0;rotate_left
   ·have heb:(er != 0)=true:=by simp[he]
    go_wp2_with fail
    go_ret;exact⟨rfl,X4.o.low⟩
   subst he;have ST:=zq (show M.Good/\M.aT=L.aT/\M.ai.length=L.ai.length/\∀ c:Int,0<=c->dU M c L.ai.length=dU L c L.ai.length from by
    have h1:(dF L (c.qF L)).2.2=0:=by rw[EM.o]
    have g:=iY (L:=L) (k:=c.k) (u:=c.u) (a:=c.a) (b:=c.b) (s:=c.s) h1;have z:=(lM (L:=L) (k:=c.k) (by unfold mO.k;omega) (u:=c.u) (a:=c.a) (b:=c.b) (s:=c.s) h1).2;have t:=fun (x:Int) (hx:0<=x)=>Gv (L:=L) (k:=c.k) (u:=c.u) (a:=c.a) (b:=c.b) (s:=c.s) hx h1
    have e:dF L (dZ L c.k c.u c.a c.b c.s)=(M,num,0):=EM.o;rw[e] at g z t;exact⟨g.1,z.aT,z.acl,t⟩)
   obtain⟨a1,c1,e1⟩:=(HH.o _ X4.o.low).aT.form;obtain⟨a4,c4,e4⟩:=(HH.o _ X4.o.low).ai.form;obtain⟨a5,c5,e5⟩:=OM.o.led.ai.form;have e4':V.ai=.slice a4 L.ai.length c4:=by rw[e4];congr 1;have:=congrArg List.length (HH.o _ X4.o.low).same;rw[List.length_map] at this;omega
   have e5':U.ai=.slice a5 L.ai.length c5:=by rw[e5];congr 1;have:=congrArg List.length OM.o.led.same;rw[List.length_map] at this;have:=ST.o.2.2.1;omega
   obtain⟨n1,hn1⟩:=Zn L.aT.length;obtain⟨n4,hn4⟩:=Zn L.ai.length;rw[<-hn1] at e1;rw[<-hn4] at e4' e5';have N:=zq (And.intro hn1 hn4);have E4:=zq (show C[4]?=some (.slice a4 n4 c4)/\(U.cells M)[4]?=some (.slice a5 n4 c5) from ⟨by rw[EC.o,<-e4'];rfl,by rw[<-e5'];rfl⟩);have EV:=zq (And.intro e4' e5');have n16:n4<=16:=by rw[hn4];exact (dR HGD.o).2.2
   have n14:n1<=4:=by rw[hn1];exact HGD.o.things.c1
   have N16:=zq (And.intro n16 n14);have y1:W4.cell? ⟨b0,1,none⟩=some (.slice a1 n1 c1):=X4.o.cell 0 rfl 1 (by rw[EC.o,<-e1];rfl);clear e1 e4 e5 e4' e5' hn1 hn4 n16
   go_wp2_with fail
   clear y1
   go_loopw [33] (fun i wr=>∃ j:Nat,j<=n1/\i=.int .i64 j/\∃ W,W=wr/\Hid (Below W4.heap.size W4 W)) (fun i _=>n1 - (intOf i).toNat)
   case atStart=>exact⟨0,Nat.zero_le _,rfl,_,rfl,zq (Below.refl _ _)⟩
   obtain⟨j,hj,rfl,W,rfl,BW⟩:=hrel;by_cases hlt:j<n1;rotate_left
   ·have hlt':¬ (j:Int)<(n1:Int):=by omega
    have XE:=zq (X4.o.go BW.o);have y4:W.cell? ⟨b0,4,none⟩=some (.slice a4 n4 c4):=XE.o.cell 0 rfl 4 E4.o.1;have y5:W.cell? ⟨b5,4,none⟩=some (.slice a5 n4 c5):=XE.o.cell 2 rfl 4 E4.o.2
    go_wp2_with fail
    go_ret;exact⟨by simp,XE.o.low⟩
   have hlt':(j:Int)<(n1:Int):=by omega
   have LT_:=zq hlt
   go_upto_region 12 with fail
   obtain⟨W5,hW5⟩:=Zn ((W.alloc (.cells #[.int .i64 0,.int .i64 0] 32)).alloc (.cells #[.int .i64 0,.int .i64 0] 32));obtain⟨q9,hq9⟩:=Zn W.heap.size;have Z:=zq (show At W4 W5 [(q9, 32,#[.int .i64 (lK L j 0),.int .i64 (lC L j 0)]),(q9+1, 32,#[.int .i64 (lK M j 0),.int .i64 (lC M j 0)])] from by
    have a:=((show At W4 W [] from ⟨BW.o,by simp,by simp,by simp⟩).alloc 32 #[.int .i64 0,.int .i64 0]).alloc 32 #[.int .i64 0,.int .i64 0];have e:∀ (w:World) (o:Obj),(w.alloc o).heap.size=w.heap.size+1:=fun w o=>by simp
    simp only[e] at a
    rw[<-hW5,<-hq9] at a;exact a)
   try rw[<-hW5]
   try rw[<-hq9]
   clear hW5 hq9 BW;have X5:=zq (X4.o.go Z.o.low);have y4:W5.cell? ⟨b0,4,none⟩=some (.slice a4 n4 c4):=X5.o.cell 0 rfl 4 E4.o.1
   go_wp2_with fail
   clear y4 X5
   go_loopw [41] (fun i wr=>∃ v:Nat,v<=n4/\i=.int .i64 v/\∃ W,W=wr/\Hid (At W4 W [(q9, 32,#[.int .i64 (lK L j v),.int .i64 (lC L j v)]),(q9+1, 32,#[.int .i64 (lK M j v),.int .i64 (lC M j v)])])) (fun i _=>n4 - (intOf i).toNat)
   case atStart=>exact⟨0,Nat.zero_le _,rfl,_,rfl,Z⟩
   clear Z;obtain⟨v,hv,rfl,W,rfl,Z⟩:=hrel;have BL:=zq (DF (L:=L) (k:=(j:Int)) (fun v=>KH (HH.o _ X4.o.low) v j));have BM:=zq (DF (L:=M) (k:=(j:Int)) (fun v=>KH OM.o.led v j));by_cases hlv:v<n4;rotate_left
   ·have hlv':¬ (v:Int)<(n4:Int):=by omega
    obtain rfl:n4=v:=by omega
    have TT:=Gg (ST.o.2.2.2 (j:Int) (by omega));rw[<-N.o.2] at TT;have h1:=BL.o n4;have h2:=BM.o n4;have h3:=pW L (j:Int) n4;have h4:=pW M (j:Int) n4;have nn:=N16.o.1;obtain⟨HA,hHA⟩:=Zn (lK L j n4);obtain⟨HB,hHB⟩:=Zn (lK M j n4);obtain⟨LA,hLA⟩:=Zn (lC L j n4);obtain⟨LB,hLB⟩:=Zn (lC M j n4);rw[<-hHA,<-hHB,<-hLA,<-hLB] at TT;rw[<-hHA] at h1;rw[<-hHB] at h2;rw[<-hLA] at h3;rw[<-hLB] at h4;have w0:W.cell? ⟨q9,0,none⟩=some (.int .i64 HA):=by rw[hHA];exact Z.o.cell 0 rfl 0 rfl
    have w1:W.cell? ⟨q9,1,none⟩=some (.int .i64 LA):=by rw[hLA];exact Z.o.cell 0 rfl 1 rfl
    have x0:W.cell? ⟨q9+1,0,none⟩=some (.int .i64 HB):=by rw[hHB];exact Z.o.cell 1 rfl 0 rfl
    have x1:W.cell? ⟨q9+1,1,none⟩=some (.int .i64 LB):=by rw[hLB];exact Z.o.cell 1 rfl 1 rfl
    have aA:=Ky LA;have aB:=Ky LB;obtain⟨MA,hMA⟩:=Zn (LA / 2147483648);obtain⟨MB,hMB⟩:=Zn (LB / 2147483648);rw[<-hMA,<-hMB] at TT;have sA:LA / 2147483648=MA:=hMA.symm;have sB:LB / 2147483648=MB:=hMB.symm;have ar:LA % 2147483648=LB % 2147483648:=TT.2;have eD:HA - HB+(MA - MB)=0:=TT.1;have b1:-137438953472<=HA:=by omega
    have b2:HA<=137438953472:=by omega
    have b3:-137438953472<=HB:=by omega
    have b4:HB<=137438953472:=by omega
    have b6:0<=MA:=by omega
    have b7:MA<=64:=by omega
    have b8:0<=MB:=by omega
    have b9:MB<=64:=by omega
    have ZL:=zq Z.o.low;clear h1 h2 h3 h4 TT hHA hHB hLA hLB hMA hMB nn
    go_wp2_with fail
    go_roundw
    case rel=>exact⟨j+1,by have:=LT_.o;omega,by go_num,_,rfl,ZL⟩
    case measure=>have:=LT_.o;simp[intOf];omega
   have hlv':(v:Int)<(n4:Int):=by omega
   have LV:=zq hlv;have JJ:=zq (show v<L.ai.length/\v<M.ai.length/\j<(L.acc v).aK.length/\j<(M.acc v).aK.length from by
    have h1:v<L.ai.length:=by rw[<-N.o.2];exact hlv
    have h2:v<M.ai.length:=by rw[ST.o.2.2.1];exact h1
    have h3:=LT_.o;refine⟨h1,h2,?_,?_⟩
    ·rw[HGD.o.jF h1,<-N.o.1];exact h3
    rw[ST.o.1.jF h2,ST.o.2.1,<-N.o.1];exact h3)
   have k0:(0:Int)<=(v:Int):=by omega
   have k1:(0:Int)<=(j:Int):=by omega
   have n16:=N16.o.1
   go_upto_region 15 with fail
   obtain⟨p0,g4,og4,g6,og6,cc4,cc6,CA⟩:=(HH.o _ (X4.o.go Z.o.low).low).kV (k:=v) (m:=j) JJ.o.1 JJ.o.2.2.1;obtain⟨nc,hnc⟩:=Zn ((L.acc v).aK.length);obtain⟨x,hx⟩:=Zn (L.aK v j);have x1:=CA.LY;have x2:=CA.at2;have fx:=CA.fits;have ea:=EV.o.1.symm.trans CA.row;rw[<-hnc] at x1;rw[<-hx] at x2 fx;injection ea with ea en ec;obtain⟨s,hs⟩:=Zn (lK L j v);obtain⟨y,hy⟩:=Zn (x / 2147483648);obtain⟨S,hS⟩:=Zn (s+y);have y4:W.cell? ⟨b0,4,none⟩=some (.slice (some ⟨g4,og4,none⟩) n4 c4):=by rw[<-ea];exact (X4.o.go Z.o.low).cell 0 rfl 4 E4.o.1
   have w0:W.cell? ⟨q9,0,none⟩=some (.int .i64 s):=by rw[hs];exact Z.o.cell 0 rfl 0 rfl
   have wf:W.frozen? ⟨q9,0,none⟩=false:=Z.o.free 0 rfl 0;have k2:(j:Int)<(nc:Int):=by rw[hnc];have:=JJ.o.2.2.1;omega
   have ey:x / 2147483648=y:=hy.symm;have eS:s+y=S:=hS.symm;have SG:=zq (show S=lK L j (v+1) from by rw[hS,hs,hy,hx];rfl);have hb1:=BL.o v;have hb2:=pW L (j:Int) v;have s0:-4611686018427387904<=S:=by rw[hS,hs,hy];omega
   have s1:S<=4611686018427387904:=by rw[hS,hs,hy];omega
   clear CA hnc hx hs hS hy hb1 hb2 ec ea en;refine aj.wz [14] [] (.step 0 (.step 1 (.step 2 (.step 3 (.step 4 (.step 5 (.step 6 (.step 7 (.step 8 (.step 9 (.step 10 (.step 11 (.step 12 (.step 13 (.step 14 .leaf))))))))))))))) (by kernel_rfl) (by kernel_rfl) ?_;refine aj.ay [0,1,2,3,4,5,6,7,8,9,10,11,12,13] (by kernel_rfl) ?_
   simp only[au,nth]
   repeat (go_big_quiet_step (fail))
   refine wpQuiet_nil ?_;refine aj.bF (by kernel_rfl) rfl (by kernel_rfl) (fun K hK=>?_)
   simp only[au,nth]
   refine ak ?_;go_simp;refine hK _ _ ?_;clear hK x1 x2 fx y4 w0 wf k2 ey eS s0 s1;refine aj.aU ?_;obtain⟨WN,hWN⟩:=Zn ((W.setCell ⟨q9,0,none⟩ (.int .i64 S)).drew);have Z:=zq (show At W4 WN [(q9, 32,#[.int .i64 (lK L j (v+1)),.int .i64 (lC L j v)]),(q9+1, 32,#[.int .i64 (lK M j v),.int .i64 (lC M j v)])] from by
    rw[hWN,<-SG.o];exact (Z.o.setCell 0 rfl 0 _).drew)
   try rw[<-hWN]
   clear hWN SG;obtain⟨W,rfl⟩:=Zn WN
   go_upto_region 16 with fail
   obtain⟨p0,g4,og4,g6,og6,cc4,cc6,CA⟩:=(HH.o _ (X4.o.go Z.o.low).low).kV (k:=v) (m:=j) JJ.o.1 JJ.o.2.2.1;obtain⟨nc,hnc⟩:=Zn ((L.acc v).aK.length);obtain⟨x,hx⟩:=Zn (L.aK v j);have x1:=CA.LY;have x2:=CA.at2;have fx:=CA.fits;have ea:=EV.o.1.symm.trans CA.row;rw[<-hnc] at x1;rw[<-hx] at x2 fx;injection ea with ea en ec;obtain⟨s,hs⟩:=Zn (lC L j v);obtain⟨y,hy⟩:=Zn (x % 2147483648);obtain⟨S,hS⟩:=Zn (s+y);have y4:W.cell? ⟨b0,4,none⟩=some (.slice (some ⟨g4,og4,none⟩) n4 c4):=by rw[<-ea];exact (X4.o.go Z.o.low).cell 0 rfl 4 E4.o.1
   have w0:W.cell? ⟨q9,1,none⟩=some (.int .i64 s):=by rw[hs];exact Z.o.cell 0 rfl 1 rfl
   have wf:W.frozen? ⟨q9,1,none⟩=false:=Z.o.free 0 rfl 1;have k2:(j:Int)<(nc:Int):=by rw[hnc];have:=JJ.o.2.2.1;omega
   have ey:bits .and .i64 x 2147483647=y:=by rw[Ky];exact hy.symm
   have eS:s+y=S:=hS.symm;have SG:=zq (show S=lC L j (v+1) from by rw[hS,hs,hy,hx];rfl);have hb1:=BL.o v;have hb2:=pW L (j:Int) v;have s0:-4611686018427387904<=S:=by rw[hS,hs,hy];omega
   have s1:S<=4611686018427387904:=by rw[hS,hs,hy];omega
   clear CA hnc hx hs hS hy hb1 hb2 ec ea en;refine aj.wz [14] [] (.step 0 (.step 1 (.step 2 (.step 3 (.step 4 (.step 5 (.step 6 (.step 7 (.step 8 (.step 9 (.step 10 (.step 11 (.step 12 (.step 13 (.step 14 .leaf))))))))))))))) (by kernel_rfl) (by kernel_rfl) ?_;refine aj.ay [0,1,2,3,4,5,6,7,8,9,10,11,12,13] (by kernel_rfl) ?_
   simp only[au,nth]
   repeat (go_big_quiet_step (fail))
   refine wpQuiet_nil ?_;refine aj.bF (by kernel_rfl) rfl (by kernel_rfl) (fun K hK=>?_)
   simp only[au,nth]
   refine ak ?_;go_simp;refine hK _ _ ?_;clear hK x1 x2 fx y4 w0 wf k2 ey eS s0 s1;refine aj.aU ?_;obtain⟨WN,hWN⟩:=Zn ((W.setCell ⟨q9,1,none⟩ (.int .i64 S)).drew);have Z:=zq (show At W4 WN [(q9, 32,#[.int .i64 (lK L j (v+1)),.int .i64 (lC L j (v+1))]),(q9+1, 32,#[.int .i64 (lK M j v),.int .i64 (lC M j v)])] from by
    rw[hWN,<-SG.o];exact (Z.o.setCell 0 rfl 1 _).drew)
   try rw[<-hWN]
   clear hWN SG;obtain⟨W,rfl⟩:=Zn WN
   go_upto_region 17 with fail
   obtain⟨p0,g4,og4,g6,og6,cc4,cc6,CA⟩:=(OM.o.below Z.o.low).led.kV (k:=v) (m:=j) JJ.o.2.1 JJ.o.2.2.2;obtain⟨nc,hnc⟩:=Zn ((M.acc v).aK.length);obtain⟨x,hx⟩:=Zn (M.aK v j);have x1:=CA.LY;have x2:=CA.at2;have fx:=CA.fits;have ea:=EV.o.2.symm.trans CA.row;rw[<-hnc] at x1;rw[<-hx] at x2 fx;injection ea with ea en ec;obtain⟨s,hs⟩:=Zn (lK M j v);obtain⟨y,hy⟩:=Zn (x / 2147483648);obtain⟨S,hS⟩:=Zn (s+y);have y4:W.cell? ⟨b5,4,none⟩=some (.slice (some ⟨g4,og4,none⟩) n4 c5):=by rw[<-ea];exact (X4.o.go Z.o.low).cell 2 rfl 4 E4.o.2
   have w0:W.cell? ⟨q9+1,0,none⟩=some (.int .i64 s):=by rw[hs];exact Z.o.cell 1 rfl 0 rfl
   have wf:W.frozen? ⟨q9+1,0,none⟩=false:=Z.o.free 1 rfl 0;have k2:(j:Int)<(nc:Int):=by rw[hnc];have:=JJ.o.2.2.2;omega
   have ey:x / 2147483648=y:=hy.symm;have eS:s+y=S:=hS.symm;have SG:=zq (show S=lK M j (v+1) from by rw[hS,hs,hy,hx];rfl);have hb1:=BM.o v;have hb2:=pW M (j:Int) v;have s0:-4611686018427387904<=S:=by rw[hS,hs,hy];omega
   have s1:S<=4611686018427387904:=by rw[hS,hs,hy];omega
   clear CA hnc hx hs hS hy hb1 hb2 ec ea en;refine aj.wz [14] [] (.step 0 (.step 1 (.step 2 (.step 3 (.step 4 (.step 5 (.step 6 (.step 7 (.step 8 (.step 9 (.step 10 (.step 11 (.step 12 (.step 13 (.step 14 .leaf))))))))))))))) (by kernel_rfl) (by kernel_rfl) ?_;refine aj.ay [0,1,2,3,4,5,6,7,8,9,10,11,12,13] (by kernel_rfl) ?_
   simp only[au,nth]
   repeat (go_big_quiet_step (fail))
   refine wpQuiet_nil ?_;refine aj.bF (by kernel_rfl) rfl (by kernel_rfl) (fun K hK=>?_)
   simp only[au,nth]
   refine ak ?_;go_simp;refine hK _ _ ?_;clear hK x1 x2 fx y4 w0 wf k2 ey eS s0 s1;refine aj.aU ?_;obtain⟨WN,hWN⟩:=Zn ((W.setCell ⟨q9+1,0,none⟩ (.int .i64 S)).drew);have Z:=zq (show At W4 WN [(q9, 32,#[.int .i64 (lK L j (v+1)),.int .i64 (lC L j (v+1))]),(q9+1, 32,#[.int .i64 (lK M j (v+1)),.int .i64 (lC M j v)])] from by
    rw[hWN,<-SG.o];exact (Z.o.setCell 1 rfl 0 _).drew)
   try rw[<-hWN]
   clear hWN SG;obtain⟨W,rfl⟩:=Zn WN
   go_upto_region 18 with fail
   obtain⟨p0,g4,og4,g6,og6,cc4,cc6,CA⟩:=(OM.o.below Z.o.low).led.kV (k:=v) (m:=j) JJ.o.2.1 JJ.o.2.2.2;obtain⟨nc,hnc⟩:=Zn ((M.acc v).aK.length);obtain⟨x,hx⟩:=Zn (M.aK v j);have x1:=CA.LY;have x2:=CA.at2;have fx:=CA.fits;have ea:=EV.o.2.symm.trans CA.row;rw[<-hnc] at x1;rw[<-hx] at x2 fx;injection ea with ea en ec;obtain⟨s,hs⟩:=Zn (lC M j v);obtain⟨y,hy⟩:=Zn (x % 2147483648);obtain⟨S,hS⟩:=Zn (s+y);have y4:W.cell? ⟨b5,4,none⟩=some (.slice (some ⟨g4,og4,none⟩) n4 c5):=by rw[<-ea];exact (X4.o.go Z.o.low).cell 2 rfl 4 E4.o.2
   have w0:W.cell? ⟨q9+1,1,none⟩=some (.int .i64 s):=by rw[hs];exact Z.o.cell 1 rfl 1 rfl
   have wf:W.frozen? ⟨q9+1,1,none⟩=false:=Z.o.free 1 rfl 1;have k2:(j:Int)<(nc:Int):=by rw[hnc];have:=JJ.o.2.2.2;omega
   have ey:bits .and .i64 x 2147483647=y:=by rw[Ky];exact hy.symm
   have eS:s+y=S:=hS.symm;have SG:=zq (show S=lC M j (v+1) from by rw[hS,hs,hy,hx];rfl);have hb1:=BM.o v;have hb2:=pW M (j:Int) v;have s0:-4611686018427387904<=S:=by rw[hS,hs,hy];omega
   have s1:S<=4611686018427387904:=by rw[hS,hs,hy];omega
   clear CA hnc hx hs hS hy hb1 hb2 ec ea en;refine aj.wz [14] [] (.step 0 (.step 1 (.step 2 (.step 3 (.step 4 (.step 5 (.step 6 (.step 7 (.step 8 (.step 9 (.step 10 (.step 11 (.step 12 (.step 13 (.step 14 .leaf))))))))))))))) (by kernel_rfl) (by kernel_rfl) ?_;refine aj.ay [0,1,2,3,4,5,6,7,8,9,10,11,12,13] (by kernel_rfl) ?_
   simp only[au,nth]
   repeat (go_big_quiet_step (fail))
   refine wpQuiet_nil ?_;refine aj.bF (by kernel_rfl) rfl (by kernel_rfl) (fun K hK=>?_)
   simp only[au,nth]
   refine ak ?_;go_simp;refine hK _ _ ?_;clear hK x1 x2 fx y4 w0 wf k2 ey eS s0 s1;refine aj.aU ?_;obtain⟨WN,hWN⟩:=Zn ((W.setCell ⟨q9+1,1,none⟩ (.int .i64 S)).drew);have Z:=zq (show At W4 WN [(q9, 32,#[.int .i64 (lK L j (v+1)),.int .i64 (lC L j (v+1))]),(q9+1, 32,#[.int .i64 (lK M j (v+1)),.int .i64 (lC M j (v+1))])] from by
    rw[hWN,<-SG.o];exact (Z.o.setCell 1 rfl 1 _).drew)
   try rw[<-hWN]
   clear hWN SG;obtain⟨W,rfl⟩:=Zn WN
   go_wp2_with fail
   go_roundw
   case rel=>exact⟨v+1,by have:=LV.o;omega,by go_num,_,rfl,Z⟩
   case measure=>have:=LV.o;simp[intOf];omega
end Go.Proofs.YtfknkmlocbojhaaGreatDoor
namespace Go.Proofs.YtfknkmlocbojhaaGreatDoor
open Go.RowKit Go.Bw Go.Maps Go.WideShapes
theorem vF (W:World) (n0:Array Value) (n1:Array Value) (V0:dw Tryz.prog W 31 n0.toList) (V1:dw Tryz.prog W 41 n1.toList) (HL:nV W) :
 Calls Tryz.prog 6 #[.agg n0,.agg n1] W fun e w'=>e=.returned (.bool true)/\Below W.heap.size W w':=by
 obtain⟨V,l,e,h,s⟩:=DJ V0;obtain⟨c,rfl,hs,ha,hb⟩:=DI V1;rw[e];exact uF W V l h s HL c hs ⟨ha,hb⟩
end Go.Proofs.YtfknkmlocbojhaaGreatDoor

/- Joined: LawLE, MiLE. -/
import Derived.Test.YtfknkmlocbojhaaGreatDoorHw
import Derived.Test.YtfknkmlocbojhaaGreatDoorHx
import Derived.Test.YtfknkmlocbojhaaGreatDoorHp
import Derived.Test.YtfknkmlocbojhaaGreatDoorHo
import Derived.Test.YtfknkmlocbojhaaGreatDoorHe
import Derived.Test.YtfknkmlocbojhaaGreatDoorGn
import Derived.Test.YtfknkmlocbojhaaGreatDoorGk
import Derived.Test.YtfknkmlocbojhaaGreatDoorHb
import Derived.Test.YtfknkmlocbojhaaGreatDoorHm
set_option linter.unusedVariables false
set_option linter.unusedSimpArgs false
set_option maxRecDepth 100000
set_option maxHeartbeats 16000000
namespace Go.Proofs.YtfknkmlocbojhaaGreatDoor
open Go.RowKit Go.Bw Go.Maps Go.Shelf Go.Bw.Fall
structure Two (W4 W:World) (a b:Value) (A B:List Int):Prop where
 low:Below W4.heap.size W4 W
 ra:W.ownsRow W4.heap.size 3 1 a A.length (eU A)
 rb:W.ownsRow W4.heap.size 3 1 b B.length (eU B)
 ap:fZ a b
theorem Two.start (W:World):Two W W (.slice none 0 0) (.slice none 0 0) [] []:=⟨Below.refl _ _,World.ownsRow_nil _ _ _ _,World.ownsRow_nil _ _ _ _,fun k h _=>by cases h⟩
theorem Two.go {W4 W W':World} {a b:Value} {A B:List Int} (h:Two W4 W a b A B) (hb:Below W.heap.size W W'):Two W4 W' a b A B :=
 ⟨h.low.trans (hb.mono h.low.size),iZ h.ra (fun k hk=>(Mod.of_below hb).block k (h.ra.lt k hk).2 (fun h=>h)),iZ h.rb (fun k hk=>(Mod.of_below hb).block k (h.rb.lt k hk).2 (fun h=>h)),h.ap⟩
theorem Two.swap {W4 W:World} {a b:Value} {A B:List Int} (h:Two W4 W a b A B):Two W4 W b a B A:=⟨h.low,h.rb,h.ra,fun k h1 h2=>h.ap k h2 h1⟩
theorem Two.app {W4 W:World} {a b:Value} {A B:List Int} (h:Two W4 W a b A B) (x:Int) (H:Nat) (hH:W.heap.size=H) (hl:A.length<=1000000) :
 ∃ a' w3,(Builtin.append_ #[28, 28] 28 #[a,.slice (some ⟨H,0,none⟩) 1 1]).run Tryz.prog (W.alloc (.cells #[.int .i64 x] 3))=.ok a' w3/\Two W4 w3 a' b (A++[x]) B:=by
 obtain⟨v3,w3,R3,O3,M3,N3⟩:=Dj W W4.heap.size a A x H hH h.ra h.low.size hl;refine⟨v3,w3,R3,?_,O3,?_,fun k h1 h2=>?_⟩
 ·exact ((Mod.of_below h.low).mono (T:=fun k=>W4.heap.size<=k) (fun _ _ h=>h.elim)).trans M3 (fun k _ hk=>(h.ra.lt k hk).1) |>.mono (T:=fun _=>False) (fun k hk h=>by omega) |>.aQ
 ·exact iZ h.rb (fun k hk=>M3.block k (h.rb.lt k hk).2 (fun hk2=>h.ap k hk2 hk))
 rcases N3 k h1 with h3|h3
 ·exact h.ap k h3 h2
 have:=(h.rb.lt k h2).2;omega
theorem rG {L:aI} {u a b:Int} {s:ByteArray} (h:(dF L (dZ L 0 u a b s)).2.2=0) {j:Nat} (hj:j<L.af.length):(dF L (dZ L 0 u a b s)).1.ins j={ L.ins j with mark:=dJ L (L.ins j) }:=by
 obtain⟨hg,he,hf,e,_⟩:=oJ h;rw[e];have F:=(kL (lN hg he) hf).1;have t:=Jb hg he hj;have m:(fK (dZ L 0 u a b s).led).1.ins j=(dZ L 0 u a b s).led.ins j:=by
  rw[(nZ F).1];rfl
 rw[m];exact t
theorem Fh {L:aI} (hG:L.Good) {j:Nat} (hj:j<L.af.length):dJ L (L.ins j)=if (L.ins j).aO=0\/L.day<=(L.ins j).aO then (lq (L.ins j) (L.und (L.ins j).under).price (L.und (L.ins j).under).dI L.day).1 else (L.ins j).mark:=by
 obtain⟨m,em,hm,hum⟩:=hG.wW hj;obtain⟨_,_,_,p0,p1,v0,v1⟩:=hG.things.ah m _ hum;unfold dJ pX;by_cases c:(L.ins j).aO=0\/L.day<=(L.ins j).aO
 ·rw[if_pos c,if_pos c,if_pos ⟨⟨by omega,p1⟩,v0,v1⟩]
 rw[if_neg c,if_neg c]
theorem Mc {w W:World} {n g o:Nat} {u:Value} (hb:Below n w W) (hw:n=w.heap.size) (hg:n<=g):Below n w (W.setCell ⟨g,o,none⟩ u):=by
 subst hw;exact ((Mod.of_below hb).mono (T:=fun k=>w.heap.size<=k) (fun _ _ h=>h.elim)).trans ((Mod.refl (fun b=>b=g) W).setCell u (fun _=>rfl)) (fun k _ hk=>by rw[hk];exact hg) |>.mono (T:=fun _=>False) (fun k hk h=>by omega) |>.aQ
theorem zT (w:World) (V:aG) (L:aI) (h:bJ w V L) (hs0:L.Short) (hG:nV w) (c:mO) (hu:c.s.size<=maxLen) (hx:I64 c.a/\I64 c.b) :
 Calls Tryz.prog 7 #[V.val L,.agg c.cells] w fun e w'=>e=.returned (.bool true)/\Below w.heap.size w w':=by
 classical
 have GR:=zq (fun W (hb:Below w.heap.size w W)=>hG.below hb);have HH:=zq (fun W (hb:Below w.heap.size w W)=>h.below hb);have SH:=zq hs0;have HX:=zq (And.intro hu hx);have WK:=zq (fun W (hb:Below w.heap.size w W)=>jK W (hG.below hb));have WD:=zq (fun W (hb:Below w.heap.size w W)=>mG W V L (h.below hb) hs0);have LC:=zq (iL h);have BK:=zq (show ¬ 1024<L.bulk->L.ai.length<=1024/\L.bulk<=1000000 from fun hb=>by unfold aI.bulk at hb ⊢;omega);have AF:=zq (fun W (hb:Below w.heap.size w W) (hL:L.ai.length<=1024)=>jD W V L (h.below hb) hL (hG.below hb) c hu hx.1 hx.2);have GD:=zq (fun W (hb:Below w.heap.size w W) (hL:L.ai.length<=1024) (B:Bool) (hB:decide L.Good=B)=>show Calls Tryz.prog 22 #[V.val L] W fun e x=>e=.returned (.bool B)/\Below W.heap.size W x from kD (h.below hb) hL hB);unfold aG.val at WD AF GD ⊢;unfold mO.cells;obtain⟨C,hC⟩:=Zn (V.cells L);have EC:=zq hC;rw[<-hC] at WD LC AF GD ⊢;obtain⟨BB,hBB⟩:=Zn (decide (1024<L.bulk));rw[<-hBB] at WD;have HB:=zq hBB;obtain⟨W0,hW0⟩:=Zn ((w.alloc (.cells C 31)).alloc (.cells #[.int .i64 c.kind,.int .i64 c.u,.int .i64 c.a,.int .i64 c.b,.string c.s] 41));obtain⟨b0,hb0⟩:=Zn w.heap.size;have X0:=zq (show At w W0 [(b0, 31,C),(b0+1, 41,#[.int .i64 c.kind,.int .i64 c.u,.int .i64 c.a,.int .i64 c.b,.string c.s])] from by
  have a:=(((At.start w).alloc 31 C).alloc 41 #[.int .i64 c.kind,.int .i64 c.u,.int .i64 c.a,.int .i64 c.b,.string c.s]);have e:∀ (w:World) (o:Obj),(w.alloc o).heap.size=w.heap.size+1:=fun w o=>by simp
  simp only[e] at a
  rw[<-hW0,<-hb0] at a;exact a)
 clear h hs0 hG hC hBB hu hx
 go_enter Tryz.func7,Tryz.ntmps7
 go_upto_region 1 with (fail)
 rw[<-hW0,<-hb0];clear hW0 hb0
 go_wp2_with fail
 refine (WK.o W0 X0.o.low).mono ?_;rintro e w1 ⟨rfl,hb⟩;have X1:=zq (X0.o.go hb);clear hb X0
 go_wp2_with (refine bM (X1.o.get 0 rfl) LC.o rfl rfl rfl ?_)
 refine (WD.o w1 X1.o.low).mono ?_;rintro e w2 ⟨rfl,hb⟩;have X2:=zq (X1.o.go hb);clear hb X1
 cases hbb:BB with
 | true =>
   subst hbb
   go_wp2_with fail
   go_ret;exact⟨rfl,X2.o.low⟩
 | false =>
   subst hbb;have HL:=zq (BK.o (of_decide_eq_false HB.o.symm));obtain⟨M,num,er,hM⟩:∃ M num er,dF L (c.qF L)=(M,num,er):=⟨_,_,_,rfl⟩;have EM:=zq hM;by_cases hgd:L.Good;rotate_left
   ·have GX:=zq (GD.o w2 X2.o.low HL.o.1 false (decide_eq_false hgd));clear hgd hM
    go_wp2_with (refine fO (X2.o.get 0 rfl) LC.o (by rfl) rfl rfl ?_)
    refine GX.o.mono ?_;rintro e w5 ⟨rfl,hb⟩;have X5:=zq (X2.o.go hb);clear hb
    go_wp2_with fail
    go_ret;exact⟨rfl,X5.o.low⟩
   have GX:=zq (GD.o w2 X2.o.low HL.o.1 true (decide_eq_true hgd));have HGD:=zq hgd;clear hgd GD
   go_wp2_with (refine fO (X2.o.get 0 rfl) LC.o (by rfl) rfl rfl ?_)
   refine GX.o.mono ?_;rintro e w3 ⟨rfl,hb⟩;have X3:=zq (X2.o.go hb);clear hb X2;have z0:w3.cell? ⟨b0+1,0,none⟩=some (.int .i64 c.kind):=X3.o.cell 1 rfl 0 rfl;have KK:=zq (show ((c.k:Nat):Int)=c.kind % 4/\c.k<4 from by unfold mO.k;omega);obtain⟨k,hk⟩:=Zn c.k;rw[<-hk] at KK;have EK:=zq hk;have hb3:bits .and .i64 c.kind 3=(k:Int):=by rw[Dh];exact KK.o.1.symm
   have HB3:=zq hb3;clear hk;by_cases hk1:1<k
   ·have hk2:1<(k:Int):=by omega
    clear hM
    go_wp2_with fail
    go_ret;exact⟨rfl,X3.o.low⟩
   have hk2:¬ 1<(k:Int):=by omega
   go_upto_region 5 with fail
   clear z0 hb3 hk2;have CC:=zq (AF.o w3 X3.o.low HL.o.1);rw[hM] at CC;clear hM AF;have z0:w3.cell? ⟨b0+1,0,none⟩=some (.int .i64 c.kind):=X3.o.cell 1 rfl 0 rfl;have z1:w3.cell? ⟨b0+1,1,none⟩=some (.int .i64 c.u):=X3.o.cell 1 rfl 1 rfl;have z2:w3.cell? ⟨b0+1,2,none⟩=some (.int .i64 c.a):=X3.o.cell 1 rfl 2 rfl;have z3:w3.cell? ⟨b0+1,3,none⟩=some (.int .i64 c.b):=X3.o.cell 1 rfl 3 rfl;have z4:w3.cell? ⟨b0+1,4,none⟩=some (.string c.s):=X3.o.cell 1 rfl 4 rfl
   go_wp2_with (refine bM (X3.o.get 0 rfl) LC.o rfl rfl rfl ?_)
   refine CC.o.mono ?_;rintro e u ⟨U,rfl,own,hb⟩;have Y:=zq (X3.o.go hb);have OW:=zq own;have BL:=zq hb;have LU:=zq (iL own.led);unfold aG.val;clear own hb z0 z1 z2 z3 z4;go_simp
   go_upto_region 6 with (refine bY (heap_alloc_last _ _) eF LU.o rfl rfl rfl rfl ?_;rw[World.setRow_alloc_new])
   obtain⟨W4,hW4⟩:=Zn (u.alloc (.cells (U.cells M) 31));obtain⟨b5,hb5⟩:=Zn u.heap.size;have X4:=zq (show At w W4 [(b0, 31,C),(b0+1, 41,#[.int .i64 c.kind,.int .i64 c.u,.int .i64 c.a,.int .i64 c.b,.string c.s]),(b5, 31,U.cells M)] from by rw[hW4,hb5];exact Y.o.alloc _ _);have OM:=zq (show aX W4 w3.heap.size U M from by rw[hW4];exact OW.o.below (Zb));rw[<-hW4,<-hb5];clear hW4 hb5 Y OW CC BL;by_cases he:er=0;rotate_left
   ·have heb:(er != 0)=true:=by simp[he]
    go_wp2_with fail
    go_ret;exact⟨rfl,X4.o.low⟩
   subst he;have ST:=zq (show M.Good/\M.aT=L.aT/\M.ai.length=L.ai.length/\M.af.length=L.af.length from by
    have h1:(dF L (c.qF L)).2.2=0:=by rw[EM.o]
    have g:=iY (L:=L) (k:=c.k) (u:=c.u) (a:=c.a) (b:=c.b) (s:=c.s) h1;have z:=(lM (L:=L) (k:=c.k) (by unfold mO.k;omega) (u:=c.u) (a:=c.a) (b:=c.b) (s:=c.s) h1).2;have e:dF L (dZ L c.k c.u c.a c.b c.s)=(M,num,0):=EM.o;rw[e] at g z;exact⟨g.1,z.aT,z.acl,z.inl⟩)
   obtain⟨n1,hn1⟩:=Zn L.aT.length;obtain⟨n3,hn3⟩:=Zn L.af.length;obtain⟨n4,hn4⟩:=Zn L.ai.length;have N:=zq (show n1=L.aT.length/\n3=L.af.length/\n4=L.ai.length from ⟨hn1,hn3,hn4⟩);have BN:=zq (show n1<=4/\n3<=12/\n4<=16/\2<=n4 from ⟨by rw[hn1];exact HGD.o.things.c1,by rw[hn3];exact HGD.o.things.i1,by rw[hn4];exact (dR HGD.o).2.2,by rw[hn4];have:=HGD.o.two;omega⟩);obtain⟨a1,c1,e1⟩:=(HH.o _ X4.o.low).aT.form;obtain⟨a3,c3,e3⟩:=(HH.o _ X4.o.low).af.form;obtain⟨a4,c4,e4⟩:=(HH.o _ X4.o.low).ai.form;have e4':V.ai=.slice a4 n4 c4:=by rw[e4];congr 1;have:=congrArg List.length (HH.o _ X4.o.low).same;rw[List.length_map] at this;omega
   rw[<-hn1] at e1;rw[<-hn3] at e3;have E1:=zq (show C[1]?=some (.slice a1 n1 c1) from by rw[EC.o,<-e1];rfl);have E3:=zq (show C[3]?=some (.slice a3 n3 c3)/\V.af=.slice a3 n3 c3 from ⟨by rw[EC.o,<-e3];rfl,e3⟩);have E4:=zq (show C[4]?=some (.slice a4 n4 c4) from by rw[EC.o,<-e4'];rfl);have B4:=zq (show b5<W4.heap.size/\w.heap.size<=W4.heap.size from ⟨X4.o.lt (b5, 31,U.cells M) (by simp),X4.o.low.size⟩);clear e1 e3 e4 e4' hn1 hn3 hn4;have y3:W4.cell? ⟨b0,3,none⟩=some (.slice a3 n3 c3):=X4.o.cell 0 rfl 3 E3.o.1
   go_upto_region 10 with fail
   clear y3;have ch:k=0\/k=1:=by omega
   clear hk1;rcases ch with hk0|hk0
   ·have hb3:bits .and .i64 c.kind 3=0:=by rw[HB3.o,hk0];rfl
    have EKK:=zq (show 0=c.k from by rw[<-EK.o];exact hk0.symm);clear hk0
    go_loopw [8,9,51] (fun ov0 iv0 i wr=>∃ (j:Nat) (ov iv:Value),j<=n3/\ov=ov0/\iv=iv0/\i=.int .i64 j/\∃ W,W=wr/\Hid (Two W4 W ov iv ((L.af.map (dJ L)).take j) ((L.af.map (dJ L)).take j))) (fun _ _ i _=>n3 - (intOf i).toNat)
    case atStart=>exact⟨0,_,_,Nat.zero_le _,rfl,rfl,rfl,_,rfl,zq (Two.start W4)⟩
    obtain⟨j,ov,iv,hj,rfl,rfl,rfl,W,rfl,TW⟩:=hrel;by_cases hlt:j<n3;rotate_left
    ·have hlt':¬ (j:Int)<(n3:Int):=by omega
     have T5:=zq (show Two W4 W ov iv (L.af.map (dJ L)) (L.af.map (dJ L)) from by
      have h:=TW.o;rw[List.take_of_length_le (by rw[List.length_map];have:=N.o.2.1;omega)] at h
      try rw[List.take_of_length_le (by rw[List.length_map];have:=N.o.2.1;have:=ST.o.2.2.2;omega)] at h
      exact h)
     obtain⟨W5,rfl⟩:=Zn W;clear TW hj
     go_upto_region 25 with fail
     go_wp2_with fail
     go_loopw [14] (fun i wr=>∃ v:Nat,2<=v/\v<=n4/\i=.int .i64 v/\∃ W,W=wr/\Hid (Two W4 W ov iv (L.af.map (dJ L)) (L.af.map (dJ L)))) (fun i _=>n4 - (intOf i).toNat)
     case atStart=>exact⟨2,Nat.le_refl _,BN.o.2.2.2,rfl,_,rfl,T5⟩
     clear T5;obtain⟨v,hv2,hv,rfl,W,rfl,T5⟩:=hrel;have X5:=zq (X4.o.go T5.o.low);have y4:W.cell? ⟨b0,4,none⟩=some (.slice a4 n4 c4):=X5.o.cell 0 rfl 4 E4.o;by_cases hlv:v<n4;rotate_left
     ·have hlv':¬ (v:Int)<(n4:Int):=by omega
      go_wp2_with fail
      go_ret;exact⟨rfl,X5.o.low⟩
     have hlv':(v:Int)<(n4:Int):=by omega
     have LV:=zq hlv;have LV2:=zq hv2;have y1:W.cell? ⟨b0,1,none⟩=some (.slice a1 n1 c1):=X5.o.cell 0 rfl 1 E1.o;have n16:n4<=16:=BN.o.2.2.1
     go_wp2_with fail
     clear y1 y4 X5 hv hlv hlv' hv2
     go_loopw [128] (fun i wr=>∃ q:Nat,q<=n1/\i=.int .i64 q/\∃ W,W=wr/\Hid (Two W4 W ov iv (L.af.map (dJ L)) (L.af.map (dJ L)))) (fun i _=>n1 - (intOf i).toNat)
     case atStart=>exact⟨0,Nat.zero_le _,rfl,_,rfl,T5⟩
     clear T5;obtain⟨q,hq,rfl,W,rfl,T5⟩:=hrel;by_cases hlq:q<n1;rotate_left
     ·have hlq':¬ (q:Int)<(n1:Int):=by omega
      have vb:v<=16:=by have:=LV.o;have:=BN.o;omega
      go_wp2_with fail
      go_roundw
      case rel=>exact⟨v+1,by have:=LV2.o;omega,by have:=LV.o;omega,by go_num,_,rfl,T5⟩
      case measure=>have:=LV.o;simp[intOf];omega
     have hlq':(q:Int)<(n1:Int):=by omega
     have LQ:=zq hlq;have n14:n1<=4:=BN.o.1;have X5:=zq (X4.o.go T5.o.low);have HV:=zq (show v<L.ai.length/\q<L.aT.length/\v<M.ai.length/\q<M.aT.length from by
      have h1:=LV.o;have h2:=N.o;have h3:=ST.o;refine⟨by omega,by omega,by omega,by rw[h3.2.1];omega⟩)
     have z0:W.cell? ⟨b0+1,0,none⟩=some (.int .i64 c.kind):=X5.o.cell 1 rfl 0 rfl;have hn3:(3:Nat)=3:=rfl;obtain⟨ao,co,eo,hro⟩:∃ ao co,ov=.slice ao n3 co/\RowOf W 1 dn ov (L.af.map (dJ L)):=by
      have hr:=gK T5.o.ra;obtain⟨a,c,e⟩:=hr.form;rw[List.length_map,<-N.o.2.1] at e;exact⟨a,c,e,hr⟩
     have EO:=zq eo;have hmk:∀ W:World,(Instr.makeSlice 28 (.int .i64 (n3:Nat)) (.int .i64 (n3:Nat))).run Tryz.prog W=.ok (.slice (some ⟨W.heap.size,0,none⟩) n3 n3) (W.alloc (.cells (madeCells #[.int .i64 0] n3) 3)):=Be n3 (by have:=BN.o.2.1;omega);clear hn3 hro;rw[eo]
     go_upto_region 33 with fail
     clear z0 hmk;obtain⟨W6,hW6⟩:=Zn (W.alloc (.cells (madeCells #[.int .i64 0] n3) 3));obtain⟨g,hg⟩:=Zn W.heap.size;have J:=zq (show Below W.heap.size W W6/\aY W6 W.heap.size 3 1 dn (.slice (some ⟨g,0,none⟩) n3 n3) ((jX L).take 0++(List.replicate n3 (0:Int)).drop 0) from by
      rw[hW6,hg];exact⟨Zb,uO W W.heap.size n3 (Nat.le_refl _) (by unfold maxLen;have:=BN.o.2.1;omega)⟩)
     have GW:=zq hg
     try rw[<-hW6]
     try rw[<-hg]
     clear hW6 hg eo;obtain⟨Wb,hWb⟩:=Zn W;rw[<-hWb] at J GW T5 X5;clear hWb;have GL:=zq (show (jX L).length=n3 from by unfold jX;rw[List.length_map];exact N.o.2.1.symm)
     go_wp2_with fail
     go_loopw [140] (fun i wr=>∃ p:Nat,p<=n3/\i=.int .i64 p/\∃ W,W=wr/\Hid (Below Wb.heap.size Wb W/\aY W Wb.heap.size 3 1 dn (.slice (some ⟨g,0,none⟩) n3 n3) ((jX L).take p++(List.replicate n3 (0:Int)).drop p))) (fun i _=>n3 - (intOf i).toNat)
     case atStart=>exact⟨0,Nat.zero_le _,rfl,_,rfl,J⟩
     clear J;obtain⟨p,hp,rfl,W,rfl,J⟩:=hrel;have X7:=zq (X5.o.go J.o.1);have T7:=zq (T5.o.go J.o.1);by_cases hlp:p<n3;rotate_left
     ·have hlp':¬ (p:Int)<(n3:Int):=by omega
      have RG:=zq (show RowOf W 1 dn (.slice (some ⟨g,0,none⟩) n3 n3) (jX L) from by
       have h:=J.o.2.row gQ (by decide);rw[List.take_of_length_le (by rw[GL.o];omega),List.drop_eq_nil_of_le (by rw[List.length_replicate];omega),List.append_nil] at h;exact h)
      obtain⟨x1,k1,hw1⟩:∃ x e,jL L (v:Int) (q:Int) (jX L)=(x,e):=⟨_,_,rfl⟩;have EQ:=zq (show k1=true->x1=M.aK v q from fun h1=>by
       have z1:(dF L (c.qF L)).2.2=0:=by rw[EM.o]
       have e:dF L (dZ L 0 c.u c.a c.b c.s)=(M,num,0):=by have h2:=EM.o;unfold mO.qF at h2;rw[<-EKK.o] at h2;exact h2
       have t:=Nk (L:=L) (u:=c.u) (a:=c.a) (b:=c.b) (s:=c.s) (by rw[e]) (v:=v) (k:=q) (by have:=LV2.o;omega) (by omega) (by rw[hw1];exact h1);rw[e,hw1] at t;exact t)
      have C1:=zq (qZ W V L (HH.o W X7.o.low) HGD.o v q HV.o.1 HV.o.2.1 (.slice (some ⟨g,0,none⟩) n3 n3) (jX L) RG.o (by unfold jX;rw[List.length_map]));rw[hw1] at C1;unfold aG.val at C1;rw[<-EC.o] at C1;clear hw1 RG J
      go_wp2_with (refine bM (X7.o.get 0 rfl) LC.o rfl rfl rfl ?_)
      refine C1.o.mono ?_;rintro e w6 ⟨rfl,hb⟩;have T8:=zq (T7.o.go hb);have X8:=zq (X7.o.go hb);clear hb C1 X7 T7
      cases k1 with
      | false =>
        go_wp2_with fail
        go_roundw
        case rel=>exact⟨q+1,by have:=LQ.o;omega,by go_num,_,rfl,by rw[<-EO.o];exact T8⟩
        case measure=>have:=LQ.o;simp[intOf];omega
      | true =>
        obtain rfl:x1=M.aK v q:=EQ.o rfl;obtain⟨p0,g4,og4,g6,og6,cc4,cc6,CA⟩:=(OM.o.below T8.o.low).led.kV (k:=v) (m:=q) HV.o.2.2.1 (by rw[ST.o.1.jF HV.o.2.2.1];exact HV.o.2.2.2);obtain⟨nc,hnc⟩:=Zn ((M.acc v).aK.length);obtain⟨x,hx⟩:=Zn (M.aK v q);have r1:=CA.LY;have r2:=CA.at2;rw[<-hnc] at r1;rw[<-hx] at r2 ⊢;have y4:w6.cell? ⟨b5,4,none⟩=some (.slice (some ⟨g4,og4,none⟩) n4 cc4):=X8.o.cell 2 rfl 4 (by rw[show n4=M.ai.length from by rw[ST.o.2.2.1];exact N.o.2.2,<-CA.row];rfl);have v1:(v:Int)<(n4:Int):=by have:=LV.o;omega
        have v0:(0:Int)<=(v:Int):=by omega
        have q0:(0:Int)<=(q:Int):=by omega
        have q1:(q:Int)<(nc:Int):=by rw[hnc,ST.o.1.jF HV.o.2.2.1];have:=HV.o.2.2.2;omega
        clear CA hnc hx
        go_wp2_with fail
        go_roundw
        case rel=>exact⟨q+1,by have:=LQ.o;omega,by go_num,_,rfl,by rw[<-EO.o];exact T8⟩
        case measure=>have:=LQ.o;simp[intOf];omega
     have hlp':(p:Int)<(n3:Int):=by omega
     have n12:n3<=12:=BN.o.2.1;have LP:=zq hlp;have hpL:p<L.af.length:=by rw[<-N.o.2.1];exact hlp
     obtain⟨b3,o3,c3',e3',h3⟩:=(HH.o W X7.o.low).af.place (aI.fA hpL);have e33:=E3.o.2.symm.trans e3';injection e33 with e31 e32 e34;obtain⟨mk,hmk⟩:=Zn ((L.ins p).mark);obtain⟨dm,hdm⟩:=Zn (dJ L (L.ins p));have hro:=gK T7.o.ra;rw[EO.o] at hro;obtain⟨b9,o9,c9,e9,h9⟩:=hro.place (k:=p) (x:=dm) (by rw[List.getElem?_map,aI.fA hpL,hdm];rfl);injection e9 with e91 e92 e93;have r1:W.cell? ⟨b9,o9+p,none⟩=some (.int .i64 dm):=by have:=h9 0 _ rfl;simpa using this
     have r2:W.cell? ⟨b3,o3+p*7+6,none⟩=some (.int .i64 mk):=by rw[hmk];exact h3 6 _ rfl
     have y3:W.cell? ⟨b0,3,none⟩=some (.slice (some ⟨b3,o3,none⟩) n3 c3):=by rw[<-e31];exact X7.o.cell 0 rfl 3 E3.o.1
     have hpM:p<(List.replicate n3 (0:Int)).length:=by rw[List.length_replicate];exact hlp
     have JO:=J.o.2;have ln:((jX L).take p++(List.replicate n3 (0:Int)).drop p).length=n3:=by rw[List.length_append,List.length_take,List.length_drop,GL.o,List.length_replicate];omega
     have wf:W.frozen? ⟨g,p,none⟩=false:=by
      obtain⟨g',c',e',_,_,_,hf⟩:=JO.block (k:=p) (x:=(0:Int)) (by rw[y9 (by rw[GL.o];omega) hpM,List.getElem?_replicate,if_pos hlp]);injection e' with e' _ _
      cases e'
      exact hf p
     have wc:W.cell? ⟨g,p,none⟩=some (.int .i64 0):=by
      have:=(JO.row gQ (by decide)).near (k:=p) (x:=(0:Int)) (by rw[y9 (by rw[GL.o];omega) hpM,List.getElem?_replicate,if_pos hlp]) (j:=0) rfl
      simpa using this
     obtain⟨S,hS⟩:=Zn (dm - mk);have SB:=zq (show 0<=dm/\dm<=4611686018427387904/\0<=mk/\mk<=4611686018427387904 from by
      have hk1:=(HGD.o.qy hpL);have hk2:({ L.ins p with mark:=dJ L (L.ins p) }:Ins).Ok L.ah.length:=by
       have h1:(dF L (c.qF L)).2.2=0:=by rw[EM.o]
       have t:=rG (L:=L) (u:=c.u) (a:=c.a) (b:=c.b) (s:=c.s) (by unfold mO.qF at h1;rw[<-EKK.o] at h1;exact h1) hpL;have e:dF L (dZ L 0 c.u c.a c.b c.s)=(M,num,0):=by have h2:=EM.o;unfold mO.qF at h2;rw[<-EKK.o] at h2;exact h2
       rw[e] at t;rw[<-t];have hu:M.ah.length=L.ah.length:=by
        have z:=(lM (L:=L) (k:=0) (by omega) (u:=c.u) (a:=c.a) (b:=c.b) (s:=c.s) (by rw[e])).2;rw[e] at z;exact z.RY
       have:=ST.o.1.qy (k:=p) (by rw[ST.o.2.2.2];exact hpL);rw[hu] at this;exact this
      rw[hdm,hmk];obtain⟨_,_,_,_,m1,m2,_⟩:=hk1;obtain⟨_,_,_,_,m3,m4,_⟩:=hk2
      simp only at m3 m4
      exact⟨m3,by omega,m1,by omega⟩)
     have eS:dm - mk=S:=hS.symm;have s0:-4611686018427387904<=S:=by rw[hS];have:=SB.o;omega
     have s1:S<=4611686018427387904:=by rw[hS];have:=SB.o;omega
     have OS:=zq (show aY (W.setCell ⟨g,p,none⟩ (.int .i64 S)) Wb.heap.size 3 1 dn (.slice (some ⟨g,0,none⟩) n3 n3) ((jX L).take (p+1)++(List.replicate n3 (0:Int)).drop (p+1)) from by
      have h:=JO;obtain⟨l0,hl0⟩:=Zn ((jX L).take p++(List.replicate n3 (0:Int)).drop p);rw[<-hl0] at h ln;have h2:=h;have hk:l0[p]?=some 0:=by rw[hl0,y9 (by rw[GL.o];omega) hpM,List.getElem?_replicate,if_pos hlp]
      have s:=(aY.set (g:=g) (c:=n3) (by rw[ln];exact h) gQ (k:=p) (j:=0) (x':=S) (u:=.int .i64 S) hk (by decide) rfl).1;rw[hl0,zB (q:=S) (by unfold jX;rw[List.getElem?_map,aI.fA hpL,hS,hdm,hmk];rfl) hpM,<-hl0,ln,Nat.mul_one,Nat.add_zero] at s;exact s)
     subst e91;clear h3 h9 hmk hdm hS hro JO ln hpM hpL e31 e32 e34 e92 e93 e3'
     go_upto_region 36 with fail
     refine aj.wz [14] [] (.step 0 (.step 1 (.step 2 (.step 3 (.step 4 (.step 5 (.step 6 (.step 7 (.step 8 (.step 9 (.step 10 (.step 11 (.step 12 (.step 13 (.step 14 .leaf))))))))))))))) (by kernel_rfl) (by kernel_rfl) ?_;refine aj.ay [0,1,2,3,4,5,6,7,8,9,10,11,12,13] (by kernel_rfl) ?_
     simp only[au,nth]
     repeat (go_big_quiet_step (fail))
     refine wpQuiet_nil ?_;refine aj.bF (by kernel_rfl) rfl (by kernel_rfl) (fun K hK=>?_)
     simp only[au,nth]
     refine ak ?_;go_simp;refine hK _ _ ?_;clear hK r1 r2 y3 wf wc eS s0 s1;refine aj.aU ?_;have J2:=zq (show Below Wb.heap.size Wb (W.setCell ⟨g,p,none⟩ (.int .i64 S)).drew/\aY (W.setCell ⟨g,p,none⟩ (.int .i64 S)).drew Wb.heap.size 3 1 dn (.slice (some ⟨g,0,none⟩) n3 n3) ((jX L).take (p+1)++(List.replicate n3 (0:Int)).drop (p+1)) from
      ⟨((Mod.of_below (Mc J.o.1 rfl (by rw[GW.o];exact Nat.le_refl _))).drew).aQ,OS.o.mod ((Mod.refl (fun _=>False) _).drew) (fun _ _ h=>h)⟩)
     clear OS J
     go_wp2_with fail
     go_roundw
     case rel=>exact⟨p+1,by have:=LP.o;omega,by go_num,_,rfl,J2⟩
     case measure=>have:=LP.o;simp[intOf];omega
    have hlt':(j:Int)<(n3:Int):=by omega
    have LT_:=zq hlt;have hjL:=zq (show j<L.af.length from by rw[<-N.o.2.1];exact hlt);have n12:n3<=12:=BN.o.2.1;obtain⟨b3,o3,c3',e3',h3⟩:=(HH.o W (X4.o.go TW.o.low).low).af.place (aI.fA hjL.o);have e33:=E3.o.2.symm.trans e3';injection e33 with e31 e32 e34;obtain⟨m,em,hm,hum⟩:=HGD.o.wW hjL.o;obtain⟨I,hI⟩:=Zn (L.ins j);rw[<-hI] at h3 em;have HI:=zq hI;have EMM:=zq em;have HUM:=zq (And.intro hm hum);have i0:W.cell? ⟨b3,o3+j*7,none⟩=some (.int .i64 I.kind):=by have:=h3 0 _ rfl;simpa using this
    have i1:W.cell? ⟨b3,o3+j*7+1,none⟩=some (.int .i64 (m:Int)):=by rw[<-em];exact h3 1 _ rfl
    have i2:W.cell? ⟨b3,o3+j*7+2,none⟩=some (.int .i64 I.mult):=h3 2 _ rfl;have i3:W.cell? ⟨b3,o3+j*7+3,none⟩=some (.int .i64 I.strike):=h3 3 _ rfl;have i4:W.cell? ⟨b3,o3+j*7+4,none⟩=some (.int .i64 I.aO):=h3 4 _ rfl;have i5:W.cell? ⟨b3,o3+j*7+5,none⟩=some (.bool I.call):=h3 5 _ rfl;have i6:W.cell? ⟨b3,o3+j*7+6,none⟩=some (.int .i64 I.mark):=h3 6 _ rfl;subst e31;clear h3 hI em hm hum e3' e32 e34
    go_upto_region 12 with fail
    clear i0 i1 i2 i3 i4 i5 i6;obtain⟨W1,hW1⟩:=Zn (W.alloc (.cells #[.int .i64 I.kind,.int .i64 (m:Int),.int .i64 I.mult,.int .i64 I.strike,.int .i64 I.aO,.bool I.call,.int .i64 I.mark] 51));obtain⟨bi,hbi⟩:=Zn W.heap.size;have T1:=zq (show Two W4 W1 ov iv ((L.af.map (dJ L)).take j) ((L.af.map (dJ L)).take j) from by rw[hW1];exact TW.o.go (Zb));have XI:=zq (show At W4 W1 [(bi, 51,#[.int .i64 I.kind,.int .i64 (m:Int),.int .i64 I.mult,.int .i64 I.strike,.int .i64 I.aO,.bool I.call,.int .i64 I.mark])] from by
     rw[hW1,hbi];exact (show At W4 W [] from ⟨TW.o.low,by simp,by simp,by simp⟩).alloc _ _)
    try rw[<-hW1]
    try rw[<-hbi]
    clear hW1 hbi TW;have X1:=zq (X4.o.go T1.o.low);have z0:W1.cell? ⟨b0+1,0,none⟩=some (.int .i64 c.kind):=X1.o.cell 1 rfl 0 rfl;have i6:W1.cell? ⟨bi,6,none⟩=some (.int .i64 I.mark):=XI.o.cell 0 rfl 6 rfl
    go_upto_region 15 with fail
    clear z0 i6;obtain⟨b2,o2,c2,e2,h2⟩:=(HH.o W1 X1.o.low).ah.place HUM.o.2;obtain⟨y,hy⟩:=Zn (L.und I.under);obtain⟨n2,hn2⟩:=Zn L.ah.length;obtain⟨dy,hdy⟩:=Zn L.day;rw[<-HI.o,<-hy] at h2;rw[<-hn2] at e2;have OI:=zq (show I.Ok L.ah.length/\y.Ok L.aT.length from ⟨by rw[HI.o];exact HGD.o.qy hjL.o,by rw[hy];have:=HUM.o.2;rw[<-HI.o] at this;exact HGD.o.things.ah m _ this⟩);obtain⟨nw,hnw⟩:=Zn ((lq I y.price y.dI dy).1);have CN:=zq (fun W=>Rz I y L.ah.length L.aT.length OI.o.1 OI.o.2 dy (by rw[hdy];exact HGD.o.d0) (by rw[hdy];exact HGD.o.d1) W);rw[<-hnw,EMM.o] at CN;have DM:=zq (show dJ L I=if I.aO=0\/dy<=I.aO then nw else I.mark from by
     have:=Fh HGD.o hjL.o;rw[<-HI.o,<-hdy,<-hy,<-hnw] at this;exact this)
    have j0:W1.cell? ⟨bi,0,none⟩=some (.int .i64 I.kind):=XI.o.cell 0 rfl 0 rfl;have j1:W1.cell? ⟨bi,1,none⟩=some (.int .i64 (m:Int)):=XI.o.cell 0 rfl 1 rfl;have j2:W1.cell? ⟨bi,2,none⟩=some (.int .i64 I.mult):=XI.o.cell 0 rfl 2 rfl;have j3:W1.cell? ⟨bi,3,none⟩=some (.int .i64 I.strike):=XI.o.cell 0 rfl 3 rfl;have j4:W1.cell? ⟨bi,4,none⟩=some (.int .i64 I.aO):=XI.o.cell 0 rfl 4 rfl;have j5:W1.cell? ⟨bi,5,none⟩=some (.bool I.call):=XI.o.cell 0 rfl 5 rfl;have j6:W1.cell? ⟨bi,6,none⟩=some (.int .i64 I.mark):=XI.o.cell 0 rfl 6 rfl;have y2:W1.cell? ⟨b0,2,none⟩=some (.slice (some ⟨b2,o2,none⟩) n2 c2):=X1.o.cell 0 rfl 2 (by rw[EC.o,<-e2];rfl);have y0:W1.cell? ⟨b0,0,none⟩=some (.int .i64 dy):=X1.o.cell 0 rfl 0 (by rw[EC.o,hdy];rfl);have u0:W1.cell? ⟨b2,o2+m*4,none⟩=some (.string y.name):=by have:=h2 0 _ rfl;simpa using this
    have u1:W1.cell? ⟨b2,o2+m*4+1,none⟩=some (.int .i64 y.cur):=h2 1 _ rfl;have u2:W1.cell? ⟨b2,o2+m*4+2,none⟩=some (.int .i64 y.price):=h2 2 _ rfl;have u3:W1.cell? ⟨b2,o2+m*4+3,none⟩=some (.int .i64 y.dI):=h2 3 _ rfl;have m0:(0:Int)<=(m:Int):=by omega
    have m1:(m:Int)<(n2:Int):=by rw[hn2];have:=HUM.o.1;omega
    have DY:=zq hdy;clear h2 e2 hy hn2 hnw hdy;refine aj.wz [9] [] (.step 0 (.step 1 (.step 2 (.step 3 (.step 4 (.step 5 (.step 6 (.step 7 (.step 8 (.step 9 (.step 10 (.step 11 (.step 12 (.step 13 (.step 14 .leaf))))))))))))))) (by kernel_rfl) (by kernel_rfl) ?_;refine aj.ay [0,1,2,3,4,5,6,7,8] (by kernel_rfl) ?_
    simp only[au,nth]
    repeat (go_big_quiet_step (fail))
    refine wpQuiet_nil ?_;refine aj.bF (by kernel_rfl) rfl (by kernel_rfl) (fun K hK=>?_)
    simp only[au,nth]
    refine ak ?_;go_simp;refine (CN.o _).mono ?_;rintro e w5 ⟨rfl,hb⟩;have B6:=zq (show Below W1.heap.size W1 w5 from (Mod.of_below ((Mod.refl (fun _=>False) W1).drew).aQ |>.trans (Mod.of_below hb) (fun _ _ h=>h)).aQ);clear hb j0 j1 j2 j3 j4 j5 j6 y2 y0 u0 u1 u2 u3 m0 m1;go_simp;refine hK _ _ ?_;clear hK;refine aj.ay [10,11,12,13,14] (by kernel_rfl) ?_
    simp only[au,nth]
    repeat (go_big_quiet_step (fail))
    refine wpQuiet_nil ?_;refine aj.aU ?_;have T6:=zq (T1.o.go B6.o);have XI6:=zq (XI.o.go B6.o);have X6:=zq (X1.o.go B6.o);clear T1 XI X1 B6 CN;have j4:w5.cell? ⟨bi,4,none⟩=some (.int .i64 I.aO):=XI6.o.cell 0 rfl 4 rfl;have j6:w5.cell? ⟨bi,6,none⟩=some (.int .i64 I.mark):=XI6.o.cell 0 rfl 6 rfl;have y0:w5.cell? ⟨b0,0,none⟩=some (.int .i64 dy):=X6.o.cell 0 rfl 0 (by rw[EC.o,DY.o];rfl)
    go_upto_region 18 with fail
    obtain⟨dm,hdm⟩:=Zn (dJ L I);have HDM:=zq hdm;have DQ:=zq (show dm=if I.aO=0\/dy<=I.aO then nw else I.mark from by rw[hdm];exact DM.o);obtain⟨ex,hex⟩:=Zn I.aO;obtain⟨mk,hmk⟩:=Zn I.mark;rw[<-hex] at j4 DQ;rw[<-hmk] at j6 DQ;clear DM hdm hex hmk;by_cases h0:ex=0
    ·have d0:(ex != 0)=false:=by simp[h0]
     obtain rfl:nw=dm:=by rw[DQ.o,if_pos (Or.inl h0)]
     clear h0
     go_upto_region 20 with fail
     try clear d0
     try clear h1
     clear j4 j6 y0 DQ;have hjM:j<M.af.length:=by rw[ST.o.2.2.2];exact hjL.o
     obtain⟨q3,r3,s3,f3,g3⟩:=(OM.o.below T6.o.low).led.af.place (aI.fA hjM);have y5:w5.cell? ⟨b5,3,none⟩=some (.slice (some ⟨q3,r3,none⟩) n3 s3):=X6.o.cell 2 rfl 3 (by rw[show n3=M.af.length from by rw[ST.o.2.2.2];exact N.o.2.1,<-f3];rfl);have i6:w5.cell? ⟨q3,r3+j*7+6,none⟩=some (.int .i64 nw):=by
      have h1:(dF L (c.qF L)).2.2=0:=by rw[EM.o]
      have t:=rG (L:=L) (u:=c.u) (a:=c.a) (b:=c.b) (s:=c.s) (by unfold mO.qF at h1;rw[<-EKK.o] at h1;exact h1) hjL.o;have e:dF L (dZ L 0 c.u c.a c.b c.s)=(M,num,0):=by have h2:=EM.o;unfold mO.qF at h2;rw[<-EKK.o] at h2;exact h2
      rw[e] at t;have g:=g3 6 _ rfl
      simp only at t
      rw[t,<-HI.o] at g;rw[HDM.o];exact g
     clear f3 g3 hjM;have k0:(j:Int)<(n3:Int):=by have:=LT_.o;omega
     go_upto_region 22 with fail
     clear y5 i6;obtain⟨ov2,w6,R3,T3⟩:=T6.o.app nw w5.heap.size rfl (by rw[List.length_take];omega);have R3':=zq R3;have TQ:=zq T3;clear R3 T3
     go_upto_region 23 with (at_builtin;refine wpList_append_run rfl (.tmp 109) (.tmp 111) 28 rfl rfl rfl R3'.o ?_)
     clear R3';obtain⟨iv2,w7,R4,T4⟩:=TQ.o.swap.app nw w6.heap.size rfl (by rw[List.length_take];omega);have R4':=zq R4;have NXT:=zq (show Two W4 w7 ov2 iv2 ((L.af.map (dJ L)).take (j+1)) ((L.af.map (dJ L)).take (j+1)) from by
      have h:=T4.swap;rw[take_snoc' (l:=(L.af.map (dJ L))) (k:=j) (x:=nw) (by rw[List.getElem?_map,aI.fA hjL.o,HDM.o,HI.o];rfl)];exact h)
     clear R4 T4
     go_wp2_with (at_builtin;refine wpList_append_run rfl (.tmp 113) (.tmp 115) 28 rfl rfl rfl R4'.o ?_)
     go_roundw
     case rel=>exact⟨j+1,_,_,by have:=LT_.o;omega,rfl,rfl,by go_num,_,rfl,NXT⟩
     case measure=>have:=LT_.o;simp[intOf];omega
    have d0:(ex != 0)=true:=by simp[h0]
    by_cases h1:ex<dy
    ·obtain rfl:mk=dm:=by rw[DQ.o,if_neg (by omega)]
     clear h0
     go_upto_region 20 with fail
     try clear d0
     try clear h1
     clear j4 j6 y0 DQ;have hjM:j<M.af.length:=by rw[ST.o.2.2.2];exact hjL.o
     obtain⟨q3,r3,s3,f3,g3⟩:=(OM.o.below T6.o.low).led.af.place (aI.fA hjM);have y5:w5.cell? ⟨b5,3,none⟩=some (.slice (some ⟨q3,r3,none⟩) n3 s3):=X6.o.cell 2 rfl 3 (by rw[show n3=M.af.length from by rw[ST.o.2.2.2];exact N.o.2.1,<-f3];rfl);have i6:w5.cell? ⟨q3,r3+j*7+6,none⟩=some (.int .i64 mk):=by
      have h1:(dF L (c.qF L)).2.2=0:=by rw[EM.o]
      have t:=rG (L:=L) (u:=c.u) (a:=c.a) (b:=c.b) (s:=c.s) (by unfold mO.qF at h1;rw[<-EKK.o] at h1;exact h1) hjL.o;have e:dF L (dZ L 0 c.u c.a c.b c.s)=(M,num,0):=by have h2:=EM.o;unfold mO.qF at h2;rw[<-EKK.o] at h2;exact h2
      rw[e] at t;have g:=g3 6 _ rfl
      simp only at t
      rw[t,<-HI.o] at g;rw[HDM.o];exact g
     clear f3 g3 hjM;have k0:(j:Int)<(n3:Int):=by have:=LT_.o;omega
     go_upto_region 22 with fail
     clear y5 i6;obtain⟨ov2,w6,R3,T3⟩:=T6.o.app mk w5.heap.size rfl (by rw[List.length_take];omega);have R3':=zq R3;have TQ:=zq T3;clear R3 T3
     go_upto_region 23 with (at_builtin;refine wpList_append_run rfl (.tmp 109) (.tmp 111) 28 rfl rfl rfl R3'.o ?_)
     clear R3';obtain⟨iv2,w7,R4,T4⟩:=TQ.o.swap.app mk w6.heap.size rfl (by rw[List.length_take];omega);have R4':=zq R4;have NXT:=zq (show Two W4 w7 ov2 iv2 ((L.af.map (dJ L)).take (j+1)) ((L.af.map (dJ L)).take (j+1)) from by
      have h:=T4.swap;rw[take_snoc' (l:=(L.af.map (dJ L))) (k:=j) (x:=mk) (by rw[List.getElem?_map,aI.fA hjL.o,HDM.o,HI.o];rfl)];exact h)
     clear R4 T4
     go_wp2_with (at_builtin;refine wpList_append_run rfl (.tmp 113) (.tmp 115) 28 rfl rfl rfl R4'.o ?_)
     go_roundw
     case rel=>exact⟨j+1,_,_,by have:=LT_.o;omega,rfl,rfl,by go_num,_,rfl,NXT⟩
     case measure=>have:=LT_.o;simp[intOf];omega
    obtain rfl:nw=dm:=by rw[DQ.o,if_pos (Or.inr (by omega))]
    clear h0
    go_upto_region 20 with fail
    try clear d0
    try clear h1
    clear j4 j6 y0 DQ;have hjM:j<M.af.length:=by rw[ST.o.2.2.2];exact hjL.o
    obtain⟨q3,r3,s3,f3,g3⟩:=(OM.o.below T6.o.low).led.af.place (aI.fA hjM);have y5:w5.cell? ⟨b5,3,none⟩=some (.slice (some ⟨q3,r3,none⟩) n3 s3):=X6.o.cell 2 rfl 3 (by rw[show n3=M.af.length from by rw[ST.o.2.2.2];exact N.o.2.1,<-f3];rfl);have i6:w5.cell? ⟨q3,r3+j*7+6,none⟩=some (.int .i64 nw):=by
     have h1:(dF L (c.qF L)).2.2=0:=by rw[EM.o]
     have t:=rG (L:=L) (u:=c.u) (a:=c.a) (b:=c.b) (s:=c.s) (by unfold mO.qF at h1;rw[<-EKK.o] at h1;exact h1) hjL.o;have e:dF L (dZ L 0 c.u c.a c.b c.s)=(M,num,0):=by have h2:=EM.o;unfold mO.qF at h2;rw[<-EKK.o] at h2;exact h2
     rw[e] at t;have g:=g3 6 _ rfl
     simp only at t
     rw[t,<-HI.o] at g;rw[HDM.o];exact g
    clear f3 g3 hjM;have k0:(j:Int)<(n3:Int):=by have:=LT_.o;omega
    go_upto_region 22 with fail
    clear y5 i6;obtain⟨ov2,w6,R3,T3⟩:=T6.o.app nw w5.heap.size rfl (by rw[List.length_take];omega);have R3':=zq R3;have TQ:=zq T3;clear R3 T3
    go_upto_region 23 with (at_builtin;refine wpList_append_run rfl (.tmp 109) (.tmp 111) 28 rfl rfl rfl R3'.o ?_)
    clear R3';obtain⟨iv2,w7,R4,T4⟩:=TQ.o.swap.app nw w6.heap.size rfl (by rw[List.length_take];omega);have R4':=zq R4;have NXT:=zq (show Two W4 w7 ov2 iv2 ((L.af.map (dJ L)).take (j+1)) ((L.af.map (dJ L)).take (j+1)) from by
     have h:=T4.swap;rw[take_snoc' (l:=(L.af.map (dJ L))) (k:=j) (x:=nw) (by rw[List.getElem?_map,aI.fA hjL.o,HDM.o,HI.o];rfl)];exact h)
    clear R4 T4
    go_wp2_with (at_builtin;refine wpList_append_run rfl (.tmp 113) (.tmp 115) 28 rfl rfl rfl R4'.o ?_)
    go_roundw
    case rel=>exact⟨j+1,_,_,by have:=LT_.o;omega,rfl,rfl,by go_num,_,rfl,NXT⟩
    case measure=>have:=LT_.o;simp[intOf];omega
   have hb3:bits .and .i64 c.kind 3=1:=by rw[HB3.o,hk0];rfl
   have EKK:=zq (show 1=c.k from by rw[<-EK.o];exact hk0.symm);clear hk0
   go_loopw [8,9,51] (fun ov0 iv0 i wr=>∃ (j:Nat) (ov iv:Value),j<=n3/\ov=ov0/\iv=iv0/\i=.int .i64 j/\∃ W,W=wr/\Hid (Two W4 W ov iv ((L.af.map Ins.mark).take j) ((M.af.map Ins.mark).take j))) (fun _ _ i _=>n3 - (intOf i).toNat)
   case atStart=>exact⟨0,_,_,Nat.zero_le _,rfl,rfl,rfl,_,rfl,zq (Two.start W4)⟩
   obtain⟨j,ov,iv,hj,rfl,rfl,rfl,W,rfl,TW⟩:=hrel;by_cases hlt:j<n3;rotate_left
   ·have hlt':¬ (j:Int)<(n3:Int):=by omega
    have T5:=zq (show Two W4 W ov iv (L.af.map Ins.mark) (M.af.map Ins.mark) from by
     have h:=TW.o;rw[List.take_of_length_le (by rw[List.length_map];have:=N.o.2.1;omega)] at h
     try rw[List.take_of_length_le (by rw[List.length_map];have:=N.o.2.1;have:=ST.o.2.2.2;omega)] at h
     exact h)
    obtain⟨W5,rfl⟩:=Zn W;clear TW hj
    go_upto_region 25 with fail
    go_wp2_with fail
    go_loopw [14] (fun i wr=>∃ v:Nat,2<=v/\v<=n4/\i=.int .i64 v/\∃ W,W=wr/\Hid (Two W4 W ov iv (L.af.map Ins.mark) (M.af.map Ins.mark))) (fun i _=>n4 - (intOf i).toNat)
    case atStart=>exact⟨2,Nat.le_refl _,BN.o.2.2.2,rfl,_,rfl,T5⟩
    clear T5;obtain⟨v,hv2,hv,rfl,W,rfl,T5⟩:=hrel;have X5:=zq (X4.o.go T5.o.low);have y4:W.cell? ⟨b0,4,none⟩=some (.slice a4 n4 c4):=X5.o.cell 0 rfl 4 E4.o;by_cases hlv:v<n4;rotate_left
    ·have hlv':¬ (v:Int)<(n4:Int):=by omega
     go_wp2_with fail
     go_ret;exact⟨rfl,X5.o.low⟩
    have hlv':(v:Int)<(n4:Int):=by omega
    have LV:=zq hlv;have LV2:=zq hv2;have y1:W.cell? ⟨b0,1,none⟩=some (.slice a1 n1 c1):=X5.o.cell 0 rfl 1 E1.o;have n16:n4<=16:=BN.o.2.2.1
    go_wp2_with fail
    clear y1 y4 X5 hv hlv hlv' hv2
    go_loopw [128] (fun i wr=>∃ q:Nat,q<=n1/\i=.int .i64 q/\∃ W,W=wr/\Hid (Two W4 W ov iv (L.af.map Ins.mark) (M.af.map Ins.mark))) (fun i _=>n1 - (intOf i).toNat)
    case atStart=>exact⟨0,Nat.zero_le _,rfl,_,rfl,T5⟩
    clear T5;obtain⟨q,hq,rfl,W,rfl,T5⟩:=hrel;by_cases hlq:q<n1;rotate_left
    ·have hlq':¬ (q:Int)<(n1:Int):=by omega
     have vb:v<=16:=by have:=LV.o;have:=BN.o;omega
     go_wp2_with fail
     go_roundw
     case rel=>exact⟨v+1,by have:=LV2.o;omega,by have:=LV.o;omega,by go_num,_,rfl,T5⟩
     case measure=>have:=LV.o;simp[intOf];omega
    have hlq':(q:Int)<(n1:Int):=by omega
    have LQ:=zq hlq;have n14:n1<=4:=BN.o.1;have X5:=zq (X4.o.go T5.o.low);have HV:=zq (show v<L.ai.length/\q<L.aT.length/\v<M.ai.length/\q<M.aT.length from by
     have h1:=LV.o;have h2:=N.o;have h3:=ST.o;refine⟨by omega,by omega,by omega,by rw[h3.2.1];omega⟩)
    have z0:W.cell? ⟨b0+1,0,none⟩=some (.int .i64 c.kind):=X5.o.cell 1 rfl 0 rfl
    go_upto_region 41 with fail
    clear z0;obtain⟨x1,k1,hw1⟩:∃ x e,jL L (v:Int) (q:Int) (L.af.map Ins.mark)=(x,e):=⟨_,_,rfl⟩;obtain⟨x2,k2,hw2⟩:∃ x e,jL M (v:Int) (q:Int) (M.af.map Ins.mark)=(x,e):=⟨_,_,rfl⟩;have EQ:=zq (show k1=true->k2=true->x1=x2 from fun h1 h2=>by
     have z1:(dF L (c.qF L)).2.2=0:=by rw[EM.o]
     have e:dF L (dZ L 1 c.u c.a c.b c.s)=(M,num,0):=by have h2:=EM.o;unfold mO.qF at h2;rw[<-EKK.o] at h2;exact h2
     have t:=FO (L:=L) (u:=c.u) (a:=c.a) (b:=c.b) (s:=c.s) (by rw[e]) (v:=v) (k:=q) (by have:=LV2.o;omega) (by omega) (by rw[hw1];exact h1) (by rw[e,hw2];exact h2);rw[e,hw1,hw2] at t;exact t)
    have C1:=zq (qZ W V L (HH.o W X5.o.low) HGD.o v q HV.o.1 HV.o.2.1 ov (L.af.map Ins.mark) (gK T5.o.ra) (by rw[List.length_map]));rw[hw1] at C1;unfold aG.val at C1;rw[<-EC.o] at C1
    go_wp2_with (refine bM (X5.o.get 0 rfl) LC.o rfl rfl rfl ?_)
    refine C1.o.mono ?_;rintro e w6 ⟨rfl,hb⟩;have T6:=zq (T5.o.go hb);have X6:=zq (X5.o.go hb);clear hb C1 X5 T5 hw1;have C2:=zq (qZ w6 U M (OM.o.below T6.o.low).led ST.o.1 v q HV.o.2.2.1 HV.o.2.2.2 iv (M.af.map Ins.mark) (gK T6.o.rb) (by rw[List.length_map]));rw[hw2] at C2;unfold aG.val at C2;clear hw2
    go_wp2_with (refine bM (X6.o.get 2 rfl) LU.o rfl rfl rfl ?_)
    refine C2.o.mono ?_;rintro e w7 ⟨rfl,hb⟩;have T7:=zq (T6.o.go hb);clear hb C2 X6 T6
    cases k1 with
    | false =>
      go_wp2_with fail
      go_roundw
      case rel=>exact⟨q+1,by have:=LQ.o;omega,by go_num,_,rfl,T7⟩
      case measure=>have:=LQ.o;simp[intOf];omega
    | true =>
      cases k2 with
      | false =>
        go_wp2_with fail
        go_roundw
        case rel=>exact⟨q+1,by have:=LQ.o;omega,by go_num,_,rfl,T7⟩
        case measure=>have:=LQ.o;simp[intOf];omega
      | true =>
        obtain rfl:x1=x2:=EQ.o rfl rfl
        go_wp2_with fail
        go_roundw
        case rel=>exact⟨q+1,by have:=LQ.o;omega,by go_num,_,rfl,T7⟩
        case measure=>have:=LQ.o;simp[intOf];omega
   have hlt':(j:Int)<(n3:Int):=by omega
   have LT_:=zq hlt;have hjL:=zq (show j<L.af.length from by rw[<-N.o.2.1];exact hlt);have n12:n3<=12:=BN.o.2.1;obtain⟨b3,o3,c3',e3',h3⟩:=(HH.o W (X4.o.go TW.o.low).low).af.place (aI.fA hjL.o);have e33:=E3.o.2.symm.trans e3';injection e33 with e31 e32 e34;obtain⟨m,em,hm,hum⟩:=HGD.o.wW hjL.o;obtain⟨I,hI⟩:=Zn (L.ins j);rw[<-hI] at h3 em;have HI:=zq hI;have EMM:=zq em;have HUM:=zq (And.intro hm hum);have i0:W.cell? ⟨b3,o3+j*7,none⟩=some (.int .i64 I.kind):=by have:=h3 0 _ rfl;simpa using this
   have i1:W.cell? ⟨b3,o3+j*7+1,none⟩=some (.int .i64 (m:Int)):=by rw[<-em];exact h3 1 _ rfl
   have i2:W.cell? ⟨b3,o3+j*7+2,none⟩=some (.int .i64 I.mult):=h3 2 _ rfl;have i3:W.cell? ⟨b3,o3+j*7+3,none⟩=some (.int .i64 I.strike):=h3 3 _ rfl;have i4:W.cell? ⟨b3,o3+j*7+4,none⟩=some (.int .i64 I.aO):=h3 4 _ rfl;have i5:W.cell? ⟨b3,o3+j*7+5,none⟩=some (.bool I.call):=h3 5 _ rfl;have i6:W.cell? ⟨b3,o3+j*7+6,none⟩=some (.int .i64 I.mark):=h3 6 _ rfl;subst e31;clear h3 hI em hm hum e3' e32 e34
   go_upto_region 12 with fail
   clear i0 i1 i2 i3 i4 i5 i6;obtain⟨W1,hW1⟩:=Zn (W.alloc (.cells #[.int .i64 I.kind,.int .i64 (m:Int),.int .i64 I.mult,.int .i64 I.strike,.int .i64 I.aO,.bool I.call,.int .i64 I.mark] 51));obtain⟨bi,hbi⟩:=Zn W.heap.size;have T1:=zq (show Two W4 W1 ov iv ((L.af.map Ins.mark).take j) ((M.af.map Ins.mark).take j) from by rw[hW1];exact TW.o.go (Zb));have XI:=zq (show At W4 W1 [(bi, 51,#[.int .i64 I.kind,.int .i64 (m:Int),.int .i64 I.mult,.int .i64 I.strike,.int .i64 I.aO,.bool I.call,.int .i64 I.mark])] from by
    rw[hW1,hbi];exact (show At W4 W [] from ⟨TW.o.low,by simp,by simp,by simp⟩).alloc _ _)
   try rw[<-hW1]
   try rw[<-hbi]
   clear hW1 hbi TW;have X1:=zq (X4.o.go T1.o.low);have z0:W1.cell? ⟨b0+1,0,none⟩=some (.int .i64 c.kind):=X1.o.cell 1 rfl 0 rfl;have i6:W1.cell? ⟨bi,6,none⟩=some (.int .i64 I.mark):=XI.o.cell 0 rfl 6 rfl;obtain⟨ov2,w3,R3,T3⟩:=T1.o.app I.mark W1.heap.size rfl (by rw[List.length_take];omega);have R3':=zq R3;have TQ:=zq T3;clear R3 T3
   go_upto_region 14 with (at_builtin;refine wpList_append_run rfl (.tmp 60) (.tmp 63) 28 rfl rfl rfl R3'.o ?_)
   clear z0 i6 R3';have hjM:j<M.af.length:=by rw[ST.o.2.2.2];exact hjL.o
   obtain⟨q3,r3,s3,f3,g3⟩:=(OM.o.below TQ.o.low).led.af.place (aI.fA hjM);obtain⟨mm,hmm⟩:=Zn ((M.ins j).mark);have y5:w3.cell? ⟨b5,3,none⟩=some (.slice (some ⟨q3,r3,none⟩) n3 s3):=(X4.o.go TQ.o.low).cell 2 rfl 3 (by rw[show n3=M.af.length from by rw[ST.o.2.2.2];exact N.o.2.1,<-f3];rfl);have i6:w3.cell? ⟨q3,r3+j*7+6,none⟩=some (.int .i64 mm):=by rw[hmm];exact g3 6 _ rfl
   obtain⟨iv2,w4,R4,T4⟩:=TQ.o.swap.app mm w3.heap.size rfl (by rw[List.length_take];omega);have R4':=zq R4;have NXT:=zq (show Two W4 w4 ov2 iv2 ((L.af.map Ins.mark).take (j+1)) ((M.af.map Ins.mark).take (j+1)) from by
    have h:=T4.swap;rw[take_snoc' (l:=(L.af.map Ins.mark)) (k:=j) (x:=I.mark) (by rw[List.getElem?_map,aI.fA hjL.o,HI.o];rfl),take_snoc' (l:=(M.af.map Ins.mark)) (k:=j) (x:=mm) (by rw[List.getElem?_map,aI.fA hjM,hmm];rfl)];exact h)
   clear R4 T4 f3 g3 hmm hjM
   go_wp2_with (at_builtin;refine wpList_append_run rfl (.tmp 65) (.tmp 72) 28 rfl rfl rfl R4'.o ?_)
   go_roundw
   case rel=>exact⟨j+1,_,_,by have:=LT_.o;omega,rfl,rfl,by go_num,_,rfl,NXT⟩
   case measure=>have:=LT_.o;simp[intOf];omega
end Go.Proofs.YtfknkmlocbojhaaGreatDoor
namespace Go.Proofs.YtfknkmlocbojhaaGreatDoor
open Go.RowKit Go.Bw Go.Maps Go.WideShapes
theorem DL (W:World) (n0:Array Value) (n1:Array Value) (V0:dw Tryz.prog W 31 n0.toList) (V1:dw Tryz.prog W 41 n1.toList) (HL:nV W) :
 Calls Tryz.prog 7 #[.agg n0,.agg n1] W fun e w'=>e=.returned (.bool true)/\Below W.heap.size W w':=by
 obtain⟨V,l,e,h,s⟩:=DJ V0;obtain⟨c,rfl,hs,ha,hb⟩:=DI V1;rw[e];exact zT W V l h s HL c hs ⟨ha,hb⟩
end Go.Proofs.YtfknkmlocbojhaaGreatDoor

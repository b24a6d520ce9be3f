/- Joined: LifW0, LifAf. -/
import Derived.Test.YtfknkmlocbojhaaGreatDoorGn
import Derived.Test.YtfknkmlocbojhaaGreatDoorGh
import Derived.Test.YtfknkmlocbojhaaGreatDoorGl
import Derived.Test.YtfknkmlocbojhaaGreatDoorGk
import Derived.Test.YtfknkmlocbojhaaGreatDoorHt
set_option linter.unusedVariables false
set_option linter.unusedSimpArgs false
set_option maxRecDepth 100000
set_option maxHeartbeats 8000000
namespace Go.Proofs.YtfknkmlocbojhaaGreatDoor
open Go.RowKit Go.Bw Go.Maps Go.Shelf
theorem oL (w:World) (V:aC) (L:aH) (h:bJ w V L) (hb:L.Short) :
 Calls Tryz.prog 12 #[V.val L] w fun e w'=>e=.returned (.bool (decide (1024<L.bulk)))/\Below w.heap.size w w':=by
 obtain⟨b1,b2,b3,b4,b5,b6,b7,b8⟩:=hb;obtain⟨a1,c1,a2,c2,a3,c3,a4,c4,a5,c5,a6,c6,a7,c7,a8,c8,e1,e2,e3,e4,e5,e6,e7,e8⟩:=bJ.opened h;have R:=zq (show decide (1024<L.bulk)=decide ((1024:Int)<(((((((L.aO.length:Int)+L.ah.length)+L.af.length)+L.aB.length)+L.orders.length)+L.aF.length)+L.aK.length)+L.ai.length) from by
  unfold aH.bulk;rw[Bool.eq_iff_iff];simp only[decide_eq_true_eq];omega)
 rw[R.o];unfold aC.val aC.cells;rw[e1,e2,e3,e4,e5,e6,e7,e8];obtain⟨n1,hn1⟩:=Zn L.aO.length;obtain⟨n2,hn2⟩:=Zn L.ah.length;obtain⟨n3,hn3⟩:=Zn L.af.length;obtain⟨n4,hn4⟩:=Zn L.ai.length;obtain⟨n5,hn5⟩:=Zn L.aB.length;obtain⟨n6,hn6⟩:=Zn L.orders.length;obtain⟨n7,hn7⟩:=Zn L.aF.length;obtain⟨n8,hn8⟩:=Zn L.aK.length;rw[<-hn1] at b1;rw[<-hn2] at b2;rw[<-hn3] at b3;rw[<-hn4] at b4;rw[<-hn5] at b5;rw[<-hn6] at b6;rw[<-hn7] at b7;rw[<-hn8] at b8;rw[<-hn1,<-hn2,<-hn3,<-hn4,<-hn5,<-hn6,<-hn7,<-hn8];clear h e1 e2 e3 e4 e5 e6 e7 e8 hn1 hn2 hn3 hn4 hn5 hn6 hn7 hn8 R
 go_enter Tryz.func12,Tryz.ntmps12
 go_wp2_with fail
 go_ret;exact⟨rfl,Zb⟩
end Go.Proofs.YtfknkmlocbojhaaGreatDoor
namespace Go.Bw
theorem zH (x:Int):bits .and .i64 x 3=x % 4:=by
 have h:bits .and .i64 x 3=IntKind.i64.wrap (((x % 18446744073709551616).toNat &&& 3:Nat):Int):=by
  simp only[bits,IntKind.bits,BitVec.toNat_and,BitVec.toNat_ofInt]
  rfl
 rw[h,show (3:Nat)=2 ^ 2 - 1 from rfl,Nat.and_two_pow_sub_one_eq_mod,IntKind.wrap_i64];omega
structure qB where
 kind:Int
 u:Int
 a:Int
 b:Int
 s:ByteArray
def qB.cells (c:qB):Array Value:=#[.int .i64 c.kind,.int .i64 c.u,.int .i64 c.a,.int .i64 c.b,.string c.s]
def qB.k (c:qB):Nat:=(c.kind % 4).toNat
noncomputable def qB.KO (L:aH) (c:qB):wu:=iV L c.k c.u c.a c.b c.s
end Go.Bw
namespace Go.Proofs.YtfknkmlocbojhaaGreatDoor
open Go.RowKit Go.Bw Go.Maps Go.Shelf Go.Bw.Fall
theorem lG (w:World) (V:aC) (L:aH) (h:bJ w V L) (hL:L.ai.length<=1024) (hGr:nM w) (c:qB) (hs:c.s.size<=maxLen) (ha:I64 c.a) (hb2:I64 c.b) :
 Calls Tryz.prog 23 #[V.val L,.agg c.cells] w (pF w (dV L (c.KO L))):=by
 have LC:=zq (ig h);have C0:=zq (fun W (hb:Below w.heap.size w W)=>DU W V L (h.below hb) hL (hGr.below hb) );have C1:=zq (fun W (hb:Below w.heap.size w W)=>qL W V L (h.below hb) hL (hGr.below hb) c.u c.a c.b ha hb2);have C2:=zq (fun W (hb:Below w.heap.size w W)=>uX W V L (h.below hb) hL (hGr.below hb) c.u c.a);have C3:=zq (fun W (hb:Below w.heap.size w W)=>Aw W V L (h.below hb) hL (hGr.below hb) c.u c.s hs);unfold aC.val at C0 C1 C2 C3 ⊢;obtain⟨C,hC⟩:=Zn (V.cells L);rw[<-hC] at C0 C1 C2 C3 LC ⊢;unfold qB.cells;obtain⟨W0,hW0⟩:=Zn (((w.alloc (.cells C 31)).alloc (.cells #[.int .i64 c.kind,.int .i64 c.u,.int .i64 c.a,.int .i64 c.b,.string c.s] 41)).alloc (.cells #[.int .i64 0,.slice none 0 0,.slice none 0 0,.slice none 0 0,.slice none 0 0,.slice none 0 0,.slice none 0 0,.slice none 0 0,.slice none 0 0] 31));obtain⟨b0,hb0⟩:=Zn w.heap.size;have X0:=zq (show At w W0 [(b0, 31,C),(b0+1, 41,#[.int .i64 c.kind,.int .i64 c.u,.int .i64 c.a,.int .i64 c.b,.string c.s]),(b0+1+1, 31,dF)] from by
  have a:=(((At.start w).alloc 31 C).alloc 41 #[.int .i64 c.kind,.int .i64 c.u,.int .i64 c.a,.int .i64 c.b,.string c.s]).alloc 31 #[.int .i64 0,.slice none 0 0,.slice none 0 0,.slice none 0 0,.slice none 0 0,.slice none 0 0,.slice none 0 0,.slice none 0 0,.slice none 0 0];have e:∀ (w:World) (o:Obj),(w.alloc o).heap.size=w.heap.size+1:=fun w o=>by simp
  simp only[e] at a
  rw[<-hW0,<-hb0] at a;exact a)
 have z0:W0.cell? ⟨b0+1,0,none⟩=some (.int .i64 c.kind):=X0.o.cell 1 rfl 0 rfl;have KK:=zq (show ((c.k:Nat):Int)=c.kind % 4/\c.k<4 from by unfold qB.k;omega);unfold qB.KO;obtain⟨k,hk⟩:=Zn c.k;rw[<-hk] at KK ⊢;have HB:=zq hb0;have HW:=zq hW0;clear h hL hGr hC hk hs ha hb2 hW0 hb0;have ch:k=0\/k=1\/k=2\/k=3:=by have:=KK.o.2;omega
 rcases ch with rfl|rfl|rfl|rfl
 ·skip;have hb3:bits .and .i64 c.kind 3=0:=by rw[zH];exact KK.o.1.symm
  obtain⟨M,num,er,hM⟩:∃ M num er,dV L (iV L 0 c.u c.a c.b c.s)=(M,num,er):=⟨_,_,_,rfl⟩;have CC:=zq (C0.o W0 X0.o.low);have hM':dV L (jq L)=(M,num,er):=hM;rw[hM'] at CC;rw[hM];clear C0 C1 C2 C3 KK hM hM'
  go_enter Tryz.func23,Tryz.ntmps23
  go_upto_region 1 with (fail)
  rw[<-HB.o,<-HW.o]
  go_upto_region 3 with (fail)
  clear z0
  go_wp2_with (refine bW (X0.o.get 0 rfl) LC.o rfl rfl rfl ?_)
  refine CC.o.mono ?_;rintro e w2 ⟨U,rfl,own,hb⟩;have OW:=zq own;have A2:=zq (X0.o.go hb);have LU:=zq (ig own.led);have A3:=zq (A2.o.setRow 2 rfl (U.cells M));have S0:=zq (show b0+1+1<W0.heap.size/\w.heap.size<=W0.heap.size from ⟨X0.o.lt (b0+1+1, 31,dF) (by simp),X0.o.low.size⟩);unfold aC.val;clear own hb ;go_simp
  go_wp2_with (refine bV (A2.o.get 2 rfl) dU LU.o rfl rfl rfl rfl ?_)
  refine bodyPost_ret (gm rfl _ _ (A3.o.get 2 rfl) LU.o rfl) rfl ⟨U,rfl,?_,A3.o.low⟩;exact aZ.base (OW.o.mod (bQ (w:=w2) (b0+1+1) _) (fun k hk _ e=>by have:=S0.o;omega)) S0.o.2
 ·skip;have hb3:bits .and .i64 c.kind 3=1:=by rw[zH];exact KK.o.1.symm
  obtain⟨M,num,er,hM⟩:∃ M num er,dV L (iV L 1 c.u c.a c.b c.s)=(M,num,er):=⟨_,_,_,rfl⟩;have CC:=zq (C1.o W0 X0.o.low);have hM':dV L (bZ L c.u c.a c.b)=(M,num,er):=hM;rw[hM'] at CC;rw[hM];clear C0 C1 C2 C3 KK hM hM'
  go_enter Tryz.func23,Tryz.ntmps23
  go_upto_region 1 with (fail)
  rw[<-HB.o,<-HW.o]
  go_upto_region 5 with (fail)
  clear z0;have z1:W0.cell? ⟨b0+1,1,none⟩=some (.int .i64 c.u):=X0.o.cell 1 rfl 1 rfl;have z2:W0.cell? ⟨b0+1,2,none⟩=some (.int .i64 c.a):=X0.o.cell 1 rfl 2 rfl;have z3:W0.cell? ⟨b0+1,3,none⟩=some (.int .i64 c.b):=X0.o.cell 1 rfl 3 rfl
  go_wp2_with (refine bW (X0.o.get 0 rfl) LC.o rfl rfl rfl ?_)
  refine CC.o.mono ?_;rintro e w2 ⟨U,rfl,own,hb⟩;have OW:=zq own;have A2:=zq (X0.o.go hb);have LU:=zq (ig own.led);have A3:=zq (A2.o.setRow 2 rfl (U.cells M));have S0:=zq (show b0+1+1<W0.heap.size/\w.heap.size<=W0.heap.size from ⟨X0.o.lt (b0+1+1, 31,dF) (by simp),X0.o.low.size⟩);unfold aC.val;clear own hb z1 z2 z3;go_simp
  go_wp2_with (refine bV (A2.o.get 2 rfl) dU LU.o rfl rfl rfl rfl ?_)
  refine bodyPost_ret (gm rfl _ _ (A3.o.get 2 rfl) LU.o rfl) rfl ⟨U,rfl,?_,A3.o.low⟩;exact aZ.base (OW.o.mod (bQ (w:=w2) (b0+1+1) _) (fun k hk _ e=>by have:=S0.o;omega)) S0.o.2
 ·skip;have hb3:bits .and .i64 c.kind 3=2:=by rw[zH];exact KK.o.1.symm
  obtain⟨M,num,er,hM⟩:∃ M num er,dV L (iV L 2 c.u c.a c.b c.s)=(M,num,er):=⟨_,_,_,rfl⟩;have CC:=zq (C2.o W0 X0.o.low);have hM':dV L (iT L c.u c.a)=(M,num,er):=hM;rw[hM'] at CC;rw[hM];clear C0 C1 C2 C3 KK hM hM'
  go_enter Tryz.func23,Tryz.ntmps23
  go_upto_region 1 with (fail)
  rw[<-HB.o,<-HW.o]
  go_upto_region 7 with (fail)
  clear z0;have z1:W0.cell? ⟨b0+1,1,none⟩=some (.int .i64 c.u):=X0.o.cell 1 rfl 1 rfl;have z2:W0.cell? ⟨b0+1,2,none⟩=some (.int .i64 c.a):=X0.o.cell 1 rfl 2 rfl
  go_wp2_with (refine bW (X0.o.get 0 rfl) LC.o rfl rfl rfl ?_)
  refine CC.o.mono ?_;rintro e w2 ⟨U,rfl,own,hb⟩;have OW:=zq own;have A2:=zq (X0.o.go hb);have LU:=zq (ig own.led);have A3:=zq (A2.o.setRow 2 rfl (U.cells M));have S0:=zq (show b0+1+1<W0.heap.size/\w.heap.size<=W0.heap.size from ⟨X0.o.lt (b0+1+1, 31,dF) (by simp),X0.o.low.size⟩);unfold aC.val;clear own hb z1 z2;go_simp
  go_wp2_with (refine bV (A2.o.get 2 rfl) dU LU.o rfl rfl rfl rfl ?_)
  refine bodyPost_ret (gm rfl _ _ (A3.o.get 2 rfl) LU.o rfl) rfl ⟨U,rfl,?_,A3.o.low⟩;exact aZ.base (OW.o.mod (bQ (w:=w2) (b0+1+1) _) (fun k hk _ e=>by have:=S0.o;omega)) S0.o.2
 skip;have hb3:bits .and .i64 c.kind 3=3:=by rw[zH];exact KK.o.1.symm
 obtain⟨M,num,er,hM⟩:∃ M num er,dV L (iV L 3 c.u c.a c.b c.s)=(M,num,er):=⟨_,_,_,rfl⟩;have CC:=zq (C3.o W0 X0.o.low);have hM':dV L (iD L c.u c.s)=(M,num,er):=hM;rw[hM'] at CC;rw[hM];clear C0 C1 C2 C3 KK hM hM'
 go_enter Tryz.func23,Tryz.ntmps23
 go_upto_region 1 with (fail)
 rw[<-HB.o,<-HW.o]
 go_upto_region 8 with (fail)
 clear z0;have z1:W0.cell? ⟨b0+1,1,none⟩=some (.int .i64 c.u):=X0.o.cell 1 rfl 1 rfl;have z4:W0.cell? ⟨b0+1,4,none⟩=some (.string c.s):=X0.o.cell 1 rfl 4 rfl
 go_wp2_with (refine bW (X0.o.get 0 rfl) LC.o rfl rfl rfl ?_)
 refine CC.o.mono ?_;rintro e w2 ⟨U,rfl,own,hb⟩;have OW:=zq own;have A2:=zq (X0.o.go hb);have LU:=zq (ig own.led);have A3:=zq (A2.o.setRow 2 rfl (U.cells M));have S0:=zq (show b0+1+1<W0.heap.size/\w.heap.size<=W0.heap.size from ⟨X0.o.lt (b0+1+1, 31,dF) (by simp),X0.o.low.size⟩);unfold aC.val;clear own hb z1 z4;go_simp
 go_wp2_with (refine bV (A2.o.get 2 rfl) dU LU.o rfl rfl rfl rfl ?_)
 refine bodyPost_ret (gm rfl _ _ (A3.o.get 2 rfl) LU.o rfl) rfl ⟨U,rfl,?_,A3.o.low⟩;exact aZ.base (OW.o.mod (bQ (w:=w2) (b0+1+1) _) (fun k hk _ e=>by have:=S0.o;omega)) S0.o.2
end Go.Proofs.YtfknkmlocbojhaaGreatDoor

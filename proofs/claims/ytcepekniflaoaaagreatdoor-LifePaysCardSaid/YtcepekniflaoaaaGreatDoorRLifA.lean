/- The document's life: no, Worth, Cur, gone, quantity. -/
import Derived.Test.YtcepekniflaoaaaGreatDoorHr
import Derived.Test.YtcepekniflaoaaaGreatDoorHd
import Derived.Test.YtcepekniflaoaaaGreatDoorGd
set_option linter.unusedVariables false
set_option linter.unusedSimpArgs false
set_option maxRecDepth 100000
set_option maxHeartbeats 2000000
namespace Go.Proofs.YtcepekniflaoaaaGreatDoor
open Go.RowKit Go.Bw Go.Maps Go.Shelf Go.Bw.Fall
theorem gV (er:Int) (w:World):Calls Tryz.prog 32 #[.int .i64 er] w fun e w'=>e=.returned (.tuple #[.agg bF,.int .i64 0,.int .i64 er])/\Below w.heap.size w w':=by
 have hb:=rQ
 go_enter Tryz.func32,Tryz.ntmps32
 go_wp2_with (refine aZ (cs:=bF) (heap_alloc_last _ _) bI bI rfl rfl rfl rfl ?_;rw[World.setRow_alloc_new])
 refine bodyPost_ret (bZ (cs:=bF) rfl _ _ (heap_alloc_last _ _) bI rfl) rfl ⟨rfl,Zb⟩
theorem Af (w:World) (V:aC) (L:aI) (h:bJ w V L) (n:Nat) (hn:n<L.af.length) (q v:Int) :
 Calls Tryz.prog 34 #[V.val L,.int .i64 (n:Int),.int .i64 q,.int .i64 v] w fun e w'=>e=.returned (.tuple #[.int .i64 (dQ (L.ins n) q v).1,.int .i64 (dQ (L.ins n) q v).2])/\Below w.heap.size w w':=by
 obtain⟨m,hm⟩:=Zn ((L.ins n).mult);obtain⟨x1,e1,h1⟩:∃ x e,eX q m=(x,e):=⟨_,_,rfl⟩;obtain⟨x2,e2,h2⟩:∃ x e,eX x1 v=(x,e):=⟨_,_,rfl⟩;obtain⟨R,hR⟩:=Zn (dQ (L.ins n) q v);have R1:=zq (show e1≠0->R=(0,e1) from fun h=>by rw[hR];unfold dQ;rw[<-hm,h1,if_neg h]);have R2:=zq (show e1=0->R=(x2,e2) from fun h=>by rw[hR];unfold dQ;rw[<-hm,h1,if_pos h,h2]);have C1:=zq (fun W=>qi q m W);have C2:=zq (fun W=>qi x1 v W);rw[h1] at C1;rw[h2] at C2;rw[<-hR];unfold aC.val;obtain⟨C,hC⟩:=Zn (V.cells L);rw[<-hC];obtain⟨b3,o3,c3,e3,h3⟩:=h.af.place (aI.kY hn);obtain⟨n3,hn3⟩:=Zn L.af.length;rw[<-hn3] at e3 hn;obtain⟨W0,hW0⟩:=Zn (w.alloc (.cells C 31));obtain⟨b0,hb0⟩:=Zn w.heap.size;have BB:=zq (show Below w.heap.size w W0 from by rw[hW0];exact Zb);have y3:W0.cell? ⟨b0,3,none⟩=some (.slice (some ⟨b3,o3,none⟩) n3 c3):=by rw[hW0,hb0,<-e3];exact (cell_of_heap (heap_alloc_new w _) 3).trans (by rw[hC];rfl)
 have q2:W0.cell? ⟨b3,o3+n*7+2,none⟩=some (.int .i64 m):=by rw[hW0,hm];exact ((Mod.refl (fun _=>False) w).alloc _).cell (h3 2 _ rfl) (fun h=>h)
 have k0:(0:Int)<=(n:Int):=by omega
 have k1:(n:Int)<(n3:Int):=by omega
 clear h hn hm h1 h2 hR hC e3 h3 hn3
 go_enter Tryz.func34,Tryz.ntmps34
 go_upto_region 1 with (fail)
 rw[<-hW0,<-hb0];clear hW0 hb0
 go_wp2_with fail
 refine (C1.o _).mono ?_;rintro e w1 ⟨rfl,hb⟩;have B1:=zq (BB.o.trans (hb.mono BB.o.size));clear hb;by_cases hz:e1=0
 ·have RE:=zq (R2.o hz);subst hz;clear R1 R2 C1 y3 q2
  go_wp2_with fail
  refine (C2.o _).mono ?_;rintro e w2 ⟨rfl,hb⟩;have B2:=zq (B1.o.trans (hb.mono B1.o.size));clear hb
  go_wp2_with fail
  go_ret2;exact⟨by rw[RE.o] <;> rfl,B2.o⟩
 have RE:=zq (R1.o hz);have hz':(e1 != 0)=true:=by rw[bne_iff_ne];exact hz
 clear R1 R2 C1 y3 q2 hz
 go_wp2_with fail
 go_ret2;exact⟨by rw[RE.o] <;> rfl,B1.o⟩
theorem FO (w:World) (V:aC) (L:aI) (h:bJ w V L) (hG:L.gW) (n:Nat) (hn:n<L.af.length) :
 Calls Tryz.prog 38 #[V.val L,.int .i64 (n:Int)] w fun e w'=>e=.returned (.int .i64 (L.dI n))/\Below w.heap.size w w':=by
 obtain⟨m,e1,hm,hu⟩:=hG.NR hn;obtain⟨b3,o3,c3,e3,h3⟩:=h.af.place (aI.kY hn);obtain⟨b2,o2,c2,e2,h2⟩:=h.ah.place hu;obtain⟨n3,hn3⟩:=Zn L.af.length;obtain⟨n2,hn2⟩:=Zn L.ah.length;rw[<-hn3] at e3 hn;rw[<-hn2] at e2 hm;obtain⟨r,hr⟩:=Zn (L.dI n);unfold aC.val;obtain⟨C,hC⟩:=Zn (V.cells L);rw[<-hC];obtain⟨W0,hW0⟩:=Zn (w.alloc (.cells C 31));obtain⟨b0,hb0⟩:=Zn w.heap.size;have BB:=zq (show Below w.heap.size w W0.drew from by rw[hW0];exact ((Mod.of_below (Zb)).drew).aS);have hal:∀ {a u},w.cell? a=some u->W0.cell? a=some u:=fun h=>by rw[hW0];exact ((Mod.refl (fun _=>False) w).alloc _).cell h (fun h=>h)
 have y3:W0.cell? ⟨b0,3,none⟩=some (.slice (some ⟨b3,o3,none⟩) n3 c3):=by rw[hW0,hb0,<-e3];exact (cell_of_heap (heap_alloc_new w _) 3).trans (by rw[hC];rfl)
 have y2:W0.cell? ⟨b0,2,none⟩=some (.slice (some ⟨b2,o2,none⟩) n2 c2):=by rw[hW0,hb0,<-e2];exact (cell_of_heap (heap_alloc_new w _) 2).trans (by rw[hC];rfl)
 have q1:W0.cell? ⟨b3,o3+n*7+1,none⟩=some (.int .i64 (m:Int)):=hal (by rw[<-e1];exact h3 1 _ rfl);have q2:W0.cell? ⟨b2,o2+m*4+1,none⟩=some (.int .i64 r):=hal (by rw[hr];exact h2 1 _ rfl);rw[<-hr];have k0:(0:Int)<=(n:Int):=by omega
 have k1:(n:Int)<(n3:Int):=by omega
 have m0:(0:Int)<=(m:Int):=by omega
 have m1:(m:Int)<(n2:Int):=by omega
 clear h hG hu h3 h2 hn3 hn2 e1 e2 e3 hr hn hm hC hal
 go_enter Tryz.func38,Tryz.ntmps38
 go_upto_region 1 with (fail)
 rw[<-hW0,<-hb0];clear hW0 hb0;refine aG.wz [] [] (.step 0 (.step 1 (.step 2 (.step 3 (.step 4 (.step 5 (.step 6 (.step 7 (.step 8 (.step 9 (.step 10 (.step 11 .leaf)))))))))))) (by kernel_rfl) (by kernel_rfl) ?_;refine aG.aB [0,1,2,3,4,5,6,7,8,9,10,11] (by kernel_rfl) ?_
 simp only[au,nth]
 repeat (go_big_quiet_step (fail))
 refine wpQuiet_nil ?_;refine aG.bG ?_
 go_wp2_with fail
 go_ret;exact⟨rfl,BB.o⟩
end Go.Proofs.YtcepekniflaoaaaGreatDoor

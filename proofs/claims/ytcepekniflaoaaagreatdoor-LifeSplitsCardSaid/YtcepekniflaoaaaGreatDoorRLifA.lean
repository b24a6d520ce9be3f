/- The document's life: no, Worth, Cur, gone, quantity. -/
import Derived.Test.YtcepekniflaoaaaGreatDoorHr
import Derived.Test.YtcepekniflaoaaaGreatDoorHd
import Derived.Test.YtcepekniflaoaaaGreatDoorGd
set_option linter.unusedVariables false
set_option linter.unusedSimpArgs false
set_option maxRecDepth 100000
set_option maxHeartbeats 2000000
namespace Go.Proofs.YtcepekniflaoaaaGreatDoor
open Go.RowKit Go.Bw Go.Maps Go.Shelf Go.Bw.Fall
theorem fU (er:Int) (w:World):Calls Tryz.prog 32 #[.int .i64 er] w fun e w'=>e=.returned (.tuple #[.agg aZ,.int .i64 0,.int .i64 er])/\Below w.heap.size w w':=by
 have hb:=sN
 go_enter Tryz.func32,Tryz.ntmps32
 go_wp2_with (refine aW (cs:=aZ) (heap_alloc_last _ _) bG bG rfl rfl rfl rfl ?_;rw[World.setRow_alloc_new])
 refine bodyPost_ret (bZ (cs:=aZ) rfl _ _ (heap_alloc_last _ _) bG rfl) rfl ⟨rfl,Zb⟩
theorem ug (w:World) (V:aB) (L:aH) (h:bK w V L) (n:Nat) (hn:n<L.af.length) (q v:Int) :
 Calls Tryz.prog 34 #[V.val L,.int .i64 (n:Int),.int .i64 q,.int .i64 v] w fun e w'=>e=.returned (.tuple #[.int .i64 (dZ (L.ins n) q v).1,.int .i64 (dZ (L.ins n) q v).2])/\Below w.heap.size w w':=by
 obtain⟨m,hm⟩:=Zn ((L.ins n).mult);obtain⟨x1,e1,h1⟩:∃ x e,fG q m=(x,e):=⟨_,_,rfl⟩;obtain⟨x2,e2,h2⟩:∃ x e,fG x1 v=(x,e):=⟨_,_,rfl⟩;obtain⟨R,hR⟩:=Zn (dZ (L.ins n) q v);have R1:=zq (show e1≠0->R=(0,e1) from fun h=>by rw[hR];unfold dZ;rw[<-hm,h1,if_neg h]);have R2:=zq (show e1=0->R=(x2,e2) from fun h=>by rw[hR];unfold dZ;rw[<-hm,h1,if_pos h,h2]);have C1:=zq (fun W=>qJ q m W);have C2:=zq (fun W=>qJ x1 v W);rw[h1] at C1;rw[h2] at C2;rw[<-hR];unfold aB.val;obtain⟨C,hC⟩:=Zn (V.cells L);rw[<-hC];obtain⟨b3,o3,c3,e3,h3⟩:=h.af.place (aH.jE hn);obtain⟨n3,hn3⟩:=Zn L.af.length;rw[<-hn3] at e3 hn;obtain⟨W0,hW0⟩:=Zn (w.alloc (.cells C 31));obtain⟨b0,hb0⟩:=Zn w.heap.size;have BB:=zq (show Below w.heap.size w W0 from by rw[hW0];exact Zb);have y3:W0.cell? ⟨b0,3,none⟩=some (.slice (some ⟨b3,o3,none⟩) n3 c3):=by rw[hW0,hb0,<-e3];exact (cell_of_heap (heap_alloc_new w _) 3).trans (by rw[hC];rfl)
 have q2:W0.cell? ⟨b3,o3+n*7+2,none⟩=some (.int .i64 m):=by rw[hW0,hm];exact ((Mod.refl (fun _=>False) w).alloc _).cell (h3 2 _ rfl) (fun h=>h)
 have k0:(0:Int)<=(n:Int):=by omega
 have k1:(n:Int)<(n3:Int):=by omega
 clear h hn hm h1 h2 hR hC e3 h3 hn3
 go_enter Tryz.func34,Tryz.ntmps34
 go_upto_region 1 with (fail)
 rw[<-hW0,<-hb0];clear hW0 hb0
 go_wp2_with fail
 refine (C1.o _).mono ?_;rintro e w1 ⟨rfl,hb⟩;have B1:=zq (BB.o.trans (hb.mono BB.o.size));clear hb;by_cases hz:e1=0
 ·have RE:=zq (R2.o hz);subst hz;clear R1 R2 C1 y3 q2
  go_wp2_with fail
  refine (C2.o _).mono ?_;rintro e w2 ⟨rfl,hb⟩;have B2:=zq (B1.o.trans (hb.mono B1.o.size));clear hb
  go_wp2_with fail
  go_ret2;exact⟨by rw[RE.o] <;> rfl,B2.o⟩
 have RE:=zq (R1.o hz);have hz':(e1 != 0)=true:=by rw[bne_iff_ne];exact hz
 clear R1 R2 C1 y3 q2 hz
 go_wp2_with fail
 go_ret2;exact⟨by rw[RE.o] <;> rfl,B1.o⟩
theorem Gi (w:World) (V:aB) (L:aH) (h:bK w V L) (hG:L.gZ) (n:Nat) (hn:n<L.af.length) :
 Calls Tryz.prog 38 #[V.val L,.int .i64 (n:Int)] w fun e w'=>e=.returned (.int .i64 (L.dG n))/\Below w.heap.size w w':=by
 obtain⟨m,e1,hm,hu⟩:=hG.Oj hn;obtain⟨b3,o3,c3,e3,h3⟩:=h.af.place (aH.jE hn);obtain⟨b2,o2,c2,e2,h2⟩:=h.ah.place hu;obtain⟨n3,hn3⟩:=Zn L.af.length;obtain⟨n2,hn2⟩:=Zn L.ah.length;rw[<-hn3] at e3 hn;rw[<-hn2] at e2 hm;obtain⟨r,hr⟩:=Zn (L.dG n);unfold aB.val;obtain⟨C,hC⟩:=Zn (V.cells L);rw[<-hC];obtain⟨W0,hW0⟩:=Zn (w.alloc (.cells C 31));obtain⟨b0,hb0⟩:=Zn w.heap.size;have BB:=zq (show Below w.heap.size w W0.drew from by rw[hW0];exact ((Mod.of_below (Zb)).drew).aU);have hal:∀ {a u},w.cell? a=some u->W0.cell? a=some u:=fun h=>by rw[hW0];exact ((Mod.refl (fun _=>False) w).alloc _).cell h (fun h=>h)
 have y3:W0.cell? ⟨b0,3,none⟩=some (.slice (some ⟨b3,o3,none⟩) n3 c3):=by rw[hW0,hb0,<-e3];exact (cell_of_heap (heap_alloc_new w _) 3).trans (by rw[hC];rfl)
 have y2:W0.cell? ⟨b0,2,none⟩=some (.slice (some ⟨b2,o2,none⟩) n2 c2):=by rw[hW0,hb0,<-e2];exact (cell_of_heap (heap_alloc_new w _) 2).trans (by rw[hC];rfl)
 have q1:W0.cell? ⟨b3,o3+n*7+1,none⟩=some (.int .i64 (m:Int)):=hal (by rw[<-e1];exact h3 1 _ rfl);have q2:W0.cell? ⟨b2,o2+m*4+1,none⟩=some (.int .i64 r):=hal (by rw[hr];exact h2 1 _ rfl);rw[<-hr];have k0:(0:Int)<=(n:Int):=by omega
 have k1:(n:Int)<(n3:Int):=by omega
 have m0:(0:Int)<=(m:Int):=by omega
 have m1:(m:Int)<(n2:Int):=by omega
 clear h hG hu h3 h2 hn3 hn2 e1 e2 e3 hr hn hm hC hal
 go_enter Tryz.func38,Tryz.ntmps38
 go_upto_region 1 with (fail)
 rw[<-hW0,<-hb0];clear hW0 hb0;refine aI.wz [] [] (.step 0 (.step 1 (.step 2 (.step 3 (.step 4 (.step 5 (.step 6 (.step 7 (.step 8 (.step 9 (.step 10 (.step 11 .leaf)))))))))))) (by kernel_rfl) (by kernel_rfl) ?_;refine aI.aC [0,1,2,3,4,5,6,7,8,9,10,11] (by kernel_rfl) ?_
 simp only[ay,nth]
 repeat (go_big_quiet_step (fail))
 refine wpQuiet_nil ?_;refine aI.bH ?_
 go_wp2_with fail
 go_ret;exact⟨rfl,BB.o⟩
theorem rW (q num den:Int) (w:World) :
 Calls Tryz.prog 35 #[.int .i64 q,.int .i64 num,.int .i64 den] w fun e w'=>(∃ x,e=.returned (.tuple #[.int .i64 x,.int .i64 (bY num den q).2])/\((bY num den q).2=0->x=(bY num den q).1))/\Below w.heap.size w w':=by
 obtain⟨x,er,hx⟩:∃ x e,iT q num den 2=(x,e):=⟨_,_,rfl⟩;have C1:=zq (fun W=>kK q num den 2 W);rw[hx] at C1;obtain⟨S,hS⟩:=Zn (bY num den q);have S1:=zq (show er≠0->S=(0,er) from fun h=>by rw[hS];unfold bY;rw[hx,if_neg h]);have S2:=zq (show er=0->(-1000000000<=x/\x<=1000000000)->S=(x,0) from fun h h2=>by rw[hS];unfold bY;rw[hx,if_pos h,if_pos h2]);have S3:=zq (show er=0->(x < -1000000000\/1000000000<x)->S=(0,36) from fun h h2=>by rw[hS];unfold bY;rw[hx,if_pos h,if_neg (by simp only;omega)]);have INX:=zq (show (-1000000000<=x/\x<=1000000000)\/x < -1000000000\/(-1000000000<=x/\1000000000<x) from by omega);rw[<-hS];clear hx hS
 go_enter Tryz.func35,Tryz.ntmps35
 go_wp2_with fail
 refine (C1.o _).mono ?_;rintro e w1 ⟨rfl,hb⟩;have BB:=zq hb;clear hb C1;by_cases hz:er=0
 ·have T2:=zq (S2.o hz);have T3:=zq (S3.o hz);subst hz;clear S1 S2 S3;rcases INX.o with h|h|h
  ·have ES:=zq (T2.o h);have d1:decide (1000000000<x)=false:=Zf (by omega);have d2:decide (x < -1000000000)=false:=Zf (by omega);clear h INX T2 T3
   go_wp2_with fail
   go_ret2;exact⟨⟨x,by rw[ES.o] <;> rfl,fun _=>by rw[ES.o]⟩,BB.o⟩
  ·have ES:=zq (T3.o (Or.inl h));have d1:decide (1000000000<x)=false:=Zf (by omega);have d2:decide (x < -1000000000)=true:=decide_eq_true (by omega);clear h INX T2 T3
   go_wp2_with fail
   go_ret2;exact⟨⟨x,by rw[ES.o] <;> rfl,fun h=>by rw[ES.o] at h;cases h⟩,BB.o⟩
  have ES:=zq (T3.o (Or.inr h.2));have d1:decide (1000000000<x)=true:=decide_eq_true (by omega);clear h INX T2 T3
  go_wp2_with fail
  go_ret2;exact⟨⟨x,by rw[ES.o] <;> rfl,fun h=>by rw[ES.o] at h;cases h⟩,BB.o⟩
 have ES:=zq (S1.o hz);have HZ:=zq hz;have hz':(er==0)=false:=by simp[hz]
 clear S1 S2 S3 hz INX
 go_wp2_with fail
 go_ret2;exact⟨⟨x,by rw[ES.o] <;> rfl,fun h=>by rw[ES.o] at h;exact absurd h HZ.o⟩,BB.o⟩
end Go.Proofs.YtcepekniflaoaaaGreatDoor

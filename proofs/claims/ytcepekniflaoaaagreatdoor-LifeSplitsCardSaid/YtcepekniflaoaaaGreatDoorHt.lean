/- Joined: LifTDiv, LifTName, LifTDay, LifTSplit. -/
import Derived.Test.YtcepekniflaoaaaGreatDoorLifJ
import Derived.Test.YtcepekniflaoaaaGreatDoorHp
import Derived.Test.YtcepekniflaoaaaGreatDoorLifI
import Derived.Test.YtcepekniflaoaaaGreatDoorLifL
import Derived.Test.YtcepekniflaoaaaGreatDoorHn
set_option linter.unusedVariables false
set_option linter.unusedSimpArgs false
set_option maxRecDepth 100000
set_option maxHeartbeats 4000000
namespace Go.Proofs.YtcepekniflaoaaaGreatDoor
open Go.RowKit Go.Bw Go.Maps Go.Shelf Go.Bw.Fall
theorem Fh (w:World) (V:aB) (L:aH) (h:bK w V L) (hL:L.ai.length<=1024) (hGr:rF w) (u:Int) (x:Int) :
 Calls Tryz.prog 11 #[V.val L,.int .i64 u,.int .i64 x] w (pV w (jM L (mX L u x))):=by
 have LC:=zq (iC h);have EN:Enters Tryz.prog 44:=enters_of Tryz.func44 (by kernel_rfl) rfl;have CH:=zq (fun W1 bs0 bs1 (hA:At w W1 (bs0++bs1)) lb (hr:L.Good->pX w L 44 lb bs0 (mX L u x))=>vI w W1 V L (h.below hA.low) hL hGr bs0 bs1 hA 44 lb EN (mX L u x) hr (fun hg he=>by have:=(iq (yX hg he)).2.2;omega));have CL:=zq (fun (hG:L.Good)=>Rt w L hG u x);unfold aB.val at CH ⊢;obtain⟨C,hC⟩:=Zn (V.cells L);rw[<-hC] at CH LC ⊢;obtain⟨ad,had⟩:=Zn (jM L (mX L u x));rw[<-had] at CH ⊢;obtain⟨W0,hW0⟩:=Zn ((((w.alloc (.cells C 31)).alloc (.cells #[.int .i64 u] 3)).alloc (.cells #[.int .i64 x] 3)).alloc (.cells #[.int .i64 0,.slice none 0 0,.slice none 0 0,.slice none 0 0,.slice none 0 0,.slice none 0 0,.slice none 0 0,.slice none 0 0,.slice none 0 0] 31));obtain⟨b0,hb0⟩:=Zn w.heap.size;have X0:=zq (show At w W0 [(b0, 31,C),(b0+1, 3,#[.int .i64 u]),(b0+1+1, 3,#[.int .i64 x]),(b0+1+1+1, 31,aZ)] from by
  have a:=(((((At.start w).alloc 31 C).alloc 3 #[.int .i64 u]).alloc 3 #[.int .i64 x]).alloc 31 #[.int .i64 0,.slice none 0 0,.slice none 0 0,.slice none 0 0,.slice none 0 0,.slice none 0 0,.slice none 0 0,.slice none 0 0,.slice none 0 0]);have e:∀ (w:World) (o:Obj),(w.alloc o).heap.size=w.heap.size+1:=fun w o=>by simp
  simp only[e] at a
  rw[<-hW0,<-hb0] at a;exact a)
 have X1:=zq (show At w W0 ([(b0+1, 3,#[.int .i64 u]),(b0+1+1, 3,#[.int .i64 x])]++[(b0, 31,C),(b0+1+1+1, 31,aZ)]) from At.subset X0.o (fun x hx=>by
  simp only[List.cons_append,List.nil_append,List.mem_cons,List.not_mem_nil,or_false] at hx ⊢
  rcases hx with rfl|rfl|rfl|rfl <;> simp) (by simp <;> omega))
 have CALL:=zq (CH.o W0 [(b0+1, 3,#[.int .i64 u]),(b0+1+1, 3,#[.int .i64 x])] [(b0, 31,C),(b0+1+1+1, 31,aZ)] X1.o #[.pointer (some ⟨b0+1,0,none⟩),.pointer (some ⟨b0+1+1,0,none⟩)] (fun hG=>CL.o hG (b0+1) (b0+1+1)));have HB:=zq hb0;clear h hL hGr hC had CH CL EN
 go_enter Tryz.func11,Tryz.ntmps11
 go_upto_region 1 with (fail)
 rw[<-hW0,<-hb0];clear hW0 hb0
 go_wp2_with (refine bW (X0.o.get 0 rfl) LC.o rfl rfl rfl ?_)
 refine CALL.o.mono ?_;rintro e w2 ⟨⟨U,rfl,own⟩,A⟩;have OW:=zq own;have A2:=zq A;have S0:=zq (show b0+1+1+1<W0.heap.size from X0.o.lt (b0+1+1+1, 31,aZ) (by simp));have LU:=zq (iC own.led);unfold aB.val;clear own A CALL;go_simp
 go_wp2_with (refine aW (A2.o.get 1 rfl) bG LU.o rfl rfl rfl rfl ?_)
 refine bodyPost_ret (bZ rfl _ _ (setRow_heap _ _ _ _ _ _ (A2.o.get 1 rfl)) LU.o rfl) rfl ⟨U,rfl,?_,?_⟩
 ·exact (OW.o.mod (bJ (w:=w2) (b0+1+1+1) _) (fun k hk _ e=>by have:=S0.o;omega)).base (by have:=X0.o.low.size;omega)
 exact (A2.o.setRow 1 rfl _).low
theorem tq (w:World) (V:aB) (L:aH) (h:bK w V L) (hL:L.ai.length<=1024) (hGr:rF w) (u:Int) (a:Int) (b:Int) (ha:I64 a) (hb:I64 b) :
 Calls Tryz.prog 8 #[V.val L,.int .i64 u,.int .i64 a,.int .i64 b] w (pV w (jM L (cO L u a b))):=by
 have LC:=zq (iC h);have EN:Enters Tryz.prog 19:=enters_of Tryz.func19 (by kernel_rfl) rfl;have CH:=zq (fun W1 bs0 bs1 (hA:At w W1 (bs0++bs1)) lb (hr:L.Good->pX w L 19 lb bs0 (cO L u a b))=>vI w W1 V L (h.below hA.low) hL hGr bs0 bs1 hA 19 lb EN (cO L u a b) hr (fun hg he=>by have:=(iq (qL hg he)).2.2;omega));have CL:=zq (fun (hG:L.Good)=>Qx w L hG u a b ha hb);unfold aB.val at CH ⊢;obtain⟨C,hC⟩:=Zn (V.cells L);rw[<-hC] at CH LC ⊢;obtain⟨ad,had⟩:=Zn (jM L (cO L u a b));rw[<-had] at CH ⊢;obtain⟨W0,hW0⟩:=Zn (((((w.alloc (.cells C 31)).alloc (.cells #[.int .i64 u] 3)).alloc (.cells #[.int .i64 a] 3)).alloc (.cells #[.int .i64 b] 3)).alloc (.cells #[.int .i64 0,.slice none 0 0,.slice none 0 0,.slice none 0 0,.slice none 0 0,.slice none 0 0,.slice none 0 0,.slice none 0 0,.slice none 0 0] 31));obtain⟨b0,hb0⟩:=Zn w.heap.size;have X0:=zq (show At w W0 [(b0, 31,C),(b0+1, 3,#[.int .i64 u]),(b0+1+1, 3,#[.int .i64 a]),(b0+1+1+1, 3,#[.int .i64 b]),(b0+1+1+1+1, 31,aZ)] from by
  have a:=((((((At.start w).alloc 31 C).alloc 3 #[.int .i64 u]).alloc 3 #[.int .i64 a]).alloc 3 #[.int .i64 b]).alloc 31 #[.int .i64 0,.slice none 0 0,.slice none 0 0,.slice none 0 0,.slice none 0 0,.slice none 0 0,.slice none 0 0,.slice none 0 0,.slice none 0 0]);have e:∀ (w:World) (o:Obj),(w.alloc o).heap.size=w.heap.size+1:=fun w o=>by simp
  simp only[e] at a
  rw[<-hW0,<-hb0] at a;exact a)
 have X1:=zq (show At w W0 ([(b0+1, 3,#[.int .i64 u]),(b0+1+1, 3,#[.int .i64 a]),(b0+1+1+1, 3,#[.int .i64 b])]++[(b0, 31,C),(b0+1+1+1+1, 31,aZ)]) from At.subset X0.o (fun x hx=>by
  simp only[List.cons_append,List.nil_append,List.mem_cons,List.not_mem_nil,or_false] at hx ⊢
  rcases hx with rfl|rfl|rfl|rfl|rfl <;> simp) (by simp <;> omega))
 have CALL:=zq (CH.o W0 [(b0+1, 3,#[.int .i64 u]),(b0+1+1, 3,#[.int .i64 a]),(b0+1+1+1, 3,#[.int .i64 b])] [(b0, 31,C),(b0+1+1+1+1, 31,aZ)] X1.o #[.pointer (some ⟨b0+1,0,none⟩),.pointer (some ⟨b0+1+1,0,none⟩),.pointer (some ⟨b0+1+1+1,0,none⟩)] (fun hG=>CL.o hG (b0+1) (b0+1+1) (b0+1+1+1)));have HB:=zq hb0;clear h hL hGr hC had CH CL EN ha hb
 go_enter Tryz.func8,Tryz.ntmps8
 go_upto_region 1 with (fail)
 rw[<-hW0,<-hb0];clear hW0 hb0
 go_wp2_with (refine bW (X0.o.get 0 rfl) LC.o rfl rfl rfl ?_)
 refine CALL.o.mono ?_;rintro e w2 ⟨⟨U,rfl,own⟩,A⟩;have OW:=zq own;have A2:=zq A;have S0:=zq (show b0+1+1+1+1<W0.heap.size from X0.o.lt (b0+1+1+1+1, 31,aZ) (by simp));have LU:=zq (iC own.led);unfold aB.val;clear own A CALL;go_simp
 go_wp2_with (refine aW (A2.o.get 1 rfl) bG LU.o rfl rfl rfl rfl ?_)
 refine bodyPost_ret (bZ rfl _ _ (setRow_heap _ _ _ _ _ _ (A2.o.get 1 rfl)) LU.o rfl) rfl ⟨U,rfl,?_,?_⟩
 ·exact (OW.o.mod (bJ (w:=w2) (b0+1+1+1+1) _) (fun k hk _ e=>by have:=S0.o;omega)).base (by have:=X0.o.low.size;omega)
 exact (A2.o.setRow 1 rfl _).low
end Go.Proofs.YtcepekniflaoaaaGreatDoor

/- Joined: LifTDiv, LifTName, LifTDay, LifTSplit. -/
import Derived.Test.YtfknkmlocbojhaaGreatDoorLifJ
import Derived.Test.YtfknkmlocbojhaaGreatDoorHp
import Derived.Test.YtfknkmlocbojhaaGreatDoorLifI
import Derived.Test.YtfknkmlocbojhaaGreatDoorLifL
import Derived.Test.YtfknkmlocbojhaaGreatDoorHn
set_option linter.unusedVariables false
set_option linter.unusedSimpArgs false
set_option maxRecDepth 100000
set_option maxHeartbeats 4000000
namespace Go.Proofs.YtfknkmlocbojhaaGreatDoor
open Go.RowKit Go.Bw Go.Maps Go.Shelf Go.Bw.Fall
theorem uX (w:World) (V:aC) (L:aH) (h:bJ w V L) (hL:L.ai.length<=1024) (hGr:nM w) (u:Int) (x:Int) :
 Calls Tryz.prog 16 #[V.val L,.int .i64 u,.int .i64 x] w (pF w (dV L (iT L u x))):=by
 have LC:=zq (ig h);have EN:Enters Tryz.prog 57:=enters_of Tryz.func57 (by kernel_rfl) rfl;have CH:=zq (fun W1 bs0 bs1 (hA:At w W1 (bs0++bs1)) lb (hr:L.Good->jr w L 57 lb bs0 (iT L u x))=>lJ w W1 V L (h.below hA.low) hL hGr bs0 bs1 hA 57 lb EN (iT L u x) hr (fun hg he=>by have:=(dM (ru hg he)).2.2;omega));have CL:=zq (fun (hG:L.Good)=>OC w L hG u x);unfold aC.val at CH ⊢;obtain⟨C,hC⟩:=Zn (V.cells L);rw[<-hC] at CH LC ⊢;obtain⟨ad,had⟩:=Zn (dV L (iT L u x));rw[<-had] at CH ⊢;obtain⟨W0,hW0⟩:=Zn ((((w.alloc (.cells C 31)).alloc (.cells #[.int .i64 u] 3)).alloc (.cells #[.int .i64 x] 3)).alloc (.cells #[.int .i64 0,.slice none 0 0,.slice none 0 0,.slice none 0 0,.slice none 0 0,.slice none 0 0,.slice none 0 0,.slice none 0 0,.slice none 0 0] 31));obtain⟨b0,hb0⟩:=Zn w.heap.size;have X0:=zq (show At w W0 [(b0, 31,C),(b0+1, 3,#[.int .i64 u]),(b0+1+1, 3,#[.int .i64 x]),(b0+1+1+1, 31,dF)] from by
  have a:=(((((At.start w).alloc 31 C).alloc 3 #[.int .i64 u]).alloc 3 #[.int .i64 x]).alloc 31 #[.int .i64 0,.slice none 0 0,.slice none 0 0,.slice none 0 0,.slice none 0 0,.slice none 0 0,.slice none 0 0,.slice none 0 0,.slice none 0 0]);have e:∀ (w:World) (o:Obj),(w.alloc o).heap.size=w.heap.size+1:=fun w o=>by simp
  simp only[e] at a
  rw[<-hW0,<-hb0] at a;exact a)
 have X1:=zq (show At w W0 ([(b0+1, 3,#[.int .i64 u]),(b0+1+1, 3,#[.int .i64 x])]++[(b0, 31,C),(b0+1+1+1, 31,dF)]) from At.subset X0.o (fun x hx=>by
  simp only[List.cons_append,List.nil_append,List.mem_cons,List.not_mem_nil,or_false] at hx ⊢
  rcases hx with rfl|rfl|rfl|rfl <;> simp) (by simp <;> omega))
 have CALL:=zq (CH.o W0 [(b0+1, 3,#[.int .i64 u]),(b0+1+1, 3,#[.int .i64 x])] [(b0, 31,C),(b0+1+1+1, 31,dF)] X1.o #[.pointer (some ⟨b0+1,0,none⟩),.pointer (some ⟨b0+1+1,0,none⟩)] (fun hG=>CL.o hG (b0+1) (b0+1+1)));have HB:=zq hb0;clear h hL hGr hC had CH CL EN
 go_enter Tryz.func16,Tryz.ntmps16
 go_upto_region 1 with (fail)
 rw[<-hW0,<-hb0];clear hW0 hb0
 go_wp2_with (refine bW (X0.o.get 0 rfl) LC.o rfl rfl rfl ?_)
 refine CALL.o.mono ?_;rintro e w2 ⟨⟨U,rfl,own⟩,A⟩;have OW:=zq own;have A2:=zq A;have S0:=zq (show b0+1+1+1<W0.heap.size from X0.o.lt (b0+1+1+1, 31,dF) (by simp));have LU:=zq (ig own.led);unfold aC.val;clear own A CALL;go_simp
 go_wp2_with (refine bV (A2.o.get 1 rfl) dU LU.o rfl rfl rfl rfl ?_)
 refine bodyPost_ret (gm rfl _ _ (setRow_heap _ _ _ _ _ _ (A2.o.get 1 rfl)) LU.o rfl) rfl ⟨U,rfl,?_,?_⟩
 ·exact (OW.o.mod (bQ (w:=w2) (b0+1+1+1) _) (fun k hk _ e=>by have:=S0.o;omega)).base (by have:=X0.o.low.size;omega)
 exact (A2.o.setRow 1 rfl _).low
theorem Aw (w:World) (V:aC) (L:aH) (h:bJ w V L) (hL:L.ai.length<=1024) (hGr:nM w) (u:Int) (nm:ByteArray) (hs:nm.size<=maxLen) :
 Calls Tryz.prog 18 #[V.val L,.int .i64 u,.string nm] w (pF w (dV L (iD L u nm))):=by
 have LC:=zq (ig h);have EN:Enters Tryz.prog 61:=enters_of Tryz.func61 (by kernel_rfl) rfl;have CH:=zq (fun W1 bs0 bs1 (hA:At w W1 (bs0++bs1)) lb (hr:L.Good->jr w L 61 lb bs0 (iD L u nm))=>lJ w W1 V L (h.below hA.low) hL hGr bs0 bs1 hA 61 lb EN (iD L u nm) hr (fun hg he=>by have:=(dM (vI hg he)).2.2;omega));have CL:=zq (fun (hG:L.Good)=>Om w L hG u nm hs);unfold aC.val at CH ⊢;obtain⟨C,hC⟩:=Zn (V.cells L);rw[<-hC] at CH LC ⊢;obtain⟨ad,had⟩:=Zn (dV L (iD L u nm));rw[<-had] at CH ⊢;obtain⟨W0,hW0⟩:=Zn ((((w.alloc (.cells C 31)).alloc (.cells #[.int .i64 u] 3)).alloc (.cells #[.string nm] 9)).alloc (.cells #[.int .i64 0,.slice none 0 0,.slice none 0 0,.slice none 0 0,.slice none 0 0,.slice none 0 0,.slice none 0 0,.slice none 0 0,.slice none 0 0] 31));obtain⟨b0,hb0⟩:=Zn w.heap.size;have X0:=zq (show At w W0 [(b0, 31,C),(b0+1, 3,#[.int .i64 u]),(b0+1+1, 9,#[.string nm]),(b0+1+1+1, 31,dF)] from by
  have a:=(((((At.start w).alloc 31 C).alloc 3 #[.int .i64 u]).alloc 9 #[.string nm]).alloc 31 #[.int .i64 0,.slice none 0 0,.slice none 0 0,.slice none 0 0,.slice none 0 0,.slice none 0 0,.slice none 0 0,.slice none 0 0,.slice none 0 0]);have e:∀ (w:World) (o:Obj),(w.alloc o).heap.size=w.heap.size+1:=fun w o=>by simp
  simp only[e] at a
  rw[<-hW0,<-hb0] at a;exact a)
 have X1:=zq (show At w W0 ([(b0+1, 3,#[.int .i64 u]),(b0+1+1, 9,#[.string nm])]++[(b0, 31,C),(b0+1+1+1, 31,dF)]) from At.subset X0.o (fun x hx=>by
  simp only[List.cons_append,List.nil_append,List.mem_cons,List.not_mem_nil,or_false] at hx ⊢
  rcases hx with rfl|rfl|rfl|rfl <;> simp) (by simp <;> omega))
 have CALL:=zq (CH.o W0 [(b0+1, 3,#[.int .i64 u]),(b0+1+1, 9,#[.string nm])] [(b0, 31,C),(b0+1+1+1, 31,dF)] X1.o #[.pointer (some ⟨b0+1,0,none⟩),.pointer (some ⟨b0+1+1,0,none⟩)] (fun hG=>CL.o hG (b0+1) (b0+1+1)));have HB:=zq hb0;clear h hL hGr hC had CH CL EN hs
 go_enter Tryz.func18,Tryz.ntmps18
 go_upto_region 1 with (fail)
 rw[<-hW0,<-hb0];clear hW0 hb0
 go_wp2_with (refine bW (X0.o.get 0 rfl) LC.o rfl rfl rfl ?_)
 refine CALL.o.mono ?_;rintro e w2 ⟨⟨U,rfl,own⟩,A⟩;have OW:=zq own;have A2:=zq A;have S0:=zq (show b0+1+1+1<W0.heap.size from X0.o.lt (b0+1+1+1, 31,dF) (by simp));have LU:=zq (ig own.led);unfold aC.val;clear own A CALL;go_simp
 go_wp2_with (refine bV (A2.o.get 1 rfl) dU LU.o rfl rfl rfl rfl ?_)
 refine bodyPost_ret (gm rfl _ _ (setRow_heap _ _ _ _ _ _ (A2.o.get 1 rfl)) LU.o rfl) rfl ⟨U,rfl,?_,?_⟩
 ·exact (OW.o.mod (bQ (w:=w2) (b0+1+1+1) _) (fun k hk _ e=>by have:=S0.o;omega)).base (by have:=X0.o.low.size;omega)
 exact (A2.o.setRow 1 rfl _).low
theorem DU (w:World) (V:aC) (L:aH) (h:bJ w V L) (hL:L.ai.length<=1024) (hGr:nM w) :
 Calls Tryz.prog 20 #[V.val L] w (pF w (dV L (jq L))):=by
 have LC:=zq (ig h);have EN:Enters Tryz.prog 65:=enters_of Tryz.func65 (by kernel_rfl) rfl;have CH:=zq (fun W1 bs0 bs1 (hA:At w W1 (bs0++bs1)) lb (hr:L.Good->jr w L 65 lb bs0 (jq L))=>lJ w W1 V L (h.below hA.low) hL hGr bs0 bs1 hA 65 lb EN (jq L) hr (fun hg he=>by have:=(dM (xB hg he)).2.2;omega));have CL:=zq (fun (hG:L.Good)=>zT w L hG);unfold aC.val at CH ⊢;obtain⟨C,hC⟩:=Zn (V.cells L);rw[<-hC] at CH LC ⊢;obtain⟨ad,had⟩:=Zn (dV L (jq L));rw[<-had] at CH ⊢;obtain⟨W0,hW0⟩:=Zn ((w.alloc (.cells C 31)).alloc (.cells #[.int .i64 0,.slice none 0 0,.slice none 0 0,.slice none 0 0,.slice none 0 0,.slice none 0 0,.slice none 0 0,.slice none 0 0,.slice none 0 0] 31));obtain⟨b0,hb0⟩:=Zn w.heap.size;have X0:=zq (show At w W0 [(b0, 31,C),(b0+1, 31,dF)] from by
  have a:=(((At.start w).alloc 31 C).alloc 31 #[.int .i64 0,.slice none 0 0,.slice none 0 0,.slice none 0 0,.slice none 0 0,.slice none 0 0,.slice none 0 0,.slice none 0 0,.slice none 0 0]);have e:∀ (w:World) (o:Obj),(w.alloc o).heap.size=w.heap.size+1:=fun w o=>by simp
  simp only[e] at a
  rw[<-hW0,<-hb0] at a;exact a)
 have X1:=zq (show At w W0 ([]++[(b0, 31,C),(b0+1, 31,dF)]) from At.subset X0.o (fun x hx=>by
  simp only[List.cons_append,List.nil_append,List.mem_cons,List.not_mem_nil,or_false] at hx ⊢
  rcases hx with rfl|rfl <;> simp) (by simp <;> omega))
 have CALL:=zq (CH.o W0 [] [(b0, 31,C),(b0+1, 31,dF)] X1.o #[] (fun hG=>CL.o hG));have HB:=zq hb0;clear h hL hGr hC had CH CL EN
 go_enter Tryz.func20,Tryz.ntmps20
 go_upto_region 1 with (fail)
 rw[<-hW0,<-hb0];clear hW0 hb0
 go_wp2_with (refine bW (X0.o.get 0 rfl) LC.o rfl rfl rfl ?_)
 refine CALL.o.mono ?_;rintro e w2 ⟨⟨U,rfl,own⟩,A⟩;have OW:=zq own;have A2:=zq A;have S0:=zq (show b0+1<W0.heap.size from X0.o.lt (b0+1, 31,dF) (by simp));have LU:=zq (ig own.led);unfold aC.val;clear own A CALL;go_simp
 go_wp2_with (refine bV (A2.o.get 1 rfl) dU LU.o rfl rfl rfl rfl ?_)
 refine bodyPost_ret (gm rfl _ _ (setRow_heap _ _ _ _ _ _ (A2.o.get 1 rfl)) LU.o rfl) rfl ⟨U,rfl,?_,?_⟩
 ·exact (OW.o.mod (bQ (w:=w2) (b0+1) _) (fun k hk _ e=>by have:=S0.o;omega)).base (by have:=X0.o.low.size;omega)
 exact (A2.o.setRow 1 rfl _).low
theorem qL (w:World) (V:aC) (L:aH) (h:bJ w V L) (hL:L.ai.length<=1024) (hGr:nM w) (u:Int) (a:Int) (b:Int) (ha:I64 a) (hb:I64 b) :
 Calls Tryz.prog 13 #[V.val L,.int .i64 u,.int .i64 a,.int .i64 b] w (pF w (dV L (bZ L u a b))):=by
 have LC:=zq (ig h);have EN:Enters Tryz.prog 32:=enters_of Tryz.func32 (by kernel_rfl) rfl;have CH:=zq (fun W1 bs0 bs1 (hA:At w W1 (bs0++bs1)) lb (hr:L.Good->jr w L 32 lb bs0 (bZ L u a b))=>lJ w W1 V L (h.below hA.low) hL hGr bs0 bs1 hA 32 lb EN (bZ L u a b) hr (fun hg he=>by have:=(dM (oI hg he)).2.2;omega));have CL:=zq (fun (hG:L.Good)=>NV w L hG u a b ha hb);unfold aC.val at CH ⊢;obtain⟨C,hC⟩:=Zn (V.cells L);rw[<-hC] at CH LC ⊢;obtain⟨ad,had⟩:=Zn (dV L (bZ L u a b));rw[<-had] at CH ⊢;obtain⟨W0,hW0⟩:=Zn (((((w.alloc (.cells C 31)).alloc (.cells #[.int .i64 u] 3)).alloc (.cells #[.int .i64 a] 3)).alloc (.cells #[.int .i64 b] 3)).alloc (.cells #[.int .i64 0,.slice none 0 0,.slice none 0 0,.slice none 0 0,.slice none 0 0,.slice none 0 0,.slice none 0 0,.slice none 0 0,.slice none 0 0] 31));obtain⟨b0,hb0⟩:=Zn w.heap.size;have X0:=zq (show At w W0 [(b0, 31,C),(b0+1, 3,#[.int .i64 u]),(b0+1+1, 3,#[.int .i64 a]),(b0+1+1+1, 3,#[.int .i64 b]),(b0+1+1+1+1, 31,dF)] from by
  have a:=((((((At.start w).alloc 31 C).alloc 3 #[.int .i64 u]).alloc 3 #[.int .i64 a]).alloc 3 #[.int .i64 b]).alloc 31 #[.int .i64 0,.slice none 0 0,.slice none 0 0,.slice none 0 0,.slice none 0 0,.slice none 0 0,.slice none 0 0,.slice none 0 0,.slice none 0 0]);have e:∀ (w:World) (o:Obj),(w.alloc o).heap.size=w.heap.size+1:=fun w o=>by simp
  simp only[e] at a
  rw[<-hW0,<-hb0] at a;exact a)
 have X1:=zq (show At w W0 ([(b0+1, 3,#[.int .i64 u]),(b0+1+1, 3,#[.int .i64 a]),(b0+1+1+1, 3,#[.int .i64 b])]++[(b0, 31,C),(b0+1+1+1+1, 31,dF)]) from At.subset X0.o (fun x hx=>by
  simp only[List.cons_append,List.nil_append,List.mem_cons,List.not_mem_nil,or_false] at hx ⊢
  rcases hx with rfl|rfl|rfl|rfl|rfl <;> simp) (by simp <;> omega))
 have CALL:=zq (CH.o W0 [(b0+1, 3,#[.int .i64 u]),(b0+1+1, 3,#[.int .i64 a]),(b0+1+1+1, 3,#[.int .i64 b])] [(b0, 31,C),(b0+1+1+1+1, 31,dF)] X1.o #[.pointer (some ⟨b0+1,0,none⟩),.pointer (some ⟨b0+1+1,0,none⟩),.pointer (some ⟨b0+1+1+1,0,none⟩)] (fun hG=>CL.o hG (b0+1) (b0+1+1) (b0+1+1+1)));have HB:=zq hb0;clear h hL hGr hC had CH CL EN ha hb
 go_enter Tryz.func13,Tryz.ntmps13
 go_upto_region 1 with (fail)
 rw[<-hW0,<-hb0];clear hW0 hb0
 go_wp2_with (refine bW (X0.o.get 0 rfl) LC.o rfl rfl rfl ?_)
 refine CALL.o.mono ?_;rintro e w2 ⟨⟨U,rfl,own⟩,A⟩;have OW:=zq own;have A2:=zq A;have S0:=zq (show b0+1+1+1+1<W0.heap.size from X0.o.lt (b0+1+1+1+1, 31,dF) (by simp));have LU:=zq (ig own.led);unfold aC.val;clear own A CALL;go_simp
 go_wp2_with (refine bV (A2.o.get 1 rfl) dU LU.o rfl rfl rfl rfl ?_)
 refine bodyPost_ret (gm rfl _ _ (setRow_heap _ _ _ _ _ _ (A2.o.get 1 rfl)) LU.o rfl) rfl ⟨U,rfl,?_,?_⟩
 ·exact (OW.o.mod (bQ (w:=w2) (b0+1+1+1+1) _) (fun k hk _ e=>by have:=S0.o;omega)).base (by have:=X0.o.low.size;omega)
 exact (A2.o.setRow 1 rfl _).low
end Go.Proofs.YtfknkmlocbojhaaGreatDoor

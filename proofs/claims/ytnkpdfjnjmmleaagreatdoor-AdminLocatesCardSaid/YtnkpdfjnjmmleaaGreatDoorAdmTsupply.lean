/- admin.Supply of any ledger (printed by tools/gen_admt.py). -/
import Derived.Test.YtnkpdfjnjmmleaaGreatDoorAdmSu
set_option linter.unusedVariables false
set_option linter.unusedSimpArgs false
set_option maxRecDepth 100000
set_option maxHeartbeats 4000000
namespace Go.Proofs.YtnkpdfjnjmmleaaGreatDoor
open Go.RowKit Go.Bw Go.Maps Go.Shelf Go.Bw.Fall
theorem asupply_any (w:World) (V:LedV) (L:Led) (h:LedAt w V L) (hL:L.accts.length <= 1024) (hGr:Grd w) (i:Int) (q:Int) :
 Calls Tryz.prog 26 #[V.val L,.int .i64 i,.int .i64 q] w (AdmRet w (admA L (supplyS L i q))):=by
 have LC:=zq (ledc h)
 have EN:Enters Tryz.prog 67:=enters_of Tryz.func67 (by kernel_rfl) rfl
 have CH:=zq (fun W1 bs0 bs1 (hA:At w W1 (bs0++bs1)) lb (hr:L.Good -> AdmCalls w L 67 lb bs0 (supplyS L i q))=>change_any w W1 V L (h.below hA.low) hL hGr bs0 bs1 hA 67 lb EN (supplyS L i q) hr (fun hg he=>by have:=(good_bulk (supplyS_good hg he)).2.2;omega))
 have CL:=zq (fun (hG:L.Good)=>supply1 w L hG i q)
 unfold LedV.val at CH ⊢
 obtain⟨C,hC⟩:∃ C,C=V.cells L:=⟨_,rfl⟩
 rw[<- hC] at CH LC ⊢
 obtain⟨ad,had⟩:∃ adm,adm=admA L (supplyS L i q):=⟨_,rfl⟩
 rw[<- had] at CH ⊢
 obtain⟨W0,hW0⟩:∃ s,s=(((w.alloc (.cells C 31)).alloc (.cells #[.int .i64 i] 3)).alloc (.cells #[.int .i64 q] 3)).alloc (.cells #[.int .i64 0,.slice none 0 0,.slice none 0 0,.slice none 0 0,.slice none 0 0,.slice none 0 0,.slice none 0 0,.slice none 0 0,.slice none 0 0] 31):=⟨_,rfl⟩
 obtain⟨b0,hb0⟩:∃ n,n=w.heap.size:=⟨_,rfl⟩
 have X0:=zq (show At w W0 [(b0, 31,C),(b0+1, 3,#[.int .i64 i]),(b0+1+1, 3,#[.int .i64 q]),(b0+1+1+1, 31,led0)] from by
  have a:=(((((At.start w).alloc 31 C).alloc 3 #[.int .i64 i]).alloc 3 #[.int .i64 q]).alloc 31 #[.int .i64 0,.slice none 0 0,.slice none 0 0,.slice none 0 0,.slice none 0 0,.slice none 0 0,.slice none 0 0,.slice none 0 0,.slice none 0 0])
  have e:∀ (w:World) (o:Obj),(w.alloc o).heap.size=w.heap.size+1:=fun w o=>by simp
  simp only[e] at a
  rw[<- hW0,<- hb0] at a
  exact a)
 have X1:=zq (show At w W0 ([(b0+1, 3,#[.int .i64 i]),(b0+1+1, 3,#[.int .i64 q])]++[(b0, 31,C),(b0+1+1+1, 31,led0)]) from At.subset X0.o (fun x hx=>by
  simp only[List.cons_append,List.nil_append,List.mem_cons,List.not_mem_nil,or_false] at hx ⊢
  rcases hx with rfl|rfl|rfl|rfl <;> simp) (by simp <;> omega))
 have CALL:=zq (CH.o W0 [(b0+1, 3,#[.int .i64 i]),(b0+1+1, 3,#[.int .i64 q])] [(b0, 31,C),(b0+1+1+1, 31,led0)] X1.o #[.pointer (some ⟨b0+1,0,none⟩),.pointer (some ⟨b0+1+1,0,none⟩)] (fun hG=>CL.o hG (b0+1) (b0+1+1)))
 have HB:=zq hb0
 clear h hL hGr hC had CH CL EN
 go_enter Tryz.func26,Tryz.ntmps26
 go_upto_region 1 with (fail)
 rw[<- hW0,<- hb0]
 clear hW0 hb0
 go_wp2_with (refine led_load (X0.o.get 0 rfl) LC.o rfl rfl rfl ?_)
 refine CALL.o.mono ?_
 rintro e w2 ⟨⟨U,rfl,own⟩,A⟩
 have OW:=zq own
 have A2:=zq A
 have S0:=zq (show b0+1+1+1<W0.heap.size from X0.o.lt (b0+1+1+1, 31,led0) (by simp))
 have LU:=zq (ledc own.led)
 unfold LedV.val
 clear own A CALL
 go_simp
 go_wp2_with (refine led_store (A2.o.get 1 rfl) ledc0 LU.o rfl rfl rfl rfl ?_)
 refine bodyPost_ret (results_led1 rfl _ _ (setRow_heap _ _ _ _ _ _ (A2.o.get 1 rfl)) LU.o rfl) rfl ⟨U,rfl,?_,?_⟩
 ·exact (OW.o.mod (mod_setRow' (w:=w2) (b0+1+1+1) _) (fun k hk _ e=>by have:=S0.o;omega)).base (by have:=X0.o.low.size;omega)
 ·exact (A2.o.setRow 1 rfl _).low
end Go.Proofs.YtnkpdfjnjmmleaaGreatDoor

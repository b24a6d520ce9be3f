/- admin.Rate of any ledger (printed by tools/gen_admt.py). -/
import Derived.Test.YtnkpdfjnjmmleaaGreatDoorAdmRt
namespace Go.Proofs.YtnkpdfjnjmmleaaGreatDoor
open Go.RowKit Go.Bw Go.Maps Go.Shelf Go.Bw.Fall
set_option linter.unusedVariables false
set_option linter.unusedSimpArgs false
set_option maxRecDepth 100000 in
set_option maxHeartbeats 4000000 in
theorem arate_any (w:World) (V:LedV) (L:Led) (h:LedAt w V L) (hL:L.accts.length≤1024) (hGr:Grd w) (c:Int) (r:Int) (k:Int) :
 Calls Tryz.prog 24 #[V.val L,.int .i64 c,.int .i64 r,.int .i64 k] w (AdmRet w (admA L (rateS L c r k))):=by
 have LC:=Lib.hid (ledc h)
 have EN:Enters Tryz.prog 64:=enters_of Tryz.func64 (by kernel_rfl) rfl
 have CH:=Lib.hid (fun W1 bs0 bs1 (hA:At w W1 (bs0++bs1)) lb (hr:L.Good→AdmCalls w L 64 lb bs0 (rateS L c r k))=>change_any w W1 V L (h.below hA.low) hL hGr bs0 bs1 hA 64 lb EN (rateS L c r k) hr (fun hg he=>by have:=(good_bulk (rateS_good hg he)).2.2;omega))
 have CL:=Lib.hid (fun (hG:L.Good)=>rate1 w L hG c r k)
 unfold LedV.val at CH ⊢
 obtain⟨C,hC⟩:∃ C,C=V.cells L:=⟨_,rfl⟩
 rw[← hC] at CH LC ⊢
 obtain⟨ad,had⟩:∃ adm,adm=admA L (rateS L c r k):=⟨_,rfl⟩
 rw[← had] at CH ⊢
 obtain⟨W0,hW0⟩:∃ s,s=((((w.alloc (.cells C 31)).alloc (.cells #[.int .i64 c] 3)).alloc (.cells #[.int .i64 r] 3)).alloc (.cells #[.int .i64 k] 3)).alloc (.cells #[.int .i64 0,.slice none 0 0,.slice none 0 0,.slice none 0 0,.slice none 0 0,.slice none 0 0,.slice none 0 0,.slice none 0 0,.slice none 0 0] 31):=⟨_,rfl⟩
 obtain⟨b0,hb0⟩:∃ n,n=w.heap.size:=⟨_,rfl⟩
 have X0:=Lib.hid (show At w W0 [(b0, 31,C),(b0+1, 3,#[.int .i64 c]),(b0+1+1, 3,#[.int .i64 r]),(b0+1+1+1, 3,#[.int .i64 k]),(b0+1+1+1+1, 31,led0)] from by
  have a:=((((((At.start w).alloc 31 C).alloc 3 #[.int .i64 c]).alloc 3 #[.int .i64 r]).alloc 3 #[.int .i64 k]).alloc 31 #[.int .i64 0,.slice none 0 0,.slice none 0 0,.slice none 0 0,.slice none 0 0,.slice none 0 0,.slice none 0 0,.slice none 0 0,.slice none 0 0])
  have e:∀ (w:World) (o:Obj),(w.alloc o).heap.size=w.heap.size+1:=fun w o=>by simp
  simp only[e] at a
  rw[← hW0,← hb0] at a
  exact a)
 have X1:=Lib.hid (show At w W0 ([(b0+1+1, 3,#[.int .i64 r]),(b0+1+1+1, 3,#[.int .i64 k]),(b0+1, 3,#[.int .i64 c])]++[(b0, 31,C),(b0+1+1+1+1, 31,led0)]) from At.subset X0.out (fun x hx=>by
  simp only[List.cons_append,List.nil_append,List.mem_cons,List.not_mem_nil,or_false] at hx ⊢
  rcases hx with rfl|rfl|rfl|rfl|rfl <;> simp) (by simp <;> omega))
 have CALL:=Lib.hid (CH.out W0 [(b0+1+1, 3,#[.int .i64 r]),(b0+1+1+1, 3,#[.int .i64 k]),(b0+1, 3,#[.int .i64 c])] [(b0, 31,C),(b0+1+1+1+1, 31,led0)] X1.out #[.pointer (some ⟨b0+1+1,0,none⟩),.pointer (some ⟨b0+1+1+1,0,none⟩),.pointer (some ⟨b0+1,0,none⟩)] (fun hG=>CL.out hG (b0+1+1) (b0+1+1+1) (b0+1)))
 have HB:=Lib.hid hb0
 clear h hL hGr hC had CH CL EN
 go_enter Tryz.func24,Tryz.ntmps24
 go_upto_region 1 with (fail)
 rw[← hW0,← hb0]
 clear hW0 hb0
 go_wp2_with (refine led_load (X0.out.get 0 rfl) LC.out rfl rfl rfl ?_)
 refine CALL.out.mono ?_
 rintro e w2 ⟨⟨U,rfl,own⟩,A⟩
 have OW:=Lib.hid own
 have A2:=Lib.hid A
 have S0:=Lib.hid (show b0+1+1+1+1<W0.heap.size from X0.out.lt (b0+1+1+1+1, 31,led0) (by simp))
 have LU:=Lib.hid (ledc own.led)
 unfold LedV.val
 clear own A CALL
 go_simp
 go_wp2_with (refine led_store (A2.out.get 1 rfl) ledc0 LU.out rfl rfl rfl rfl ?_)
 refine bodyPost_ret (results_led1 rfl _ _ (setRow_heap _ _ _ _ _ _ (A2.out.get 1 rfl)) LU.out rfl) rfl ⟨U,rfl,?_,?_⟩
 ·exact (OW.out.mod (mod_setRow' (w:=w2) (b0+1+1+1+1) _) (fun k hk _ e=>by have:=S0.out;omega)).base (by have:=X0.out.low.size;omega)
 ·exact (A2.out.setRow 1 rfl _).low
end Go.Proofs.YtnkpdfjnjmmleaaGreatDoor

/- Joined: AdmTprice, AdmTrate, AdmTcash, AdmTaccount, AdmTunder, AdmTinstr, AdmTsupply, AdmTreserve. -/
import Derived.Test.YtnkpdfjnjmmleaaGreatDoorAdmG
import Derived.Test.YtnkpdfjnjmmleaaGreatDoorAdmRt
import Derived.Test.YtnkpdfjnjmmleaaGreatDoorAdmH
import Derived.Test.YtnkpdfjnjmmleaaGreatDoorAdmJ
import Derived.Test.YtnkpdfjnjmmleaaGreatDoorAdmI
import Derived.Test.YtnkpdfjnjmmleaaGreatDoorAdmL
import Derived.Test.YtnkpdfjnjmmleaaGreatDoorAdmSu
import Derived.Test.YtnkpdfjnjmmleaaGreatDoorAdmRe
set_option linter.unusedVariables false
set_option linter.unusedSimpArgs false
set_option maxRecDepth 100000
set_option maxHeartbeats 4000000
namespace Go.Proofs.YtnkpdfjnjmmleaaGreatDoor
open Go.RowKit Go.Bw Go.Maps Go.Shelf Go.Bw.Fall
theorem aprice_any (w:World) (V:LedV) (L:Led) (h:LedAt w V L) (hL:L.accts.length <= 1024) (hGr:Grd w) (u:Int) (p:Int) (v:Int) :
 Calls Tryz.prog 22 #[V.val L,.int .i64 u,.int .i64 p,.int .i64 v] w (AdmRet w (admA L (priceS L u p v))):=by
 have LC:=zq (ledc h)
 have EN:Enters Tryz.prog 63:=enters_of Tryz.func63 (by kernel_rfl) rfl
 have CH:=zq (fun W1 bs0 bs1 (hA:At w W1 (bs0++bs1)) lb (hr:L.Good -> AdmCalls w L 63 lb bs0 (priceS L u p v))=>change_any w W1 V L (h.below hA.low) hL hGr bs0 bs1 hA 63 lb EN (priceS L u p v) hr (fun hg he=>by have:=(good_bulk (priceS_good hg he)).2.2;omega))
 have CL:=zq (fun (hG:L.Good)=>price1 w L hG u p v)
 unfold LedV.val at CH ⊢
 obtain⟨C,hC⟩:∃ C,C=V.cells L:=⟨_,rfl⟩
 rw[<- hC] at CH LC ⊢
 obtain⟨ad,had⟩:∃ adm,adm=admA L (priceS L u p v):=⟨_,rfl⟩
 rw[<- had] at CH ⊢
 obtain⟨W0,hW0⟩:∃ s,s=((((w.alloc (.cells C 31)).alloc (.cells #[.int .i64 u] 3)).alloc (.cells #[.int .i64 p] 3)).alloc (.cells #[.int .i64 v] 3)).alloc (.cells #[.int .i64 0,.slice none 0 0,.slice none 0 0,.slice none 0 0,.slice none 0 0,.slice none 0 0,.slice none 0 0,.slice none 0 0,.slice none 0 0] 31):=⟨_,rfl⟩
 obtain⟨b0,hb0⟩:∃ n,n=w.heap.size:=⟨_,rfl⟩
 have X0:=zq (show At w W0 [(b0, 31,C),(b0+1, 3,#[.int .i64 u]),(b0+1+1, 3,#[.int .i64 p]),(b0+1+1+1, 3,#[.int .i64 v]),(b0+1+1+1+1, 31,led0)] from by
  have a:=((((((At.start w).alloc 31 C).alloc 3 #[.int .i64 u]).alloc 3 #[.int .i64 p]).alloc 3 #[.int .i64 v]).alloc 31 #[.int .i64 0,.slice none 0 0,.slice none 0 0,.slice none 0 0,.slice none 0 0,.slice none 0 0,.slice none 0 0,.slice none 0 0,.slice none 0 0])
  have e:∀ (w:World) (o:Obj),(w.alloc o).heap.size=w.heap.size+1:=fun w o=>by simp
  simp only[e] at a
  rw[<- hW0,<- hb0] at a
  exact a)
 have X1:=zq (show At w W0 ([(b0+1, 3,#[.int .i64 u]),(b0+1+1, 3,#[.int .i64 p]),(b0+1+1+1, 3,#[.int .i64 v])]++[(b0, 31,C),(b0+1+1+1+1, 31,led0)]) from At.subset X0.o (fun x hx=>by
  simp only[List.cons_append,List.nil_append,List.mem_cons,List.not_mem_nil,or_false] at hx ⊢
  rcases hx with rfl|rfl|rfl|rfl|rfl <;> simp) (by simp <;> omega))
 have CALL:=zq (CH.o W0 [(b0+1, 3,#[.int .i64 u]),(b0+1+1, 3,#[.int .i64 p]),(b0+1+1+1, 3,#[.int .i64 v])] [(b0, 31,C),(b0+1+1+1+1, 31,led0)] X1.o #[.pointer (some ⟨b0+1,0,none⟩),.pointer (some ⟨b0+1+1,0,none⟩),.pointer (some ⟨b0+1+1+1,0,none⟩)] (fun hG=>CL.o hG (b0+1) (b0+1+1) (b0+1+1+1)))
 have HB:=zq hb0
 clear h hL hGr hC had CH CL EN
 go_enter Tryz.func22,Tryz.ntmps22
 go_upto_region 1 with (fail)
 rw[<- hW0,<- hb0]
 clear hW0 hb0
 go_wp2_with (refine led_load (X0.o.get 0 rfl) LC.o rfl rfl rfl ?_)
 refine CALL.o.mono ?_
 rintro e w2 ⟨⟨U,rfl,own⟩,A⟩
 have OW:=zq own
 have A2:=zq A
 have S0:=zq (show b0+1+1+1+1<W0.heap.size from X0.o.lt (b0+1+1+1+1, 31,led0) (by simp))
 have LU:=zq (ledc own.led)
 unfold LedV.val
 clear own A CALL
 go_simp
 go_wp2_with (refine led_store (A2.o.get 1 rfl) ledc0 LU.o rfl rfl rfl rfl ?_)
 refine bodyPost_ret (results_led1 rfl _ _ (setRow_heap _ _ _ _ _ _ (A2.o.get 1 rfl)) LU.o rfl) rfl ⟨U,rfl,?_,?_⟩
 ·exact (OW.o.mod (mod_setRow' (w:=w2) (b0+1+1+1+1) _) (fun k hk _ e=>by have:=S0.o;omega)).base (by have:=X0.o.low.size;omega)
 ·exact (A2.o.setRow 1 rfl _).low
theorem arate_any (w:World) (V:LedV) (L:Led) (h:LedAt w V L) (hL:L.accts.length <= 1024) (hGr:Grd w) (c:Int) (r:Int) (k:Int) :
 Calls Tryz.prog 24 #[V.val L,.int .i64 c,.int .i64 r,.int .i64 k] w (AdmRet w (admA L (rateS L c r k))):=by
 have LC:=zq (ledc h)
 have EN:Enters Tryz.prog 64:=enters_of Tryz.func64 (by kernel_rfl) rfl
 have CH:=zq (fun W1 bs0 bs1 (hA:At w W1 (bs0++bs1)) lb (hr:L.Good -> AdmCalls w L 64 lb bs0 (rateS L c r k))=>change_any w W1 V L (h.below hA.low) hL hGr bs0 bs1 hA 64 lb EN (rateS L c r k) hr (fun hg he=>by have:=(good_bulk (rateS_good hg he)).2.2;omega))
 have CL:=zq (fun (hG:L.Good)=>rate1 w L hG c r k)
 unfold LedV.val at CH ⊢
 obtain⟨C,hC⟩:∃ C,C=V.cells L:=⟨_,rfl⟩
 rw[<- hC] at CH LC ⊢
 obtain⟨ad,had⟩:∃ adm,adm=admA L (rateS L c r k):=⟨_,rfl⟩
 rw[<- had] at CH ⊢
 obtain⟨W0,hW0⟩:∃ s,s=((((w.alloc (.cells C 31)).alloc (.cells #[.int .i64 c] 3)).alloc (.cells #[.int .i64 r] 3)).alloc (.cells #[.int .i64 k] 3)).alloc (.cells #[.int .i64 0,.slice none 0 0,.slice none 0 0,.slice none 0 0,.slice none 0 0,.slice none 0 0,.slice none 0 0,.slice none 0 0,.slice none 0 0] 31):=⟨_,rfl⟩
 obtain⟨b0,hb0⟩:∃ n,n=w.heap.size:=⟨_,rfl⟩
 have X0:=zq (show At w W0 [(b0, 31,C),(b0+1, 3,#[.int .i64 c]),(b0+1+1, 3,#[.int .i64 r]),(b0+1+1+1, 3,#[.int .i64 k]),(b0+1+1+1+1, 31,led0)] from by
  have a:=((((((At.start w).alloc 31 C).alloc 3 #[.int .i64 c]).alloc 3 #[.int .i64 r]).alloc 3 #[.int .i64 k]).alloc 31 #[.int .i64 0,.slice none 0 0,.slice none 0 0,.slice none 0 0,.slice none 0 0,.slice none 0 0,.slice none 0 0,.slice none 0 0,.slice none 0 0])
  have e:∀ (w:World) (o:Obj),(w.alloc o).heap.size=w.heap.size+1:=fun w o=>by simp
  simp only[e] at a
  rw[<- hW0,<- hb0] at a
  exact a)
 have X1:=zq (show At w W0 ([(b0+1+1, 3,#[.int .i64 r]),(b0+1+1+1, 3,#[.int .i64 k]),(b0+1, 3,#[.int .i64 c])]++[(b0, 31,C),(b0+1+1+1+1, 31,led0)]) from At.subset X0.o (fun x hx=>by
  simp only[List.cons_append,List.nil_append,List.mem_cons,List.not_mem_nil,or_false] at hx ⊢
  rcases hx with rfl|rfl|rfl|rfl|rfl <;> simp) (by simp <;> omega))
 have CALL:=zq (CH.o W0 [(b0+1+1, 3,#[.int .i64 r]),(b0+1+1+1, 3,#[.int .i64 k]),(b0+1, 3,#[.int .i64 c])] [(b0, 31,C),(b0+1+1+1+1, 31,led0)] X1.o #[.pointer (some ⟨b0+1+1,0,none⟩),.pointer (some ⟨b0+1+1+1,0,none⟩),.pointer (some ⟨b0+1,0,none⟩)] (fun hG=>CL.o hG (b0+1+1) (b0+1+1+1) (b0+1)))
 have HB:=zq hb0
 clear h hL hGr hC had CH CL EN
 go_enter Tryz.func24,Tryz.ntmps24
 go_upto_region 1 with (fail)
 rw[<- hW0,<- hb0]
 clear hW0 hb0
 go_wp2_with (refine led_load (X0.o.get 0 rfl) LC.o rfl rfl rfl ?_)
 refine CALL.o.mono ?_
 rintro e w2 ⟨⟨U,rfl,own⟩,A⟩
 have OW:=zq own
 have A2:=zq A
 have S0:=zq (show b0+1+1+1+1<W0.heap.size from X0.o.lt (b0+1+1+1+1, 31,led0) (by simp))
 have LU:=zq (ledc own.led)
 unfold LedV.val
 clear own A CALL
 go_simp
 go_wp2_with (refine led_store (A2.o.get 1 rfl) ledc0 LU.o rfl rfl rfl rfl ?_)
 refine bodyPost_ret (results_led1 rfl _ _ (setRow_heap _ _ _ _ _ _ (A2.o.get 1 rfl)) LU.o rfl) rfl ⟨U,rfl,?_,?_⟩
 ·exact (OW.o.mod (mod_setRow' (w:=w2) (b0+1+1+1+1) _) (fun k hk _ e=>by have:=S0.o;omega)).base (by have:=X0.o.low.size;omega)
 ·exact (A2.o.setRow 1 rfl _).low
theorem acash_any (w:World) (V:LedV) (L:Led) (h:LedAt w V L) (hL:L.accts.length <= 1024) (hGr:Grd w) (a:Int) (c:Int) (x:Int) (hx:I64 x) :
 Calls Tryz.prog 18 #[V.val L,.int .i64 a,.int .i64 c,.int .i64 x] w (AdmRet w (admA L (cashS L a c x))):=by
 have LC:=zq (ledc h)
 have EN:Enters Tryz.prog 54:=enters_of Tryz.func54 (by kernel_rfl) rfl
 have CH:=zq (fun W1 bs0 bs1 (hA:At w W1 (bs0++bs1)) lb (hr:L.Good -> AdmCalls w L 54 lb bs0 (cashS L a c x))=>change_any w W1 V L (h.below hA.low) hL hGr bs0 bs1 hA 54 lb EN (cashS L a c x) hr (fun hg he=>by have:=(good_bulk (cashS_good hg he)).2.2;omega))
 have CL:=zq (fun (hG:L.Good)=>cash1 w L hG a c x hx)
 unfold LedV.val at CH ⊢
 obtain⟨C,hC⟩:∃ C,C=V.cells L:=⟨_,rfl⟩
 rw[<- hC] at CH LC ⊢
 obtain⟨ad,had⟩:∃ adm,adm=admA L (cashS L a c x):=⟨_,rfl⟩
 rw[<- had] at CH ⊢
 obtain⟨W0,hW0⟩:∃ s,s=((((w.alloc (.cells C 31)).alloc (.cells #[.int .i64 a] 3)).alloc (.cells #[.int .i64 c] 3)).alloc (.cells #[.int .i64 x] 3)).alloc (.cells #[.int .i64 0,.slice none 0 0,.slice none 0 0,.slice none 0 0,.slice none 0 0,.slice none 0 0,.slice none 0 0,.slice none 0 0,.slice none 0 0] 31):=⟨_,rfl⟩
 obtain⟨b0,hb0⟩:∃ n,n=w.heap.size:=⟨_,rfl⟩
 have X0:=zq (show At w W0 [(b0, 31,C),(b0+1, 3,#[.int .i64 a]),(b0+1+1, 3,#[.int .i64 c]),(b0+1+1+1, 3,#[.int .i64 x]),(b0+1+1+1+1, 31,led0)] from by
  have a:=((((((At.start w).alloc 31 C).alloc 3 #[.int .i64 a]).alloc 3 #[.int .i64 c]).alloc 3 #[.int .i64 x]).alloc 31 #[.int .i64 0,.slice none 0 0,.slice none 0 0,.slice none 0 0,.slice none 0 0,.slice none 0 0,.slice none 0 0,.slice none 0 0,.slice none 0 0])
  have e:∀ (w:World) (o:Obj),(w.alloc o).heap.size=w.heap.size+1:=fun w o=>by simp
  simp only[e] at a
  rw[<- hW0,<- hb0] at a
  exact a)
 have X1:=zq (show At w W0 ([(b0+1, 3,#[.int .i64 a]),(b0+1+1, 3,#[.int .i64 c]),(b0+1+1+1, 3,#[.int .i64 x])]++[(b0, 31,C),(b0+1+1+1+1, 31,led0)]) from At.subset X0.o (fun x hx=>by
  simp only[List.cons_append,List.nil_append,List.mem_cons,List.not_mem_nil,or_false] at hx ⊢
  rcases hx with rfl|rfl|rfl|rfl|rfl <;> simp) (by simp <;> omega))
 have CALL:=zq (CH.o W0 [(b0+1, 3,#[.int .i64 a]),(b0+1+1, 3,#[.int .i64 c]),(b0+1+1+1, 3,#[.int .i64 x])] [(b0, 31,C),(b0+1+1+1+1, 31,led0)] X1.o #[.pointer (some ⟨b0+1,0,none⟩),.pointer (some ⟨b0+1+1,0,none⟩),.pointer (some ⟨b0+1+1+1,0,none⟩)] (fun hG=>CL.o hG (b0+1) (b0+1+1) (b0+1+1+1)))
 have HB:=zq hb0
 clear h hL hGr hC had CH CL EN hx
 go_enter Tryz.func18,Tryz.ntmps18
 go_upto_region 1 with (fail)
 rw[<- hW0,<- hb0]
 clear hW0 hb0
 go_wp2_with (refine led_load (X0.o.get 0 rfl) LC.o rfl rfl rfl ?_)
 refine CALL.o.mono ?_
 rintro e w2 ⟨⟨U,rfl,own⟩,A⟩
 have OW:=zq own
 have A2:=zq A
 have S0:=zq (show b0+1+1+1+1<W0.heap.size from X0.o.lt (b0+1+1+1+1, 31,led0) (by simp))
 have LU:=zq (ledc own.led)
 unfold LedV.val
 clear own A CALL
 go_simp
 go_wp2_with (refine led_store (A2.o.get 1 rfl) ledc0 LU.o rfl rfl rfl rfl ?_)
 refine bodyPost_ret (results_led1 rfl _ _ (setRow_heap _ _ _ _ _ _ (A2.o.get 1 rfl)) LU.o rfl) rfl ⟨U,rfl,?_,?_⟩
 ·exact (OW.o.mod (mod_setRow' (w:=w2) (b0+1+1+1+1) _) (fun k hk _ e=>by have:=S0.o;omega)).base (by have:=X0.o.low.size;omega)
 ·exact (A2.o.setRow 1 rfl _).low
theorem aaccount_any (w:World) (V:LedV) (L:Led) (h:LedAt w V L) (hL:L.accts.length <= 1024) (hGr:Grd w) (p:Int) :
 Calls Tryz.prog 20 #[V.val L,.int .i64 p] w (AdmRet w (admA L (accountS L p))):=by
 have LC:=zq (ledc h)
 have EN:Enters Tryz.prog 58:=enters_of Tryz.func58 (by kernel_rfl) rfl
 have CH:=zq (fun W1 bs0 bs1 (hA:At w W1 (bs0++bs1)) lb (hr:L.Good -> AdmCalls w L 58 lb bs0 (accountS L p))=>change_any w W1 V L (h.below hA.low) hL hGr bs0 bs1 hA 58 lb EN (accountS L p) hr (fun hg he=>by have:=(good_bulk (accountS_good hg he)).2.2;omega))
 have CL:=zq (fun (hG:L.Good)=>account1 w L hG p)
 unfold LedV.val at CH ⊢
 obtain⟨C,hC⟩:∃ C,C=V.cells L:=⟨_,rfl⟩
 rw[<- hC] at CH LC ⊢
 obtain⟨ad,had⟩:∃ adm,adm=admA L (accountS L p):=⟨_,rfl⟩
 rw[<- had] at CH ⊢
 obtain⟨W0,hW0⟩:∃ s,s=((w.alloc (.cells C 31)).alloc (.cells #[.int .i64 p] 3)).alloc (.cells #[.int .i64 0,.slice none 0 0,.slice none 0 0,.slice none 0 0,.slice none 0 0,.slice none 0 0,.slice none 0 0,.slice none 0 0,.slice none 0 0] 31):=⟨_,rfl⟩
 obtain⟨b0,hb0⟩:∃ n,n=w.heap.size:=⟨_,rfl⟩
 have X0:=zq (show At w W0 [(b0, 31,C),(b0+1, 3,#[.int .i64 p]),(b0+1+1, 31,led0)] from by
  have a:=((((At.start w).alloc 31 C).alloc 3 #[.int .i64 p]).alloc 31 #[.int .i64 0,.slice none 0 0,.slice none 0 0,.slice none 0 0,.slice none 0 0,.slice none 0 0,.slice none 0 0,.slice none 0 0,.slice none 0 0])
  have e:∀ (w:World) (o:Obj),(w.alloc o).heap.size=w.heap.size+1:=fun w o=>by simp
  simp only[e] at a
  rw[<- hW0,<- hb0] at a
  exact a)
 have X1:=zq (show At w W0 ([(b0+1, 3,#[.int .i64 p])]++[(b0, 31,C),(b0+1+1, 31,led0)]) from At.subset X0.o (fun x hx=>by
  simp only[List.cons_append,List.nil_append,List.mem_cons,List.not_mem_nil,or_false] at hx ⊢
  rcases hx with rfl|rfl|rfl <;> simp) (by simp <;> omega))
 have CALL:=zq (CH.o W0 [(b0+1, 3,#[.int .i64 p])] [(b0, 31,C),(b0+1+1, 31,led0)] X1.o #[.pointer (some ⟨b0+1,0,none⟩)] (fun hG=>CL.o hG (b0+1)))
 have HB:=zq hb0
 clear h hL hGr hC had CH CL EN
 go_enter Tryz.func20,Tryz.ntmps20
 go_upto_region 1 with (fail)
 rw[<- hW0,<- hb0]
 clear hW0 hb0
 go_wp2_with (refine led_load (X0.o.get 0 rfl) LC.o rfl rfl rfl ?_)
 refine CALL.o.mono ?_
 rintro e w2 ⟨⟨U,rfl,own⟩,A⟩
 have OW:=zq own
 have A2:=zq A
 have S0:=zq (show b0+1+1<W0.heap.size from X0.o.lt (b0+1+1, 31,led0) (by simp))
 have LU:=zq (ledc own.led)
 unfold LedV.val
 clear own A CALL
 go_simp
 go_wp2_with (refine led_store (A2.o.get 1 rfl) ledc0 LU.o rfl rfl rfl rfl ?_)
 refine bodyPost_ret (results_led1 rfl _ _ (setRow_heap _ _ _ _ _ _ (A2.o.get 1 rfl)) LU.o rfl) rfl ⟨U,rfl,?_,?_⟩
 ·exact (OW.o.mod (mod_setRow' (w:=w2) (b0+1+1) _) (fun k hk _ e=>by have:=S0.o;omega)).base (by have:=X0.o.low.size;omega)
 ·exact (A2.o.setRow 1 rfl _).low
theorem aunder_any (w:World) (V:LedV) (L:Led) (h:LedAt w V L) (hL:L.accts.length <= 1024) (hGr:Grd w) (u:Und) (hs:u.name.size <= maxLen) :
 Calls Tryz.prog 13 #[V.val L,.agg #[.string u.name,.int .i64 u.cur,.int .i64 u.price,.int .i64 u.vol]] w (AdmRet w (admA L (underS L u))):=by
 have LC:=zq (ledc h)
 have EN:Enters Tryz.prog 38:=enters_of Tryz.func38 (by kernel_rfl) rfl
 have CH:=zq (fun W1 bs0 bs1 (hA:At w W1 (bs0++bs1)) lb (hr:L.Good -> AdmCalls w L 38 lb bs0 (underS L u))=>change_any w W1 V L (h.below hA.low) hL hGr bs0 bs1 hA 38 lb EN (underS L u) hr (fun hg he=>by have:=(good_bulk (underS_good hg he)).2.2;omega))
 have CL:=zq (fun (hG:L.Good)=>under1 w L hG u hs)
 unfold LedV.val at CH ⊢
 obtain⟨C,hC⟩:∃ C,C=V.cells L:=⟨_,rfl⟩
 rw[<- hC] at CH LC ⊢
 obtain⟨ad,had⟩:∃ adm,adm=admA L (underS L u):=⟨_,rfl⟩
 rw[<- had] at CH ⊢
 obtain⟨W0,hW0⟩:∃ s,s=((w.alloc (.cells C 31)).alloc (.cells #[.string u.name,.int .i64 u.cur,.int .i64 u.price,.int .i64 u.vol] 33)).alloc (.cells #[.int .i64 0,.slice none 0 0,.slice none 0 0,.slice none 0 0,.slice none 0 0,.slice none 0 0,.slice none 0 0,.slice none 0 0,.slice none 0 0] 31):=⟨_,rfl⟩
 obtain⟨b0,hb0⟩:∃ n,n=w.heap.size:=⟨_,rfl⟩
 have X0:=zq (show At w W0 [(b0, 31,C),(b0+1, 33,#[.string u.name,.int .i64 u.cur,.int .i64 u.price,.int .i64 u.vol]),(b0+1+1, 31,led0)] from by
  have a:=((((At.start w).alloc 31 C).alloc 33 #[.string u.name,.int .i64 u.cur,.int .i64 u.price,.int .i64 u.vol]).alloc 31 #[.int .i64 0,.slice none 0 0,.slice none 0 0,.slice none 0 0,.slice none 0 0,.slice none 0 0,.slice none 0 0,.slice none 0 0,.slice none 0 0])
  have e:∀ (w:World) (o:Obj),(w.alloc o).heap.size=w.heap.size+1:=fun w o=>by simp
  simp only[e] at a
  rw[<- hW0,<- hb0] at a
  exact a)
 have X1:=zq (show At w W0 ([(b0+1, 33,#[.string u.name,.int .i64 u.cur,.int .i64 u.price,.int .i64 u.vol])]++[(b0, 31,C),(b0+1+1, 31,led0)]) from At.subset X0.o (fun x hx=>by
  simp only[List.cons_append,List.nil_append,List.mem_cons,List.not_mem_nil,or_false] at hx ⊢
  rcases hx with rfl|rfl|rfl <;> simp) (by simp <;> omega))
 have CALL:=zq (CH.o W0 [(b0+1, 33,#[.string u.name,.int .i64 u.cur,.int .i64 u.price,.int .i64 u.vol])] [(b0, 31,C),(b0+1+1, 31,led0)] X1.o #[.pointer (some ⟨b0+1,0,none⟩)] (fun hG=>CL.o hG (b0+1)))
 have HB:=zq hb0
 clear h hL hGr hC had CH CL EN hs
 go_enter Tryz.func13,Tryz.ntmps13
 go_upto_region 1 with (fail)
 rw[<- hW0,<- hb0]
 clear hW0 hb0
 go_wp2_with (refine led_load (X0.o.get 0 rfl) LC.o rfl rfl rfl ?_)
 refine CALL.o.mono ?_
 rintro e w2 ⟨⟨U,rfl,own⟩,A⟩
 have OW:=zq own
 have A2:=zq A
 have S0:=zq (show b0+1+1<W0.heap.size from X0.o.lt (b0+1+1, 31,led0) (by simp))
 have LU:=zq (ledc own.led)
 unfold LedV.val
 clear own A CALL
 go_simp
 go_wp2_with (refine led_store (A2.o.get 1 rfl) ledc0 LU.o rfl rfl rfl rfl ?_)
 refine bodyPost_ret (results_led1 rfl _ _ (setRow_heap _ _ _ _ _ _ (A2.o.get 1 rfl)) LU.o rfl) rfl ⟨U,rfl,?_,?_⟩
 ·exact (OW.o.mod (mod_setRow' (w:=w2) (b0+1+1) _) (fun k hk _ e=>by have:=S0.o;omega)).base (by have:=X0.o.low.size;omega)
 ·exact (A2.o.setRow 1 rfl _).low
theorem ainstr_any (w:World) (V:LedV) (L:Led) (h:LedAt w V L) (hL:L.accts.length <= 1024) (hGr:Grd w) (i:Ins) :
 Calls Tryz.prog 16 #[V.val L,.agg #[.int .i64 i.kind,.int .i64 i.under,.int .i64 i.mult,.int .i64 i.strike,.int .i64 i.expiry,.bool i.call,.int .i64 i.mark]] w (AdmRet w (admA L (instrS L i))):=by
 have LC:=zq (ledc h)
 have EN:Enters Tryz.prog 48:=enters_of Tryz.func48 (by kernel_rfl) rfl
 have CH:=zq (fun W1 bs0 bs1 (hA:At w W1 (bs0++bs1)) lb (hr:L.Good -> AdmCalls w L 48 lb bs0 (instrS L i))=>change_any w W1 V L (h.below hA.low) hL hGr bs0 bs1 hA 48 lb EN (instrS L i) hr (fun hg he=>by have:=(good_bulk (instrS_good hg he)).2.2;omega))
 have CL:=zq (fun (hG:L.Good)=>instr1 w L hG i)
 unfold LedV.val at CH ⊢
 obtain⟨C,hC⟩:∃ C,C=V.cells L:=⟨_,rfl⟩
 rw[<- hC] at CH LC ⊢
 obtain⟨ad,had⟩:∃ adm,adm=admA L (instrS L i):=⟨_,rfl⟩
 rw[<- had] at CH ⊢
 obtain⟨W0,hW0⟩:∃ s,s=((w.alloc (.cells C 31)).alloc (.cells #[.int .i64 i.kind,.int .i64 i.under,.int .i64 i.mult,.int .i64 i.strike,.int .i64 i.expiry,.bool i.call,.int .i64 i.mark] 35)).alloc (.cells #[.int .i64 0,.slice none 0 0,.slice none 0 0,.slice none 0 0,.slice none 0 0,.slice none 0 0,.slice none 0 0,.slice none 0 0,.slice none 0 0] 31):=⟨_,rfl⟩
 obtain⟨b0,hb0⟩:∃ n,n=w.heap.size:=⟨_,rfl⟩
 have X0:=zq (show At w W0 [(b0, 31,C),(b0+1, 35,#[.int .i64 i.kind,.int .i64 i.under,.int .i64 i.mult,.int .i64 i.strike,.int .i64 i.expiry,.bool i.call,.int .i64 i.mark]),(b0+1+1, 31,led0)] from by
  have a:=((((At.start w).alloc 31 C).alloc 35 #[.int .i64 i.kind,.int .i64 i.under,.int .i64 i.mult,.int .i64 i.strike,.int .i64 i.expiry,.bool i.call,.int .i64 i.mark]).alloc 31 #[.int .i64 0,.slice none 0 0,.slice none 0 0,.slice none 0 0,.slice none 0 0,.slice none 0 0,.slice none 0 0,.slice none 0 0,.slice none 0 0])
  have e:∀ (w:World) (o:Obj),(w.alloc o).heap.size=w.heap.size+1:=fun w o=>by simp
  simp only[e] at a
  rw[<- hW0,<- hb0] at a
  exact a)
 have X1:=zq (show At w W0 ([(b0+1, 35,#[.int .i64 i.kind,.int .i64 i.under,.int .i64 i.mult,.int .i64 i.strike,.int .i64 i.expiry,.bool i.call,.int .i64 i.mark])]++[(b0, 31,C),(b0+1+1, 31,led0)]) from At.subset X0.o (fun x hx=>by
  simp only[List.cons_append,List.nil_append,List.mem_cons,List.not_mem_nil,or_false] at hx ⊢
  rcases hx with rfl|rfl|rfl <;> simp) (by simp <;> omega))
 have CALL:=zq (CH.o W0 [(b0+1, 35,#[.int .i64 i.kind,.int .i64 i.under,.int .i64 i.mult,.int .i64 i.strike,.int .i64 i.expiry,.bool i.call,.int .i64 i.mark])] [(b0, 31,C),(b0+1+1, 31,led0)] X1.o #[.pointer (some ⟨b0+1,0,none⟩)] (fun hG=>CL.o hG (b0+1)))
 have HB:=zq hb0
 clear h hL hGr hC had CH CL EN
 go_enter Tryz.func16,Tryz.ntmps16
 go_upto_region 1 with (fail)
 rw[<- hW0,<- hb0]
 clear hW0 hb0
 go_wp2_with (refine led_load (X0.o.get 0 rfl) LC.o rfl rfl rfl ?_)
 refine CALL.o.mono ?_
 rintro e w2 ⟨⟨U,rfl,own⟩,A⟩
 have OW:=zq own
 have A2:=zq A
 have S0:=zq (show b0+1+1<W0.heap.size from X0.o.lt (b0+1+1, 31,led0) (by simp))
 have LU:=zq (ledc own.led)
 unfold LedV.val
 clear own A CALL
 go_simp
 go_wp2_with (refine led_store (A2.o.get 1 rfl) ledc0 LU.o rfl rfl rfl rfl ?_)
 refine bodyPost_ret (results_led1 rfl _ _ (setRow_heap _ _ _ _ _ _ (A2.o.get 1 rfl)) LU.o rfl) rfl ⟨U,rfl,?_,?_⟩
 ·exact (OW.o.mod (mod_setRow' (w:=w2) (b0+1+1) _) (fun k hk _ e=>by have:=S0.o;omega)).base (by have:=X0.o.low.size;omega)
 ·exact (A2.o.setRow 1 rfl _).low
theorem asupply_any (w:World) (V:LedV) (L:Led) (h:LedAt w V L) (hL:L.accts.length <= 1024) (hGr:Grd w) (i:Int) (q:Int) :
 Calls Tryz.prog 26 #[V.val L,.int .i64 i,.int .i64 q] w (AdmRet w (admA L (supplyS L i q))):=by
 have LC:=zq (ledc h)
 have EN:Enters Tryz.prog 67:=enters_of Tryz.func67 (by kernel_rfl) rfl
 have CH:=zq (fun W1 bs0 bs1 (hA:At w W1 (bs0++bs1)) lb (hr:L.Good -> AdmCalls w L 67 lb bs0 (supplyS L i q))=>change_any w W1 V L (h.below hA.low) hL hGr bs0 bs1 hA 67 lb EN (supplyS L i q) hr (fun hg he=>by have:=(good_bulk (supplyS_good hg he)).2.2;omega))
 have CL:=zq (fun (hG:L.Good)=>supply1 w L hG i q)
 unfold LedV.val at CH ⊢
 obtain⟨C,hC⟩:∃ C,C=V.cells L:=⟨_,rfl⟩
 rw[<- hC] at CH LC ⊢
 obtain⟨ad,had⟩:∃ adm,adm=admA L (supplyS L i q):=⟨_,rfl⟩
 rw[<- had] at CH ⊢
 obtain⟨W0,hW0⟩:∃ s,s=(((w.alloc (.cells C 31)).alloc (.cells #[.int .i64 i] 3)).alloc (.cells #[.int .i64 q] 3)).alloc (.cells #[.int .i64 0,.slice none 0 0,.slice none 0 0,.slice none 0 0,.slice none 0 0,.slice none 0 0,.slice none 0 0,.slice none 0 0,.slice none 0 0] 31):=⟨_,rfl⟩
 obtain⟨b0,hb0⟩:∃ n,n=w.heap.size:=⟨_,rfl⟩
 have X0:=zq (show At w W0 [(b0, 31,C),(b0+1, 3,#[.int .i64 i]),(b0+1+1, 3,#[.int .i64 q]),(b0+1+1+1, 31,led0)] from by
  have a:=(((((At.start w).alloc 31 C).alloc 3 #[.int .i64 i]).alloc 3 #[.int .i64 q]).alloc 31 #[.int .i64 0,.slice none 0 0,.slice none 0 0,.slice none 0 0,.slice none 0 0,.slice none 0 0,.slice none 0 0,.slice none 0 0,.slice none 0 0])
  have e:∀ (w:World) (o:Obj),(w.alloc o).heap.size=w.heap.size+1:=fun w o=>by simp
  simp only[e] at a
  rw[<- hW0,<- hb0] at a
  exact a)
 have X1:=zq (show At w W0 ([(b0+1, 3,#[.int .i64 i]),(b0+1+1, 3,#[.int .i64 q])]++[(b0, 31,C),(b0+1+1+1, 31,led0)]) from At.subset X0.o (fun x hx=>by
  simp only[List.cons_append,List.nil_append,List.mem_cons,List.not_mem_nil,or_false] at hx ⊢
  rcases hx with rfl|rfl|rfl|rfl <;> simp) (by simp <;> omega))
 have CALL:=zq (CH.o W0 [(b0+1, 3,#[.int .i64 i]),(b0+1+1, 3,#[.int .i64 q])] [(b0, 31,C),(b0+1+1+1, 31,led0)] X1.o #[.pointer (some ⟨b0+1,0,none⟩),.pointer (some ⟨b0+1+1,0,none⟩)] (fun hG=>CL.o hG (b0+1) (b0+1+1)))
 have HB:=zq hb0
 clear h hL hGr hC had CH CL EN
 go_enter Tryz.func26,Tryz.ntmps26
 go_upto_region 1 with (fail)
 rw[<- hW0,<- hb0]
 clear hW0 hb0
 go_wp2_with (refine led_load (X0.o.get 0 rfl) LC.o rfl rfl rfl ?_)
 refine CALL.o.mono ?_
 rintro e w2 ⟨⟨U,rfl,own⟩,A⟩
 have OW:=zq own
 have A2:=zq A
 have S0:=zq (show b0+1+1+1<W0.heap.size from X0.o.lt (b0+1+1+1, 31,led0) (by simp))
 have LU:=zq (ledc own.led)
 unfold LedV.val
 clear own A CALL
 go_simp
 go_wp2_with (refine led_store (A2.o.get 1 rfl) ledc0 LU.o rfl rfl rfl rfl ?_)
 refine bodyPost_ret (results_led1 rfl _ _ (setRow_heap _ _ _ _ _ _ (A2.o.get 1 rfl)) LU.o rfl) rfl ⟨U,rfl,?_,?_⟩
 ·exact (OW.o.mod (mod_setRow' (w:=w2) (b0+1+1+1) _) (fun k hk _ e=>by have:=S0.o;omega)).base (by have:=X0.o.low.size;omega)
 ·exact (A2.o.setRow 1 rfl _).low
theorem areserve_any (w:World) (V:LedV) (L:Led) (h:LedAt w V L) (hL:L.accts.length <= 1024) (hGr:Grd w) (a:Int) (i:Int) (q:Int) :
 Calls Tryz.prog 28 #[V.val L,.int .i64 a,.int .i64 i,.int .i64 q] w (AdmRet w (admA L (reserveS L a i q))):=by
 have LC:=zq (ledc h)
 have EN:Enters Tryz.prog 70:=enters_of Tryz.func70 (by kernel_rfl) rfl
 have CH:=zq (fun W1 bs0 bs1 (hA:At w W1 (bs0++bs1)) lb (hr:L.Good -> AdmCalls w L 70 lb bs0 (reserveS L a i q))=>change_any w W1 V L (h.below hA.low) hL hGr bs0 bs1 hA 70 lb EN (reserveS L a i q) hr (fun hg he=>by have:=(good_bulk (reserveS_good hg he)).2.2;omega))
 have CL:=zq (fun (hG:L.Good)=>reserve1 w L hG a i q)
 unfold LedV.val at CH ⊢
 obtain⟨C,hC⟩:∃ C,C=V.cells L:=⟨_,rfl⟩
 rw[<- hC] at CH LC ⊢
 obtain⟨ad,had⟩:∃ adm,adm=admA L (reserveS L a i q):=⟨_,rfl⟩
 rw[<- had] at CH ⊢
 obtain⟨W0,hW0⟩:∃ s,s=((((w.alloc (.cells C 31)).alloc (.cells #[.int .i64 a] 3)).alloc (.cells #[.int .i64 i] 3)).alloc (.cells #[.int .i64 q] 3)).alloc (.cells #[.int .i64 0,.slice none 0 0,.slice none 0 0,.slice none 0 0,.slice none 0 0,.slice none 0 0,.slice none 0 0,.slice none 0 0,.slice none 0 0] 31):=⟨_,rfl⟩
 obtain⟨b0,hb0⟩:∃ n,n=w.heap.size:=⟨_,rfl⟩
 have X0:=zq (show At w W0 [(b0, 31,C),(b0+1, 3,#[.int .i64 a]),(b0+1+1, 3,#[.int .i64 i]),(b0+1+1+1, 3,#[.int .i64 q]),(b0+1+1+1+1, 31,led0)] from by
  have a:=((((((At.start w).alloc 31 C).alloc 3 #[.int .i64 a]).alloc 3 #[.int .i64 i]).alloc 3 #[.int .i64 q]).alloc 31 #[.int .i64 0,.slice none 0 0,.slice none 0 0,.slice none 0 0,.slice none 0 0,.slice none 0 0,.slice none 0 0,.slice none 0 0,.slice none 0 0])
  have e:∀ (w:World) (o:Obj),(w.alloc o).heap.size=w.heap.size+1:=fun w o=>by simp
  simp only[e] at a
  rw[<- hW0,<- hb0] at a
  exact a)
 have X1:=zq (show At w W0 ([(b0+1, 3,#[.int .i64 a]),(b0+1+1, 3,#[.int .i64 i]),(b0+1+1+1, 3,#[.int .i64 q])]++[(b0, 31,C),(b0+1+1+1+1, 31,led0)]) from At.subset X0.o (fun x hx=>by
  simp only[List.cons_append,List.nil_append,List.mem_cons,List.not_mem_nil,or_false] at hx ⊢
  rcases hx with rfl|rfl|rfl|rfl|rfl <;> simp) (by simp <;> omega))
 have CALL:=zq (CH.o W0 [(b0+1, 3,#[.int .i64 a]),(b0+1+1, 3,#[.int .i64 i]),(b0+1+1+1, 3,#[.int .i64 q])] [(b0, 31,C),(b0+1+1+1+1, 31,led0)] X1.o #[.pointer (some ⟨b0+1,0,none⟩),.pointer (some ⟨b0+1+1,0,none⟩),.pointer (some ⟨b0+1+1+1,0,none⟩)] (fun hG=>CL.o hG (b0+1) (b0+1+1) (b0+1+1+1)))
 have HB:=zq hb0
 clear h hL hGr hC had CH CL EN
 go_enter Tryz.func28,Tryz.ntmps28
 go_upto_region 1 with (fail)
 rw[<- hW0,<- hb0]
 clear hW0 hb0
 go_wp2_with (refine led_load (X0.o.get 0 rfl) LC.o rfl rfl rfl ?_)
 refine CALL.o.mono ?_
 rintro e w2 ⟨⟨U,rfl,own⟩,A⟩
 have OW:=zq own
 have A2:=zq A
 have S0:=zq (show b0+1+1+1+1<W0.heap.size from X0.o.lt (b0+1+1+1+1, 31,led0) (by simp))
 have LU:=zq (ledc own.led)
 unfold LedV.val
 clear own A CALL
 go_simp
 go_wp2_with (refine led_store (A2.o.get 1 rfl) ledc0 LU.o rfl rfl rfl rfl ?_)
 refine bodyPost_ret (results_led1 rfl _ _ (setRow_heap _ _ _ _ _ _ (A2.o.get 1 rfl)) LU.o rfl) rfl ⟨U,rfl,?_,?_⟩
 ·exact (OW.o.mod (mod_setRow' (w:=w2) (b0+1+1+1+1) _) (fun k hk _ e=>by have:=S0.o;omega)).base (by have:=X0.o.low.size;omega)
 ·exact (A2.o.setRow 1 rfl _).low
end Go.Proofs.YtnkpdfjnjmmleaaGreatDoor

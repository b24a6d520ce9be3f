/- The document's admin, walked (printed by tools/gen_admr.py). -/
import Derived.Test.YtnkpdfjnjmmleaaGreatDoorAdmD
import Derived.Test.YtnkpdfjnjmmleaaGreatDoorLocE
import Derived.Test.YtnkpdfjnjmmleaaGreatDoorAdmPu
set_option linter.unusedVariables false
set_option linter.unusedSimpArgs false
set_option maxRecDepth 100000
set_option maxHeartbeats 4000000
namespace Go.Proofs.YtnkpdfjnjmmleaaGreatDoor
open Go.RowKit Go.Bw Go.Maps Go.Shelf Go.Bw.Fall
theorem dreserve_any (w:World) (V:LedV) (L:Led) (h:LedAt w V L) (hL:L.accts.length <= 1024) (a i q:Int) :
 Calls Tryz.prog 29 #[V.val L,.int .i64 a,.int .i64 i,.int .i64 q] w (AdmRet w (admA L (reserveS L a i q))):=by
 classical
 have LC:=zq (ledc h)
 have HH:=zq h
 have GD:=zq (show ∀ W,Below w.heap.size w W -> ∀ B:Bool,decide L.Good=B -> Calls Tryz.prog 43 #[V.val L] W fun e w'=>e=.returned (.bool B) /\ Below W.heap.size W w' from fun W hb B hB=>rgood_to (h.below hb) hL hB)
 have CP:=zq (fun W (hb:Below w.heap.size w W) (hg:L.Good)=>rcopy_any W V L (h.below hb) (good_bulk hg).1 (fun a ha=>by have:=(good_bulk hg).2.1 a ha;omega))
 unfold LedV.val at GD CP ⊢
 obtain⟨C,hC⟩:∃ C,C=V.cells L:=⟨_,rfl⟩
 have EC:=zq hC
 rw[<- hC] at GD CP LC ⊢
 obtain⟨W0,hW0⟩:∃ s,s=(w.alloc (.cells C 31)).alloc (.cells #[.int .i64 0,.slice none 0 0,.slice none 0 0,.slice none 0 0,.slice none 0 0,.slice none 0 0,.slice none 0 0,.slice none 0 0,.slice none 0 0] 31):=⟨_,rfl⟩
 obtain⟨b0,hb0⟩:∃ n,n=w.heap.size:=⟨_,rfl⟩
 have X0:=zq (show At w W0 [(b0, 31,C),(b0+1, 31,led0)] from by
  have a:=(((At.start w).alloc 31 C).alloc 31 #[.int .i64 0,.slice none 0 0,.slice none 0 0,.slice none 0 0,.slice none 0 0,.slice none 0 0,.slice none 0 0,.slice none 0 0,.slice none 0 0])
  have e:∀ (w:World) (o:Obj),(w.alloc o).heap.size=w.heap.size+1:=fun w o=>by simp
  simp only[e] at a
  rw[<- hW0,<- hb0] at a
  exact a)
 clear h hL hC
 go_enter Tryz.func29,Tryz.ntmps29
 go_upto_region 1 with (fail)
 rw[<- hW0,<- hb0]
 clear hW0 hb0
 go_wp2_with (refine led_load (X0.o.get 0 rfl) LC.o rfl rfl rfl ?_)
 by_cases hg:L.Good
 ·refine (GD.o W0 X0.o.low true (decide_eq_true hg)).mono ?_
  rintro e w1 ⟨rfl,hb⟩
  have XX:=zq (X0.o.go hb)
  have HG:=zq hg
  clear hb X0 hg GD
  obtain⟨a7,c7,e7⟩:=HH.o.avail.form
  obtain⟨a8,c8,e8⟩:=HH.o.locs.form
  obtain⟨a4,c4,e4⟩:=cells4 HH.o
  have E7:=zq e7
  have E8:=zq e8
  obtain⟨n4,hn4⟩:∃ n,n=L.accts.length:=⟨_,rfl⟩
  have N4:=zq hn4
  obtain⟨n7,hn7⟩:∃ n,n=L.avail.length:=⟨_,rfl⟩
  have N7:=zq hn7
  obtain⟨n8,hn8⟩:∃ n,n=L.locs.length:=⟨_,rfl⟩
  have N8:=zq hn8
  have AB:=zq (show L.avail.length <= 12 /\ ∀ x∈L.avail,0 <= x /\ x <= 1000000000 from ⟨by have:=HG.o.locs.len;have:=HG.o.things.i1;omega,HG.o.locs.avail⟩)
  have y4:w1.cell? ⟨b0,4,none⟩=some (.slice a4 n4 c4):=XX.o.cell 0 rfl 4 (by rw[EC.o,hn4];exact e4)
  have y7:w1.cell? ⟨b0,7,none⟩=some (.slice a7 n7 c7):=XX.o.cell 0 rfl 7 (by rw[EC.o,hn7,<- e7];rfl)
  have y8:w1.cell? ⟨b0,8,none⟩=some (.slice a8 n8 c8):=XX.o.cell 0 rfl 8 (by rw[EC.o,hn8,<- e8];rfl)
  have SU:=zq (fun W (hb:Below w.heap.size w W)=>rreserve_any W V.avail V.locs L.avail L.locs (HH.o.below hb).avail (HH.o.below hb).locs (by have:=AB.o.1;omega) (by have:=HG.o.locs.locn;omega) AB.o.2 (fun x hx=>by have:=HG.o.locs.all x hx;omega) (Rises.pair (fun a b c h1 h2=>by unfold Pos.Lt at *;omega) HG.o.locs.rise) a i q)
  rw[E7.o,<- N7.o,E8.o,<- N8.o] at SU
  obtain⟨A,B,er,hA⟩:∃ A B er,reserveA L.avail L.locs a i q=(A,B,er):=⟨_,_,_,rfl⟩
  rw[hA] at SU
  have HA:=zq hA
  clear e7 hn7 hA e8 hn8 e4 hn4
  by_cases h0:a<2
  ·have d0:decide (a<2)=true:=decide_eq_true h0
   go_wp2_with fail
   refine (rno_any 33 _).mono ?_
   rintro e w9 ⟨rfl,hb⟩
   have XN:=zq (XX.o.go hb)
   clear hb
   go_wp2_with (refine led_store (cs:=led0) (XN.o.get 1 rfl) ledc0 ledc0 rfl rfl rfl rfl ?_)
   refine bodyPost_ret (results_led1 (cs:=led0) rfl _ _ (setRow_heap _ _ _ _ _ _ (XN.o.get 1 rfl)) ledc0 rfl) rfl (no_ret XN.o (k:=1) rfl (by rw[admA_err HG.o (by unfold reserveS;rw[if_neg (by omega)];first|decide|exact HZ.o)];unfold reserveS;rw[if_neg (by omega)];rfl))
  ·by_cases h1:(n4:Int) <= a
   ·go_wp2_with fail
    refine (rno_any 33 _).mono ?_
    rintro e w9 ⟨rfl,hb⟩
    have XN:=zq (XX.o.go hb)
    clear hb
    go_wp2_with (refine led_store (cs:=led0) (XN.o.get 1 rfl) ledc0 ledc0 rfl rfl rfl rfl ?_)
    refine bodyPost_ret (results_led1 (cs:=led0) rfl _ _ (setRow_heap _ _ _ _ _ _ (XN.o.get 1 rfl)) ledc0 rfl) rfl (no_ret XN.o (k:=1) rfl (by rw[admA_err HG.o (by unfold reserveS;rw[if_neg (by have:=N4.o;omega)];first|decide|exact HZ.o)];unfold reserveS;rw[if_neg (by have:=N4.o;omega)];rfl))
   ·have RG:=zq (show 2 <= a /\ a<(L.accts.length:Int) from ⟨by omega,by have:=N4.o;omega⟩)
    go_wp2_with fail
    refine (SU.o w1 XX.o.low).mono ?_
    rintro e w2 ⟨u,v,rfl,own,own2,hb,sep⟩
    have X1:=zq XX.o
    have XX:=zq (XX.o.go hb)
    have UO:=zq own
    have VO:=zq own2
    have UV:=zq sep
    have S12:=zq hb.size
    clear hb own own2 sep y4 y7 y8 SU h0 h1
    go_upto_region 6 with (fail)
    by_cases hz:er=0
    ·subst hz
     obtain⟨au,cu,hu,_⟩:=UO.o.form
     obtain⟨av,cv,hv,_⟩:=VO.o.form
     obtain⟨nu,hnu⟩:∃ n,n=A.length:=⟨_,rfl⟩
     obtain⟨nv,hnv⟩:∃ n,n=B.length:=⟨_,rfl⟩
     have hu':u=.slice au nu cu:=by rw[hnu];exact hu
     have hv':v=.slice av nv cv:=by rw[hnv];exact hv
     clear hnu hnv hu hv
     subst hu'
     subst hv'
     go_wp2_with (refine led_load (XX.o.get 0 rfl) LC.o rfl rfl rfl ?_)
     refine (CP.o w2 XX.o.low HG.o).mono ?_
     rintro e wq ⟨V2,rfl,own,hb⟩
     have FF:=zq (fbs_copy XX.o own hb)
     have R0:=zq (show w2.heap.size <= wq.heap.size from hb.size)
     have L2:=zq (ledc own.led)
     unfold LedV.val
     have BQ:=zq hb
     clear own hb CP
     go_upto_region 9 with (refine led_store (heap_alloc_last _ _) ledc0 L2.o rfl rfl rfl rfl ?_;rw[World.setRow_alloc_new])
     obtain⟨W5,hW5⟩:∃ s,s=wq.alloc (.cells (V2.cells L) 31):=⟨_,rfl⟩
     obtain⟨b5,hb5⟩:∃ n,n=wq.heap.size:=⟨_,rfl⟩
     rw[<- hW5,<- hb5] at FF
     rw[<- hW5,<- hb5]
     have BW5:=zq (show Below w2.heap.size w2 W5 from by rw[hW5];exact BQ.o.alloc BQ.o.size _)
     have B5:=zq (show w2.heap.size <= b5 from by rw[hb5];exact BQ.o.size)
     clear hW5 hb5
     obtain⟨a7',c7',e7'⟩:=FF.o.own.led.avail.form
     obtain⟨a8',c8',e8'⟩:=FF.o.own.led.locs.form
     have z7:=FF.o.at_.free 0 rfl 7
     have k7:W5.cell? ⟨b5,7,none⟩=some (.slice a7' n7 c7'):=FF.o.at_.cell 0 rfl 7 (by show some V2.avail=_;rw[e7',N7.o])
     have NB:=zq (show ∀ b,w1.heap.size <= b -> b<w2.heap.size -> ∀ x∈(b5, 31,V2.cells L)::[(b0, 31,C),(b0+1, 31,led0)],b≠x.1 from fun b h1 h2 x hx e=>by
      rcases List.mem_cons.1 hx with rfl|hx
      ·have:=B5.o;simp only at e;omega
      ·have:=X1.o.lt x hx;omega)
     have F7:=zq ((FF.o.base (R1:=w1.heap.size) S12.o X1.o.low.size).put_avail 0 rfl (UO.o.below BW5.o) (fun y hy b h1 h2=>by have:=(FF.o.own.lts _ hy b h1).1;have:=(UO.o.lt b h2).2;omega) (fun x hx e=>NB.o _ (UO.o.lt _ e).1 (UO.o.lt _ e).2 x hx rfl))
     go_upto_region 10 with (fail)
     clear z7 k7
     have z8:=F7.o.at_.free 0 rfl 8
     have k8:(W5.setCell ⟨b5,7,none⟩ (.slice au nu cu)).cell? ⟨b5,8,none⟩=some (.slice a8' n8 c8'):=F7.o.at_.cell 0 rfl 8 (by show some V2.locs=_;rw[e8',N8.o])
     clear e7' e8'
     have F8:=zq (F7.o.put_locs 0 rfl ((VO.o.below BW5.o).mod ((Mod.refl (fun k=>k=b5) W5).setCell (p:=⟨b5,7,none⟩) _ (fun _=>rfl)) (fun k hk e=>by have:=(VO.o.lt k hk).2;have:=B5.o;omega)) (fun y hy b h1 h2=>by
      have h3:=(VO.o.lt b h2).2
      rcases List.mem_or_eq_of_mem_set (show y∈V2.rows.set 6 (.slice au nu cu) from hy) with hy|rfl
      ·have:=(FF.o.own.lts _ hy b h1).1;omega
      ·exact UV.o b h1 h2) (fun x hx e=>by
      have hx:x∈(b5, 31,({ V2 with avail:=.slice au nu cu }:LedV).cells L)::[(b0, 31,C),(b0+1, 31,led0)]:=hx
      rcases List.mem_cons.1 hx with rfl|hx
      ·have:=(VO.o.lt _ e).2;have:=B5.o;simp only at *;omega
      ·have:=X1.o.lt x hx;have:=(VO.o.lt _ e).1;omega))
     go_upto_region 11 with (fail)
     clear z8 k8
     obtain⟨V4,hV4⟩:∃ U:LedV,U={ V2 with avail:=.slice au nu cu,locs:=.slice av nv cv }:=⟨_,rfl⟩
     obtain⟨L7,hL7⟩:∃ l:Led,l={ L with avail:=A,locs:=B }:=⟨_,rfl⟩
     obtain⟨W7,hW7⟩:∃ s,s=(W5.setCell ⟨b5,7,none⟩ (.slice au nu cu)).setCell ⟨b5,8,none⟩ (.slice av nv cv):=⟨_,rfl⟩
     have F7:=zq (show FBs w w1.heap.size ((b5, 31,V4.cells L7)::[(b0, 31,C),(b0+1, 31,led0)]) V4 L7 W7 from by rw[hW7,hV4,hL7];exact F8.o)
     have EL:=zq hL7
     have EV:=zq (show V4.locs=.slice av nv cv /\ L7.locs=B from by rw[hV4,hL7];exact⟨rfl,rfl⟩)
     rw[<- hW7]
     clear hW7 hV4 hL7 F8
     have FD:=zq F7.o.drew
     refine Fall2.wp_region_tree (C:=fun w'=>∃ z:Cls (fun W=>W.heap[b5]?=some (.cells (V4.cells L7) 31 (0,0))),w'=z.w) [4,5,9] [0] (.step 0 (.step 1 (.step 2 (.step 3 (.step 4 (.step 5 (.step 6 (.step 7 (.step 8 (.step 9 (.step 10 (.step 11 .leaf)))))))))))) (fun _ _ _=>False) (by kernel_rfl) (fun _ _ _ h=>h.elim) (by kernel_rfl) ⟨⟨W7.drew,FD.o.at_.get 0 rfl⟩,rfl⟩ ?_
     obtain⟨WD,hWD⟩:∃ s,s=W7.drew:=⟨_,rfl⟩
     rw[<- hWD] at FD ⊢
     clear hWD
     have LE:=zq (ledc FD.o.own.led)
     obtain⟨y,hyy⟩:∃ y,y=heldL B a i:=⟨_,rfl⟩
     have EQ:=zq (show reserveS L a i q=(⟨L7,y,0⟩:Adm) from by unfold reserveS;rw[if_pos RG.o,HA.o,if_pos rfl,<- hyy,EL.o])
     have EE:=zq (show admA L (reserveS L a i q)=endA L7 y from by rw[admA_end HG.o (by rw[EQ.o]),EQ.o])
     have GE:=zq (show L7.Good from by
      have:=reserveS_good HG.o (by rw[EQ.o]:(reserveS L a i q).err=0)
      rw[EQ.o] at this
      exact this)
     have HE:=zq (rheld_any WD V4.locs L7.locs FD.o.own.led.locs (by have:=GE.o.locs.locn;omega) a i)
     rw[EV.o.1,EV.o.2,<- hyy] at HE
     clear hyy
     haveI ne:Nonempty (Cls (fun W=>W.heap[b5]?=some (.cells (V4.cells L7) 31 (0,0)))):=⟨⟨WD,FD.o.at_.get 0 rfl⟩⟩
     refine Fall2.tree_pure [0] (by kernel_rfl) ?_
     simp only[pickL,nth]
     refine quiet_led (cs:=V4.cells L7) (fun W hW=>by obtain⟨z,rfl⟩:=hW;exact z.ok) LE.o rfl rfl rfl ?_
     go_simp
     refine wpQuiet_nil ?_
     refine Fall2.tree_still [1,2,3] (by kernel_rfl) ?_
     simp only[pickL,nth]
     repeat (go_big_quiet_step (fail))
     refine wpQuiet_nil ?_
     refine Fall2.tree_eff (by kernel_rfl) rfl (fun K hK=>?_)
     simp only[pickL,nth]
     refine wpOne_one ?_
     go_simp
     refine HE.o.mono ?_
     rintro e w6 ⟨rfl,hb⟩
     have FE:=zq (FD.o.go hb)
     clear hb HE
     go_simp
     refine hK _ _ (fun _=>⟨⟨w6,FE.o.at_.get 0 rfl⟩,rfl⟩) ?_
     clear hK
     have EN:=zq (rend_any w6 _ _ FE.o.own.led GE.o y)
     unfold LedV.val at EN
     refine Fall2.tree_eff (by kernel_rfl) rfl (fun K hK=>?_)
     simp only[pickL,nth]
     refine wpOne_one ?_
     go_simp
     refine EN.o.mono ?_
     obtain⟨a9,ha⟩:∃ a,a=endA L7 y:=⟨_,rfl⟩
     rw[<- ha] at EE ⊢
     rintro e w7 ⟨U,rfl,own,hb⟩
     have OW:=zq own
     have BB:=zq hb
     have X7:=zq (FE.o.at_.go hb)
     have LU:=zq (ledc own.led)
     unfold LedV.val
     clear own hb ha EN
     go_simp
     refine hK _ _ (fun _=>⟨⟨w7,X7.o.get 0 rfl⟩,rfl⟩) ?_
     clear hK
     refine Fall2.tree_still [6,7,8] (by kernel_rfl) ?_
     simp only[pickL,nth]
     repeat (go_big_quiet_step (fail))
     refine wpQuiet_nil ?_
     refine Fall2.tree_eff (by kernel_rfl) rfl (fun K hK=>?_)
     simp only[pickL,nth]
     refine led_store1 (X7.o.get 2 rfl) ledc0 LU.o rfl rfl rfl ?_
     refine hK _ _ (fun _=>⟨⟨_,(X7.o.setRow 2 rfl _).get 0 rfl⟩,rfl⟩) ?_
     clear hK
     go_simp
     refine Fall2.tree_still [10,11] (by kernel_rfl) ?_
     simp only[pickL,nth]
     repeat (go_big_quiet_step (fail))
     refine wpQuiet_nil ?_
     refine Fall2.tree_nil ?_
     go_wp2_with fail
     exact bodyPost_ret (results_led1 rfl _ _ (setRow_heap _ _ _ _ _ _ (X7.o.get 2 rfl)) LU.o rfl) rfl (by simpa using end_ret FE.o.at_ BB.o OW.o (k:=2) rfl EE.o.symm rfl rfl rfl)
    ·have HZ:=zq hz
     have hz':(er != 0)=true:=by rw[bne_iff_ne];exact hz
     go_wp2_with fail
     refine (rno_any er _).mono ?_
     rintro e w9 ⟨rfl,hb⟩
     have XN:=zq (XX.o.go hb)
     clear hb
     go_wp2_with (refine led_store (cs:=led0) (XN.o.get 1 rfl) ledc0 ledc0 rfl rfl rfl rfl ?_)
     refine bodyPost_ret (results_led1 (cs:=led0) rfl _ _ (setRow_heap _ _ _ _ _ _ (XN.o.get 1 rfl)) ledc0 rfl) rfl (no_ret XN.o (k:=1) rfl (by rw[admA_err HG.o (by unfold reserveS;rw[if_pos RG.o,HA.o,if_neg HZ.o];exact HZ.o)];unfold reserveS;rw[if_pos RG.o,HA.o,if_neg HZ.o];rfl))
 ·refine (GD.o W0 X0.o.low false (decide_eq_false hg)).mono ?_
  rintro e w1 ⟨rfl,hb⟩
  have XX:=zq (X0.o.go hb)
  have HG:=zq hg
  clear hb X0 hg GD
  go_wp2_with fail
  refine (rno_any 43 _).mono ?_
  rintro e w9 ⟨rfl,hb⟩
  have XN:=zq (XX.o.go hb)
  clear hb
  go_wp2_with (refine led_store (cs:=led0) (XN.o.get 1 rfl) ledc0 ledc0 rfl rfl rfl rfl ?_)
  refine bodyPost_ret (results_led1 (cs:=led0) rfl _ _ (setRow_heap _ _ _ _ _ _ (XN.o.get 1 rfl)) ledc0 rfl) rfl (no_ret XN.o (k:=1) rfl (admA_bad HG.o _))
end Go.Proofs.YtnkpdfjnjmmleaaGreatDoor

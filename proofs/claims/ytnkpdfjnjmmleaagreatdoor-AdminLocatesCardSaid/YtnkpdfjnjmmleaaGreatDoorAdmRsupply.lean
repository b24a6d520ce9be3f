/- The document's admin, walked (printed by tools/gen_admr.py). -/
import Derived.Test.YtnkpdfjnjmmleaaGreatDoorAdmD
import Derived.Test.YtnkpdfjnjmmleaaGreatDoorLocS
import Derived.Test.YtnkpdfjnjmmleaaGreatDoorAdmPu
set_option linter.unusedVariables false
set_option linter.unusedSimpArgs false
set_option maxRecDepth 100000
set_option maxHeartbeats 4000000
namespace Go.Proofs.YtnkpdfjnjmmleaaGreatDoor
open Go.RowKit Go.Bw Go.Maps Go.Shelf Go.Bw.Fall
theorem dsupply_any (w:World) (V:LedV) (L:Led) (h:LedAt w V L) (hL:L.accts.length <= 1024) (i q:Int) :
 Calls Tryz.prog 27 #[V.val L,.int .i64 i,.int .i64 q] w (AdmRet w (admA L (supplyS L i q))):=by
 classical
 have LC:=zq (ledc h)
 have HH:=zq h
 have GD:=zq (show ∀ W,Below w.heap.size w W -> ∀ B:Bool,decide L.Good=B -> Calls Tryz.prog 43 #[V.val L] W fun e w'=>e=.returned (.bool B) /\ Below W.heap.size W w' from fun W hb B hB=>rgood_to (h.below hb) hL hB)
 have CP:=zq (fun W (hb:Below w.heap.size w W) (hg:L.Good)=>rcopy_any W V L (h.below hb) (good_bulk hg).1 (fun a ha=>by have:=(good_bulk hg).2.1 a ha;omega))
 unfold LedV.val at GD CP ⊢
 obtain⟨C,hC⟩:∃ C,C=V.cells L:=⟨_,rfl⟩
 have EC:=zq hC
 rw[<- hC] at GD CP LC ⊢
 obtain⟨W0,hW0⟩:∃ s,s=(w.alloc (.cells C 31)).alloc (.cells #[.int .i64 0,.slice none 0 0,.slice none 0 0,.slice none 0 0,.slice none 0 0,.slice none 0 0,.slice none 0 0,.slice none 0 0,.slice none 0 0] 31):=⟨_,rfl⟩
 obtain⟨b0,hb0⟩:∃ n,n=w.heap.size:=⟨_,rfl⟩
 have X0:=zq (show At w W0 [(b0, 31,C),(b0+1, 31,led0)] from by
  have a:=(((At.start w).alloc 31 C).alloc 31 #[.int .i64 0,.slice none 0 0,.slice none 0 0,.slice none 0 0,.slice none 0 0,.slice none 0 0,.slice none 0 0,.slice none 0 0,.slice none 0 0])
  have e:∀ (w:World) (o:Obj),(w.alloc o).heap.size=w.heap.size+1:=fun w o=>by simp
  simp only[e] at a
  rw[<- hW0,<- hb0] at a
  exact a)
 clear h hL hC
 go_enter Tryz.func27,Tryz.ntmps27
 go_upto_region 1 with (fail)
 rw[<- hW0,<- hb0]
 clear hW0 hb0
 go_wp2_with (refine led_load (X0.o.get 0 rfl) LC.o rfl rfl rfl ?_)
 by_cases hg:L.Good
 ·refine (GD.o W0 X0.o.low true (decide_eq_true hg)).mono ?_
  rintro e w1 ⟨rfl,hb⟩
  have XX:=zq (X0.o.go hb)
  have HG:=zq hg
  clear hb X0 hg GD
  obtain⟨a7,c7,e7⟩:=HH.o.avail.form
  have E7:=zq e7
  obtain⟨n7,hn7⟩:∃ n,n=L.avail.length:=⟨_,rfl⟩
  have N7:=zq hn7
  have AB:=zq (show L.avail.length <= 12 /\ ∀ x∈L.avail,0 <= x /\ x <= 1000000000 from ⟨by have:=HG.o.locs.len;have:=HG.o.things.i1;omega,HG.o.locs.avail⟩)
  have y7:w1.cell? ⟨b0,7,none⟩=some (.slice a7 n7 c7):=XX.o.cell 0 rfl 7 (by rw[EC.o,hn7,<- e7];rfl)
  have SU:=zq (fun W (hb:Below w.heap.size w W)=>rsupply_any W V.avail L.avail (HH.o.below hb).avail (by have:=AB.o.1;omega) AB.o.2 i q)
  rw[E7.o,<- N7.o] at SU
  obtain⟨A,er,hA⟩:∃ A er,supplyA L.avail i q=(A,er):=⟨_,_,rfl⟩
  rw[hA] at SU
  have HA:=zq hA
  clear e7 hn7 hA
  go_wp2_with fail
  refine (SU.o w1 XX.o.low).mono ?_
  rintro e w2 ⟨u,rfl,own,hb⟩
  have X1:=zq XX.o
  have XX:=zq (XX.o.go hb)
  have UO:=zq own
  have S12:=zq hb.size
  clear hb own y7 SU
  go_upto_region 4 with (fail)
  by_cases hz:er=0
  ·subst hz
   obtain⟨k,rfl,hk⟩:∃ k:Nat,i=k /\ k<A.length:=by
    have h:=HA.o
    unfold supplyA at h
    by_cases h1:0 <= i /\ i<L.avail.length
    ·rw[if_pos h1] at h
     split at h
     ·refine⟨i.toNat,by omega,?_⟩
      have h:=congrArg Prod.fst h
      simp only at h
      rw[<- h,List.length_set]
      omega
     ·have h:=congrArg Prod.snd h;simp at h
    ·rw[if_neg h1] at h
     have h:=congrArg Prod.snd h;simp at h
   have HK:=zq hk
   obtain⟨y,hy⟩:∃ y,A[k]?=some y:=⟨_,List.getElem?_eq_getElem hk⟩
   have HY:=zq (show A.getD ((k:Int).toNat) 0=y from by rw[Int.toNat_natCast,List.getD_eq_getElem?_getD,hy];rfl)
   have HY2:=zq hy
   clear hk hy
   obtain⟨gu,cu,hu,_,_,_,_⟩:=UO.o.slot icell_len (by decide) HY2.o
   obtain⟨nu,hnu⟩:∃ n,n=A.length:=⟨_,rfl⟩
   rw[<- hnu] at hu
   have NU:=zq hnu
   clear hnu
   subst hu
   go_wp2_with (refine led_load (XX.o.get 0 rfl) LC.o rfl rfl rfl ?_)
   refine (CP.o w2 XX.o.low HG.o).mono ?_
   rintro e wq ⟨V2,rfl,own,hb⟩
   have FF:=zq (fbs_copy XX.o own hb)
   have R0:=zq (show w2.heap.size <= wq.heap.size from hb.size)
   have L2:=zq (ledc own.led)
   unfold LedV.val
   have BQ:=zq hb
   clear own hb CP
   go_upto_region 7 with (refine led_store (heap_alloc_last _ _) ledc0 L2.o rfl rfl rfl rfl ?_;rw[World.setRow_alloc_new])
   obtain⟨W5,hW5⟩:∃ s,s=wq.alloc (.cells (V2.cells L) 31):=⟨_,rfl⟩
   obtain⟨b5,hb5⟩:∃ n,n=wq.heap.size:=⟨_,rfl⟩
   rw[<- hW5,<- hb5] at FF
   rw[<- hW5,<- hb5]
   have BW5:=zq (show Below w2.heap.size w2 W5 from by rw[hW5];exact BQ.o.alloc BQ.o.size _)
   have B5:=zq (show w2.heap.size <= b5 from by rw[hb5];exact BQ.o.size)
   clear hW5 hb5
   obtain⟨a7',c7',e7'⟩:=FF.o.own.led.avail.form
   have z7:=FF.o.at_.free 0 rfl 7
   have k7:W5.cell? ⟨b5,7,none⟩=some (.slice a7' n7 c7'):=FF.o.at_.cell 0 rfl 7 (by show some V2.avail=_;rw[e7',N7.o])
   have F7:=zq ((FF.o.base (R1:=w1.heap.size) S12.o X1.o.low.size).put_avail 0 rfl (UO.o.below BW5.o) (fun y hy b h1 h2=>by have:=(FF.o.own.lts _ hy b h1).1;have:=(UO.o.lt b h2).2;omega) (fun x hx e=>by
    have h1:=UO.o.lt _ e
    rcases List.mem_cons.1 hx with rfl|hx
    ·have:=B5.o;exact absurd h1.2 (by simp only;omega)
    ·have:=X1.o.lt x hx;omega))
   clear e7'
   go_upto_region 8 with (fail)
   clear z7 k7
   obtain⟨V3,hV3⟩:∃ U:LedV,U={ V2 with avail:=.slice (some ⟨gu,0,none⟩) nu cu }:=⟨_,rfl⟩
   obtain⟨L7,hL7⟩:∃ l:Led,l={ L with avail:=A }:=⟨_,rfl⟩
   obtain⟨W7,hW7⟩:∃ s,s=W5.setCell ⟨b5,7,none⟩ (.slice (some ⟨gu,0,none⟩) nu cu):=⟨_,rfl⟩
   have F7:=zq (show FBs w w1.heap.size ((b5, 31,V3.cells L7)::[(b0, 31,C),(b0+1, 31,led0)]) V3 L7 W7 from by rw[hW7,hV3,hL7];exact F7.o)
   have EL:=zq hL7
   have EV:=zq (show V3.avail=.slice (some ⟨gu,0,none⟩) nu cu /\ L7.avail=A from by rw[hV3,hL7];exact⟨rfl,rfl⟩)
   rw[<- hW7]
   clear hW7 hV3 hL7
   have FD:=zq F7.o.drew
   refine Fall2.wp_region_tree (C:=fun w'=>True) [5,9] [] (.step 0 (.step 1 (.step 2 (.step 3 (.step 4 (.step 5 (.step 6 (.step 7 (.step 8 (.step 9 (.step 10 (.step 11 .leaf)))))))))))) (fun _ _ _=>False) (by kernel_rfl) (fun _ _ _ h=>h.elim) (by kernel_rfl) trivial ?_
   obtain⟨WD,hWD⟩:∃ s,s=W7.drew:=⟨_,rfl⟩
   rw[<- hWD] at FD ⊢
   clear hWD
   have LE:=zq (ledc FD.o.own.led)
   have EE:=zq (show admA L (supplyS L (k:Int) q)=endA L7 y from by
    have e:supplyS L (k:Int) q=(⟨L7,y,0⟩:Adm):=by unfold supplyS;rw[HA.o,if_pos rfl,HY.o,EL.o]
    rw[admA_end HG.o (by rw[e]),e])
   have GE:=zq (show L7.Good from by
    have e:supplyS L (k:Int) q=(⟨L7,y,0⟩:Adm):=by unfold supplyS;rw[HA.o,if_pos rfl,HY.o,EL.o]
    have:=supplyS_good HG.o (by rw[e]:(supplyS L (k:Int) q).err=0)
    rw[e] at this
    exact this)
   have EN:=zq (rend_any WD _ _ FD.o.own.led GE.o y)
   unfold LedV.val at EN
   have u0:WD.cell? ⟨gu,k,none⟩=some (.int .i64 y):=by
    obtain⟨g2,c2,h2,_,_,hcell,_⟩:=FD.o.own.avail.slot icell_len (by decide) (show L7.avail[k]?=some y from by rw[EV.o.2];exact HY2.o)
    rw[EV.o.1] at h2
    injection h2 with h2;injection h2 with h2;injection h2 with h2
    subst h2
    have:=hcell 0 (.int .i64 y) rfl
    simpa using this
   have k0:(0:Int) <= (k:Int):=by omega
   have k1:(k:Int)<(nu:Int):=by have:=HK.o;have:=NU.o;omega
   refine Fall2.tree_still [0,1,2,3,4] (by kernel_rfl) ?_
   simp only[pickL,nth]
   refine quiet_led (cs:=V3.cells L7) (fun W hW=>by rw[hW];exact FD.o.at_.get 0 rfl) LE.o rfl rfl rfl ?_
   go_simp
   repeat (go_big_quiet_step (fail))
   refine wpQuiet_nil ?_
   clear u0
   refine Fall2.tree_eff (by kernel_rfl) rfl (fun K hK=>?_)
   simp only[pickL,nth]
   refine wpOne_one ?_
   go_simp
   refine EN.o.mono ?_
   obtain⟨a,ha⟩:∃ a,a=endA L7 y:=⟨_,rfl⟩
   rw[<- ha] at EE ⊢
   rintro e w7 ⟨U,rfl,own,hb⟩
   have OW:=zq own
   have BB:=zq hb
   have X7:=zq (FD.o.at_.go hb)
   have LU:=zq (ledc own.led)
   unfold LedV.val
   clear own hb ha EN
   go_simp
   refine hK _ _ (fun _=>trivial) ?_
   clear hK
   refine Fall2.tree_still [6,7,8] (by kernel_rfl) ?_
   simp only[pickL,nth]
   repeat (go_big_quiet_step (fail))
   refine wpQuiet_nil ?_
   refine Fall2.tree_eff (by kernel_rfl) rfl (fun K hK=>?_)
   simp only[pickL,nth]
   refine led_store1 (X7.o.get 2 rfl) ledc0 LU.o rfl rfl rfl ?_
   refine hK _ _ (fun _=>trivial) ?_
   clear hK
   go_simp
   refine Fall2.tree_still [10,11] (by kernel_rfl) ?_
   simp only[pickL,nth]
   repeat (go_big_quiet_step (fail))
   refine wpQuiet_nil ?_
   refine Fall2.tree_nil ?_
   go_wp2_with fail
   exact bodyPost_ret (results_led1 rfl _ _ (setRow_heap _ _ _ _ _ _ (X7.o.get 2 rfl)) LU.o rfl) rfl (by simpa using end_ret FD.o.at_ BB.o OW.o (k:=2) rfl EE.o.symm rfl rfl rfl)
  ·have HZ:=zq hz
   have hz':(er != 0)=true:=by rw[bne_iff_ne];exact hz
   go_wp2_with fail
   refine (rno_any er _).mono ?_
   rintro e w9 ⟨rfl,hb⟩
   have XN:=zq (XX.o.go hb)
   clear hb
   go_wp2_with (refine led_store (cs:=led0) (XN.o.get 1 rfl) ledc0 ledc0 rfl rfl rfl rfl ?_)
   refine bodyPost_ret (results_led1 (cs:=led0) rfl _ _ (setRow_heap _ _ _ _ _ _ (XN.o.get 1 rfl)) ledc0 rfl) rfl (no_ret XN.o (k:=1) rfl (by rw[admA_err HG.o (by unfold supplyS;rw[HA.o,if_neg HZ.o];exact HZ.o)];unfold supplyS;rw[HA.o,if_neg HZ.o];rfl))
 ·refine (GD.o W0 X0.o.low false (decide_eq_false hg)).mono ?_
  rintro e w1 ⟨rfl,hb⟩
  have XX:=zq (X0.o.go hb)
  have HG:=zq hg
  clear hb X0 hg GD
  go_wp2_with fail
  refine (rno_any 43 _).mono ?_
  rintro e w9 ⟨rfl,hb⟩
  have XN:=zq (XX.o.go hb)
  clear hb
  go_wp2_with (refine led_store (cs:=led0) (XN.o.get 1 rfl) ledc0 ledc0 rfl rfl rfl rfl ?_)
  refine bodyPost_ret (results_led1 (cs:=led0) rfl _ _ (setRow_heap _ _ _ _ _ _ (XN.o.get 1 rfl)) ledc0 rfl) rfl (no_ret XN.o (k:=1) rfl (admA_bad HG.o _))
end Go.Proofs.YtnkpdfjnjmmleaaGreatDoor

/- admin's call on the copy: Reserve. -/
import Derived.Test.YtnkpdfjnjmmleaaGreatDoorHb
import Derived.Test.YtnkpdfjnjmmleaaGreatDoorHa
set_option linter.unusedVariables false
set_option linter.unusedSimpArgs false
set_option maxRecDepth 100000
set_option maxHeartbeats 4000000
namespace Go.Proofs.YtnkpdfjnjmmleaaGreatDoor
open Go.RowKit Go.Bw Go.Maps Go.Shelf Go.Bw.Fall
theorem reserveA_len {av A:List Int} {l D:List Pos} {a i q:Int} (h:reserveA av l a i q=(A,D,0)):D.length <= l.length+1:=by
 have e:=(reserveA_ok (by rw[h])).2.2.2.2
 rw[h] at e
 injection e with _ e
 injection e with e _
 rw[e]
 exact (putLoc_len l).1
theorem reserve1 (w:World) (L:Led) (hG:L.Good) (a i q:Int) (pa pi pq:Nat) :
 AdmCalls w L 70 #[.pointer (some ⟨pa,0,none⟩),.pointer (some ⟨pi,0,none⟩),.pointer (some ⟨pq,0,none⟩)] [(pa, 3,#[.int .i64 a]),(pi, 3,#[.int .i64 i]),(pq, 3,#[.int .i64 q])] (reserveS L a i q):=by
 classical
 intro W R0 b V rest F
 have FF:=zq F.drew
 obtain⟨a7,c7,e7⟩:=F.own.led.avail.form
 obtain⟨a8,c8,e8⟩:=F.own.led.locs.form
 obtain⟨a4,c4,e4⟩:=F.own.led.accts.form
 have hac:V.ac.length=L.accts.length:=by rw[F.own.led.same,List.length_map]
 rw[hac] at e4
 have E7:=zq e7
 have E8:=zq e8
 obtain⟨n7,hn7⟩:∃ n,n=L.avail.length:=⟨_,rfl⟩
 obtain⟨n8,hn8⟩:∃ n,n=L.locs.length:=⟨_,rfl⟩
 obtain⟨n4,hn4⟩:∃ n,n=L.accts.length:=⟨_,rfl⟩
 have N7:=zq hn7
 have N8:=zq hn8
 have N4:=zq hn4
 have HG:=zq hG
 have AB:=zq (show L.avail.length <= 12 /\ (∀ x∈L.avail,0 <= x /\ x <= 1000000000) /\ L.locs.length <= 32 /\ (∀ x∈L.locs,0 <= x.qty /\ x.qty <= 1000000000) /\ L.locs.Pairwise Pos.Lt from ⟨by have:=hG.locs.len;have:=hG.things.i1;omega,hG.locs.avail,hG.locs.locn,fun x hx=>by have:=hG.locs.all x hx;omega,Rises.pair Pos.Lt.trans hG.locs.rise⟩)
 have y4:W.cell? ⟨b,4,none⟩=some (.slice a4 n4 c4):=F.at_.cell 0 rfl 4 (by rw[hn4,<- e4];rfl)
 have x1:W.cell? ⟨pa,0,none⟩=some (.int .i64 a):=F.at_.cell 1 rfl 0 rfl
 clear e4 e7 e8 hn7 hn8 hn4 hG F hac
 go_enter Tryz.func70,Tryz.ntmps70
 go_wp2_with fail
 refine Fall2.wp_region_tree (C:=fun w'=>True) [11] [] (.step 0 (.step 1 (.step 2 (.step 3 (.step 4 (.step 5 (.step 6 (.step 7 (.step 8 (.step 9 (.step 10 (.step 11 .leaf)))))))))))) (fun c ds w'=>ds=[] /\ AdmOut (reserveS L a i q) w R0 b rest (.panicked c) w') (by kernel_rfl) (fun _ _ _ h=>⟨h.1,h.2⟩) (by kernel_rfl) trivial ?_
 have no:∀ (WA:World),FBs w R0 ((b, 31,V.cells L)::([(pa, 3,#[.int .i64 a]),(pi, 3,#[.int .i64 i]),(pq, 3,#[.int .i64 q])]++rest)) V L WA -> ¬ (2 <= a /\ a<(n4:Int)) -> AdmOut (reserveS L a i q) w R0 b rest (.panicked (stopAdm 33)) WA:=fun WA F1 hn =>
  adm_stop (by unfold reserveS;rw[if_neg (by rw[<- N4.o];exact hn)];rfl) (by decide) F1
 have NO:=zq no
 clear no
 by_cases ha:1<a
 rotate_left
 ·refine Fall2.tree_still [0,1,2,3,4,5,6,7,8,9,10] (by kernel_rfl) ?_
  simp only[pickL,nth]
  repeat (go_big_quiet_step (fail))
  refine wpQuiet_nil ?_
  clear y4 x1
  refine Fall2.tree_last (by kernel_rfl) rfl (by kernel_rfl) (fun K hK=>?_)
  simp only[pickL,nth]
  refine wpOne_one ?_
  go_simp
  refine (unless_no 33 _).mono ?_
  rintro e w' ⟨rfl,rfl⟩
  exact⟨rfl,NO.o _ FF.o (by omega)⟩
 by_cases ha2:a<(n4:Int)
 rotate_left
 ·refine Fall2.tree_still [0,1,2,3,4,5,6,7,8,9,10] (by kernel_rfl) ?_
  simp only[pickL,nth]
  repeat (go_big_quiet_step (fail))
  refine wpQuiet_nil ?_
  clear y4 x1
  refine Fall2.tree_last (by kernel_rfl) rfl (by kernel_rfl) (fun K hK=>?_)
  simp only[pickL,nth]
  refine wpOne_one ?_
  go_simp
  refine (unless_no 33 _).mono ?_
  rintro e w' ⟨rfl,rfl⟩
  exact⟨rfl,NO.o _ FF.o (by omega)⟩
 refine Fall2.tree_still [0,1,2,3,4,5,6,7,8,9,10] (by kernel_rfl) ?_
 simp only[pickL,nth]
 repeat (go_big_quiet_step (fail))
 refine wpQuiet_nil ?_
 clear y4 x1 NO
 refine Fall2.tree_last (by kernel_rfl) rfl (by kernel_rfl) (fun K hK=>?_)
 simp only[pickL,nth]
 refine wpOne_one ?_
 go_simp
 refine (unless_yes 33 _).mono ?_
 rintro e w' ⟨rfl,rfl⟩
 go_simp
 refine hK _ _ ?_
 clear hK
 refine Fall2.tree_nil ?_
 have OKA:=zq (show 2 <= a /\ a<(L.accts.length:Int) from by rw[<- N4.o];omega)
 obtain⟨W1,hW1⟩:∃ s,s=W.drew:=⟨_,rfl⟩
 rw[<- hW1] at FF ⊢
 clear hW1 ha ha2
 have y7:W1.cell? ⟨b,7,none⟩=some (.slice a7 n7 c7):=FF.o.at_.cell 0 rfl 7 (by rw[N7.o,<- E7.o];rfl)
 have y8:W1.cell? ⟨b,8,none⟩=some (.slice a8 n8 c8):=FF.o.at_.cell 0 rfl 8 (by rw[N8.o,<- E8.o];rfl)
 have x1:W1.cell? ⟨pa,0,none⟩=some (.int .i64 a):=FF.o.at_.cell 1 rfl 0 rfl
 have x2:W1.cell? ⟨pi,0,none⟩=some (.int .i64 i):=FF.o.at_.cell 2 rfl 0 rfl
 have x3:W1.cell? ⟨pq,0,none⟩=some (.int .i64 q):=FF.o.at_.cell 3 rfl 0 rfl
 go_wp2_with fail
 refine Fall2.wp_region_tree (C:=fun w'=>True) [11] [] (.step 0 (.step 1 (.step 2 (.step 3 (.step 4 (.step 5 (.step 6 (.step 7 (.step 8 (.step 9 (.step 10 (.step 11 (.step 12 (.step 13 (.step 14 (.step 15 (.step 16 (.step 17 (.step 18 .leaf))))))))))))))))))) (fun _ _ _=>False) (by kernel_rfl) (fun _ _ _ h=>h.elim) (by kernel_rfl) trivial ?_
 refine Fall2.tree_still [0,1,2,3,4,5,6,7,8,9,10] (by kernel_rfl) ?_
 simp only[pickL,nth]
 repeat (go_big_quiet_step (fail))
 refine wpQuiet_nil ?_
 clear y7 y8 x1 x2 x3
 have FD:=zq FF.o.drew
 obtain⟨WA,hWA⟩:∃ s,s=W1.drew:=⟨_,rfl⟩
 rw[<- hWA] at FD ⊢
 clear hWA
 have SU:=zq (reserve_any WA V.avail V.locs L.avail L.locs FD.o.own.led.avail FD.o.own.led.locs (by have:=AB.o.1;omega) (by have:=AB.o.2.2.1;omega) AB.o.2.1 AB.o.2.2.2.1 AB.o.2.2.2.2 a i q)
 rw[E7.o,<- N7.o,E8.o,<- N8.o] at SU
 obtain⟨A,D,er,hA⟩:∃ A D er,reserveA L.avail L.locs a i q=(A,D,er):=⟨_,_,_,rfl⟩
 rw[hA] at SU
 have HA:=zq hA
 clear hA
 refine Fall2.tree_eff (by kernel_rfl) rfl (fun K hK=>?_)
 simp only[pickL,nth]
 refine wpOne_one ?_
 go_simp
 refine SU.o.mono ?_
 rintro e w2 ⟨u,v,rfl,ou,ov,hb,hap⟩
 have UO:=zq ou
 have VO:=zq ov
 have AP:=zq hap
 have F2:=zq (FD.o.go hb)
 clear ou ov hap hb SU
 go_simp
 refine hK _ _ (fun _=>trivial) ?_
 clear hK
 go_simp
 refine Fall2.tree_still [12,13,14,15,16,17,18] (by kernel_rfl) ?_
 simp only[pickL,nth]
 repeat (go_big_quiet_step (fail))
 refine wpQuiet_nil ?_
 refine Fall2.tree_nil ?_
 by_cases hz:er=0
 ·subst hz
  go_wp2_with fail
  refine (fail_ok _).mono ?_
  rintro e w' ⟨rfl,rfl⟩
  obtain⟨au,cu,hu,_⟩:=UO.o.form
  obtain⟨av,cv,hv,_⟩:=VO.o.form
  obtain⟨nu,hnu⟩:∃ n,n=A.length:=⟨_,rfl⟩
  obtain⟨nv,hnv⟩:∃ n,n=D.length:=⟨_,rfl⟩
  rw[<- hnu] at hu
  rw[<- hnv] at hv
  subst hu
  subst hv
  have DL:=zq (show D.length <= 1024 from by have:=reserveA_len HA.o;have:=AB.o.2.2.1;omega)
  have RW:=zq (show ∀ y∈V.rows,∀ k,y.ownBlock=some k -> k<WA.heap.size from fun y hy k hk=>(FD.o.own.lts y hy k hk).2)
  have P1:=zq (F2.o.put_avail 0 rfl (UO.o.base FD.o.rb) (fun y hy k hk hk2=>by have:=RW.o y hy k hk;have:=(UO.o.lt k hk2).1;omega) (fun x hx e=>by have:=FD.o.at_.lt x hx;have:=(UO.o.lt _ e).1;omega))
  have bnd:=FD.o.at_.lt (b, 31,V.cells L) (by simp)
  have VO1:=zq (VO.o.mod ((Mod.refl (fun k=>k=b) w2).setCell (p:=⟨b,7,none⟩) (.slice au nu cu) (fun _=>rfl)) (fun k hk e=>by have:=(VO.o.lt k hk).1;simp only at bnd;omega))
  have P2:=zq (P1.o.put_locs 0 rfl (VO1.o.base FD.o.rb) (fun y hy k hk hk2=>by
   have hr:({ V with avail:=.slice au nu cu }:LedV).rows=V.rows.set 6 (.slice au nu cu):=rfl
   rw[hr] at hy
   rcases List.mem_or_eq_of_mem_set hy with hy|rfl
   ·have:=RW.o y hy k hk;have:=(VO.o.lt k hk2).1;omega
   ·exact AP.o k hk hk2) (fun x hx e=>by
   rcases List.mem_or_eq_of_mem_set hx with hx|rfl
   ·have:=FD.o.at_.lt x hx;have:=(VO.o.lt _ e).1;omega
   ·have:=(VO.o.lt _ e).1;simp only at this bnd;omega))
  have VO2:=zq ((VO1.o.mod ((Mod.refl (fun k=>k=b) (w2.setCell ⟨b,7,none⟩ (.slice au nu cu))).setCell (p:=⟨b,8,none⟩) (.slice av nv cv) (fun _=>rfl)) (fun k hk e=>by have:=(VO.o.lt k hk).1;simp only at bnd;omega)).row poscells_len (by decide))
  clear bnd hnu hnv
  have z7:=F2.o.at_.free 0 rfl 7
  have k7:w2.cell? ⟨b,7,none⟩=some (.slice a7 n7 c7):=F2.o.at_.cell 0 rfl 7 (by rw[N7.o,<- E7.o];rfl)
  have z8:=P1.o.at_.free 0 rfl 8
  have k8:(w2.setCell ⟨b,7,none⟩ (.slice au nu cu)).cell? ⟨b,8,none⟩=some (.slice a8 n8 c8):=P1.o.at_.cell 0 rfl 8 (by rw[N8.o,<- E8.o];rfl)
  go_upto_region 5 with (fail)
  clear z7 k7 z8 k8
  obtain⟨W7,hW7⟩:∃ s,s=(w2.setCell ⟨b,7,none⟩ (.slice au nu cu)).setCell ⟨b,8,none⟩ (.slice av nv cv):=⟨_,rfl⟩
  rw[<- hW7] at P2 VO2 ⊢
  clear hW7
  have x4:W7.cell? ⟨pa,0,none⟩=some (.int .i64 a):=P2.o.at_.cell 1 rfl 0 rfl
  have x5:W7.cell? ⟨pi,0,none⟩=some (.int .i64 i):=P2.o.at_.cell 2 rfl 0 rfl
  have HE:=zq (held_any W7 _ D VO2.o DL.o a i)
  go_wp2_with fail
  refine HE.o.mono ?_
  rintro e w8 ⟨rfl,hb⟩
  have P3:=zq (P2.o.go hb)
  clear hb x4 x5
  go_wp2_with fail
  go_ret
  refine adm_ret (V:={ V with avail:=.slice au nu cu,locs:=.slice av nv cv }) (L:={ L with avail:=A,locs:=D }) ?_ P3.o
  unfold reserveS
  rw[if_pos OKA.o,HA.o,if_pos rfl]
 ·have HZ:=zq hz
  go_wp2_with fail
  refine (fail_bad er hz _).mono ?_
  rintro e w' ⟨rfl,rfl⟩
  exact⟨rfl,adm_stop (by unfold reserveS;rw[if_pos OKA.o,HA.o,if_neg HZ.o];rfl) HZ.o F2.o⟩
end Go.Proofs.YtnkpdfjnjmmleaaGreatDoor

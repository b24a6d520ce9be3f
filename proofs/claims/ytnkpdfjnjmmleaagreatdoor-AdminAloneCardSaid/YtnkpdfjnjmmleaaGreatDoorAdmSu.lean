/- admin's call on the copy: Supply. -/
import Derived.Test.YtnkpdfjnjmmleaaGreatDoorHb
import Derived.Test.YtnkpdfjnjmmleaaGreatDoorHa
set_option linter.unusedVariables false
set_option linter.unusedSimpArgs false
set_option maxRecDepth 100000
set_option maxHeartbeats 4000000
namespace Go.Proofs.YtnkpdfjnjmmleaaGreatDoor
open Go.RowKit Go.Bw Go.Maps Go.Shelf Go.Bw.Fall
theorem supplyA_at {av A:List Int} {i q:Int} (h:supplyA av i q=(A,0)):∃ k:Nat,i=k /\ k<A.length:=by
 unfold supplyA at h
 by_cases h1:0 <= i /\ i<av.length
 ·rw[if_pos h1] at h
  split at h
  ·refine⟨i.toNat,by omega,?_⟩
   have h:=congrArg Prod.fst h
   simp only at h
   rw[<- h,List.length_set]
   omega
  ·have h:=congrArg Prod.snd h;simp at h
 ·rw[if_neg h1] at h
  have h:=congrArg Prod.snd h;simp at h
theorem supply1 (w:World) (L:Led) (hG:L.Good) (i q:Int) (pi pq:Nat) :
 AdmCalls w L 67 #[.pointer (some ⟨pi,0,none⟩),.pointer (some ⟨pq,0,none⟩)] [(pi, 3,#[.int .i64 i]),(pq, 3,#[.int .i64 q])] (supplyS L i q):=by
 classical
 intro W R0 b V rest F
 have FF:=zq F.drew
 obtain⟨a7,c7,e7⟩:=F.own.led.avail.form
 have E7:=zq e7
 obtain⟨n7,hn7⟩:∃ n,n=L.avail.length:=⟨_,rfl⟩
 have N7:=zq hn7
 have HG:=zq hG
 have AB:=zq (show L.avail.length <= 12 /\ ∀ x∈L.avail,0 <= x /\ x <= 1000000000 from ⟨by have:=hG.locs.len;have:=hG.things.i1;omega,hG.locs.avail⟩)
 have y7:W.cell? ⟨b,7,none⟩=some (.slice a7 n7 c7):=F.at_.cell 0 rfl 7 (by rw[hn7,<- e7];rfl)
 have x1:W.cell? ⟨pi,0,none⟩=some (.int .i64 i):=F.at_.cell 1 rfl 0 rfl
 have x2:W.cell? ⟨pq,0,none⟩=some (.int .i64 q):=F.at_.cell 2 rfl 0 rfl
 clear e7 hn7 hG F
 go_enter Tryz.func67,Tryz.ntmps67
 go_wp2_with fail
 refine Fall2.wp_region_tree (C:=fun w'=>True) [6] [] (.step 0 (.step 1 (.step 2 (.step 3 (.step 4 (.step 5 (.step 6 (.step 7 (.step 8 (.step 9 (.step 10 (.step 11 .leaf)))))))))))) (fun _ _ _=>False) (by kernel_rfl) (fun _ _ _ h=>h.elim) (by kernel_rfl) trivial ?_
 refine Fall2.tree_still [0,1,2,3,4,5] (by kernel_rfl) ?_
 simp only[pickL,nth]
 repeat (go_big_quiet_step (fail))
 refine wpQuiet_nil ?_
 clear y7 x1 x2
 obtain⟨WA,hWA⟩:∃ s,s=W.drew:=⟨_,rfl⟩
 rw[<- hWA] at FF ⊢
 clear hWA
 have SU:=zq (supply_any WA V.avail L.avail FF.o.own.led.avail (by have:=AB.o.1;omega) AB.o.2 i q)
 rw[E7.o,<- N7.o] at SU
 obtain⟨A,er,hA⟩:∃ A er,supplyA L.avail i q=(A,er):=⟨_,_,rfl⟩
 rw[hA] at SU
 have HA:=zq hA
 clear hA
 refine Fall2.tree_eff (by kernel_rfl) rfl (fun K hK=>?_)
 simp only[pickL,nth]
 refine wpOne_one ?_
 go_simp
 refine SU.o.mono ?_
 rintro e w2 ⟨u,rfl,own,hb⟩
 have UO:=zq own
 have BB:=zq hb
 have F2:=zq (FF.o.go hb)
 clear own hb SU
 go_simp
 refine hK _ _ (fun _=>trivial) ?_
 clear hK
 refine Fall2.tree_still [7,8,9,10,11] (by kernel_rfl) ?_
 simp only[pickL,nth]
 repeat (go_big_quiet_step (fail))
 refine wpQuiet_nil ?_
 refine Fall2.tree_nil ?_
 by_cases hz:er=0
 ·subst hz
  obtain⟨k,rfl,hk⟩:=supplyA_at HA.o
  have HK:=zq hk
  obtain⟨y,hy⟩:∃ y,A[k]?=some y:=⟨_,List.getElem?_eq_getElem hk⟩
  have HY:=zq (show A.getD ((k:Int).toNat) 0=y from by rw[Int.toNat_natCast,List.getD_eq_getElem?_getD,hy];rfl)
  have HY2:=zq hy
  clear hk hy
  go_wp2_with fail
  refine (fail_ok _).mono ?_
  rintro e w' ⟨rfl,rfl⟩
  obtain⟨gu,cu,hu,_,_,hcell,_⟩:=UO.o.slot icell_len (by decide) HY2.o
  obtain⟨nu,hnu⟩:∃ n,n=A.length:=⟨_,rfl⟩
  rw[<- hnu] at hu
  have NU:=zq hnu
  clear hnu
  subst hu
  have r0:∀ v,(w2.setCell ⟨b,7,none⟩ v).cell? ⟨gu,k,none⟩=some (.int .i64 y):=fun v=>by
   have h1:w2.cell? ⟨gu,k,none⟩=some (.int .i64 y):=by have:=hcell 0 (.int .i64 y) rfl;simpa using this
   rw[World.cell?_setCell_other _ _ _ _ (fun e=>by
    have h2:=congrArg Addr.block e
    have h3:=FF.o.at_.lt (b, 31,V.cells L) (by simp)
    have h4:=(UO.o.lt gu rfl).1
    simp only at h2 h3
    omega)]
   exact h1
  have z7:=F2.o.at_.free 0 rfl 7
  have k7:w2.cell? ⟨b,7,none⟩=some (.slice a7 n7 c7):=F2.o.at_.cell 0 rfl 7 (by rw[N7.o,<- E7.o];rfl)
  have M2:=zq (show Mod (fun k=>V.avail.ownBlock=some k) WA w2 from (Mod.of_below BB.o).mono (fun _ _ h=>h.elim))
  have HB:=zq (show ∀ k,Value.ownBlock (.slice (some ⟨gu,0,none⟩) nu cu)=some k -> V.avail.ownBlock=some k \/ WA.heap.size <= k from fun k hk=>Or.inr (UO.o.lt k hk).1)
  have F3:=zq ((FF.o.newrow (FF.o.own.new_avail M2.o (UO.o.base FF.o.rb) HB.o) M2.o (q:=6) rfl rfl HB.o).cell 0 rfl 7 (.slice (some ⟨gu,0,none⟩) nu cu))
  have k0:(0:Int) <= (k:Int):=by omega
  have k1:(k:Int)<(nu:Int):=by have:=HK.o;have:=NU.o;omega
  have x3:(w2.setCell ⟨b,7,none⟩ (.slice (some ⟨gu,0,none⟩) nu cu)).cell? ⟨pi,0,none⟩=some (.int .i64 (k:Int)):=F3.o.at_.cell 1 rfl 0 rfl
  have r1:=r0 (.slice (some ⟨gu,0,none⟩) nu cu)
  clear hcell r0
  go_upto_region 4 with (fail)
  clear z7 k7
  obtain⟨W7,hW7⟩:∃ s,s=w2.setCell ⟨b,7,none⟩ (.slice (some ⟨gu,0,none⟩) nu cu):=⟨_,rfl⟩
  rw[<- hW7] at F3 x3 r1 ⊢
  clear hW7
  go_wp2_with fail
  go_ret
  refine adm_ret (V:={ V with avail:=.slice (some ⟨gu,0,none⟩) nu cu }) (L:={ L with avail:=A }) ?_ F3.o
  unfold supplyS
  rw[HA.o,if_pos rfl,HY.o]
 ·have HZ:=zq hz
  go_wp2_with fail
  refine (fail_bad er hz _).mono ?_
  rintro e w' ⟨rfl,rfl⟩
  exact⟨rfl,adm_stop (by unfold supplyS;rw[HA.o,if_neg HZ.o];rfl) HZ.o F2.o⟩
end Go.Proofs.YtnkpdfjnjmmleaaGreatDoor

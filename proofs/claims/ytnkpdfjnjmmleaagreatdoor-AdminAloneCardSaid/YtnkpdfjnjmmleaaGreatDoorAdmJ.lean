/- admin's calls on the copy: Account (printed by tools/gen_admj.py). -/
import Derived.Test.YtnkpdfjnjmmleaaGreatDoorHb
import Derived.Test.YtnkpdfjnjmmleaaGreatDoorGn
import Derived.Test.YtnkpdfjnjmmleaaGreatDoorGe
set_option linter.unusedVariables false
set_option linter.unusedSimpArgs false
set_option maxRecDepth 100000
set_option maxHeartbeats 4000000
namespace Go.Proofs.YtnkpdfjnjmmleaaGreatDoor
open Go.RowKit Go.Bw Go.Maps Go.Shelf Go.Bw.Fall
theorem account1 (w:World) (L:Led) (hG:L.Good) (p:Int) (pa:Nat) :
 AdmCalls w L 58 #[.pointer (some ⟨pa,0,none⟩)] [(pa, 3,#[.int .i64 p])] (accountS L p):=by
 classical
 intro W R0 b V rest F
 have FF:=zq F
 obtain⟨a4,c4,e4⟩:=cells4 F.own.led
 obtain⟨a1,c1,e1⟩:=F.own.led.curs.form
 have E4:=zq e4
 have U6:=zq (show L.accts.length <= 16 /\ L.curs.length <= 4 from ⟨(good_bulk hG).2.2,hG.things.c1⟩)
 obtain⟨n4,hn4⟩:∃ n,n=L.accts.length:=⟨_,rfl⟩
 obtain⟨n1,hn1⟩:∃ n,n=L.curs.length:=⟨_,rfl⟩
 have N4:=zq hn4
 have N1:=zq hn1
 have C0:=zq (show W.cell? ⟨b,4,none⟩=some (.slice a4 n4 c4) /\ W.cell? ⟨pa,0,none⟩=some (.int .i64 p) from ⟨F.at_.cell 0 rfl 4 (by rw[hn4];exact e4),F.at_.cell 1 rfl 0 rfl⟩)
 have y1:W.cell? ⟨b,1,none⟩=some (.slice a1 n1 c1):=F.at_.cell 0 rfl 1 (by rw[hn1,<- e1];rfl)
 have hmk:∀ W:World,(Instr.makeSlice 28 (.int .i64 (n1:Nat)) (.int .i64 (n1:Nat))).run Tryz.prog W=.ok (.slice (some ⟨W.heap.size,0,none⟩) n1 n1) (W.alloc (.cells (madeCells #[.int .i64 0] n1) 3)):=make_ints n1 (by have:=U6.o;omega)
 have hbd:=fun n c a W=>bdAcc p n c a W
 have EV:=zq (show V.accts=.slice a4 n4 c4 from by
  have h1:(V.cells L)[4]?=some V.accts:=rfl
  rw[e4] at h1;rw[hn4];injection h1 with h1;exact h1.symm)
 have AL:=zq (show V.ac.length=n4 from by have h1:=congrArg List.length F.own.same;rw[List.length_map] at h1;omega)
 have z1:∀ z:Cls (fun W=>W.cell? ⟨b,4,none⟩=some (.slice a4 n4 c4) /\ W.cell? ⟨pa,0,none⟩=some (.int .i64 p)),z.w.cell? ⟨b,4,none⟩=some (.slice a4 n4 c4):=fun z=>z.ok.1
 have z2:∀ z:Cls (fun W=>W.cell? ⟨b,4,none⟩=some (.slice a4 n4 c4) /\ W.cell? ⟨pa,0,none⟩=some (.int .i64 p)),z.w.cell? ⟨pa,0,none⟩=some (.int .i64 p):=fun z=>z.ok.2
 clear F e4 e1 hn4 hn1 hG
 go_enter Tryz.func58,Tryz.ntmps58
 go_wp2_with fail
 refine Fall2.wp_region_tree (C:=fun w'=>∃ z:Cls (fun W=>W.cell? ⟨b,4,none⟩=some (.slice a4 n4 c4) /\ W.cell? ⟨pa,0,none⟩=some (.int .i64 p)),w'=z.w) [11,13,14,17] [0,1,2,3,4,5] (.step 0 (.step 1 (.step 2 (.step 3 (.step 4 (.step 5 (.step 6 (.step 7 (.step 8 (.step 9 (.step 10 (.step 11 (.step 12 (.step 13 (.step 14 (.step 15 (.step 16 (.step 17 .leaf)))))))))))))))))) (fun _ _ _=>False) (by kernel_rfl) (fun _ _ _ h=>h.elim) (by kernel_rfl) ⟨⟨W.drew,C0.o⟩,rfl⟩ ?_
 haveI ne:Nonempty (Cls (fun W=>W.cell? ⟨b,4,none⟩=some (.slice a4 n4 c4) /\ W.cell? ⟨pa,0,none⟩=some (.int .i64 p))):=⟨⟨W,C0.o⟩⟩
 refine Fall2.tree_pure [0,1,2,3,4,5] (by kernel_rfl) ?_
 simp only[pickL,nth]
 repeat (go_big_quiet_step (fail))
 refine wpQuiet_nil ?_
 clear z1 z2
 refine Fall2.tree_still [6,7,8,9,10] (by kernel_rfl) ?_
 simp only[pickL,nth]
 repeat (go_big_quiet_step (fail))
 refine wpQuiet_nil ?_
 clear y1
 obtain⟨W1,hW1⟩:∃ s,s=(W.alloc (.cells (madeCells #[.int .i64 0] n1) 3)).drew:=⟨_,rfl⟩
 obtain⟨g,hg⟩:∃ g,g=W.heap.size:=⟨_,rfl⟩
 obtain⟨a',c',w3,hrun,f3,f1⟩:=newacct FF.o n1 (by have:=U6.o;have:=N1.o;omega) (by have:=AL.o;have:=U6.o;have:=N4.o;omega) p W1 hW1 g hg
 rw[AL.o] at hrun f3
 obtain⟨m,hm'⟩:∃ m,m=n4+1:=⟨_,rfl⟩
 have HM:=zq hm'
 rw[<- hm'] at hrun f3
 have F3:=zq f3
 have F1:=zq f1
 clear hm' f3 f1
 have RUN:=zq hrun
 have C3:=zq (show w3.cell? ⟨b,4,none⟩=some (.slice a4 n4 c4) /\ w3.cell? ⟨pa,0,none⟩=some (.int .i64 p) from ⟨F3.o.at_.cell 0 rfl 4 (by rw[N4.o];exact E4.o),F3.o.at_.cell 1 rfl 0 rfl⟩)
 have C1:=zq (show W1.cell? ⟨b,4,none⟩=some (.slice a4 n4 c4) /\ W1.cell? ⟨pa,0,none⟩=some (.int .i64 p) from ⟨F1.o.at_.cell 0 rfl 4 (by rw[N4.o];exact E4.o),F1.o.at_.cell 1 rfl 0 rfl⟩)
 have C2:=zq (show ∀ o,(W1.alloc o).cell? ⟨b,4,none⟩=some (.slice a4 n4 c4) /\ (W1.alloc o).cell? ⟨pa,0,none⟩=some (.int .i64 p) from fun o=>by
  have f:=F1.o.go ((Below.refl _ _).alloc (Nat.le_refl _) o)
  exact⟨f.at_.cell 0 rfl 4 (by rw[N4.o];exact E4.o),f.at_.cell 1 rfl 0 rfl⟩)
 have Z3:=zq (F3.o.at_.free 0 rfl 4)
 clear hrun
 rw[EV.o] at RUN
 refine Fall2.tree_eff (by kernel_rfl) rfl (fun K hK=>?_)
 simp only[pickL,nth]
 refine wpOne_one ?_
 go_simp
 rw[<- hW1,<- hg]
 clear hW1 hg
 refine hK _ _ (fun _=>⟨⟨W1,C1.o⟩,rfl⟩) ?_
 clear hK
 refine Fall2.tree_still [12] (by kernel_rfl) ?_
 simp only[pickL,nth]
 repeat (go_big_quiet_step (fail))
 refine wpQuiet_nil ?_
 refine Fall2.tree_eff (by kernel_rfl) rfl (fun K hK=>?_)
 simp only[pickL,nth]
 refine wpOne_one ?_
 go_simp
 refine hK _ _ (fun _=>⟨⟨_,C2.o _⟩,rfl⟩) ?_
 clear hK
 refine Fall2.tree_eff (by kernel_rfl) rfl (fun K hK=>?_)
 simp only[pickL,nth]
 refine wpOne_one ?_
 refine wp_append_run (.tmp 10) (.tmp 19) 25 rfl rfl rfl RUN.o ?_
 refine hK _ _ (fun _=>⟨⟨w3,C3.o⟩,rfl⟩) ?_
 clear hK
 go_simp
 refine Fall2.tree_still [15,16] (by kernel_rfl) ?_
 simp only[pickL,nth]
 repeat (go_big_quiet_step (fail))
 refine wpQuiet_nil ?_
 have k2:=C3.o.1
 have q2:=Z3.o
 refine Fall2.tree_last (by kernel_rfl) rfl (by kernel_rfl) (fun K hK=>?_)
 simp only[pickL,nth]
 refine wpOne_one ?_
 go_simp
 refine hK _ _ ?_
 clear hK k2 q2
 refine Fall2.tree_nil ?_
 have F4:=zq (F3.o.cell 0 rfl 4 (.slice a' m c'))
 obtain⟨W4,hW4⟩:∃ s,s=w3.setCell ⟨b,4,none⟩ (.slice a' m c'):=⟨_,rfl⟩
 rw[<- hW4] at F4 ⊢
 clear hW4 hmk hbd
 obtain⟨V4,hV4⟩:∃ U:LedV,U={ V with accts:=.slice a' m c',ac:=V.ac++[(⟨p,List.replicate n1 0,false,0⟩,.slice (some ⟨g,0,none⟩) n1 n1)] }:=⟨_,rfl⟩
 obtain⟨L4,hL4⟩:∃ l:Led,l={ L with accts:=L.accts++[⟨p,List.replicate n1 0,false,0⟩] }:=⟨_,rfl⟩
 have F4:=zq (show FBs w R0 ((b, 31,V4.cells L4)::((pa, 3,#[.int .i64 p])::rest)) V4 L4 W4 from by rw[hV4,hL4];exact F4.o)
 have VA:=zq (show V4.accts=.slice a' m c' from by rw[hV4])
 have PR:=zq (show V4.ac.map (fun p=>p.1.parent)=L.parents++[p] from by rw[hV4];show (V.ac++[_]).map _=_;rw[List.map_append];unfold Led.parents;rw[FF.o.own.same,List.map_map];rfl)
 have RS:=zq (show accountS L p=if chkA (L.parents++[p])=0 then ⟨L4,(n4:Int),0⟩ else .no (chkA (L.parents++[p])) from by unfold accountS;rw[hL4,<- N1.o,<- N4.o])
 have PA:=zq (parents_any W4 V4.accts V4.ac (F4.o.own.accts.row acccells_len (by decide)) (by have h1:=congrArg List.length F4.o.own.same;rw[hL4] at h1;simp at h1;have:=U6.o;omega) F4.o.own.led.cashes)
 rw[VA.o,PR.o] at PA
 clear hV4 hL4
 have y4:W4.cell? ⟨b,4,none⟩=some (.slice a' m c'):=F4.o.at_.cell 0 rfl 4 (by rw[<- VA.o];rfl)
 go_wp2_with fail
 refine PA.o.mono ?_
 rintro e w5 ⟨pv,rfl,hpo,hb⟩
 have F5:=zq (F4.o.go hb)
 have CK:=zq (check_num w5 pv (L.parents++[p]) (row_of_owns hpo))
 clear hb hpo y4 PA
 obtain⟨er,her⟩:∃ e,e=chkA (L.parents++[p]):=⟨_,rfl⟩
 have ER:=zq her
 go_wp2_with fail
 refine CK.o.mono ?_
 rintro e w6 ⟨pl,rfl,hb⟩
 rw[<- her]
 have F6:=zq (F5.o.go hb)
 clear hb her CK
 by_cases hz:er=0
 ·subst hz
  go_wp2_with fail
  refine (fail_ok _).mono ?_
  rintro e w' ⟨rfl,rfl⟩
  have y4:w6.cell? ⟨b,4,none⟩=some (.slice a' m c'):=F6.o.at_.cell 0 rfl 4 (by rw[<- VA.o];rfl)
  obtain rfl:=HM.o
  have hb2:n4 <= 16:=by rw[N4.o];exact U6.o.1
  go_wp2_with fail
  go_ret
  exact adm_ret (V:=V4) (L:=L4) (by rw[RS.o,<- ER.o,if_pos rfl]) F6.o
 ·have HZ:=zq hz
  clear hz
  go_wp2_with fail
  refine (fail_bad er HZ.o _).mono ?_
  rintro e w' ⟨rfl,rfl⟩
  go_wp2_with fail
  exact⟨rfl,adm_stop (by rw[RS.o,<- ER.o,if_neg HZ.o];rfl) HZ.o F6.o⟩
end Go.Proofs.YtnkpdfjnjmmleaaGreatDoor

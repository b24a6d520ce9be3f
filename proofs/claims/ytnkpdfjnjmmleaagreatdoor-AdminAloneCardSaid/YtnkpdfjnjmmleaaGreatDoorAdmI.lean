/- admin's calls on the copy: Under (printed by tools/gen_admi.py). -/
import Derived.Test.YtnkpdfjnjmmleaaGreatDoorHb
import Derived.Test.YtnkpdfjnjmmleaaGreatDoorGe
set_option linter.unusedVariables false
set_option linter.unusedSimpArgs false
set_option maxRecDepth 100000
set_option maxHeartbeats 4000000
namespace Go.Proofs.YtnkpdfjnjmmleaaGreatDoor
open Go.RowKit Go.Bw Go.Maps Go.Shelf Go.Bw.Fall
theorem idxL_lt {α:Type} (p:α -> Bool) (l:List α):idxL p l<0↔∀ x∈l,p x=false:=by
 have h:=idxL_any p l
 constructor
 ·intro hlt x hx
  have h1:decide (0 <= idxL p l)=false:=decide_eq_false (by omega)
  rw[h1] at h
  exact Bool.eq_false_iff.2 fun h2=>by rw[List.any_eq_true.2 ⟨x,hx,h2⟩] at h;cases h
 ·intro ha
  apply Int.not_le.1
  intro hle
  rw[decide_eq_true hle] at h
  obtain⟨x,hx,hp⟩:=List.any_eq_true.1 h.symm
  rw[ha x hx] at hp
  cases hp
theorem under1 (w:World) (L:Led) (hG:L.Good) (u:Und) (hs:u.name.size <= maxLen) (pu:Nat) :
 AdmCalls w L 38 #[.pointer (some ⟨pu,0,none⟩)] [(pu, 33,#[.string u.name,.int .i64 u.cur,.int .i64 u.price,.int .i64 u.vol])] (underS L u):=by
 classical
 intro W R0 b V rest F
 have FF:=zq F
 obtain⟨a2,c2,e2⟩:=F.own.led.unders.form
 obtain⟨a1,c1,e1⟩:=F.own.led.curs.form
 have E2:=zq e2
 have E1:=zq e1
 have U6:=zq (show L.unders.length <= 6 /\ L.curs.length <= 4 from ⟨hG.things.u1,hG.things.c1⟩)
 obtain⟨n2,hn2⟩:∃ n,n=L.unders.length:=⟨_,rfl⟩
 obtain⟨n1,hn1⟩:∃ n,n=L.curs.length:=⟨_,rfl⟩
 have N2:=zq hn2
 have N1:=zq hn1
 have HS:=zq hs
 have y2:W.cell? ⟨b,2,none⟩=some (.slice a2 n2 c2):=F.at_.cell 0 rfl 2 (by rw[hn2,<- e2];rfl)
 have x0:W.cell? ⟨pu,0,none⟩=some (.string u.name):=F.at_.cell 1 rfl 0 rfl
 clear F e1 e2 hn2 hn1 hG hs
 go_enter Tryz.func38,Tryz.ntmps38
 go_wp2_with fail
 refine (unless_dec ((n2:Int)<6) 40 _).mono ?_
 rintro e w' ⟨he,rfl⟩
 rcases Or.symm he with ⟨hlt,rfl⟩|⟨hlt,rfl⟩
 ·go_wp2_with fail
  exact⟨rfl,adm_stop (by unfold underS;rw[if_neg (by have:=N2.o;omega)];rfl) (by decide) FF.o⟩
 ·have NM:=zq (fun W=>name_any u.name HS.o W)
  obtain⟨NB,hNB⟩:∃ B,B=nameB u.name:=⟨_,rfl⟩
  rw[<- hNB] at NM
  have EB:=zq hNB
  have HLT:=zq hlt
  clear hNB he hlt
  go_wp2_with fail
  refine Fall2.wp_region_tree (C:=fun w'=>True) [2,10,13] [] (.step 0 (.step 1 (.step 2 (.step 3 (.step 4 (.step 5 (.step 6 (.step 7 (.step 8 (.step 9 (.step 10 (.step 11 (.step 12 (.step 13 .leaf)))))))))))))) (fun ch d w'=>d=[] /\ AdmOut (underS L u) w R0 b rest (.panicked ch) w') (by kernel_rfl) (fun _ _ _ h=>⟨h.1,h.2⟩) (by kernel_rfl) trivial ?_
  refine Fall2.tree_still [0,1] (by kernel_rfl) ?_
  simp only[pickL,nth]
  repeat (go_big_quiet_step (fail))
  refine wpQuiet_nil ?_
  refine Fall2.tree_last (by kernel_rfl) rfl (by kernel_rfl) (fun K hK=>?_)
  simp only[pickL,nth]
  refine wpOne_one ?_
  go_simp
  refine (NM.o _).mono ?_
  rintro e w1 ⟨rfl,hb⟩
  have F1:=zq (FF.o.drew.go hb)
  clear hb x0 y2 NM
  go_simp
  refine hK _ _ ?_
  clear hK
  have y2:w1.cell? ⟨b,2,none⟩=some (.slice a2 n2 c2):=F1.o.at_.cell 0 rfl 2 (by rw[N2.o,<- E2.o];rfl)
  have x0:w1.cell? ⟨pu,0,none⟩=some (.string u.name):=F1.o.at_.cell 1 rfl 0 rfl
  cases hNB:NB with
  | false =>
    subst hNB
    refine Fall2.tree_still [3,4,5,6,7,8,9] (by kernel_rfl) ?_
    simp only[pickL,nth]
    repeat (go_big_quiet_step (fail))
    refine wpQuiet_nil ?_
    refine Fall2.tree_skip (by kernel_rfl) rfl (by rfl) (fun h=>by cases h) ?_
    go_simp
    refine Fall2.tree_still [11,12] (by kernel_rfl) ?_
    simp only[pickL,nth]
    repeat (go_big_quiet_step (fail))
    refine wpQuiet_nil ?_
    refine Fall2.tree_last (by kernel_rfl) rfl (by kernel_rfl) (fun K hK=>?_)
    simp only[pickL,nth]
    refine wpOne_one ?_
    go_simp
    refine (unless_no 42 _).mono ?_
    rintro e w' ⟨rfl,rfl⟩
    exact⟨rfl,adm_stop (by unfold underS;rw[if_pos (by have:=N2.o;have:=HLT.o;omega),if_neg (fun h=>by rw[EB.o.symm] at h;exact absurd h.1 (by decide))];rfl) (by decide) F1.o⟩
  | true =>
    subst hNB
    refine Fall2.tree_still [3,4,5,6,7,8,9] (by kernel_rfl) ?_
    simp only[pickL,nth]
    repeat (go_big_quiet_step (fail))
    refine wpQuiet_nil ?_
    have NA:=zq (named_any w1 V.unders L.unders u.name F1.o.own.led.unders)
    rw[E2.o,<- N2.o] at NA
    obtain⟨ix,hix⟩:∃ i,i=idxL (fun x:Und=>x.name.toList==u.name.toList) L.unders:=⟨_,rfl⟩
    rw[<- hix] at NA
    have IX:=zq (show ix<0↔∀ x∈L.unders,x.name≠u.name from by
     rw[hix,idxL_lt]
     refine⟨fun h x hx e=>?_,fun h x hx=>Bool.eq_false_iff.2 fun e=>h x hx ((toList_beq _ _).1 e)⟩
     have:=h x hx
     rw[(toList_beq _ _).2 e] at this
     cases this)
    clear hix
    refine Fall2.tree_effw (by kernel_rfl) (by rfl) (fun K hK=>?_)
    simp only[pickL,nth]
    refine wpOne_one ?_
    go_simp
    refine NA.o.mono ?_
    rintro e w2 ⟨rfl,hb⟩
    have F2:=zq (F1.o.go hb)
    clear hb x0 y2 NA
    go_simp
    refine hK _ _ (fun h=>by cases h) ?_
    clear hK
    refine Fall2.tree_still [11,12] (by kernel_rfl) ?_
    simp only[pickL,nth]
    repeat (go_big_quiet_step (fail))
    refine wpQuiet_nil ?_
    refine Fall2.tree_last (by kernel_rfl) rfl (by kernel_rfl) (fun K hK=>?_)
    simp only[pickL,nth]
    refine wpOne_one ?_
    go_simp
    refine (unless_dec (ix<0) 42 _).mono ?_
    rintro e w' ⟨he,rfl⟩
    rcases Or.symm he with ⟨hix,rfl⟩|⟨hix,rfl⟩
    ·exact⟨rfl,adm_stop (by unfold underS;rw[if_pos (by have:=N2.o;have:=HLT.o;omega),if_neg (fun h=>hix (IX.o.2 h.2))];rfl) (by decide) F2.o⟩
    ·go_simp
     refine hK _ _ ?_
     clear hK
     refine Fall2.tree_nil ?_
     have NN:=zq (show nameB u.name=true /\ ∀ x∈L.unders,x.name≠u.name from ⟨EB.o.symm,IX.o.1 hix⟩)
     clear he hix IX
     have F3:=zq F2.o
     have OU:=zq (fun W=>und_any u n1 (by have:=U6.o;have:=N1.o;omega) HS.o W)
     have x0:w2.cell? ⟨pu,0,none⟩=some (.string u.name):=F3.o.at_.cell 1 rfl 0 rfl
     have x1:w2.cell? ⟨pu,1,none⟩=some (.int .i64 u.cur):=F3.o.at_.cell 1 rfl 1 rfl
     have x2:w2.cell? ⟨pu,2,none⟩=some (.int .i64 u.price):=F3.o.at_.cell 1 rfl 2 rfl
     have x3:w2.cell? ⟨pu,3,none⟩=some (.int .i64 u.vol):=F3.o.at_.cell 1 rfl 3 rfl
     have y1:w2.cell? ⟨b,1,none⟩=some (.slice a1 n1 c1):=F3.o.at_.cell 0 rfl 1 (by rw[N1.o,<- E1.o];rfl)
     have UF:=zq (And.intro x0 (And.intro x1 (And.intro x2 x3)))
     go_wp2_with fail
     refine Fall2.wp_region_tree (C:=fun w'=>True) [6,7] [] (.step 0 (.step 1 (.step 2 (.step 3 (.step 4 (.step 5 (.step 6 (.step 7 .leaf)))))))) (fun ch d w'=>d=[] /\ AdmOut (underS L u) w R0 b rest (.panicked ch) w') (by kernel_rfl) (fun _ _ _ h=>⟨h.1,h.2⟩) (by kernel_rfl) trivial ?_
     refine Fall2.tree_still [0,1,2,3,4,5] (by kernel_rfl) ?_
     simp only[pickL,nth]
     repeat (go_big_quiet_step (fail))
     refine wpQuiet_nil ?_
     refine Fall2.tree_last (by kernel_rfl) rfl (by kernel_rfl) (fun K hK=>?_)
     simp only[pickL,nth]
     refine wpOne_one ?_
     go_simp
     refine (OU.o _).mono ?_
     rintro e w4 ⟨rfl,hb⟩
     have F4:=zq (F3.o.drew.go hb)
     clear hb x0 x1 x2 x3 y1 UF OU
     go_simp
     refine hK _ _ ?_
     clear hK
     refine Fall2.tree_last (by kernel_rfl) rfl (by kernel_rfl) (fun K hK=>?_)
     simp only[pickL,nth]
     refine wpOne_one ?_
     go_simp
     refine (unless_dec (u.Ok n1) 31 _).mono ?_
     rintro e w' ⟨he,rfl⟩
     rcases Or.symm he with ⟨hok,rfl⟩|⟨hok,rfl⟩
     ·exact⟨rfl,adm_stop (by unfold underS;rw[if_pos (by have:=N2.o;have:=HLT.o;omega),if_pos NN.o,if_neg (by rw[<- N1.o];exact hok)];rfl) (by decide) F4.o⟩
     go_simp
     refine hK _ _ ?_
     clear hK
     refine Fall2.tree_nil ?_
     have HOK:=zq (show u.Ok L.curs.length from by rw[<- N1.o];exact hok)
     clear he hok
     have FD:=zq F4.o.drew
     have F5:=zq F4.o
     have y2:∀ z:Cls (fun W=>W.cell? ⟨b,2,none⟩=some (.slice a2 n2 c2)),z.w.cell? ⟨b,2,none⟩=some (.slice a2 n2 c2):=fun z=>z.ok
     have C0:=zq (show w4.cell? ⟨b,2,none⟩=some (.slice a2 n2 c2) from F4.o.at_.cell 0 rfl 2 (by rw[N2.o,<- E2.o];rfl))
     go_wp2_with fail
     refine Fall2.wp_region_tree (C:=fun w'=>∃ z:Cls (fun W=>W.cell? ⟨b,2,none⟩=some (.slice a2 n2 c2)),w'=z.w) [6,7,10] [0,1,2,3,4] (.step 0 (.step 1 (.step 2 (.step 3 (.step 4 (.step 5 (.step 6 (.step 7 (.step 8 (.step 9 (.step 10 .leaf))))))))))) (fun _ _ _=>False) (by kernel_rfl) (fun _ _ _ h=>h.elim) (by kernel_rfl) ⟨⟨w4.drew,C0.o⟩,rfl⟩ ?_
     haveI ne:Nonempty (Cls (fun W=>W.cell? ⟨b,2,none⟩=some (.slice a2 n2 c2))):=⟨⟨w4,C0.o⟩⟩
     refine Fall2.tree_pure [0,1,2,3,4] (by kernel_rfl) ?_
     simp only[pickL,nth]
     repeat (go_big_quiet_step (fail))
     refine wpQuiet_nil ?_
     clear y2
     have x0:w4.cell? ⟨pu,0,none⟩=some (.string u.name):=F4.o.at_.cell 1 rfl 0 rfl
     have x1:w4.cell? ⟨pu,1,none⟩=some (.int .i64 u.cur):=F4.o.at_.cell 1 rfl 1 rfl
     have x2:w4.cell? ⟨pu,2,none⟩=some (.int .i64 u.price):=F4.o.at_.cell 1 rfl 2 rfl
     have x3:w4.cell? ⟨pu,3,none⟩=some (.int .i64 u.vol):=F4.o.at_.cell 1 rfl 3 rfl
     refine Fall2.tree_still [5] (by kernel_rfl) ?_
     simp only[pickL,nth]
     repeat (go_big_quiet_step (fail))
     refine wpQuiet_nil ?_
     clear x0 x1 x2 x3
     have FD:=zq FD.o
     have CD:=zq (show ∀ o,(w4.drew.alloc o).cell? ⟨b,2,none⟩=some (.slice a2 n2 c2) from fun o=>(FD.o.go ((Below.refl _ _).alloc (Nat.le_refl _) o)).at_.cell 0 rfl 2 (by rw[N2.o,<- E2.o];rfl))
     obtain⟨v',w6,hrun,ho,hm,hbk⟩:=app1_under w4.drew R0 V.unders L.unders FD.o.own.unders FD.o.rb u #[.string u.name,.int .i64 u.cur,.int .i64 u.price,.int .i64 u.vol] rfl (by have:=U6.o;omega)
     obtain⟨a',c',hv',_⟩:=ho.form
     obtain⟨m,hm'⟩:∃ m,m=(L.unders++[u]).length:=⟨_,rfl⟩
     have HM:=zq (show m=n2+1 from by rw[hm',N2.o];simp)
     rw[<- hm'] at hv'
     clear hm'
     subst hv'
     have F6:=zq (show FBs w R0 ((b, 31,V.cells L)::((pu, 33,#[.string u.name,.int .i64 u.cur,.int .i64 u.price,.int .i64 u.vol])::rest)) { V with unders:=.slice a' m c' } { L with unders:=L.unders++[u] } w6 from
      FD.o.newrow (FD.o.own.new_unders hm ho hbk (fun y hy=>by
       rcases List.mem_append.1 hy with hy|hy
       ·exact FD.o.own.names y hy
       ·obtain rfl:=List.mem_singleton.1 hy;exact HS.o)) hm (q:=1) rfl rfl hbk)
     have RUN:=zq hrun
     have C6:=zq (show w6.cell? ⟨b,2,none⟩=some (.slice a2 n2 c2) from F6.o.at_.cell 0 rfl 2 (by rw[N2.o,<- E2.o];rfl))
     have Z6:=zq (F6.o.at_.free 0 rfl 2)
     clear hrun ho hm hbk
     rw[E2.o,<- N2.o] at RUN
     refine Fall2.tree_eff (by kernel_rfl) rfl (fun K hK=>?_)
     simp only[pickL,nth]
     refine wpOne_one ?_
     go_simp
     refine hK _ _ (fun _=>⟨⟨_,CD.o _⟩,rfl⟩) ?_
     clear hK
     refine Fall2.tree_eff (by kernel_rfl) rfl (fun K hK=>?_)
     simp only[pickL,nth]
     refine wpOne_one ?_
     refine wp_append_run (.tmp 37) (.tmp 39) 23 rfl rfl rfl RUN.o ?_
     refine hK _ _ (fun _=>⟨⟨w6,C6.o⟩,rfl⟩) ?_
     clear hK
     go_simp
     refine Fall2.tree_still [8,9] (by kernel_rfl) ?_
     simp only[pickL,nth]
     repeat (go_big_quiet_step (fail))
     refine wpQuiet_nil ?_
     have k2:=C6.o
     have z2:=Z6.o
     refine Fall2.tree_last (by kernel_rfl) rfl (by kernel_rfl) (fun K hK=>?_)
     simp only[pickL,nth]
     refine wpOne_one ?_
     go_simp
     refine hK _ _ ?_
     clear hK k2 z2
     refine Fall2.tree_nil ?_
     have F7:=zq (F6.o.cell 0 rfl 2 (.slice a' m c'))
     obtain⟨W7,hW7⟩:∃ s,s=w6.setCell ⟨b,2,none⟩ (.slice a' m c'):=⟨_,rfl⟩
     rw[<- hW7] at F7 ⊢
     clear hW7
     have y2:W7.cell? ⟨b,2,none⟩=some (.slice a' m c'):=F7.o.at_.cell 0 rfl 2 rfl
     obtain rfl:=HM.o
     have hb2:=HLT.o
     go_wp2_with fail
     go_ret
     refine adm_ret (V:={ V with unders:=.slice a' (n2+1) c' }) (L:={ L with unders:=L.unders++[u] }) ?_ F7.o
     unfold underS
     rw[if_pos (by have:=N2.o;have:=HLT.o;omega),if_pos NN.o,if_pos HOK.o,<- N2.o]
     try simp
end Go.Proofs.YtnkpdfjnjmmleaaGreatDoor

/- The document's admin, walked (printed by tools/gen_admr.py). -/
import Derived.Test.YtnkpdfjnjmmleaaGreatDoorAdmD
import Derived.Test.YtnkpdfjnjmmleaaGreatDoorGn
import Derived.Test.YtnkpdfjnjmmleaaGreatDoorGe
import Derived.Test.YtnkpdfjnjmmleaaGreatDoorAdmN
namespace Go.Proofs.YtnkpdfjnjmmleaaGreatDoor
open Go.RowKit Go.Bw Go.Maps Go.Shelf Go.Bw.Fall
set_option linter.unusedVariables false
set_option linter.unusedSimpArgs false
set_option maxRecDepth 100000 in
set_option maxHeartbeats 4000000 in
theorem daccount_any (w:World) (V:LedV) (L:Led) (h:LedAt w V L) (hL:L.accts.length≤1024) (p:Int) :
 Calls Tryz.prog 21 #[V.val L,.int .i64 p] w (AdmRet w (admA L (accountS L p))):=by
 classical
 have LC:=Lib.hid (ledc h)
 have HH:=Lib.hid h
 have GD:=Lib.hid (show ∀ W,Below w.heap.size w W→∀ B:Bool,decide L.Good=B→Calls Tryz.prog 43 #[V.val L] W fun e w'=>e=.returned (.bool B)∧Below W.heap.size W w' from fun W hb B hB=>rgood_to (h.below hb) hL hB)
 have CP:=Lib.hid (fun W (hb:Below w.heap.size w W) (hg:L.Good)=>rcopy_any W V L (h.below hb) (good_bulk hg).1 (fun a ha=>by have:=(good_bulk hg).2.1 a ha;omega))
 unfold LedV.val at GD CP ⊢
 obtain⟨C,hC⟩:∃ C,C=V.cells L:=⟨_,rfl⟩
 have EC:=Lib.hid hC
 rw[← hC] at GD CP LC ⊢
 obtain⟨W0,hW0⟩:∃ s,s=(w.alloc (.cells C 31)).alloc (.cells #[.int .i64 0,.slice none 0 0,.slice none 0 0,.slice none 0 0,.slice none 0 0,.slice none 0 0,.slice none 0 0,.slice none 0 0,.slice none 0 0] 31):=⟨_,rfl⟩
 obtain⟨b0,hb0⟩:∃ n,n=w.heap.size:=⟨_,rfl⟩
 have X0:=Lib.hid (show At w W0 [(b0, 31,C),(b0+1, 31,led0)] from by
  have a:=(((At.start w).alloc 31 C).alloc 31 #[.int .i64 0,.slice none 0 0,.slice none 0 0,.slice none 0 0,.slice none 0 0,.slice none 0 0,.slice none 0 0,.slice none 0 0,.slice none 0 0])
  have e:∀ (w:World) (o:Obj),(w.alloc o).heap.size=w.heap.size+1:=fun w o=>by simp
  simp only[e] at a
  rw[← hW0,← hb0] at a
  exact a)
 clear h hL hC
 go_enter Tryz.func21,Tryz.ntmps21
 go_upto_region 1 with (fail)
 rw[← hW0,← hb0]
 clear hW0 hb0
 go_wp2_with (refine led_load (X0.out.get 0 rfl) LC.out rfl rfl rfl ?_)
 by_cases hg:L.Good
 ·refine (GD.out W0 X0.out.low true (decide_eq_true hg)).mono ?_
  rintro e w1 ⟨rfl,hb⟩
  have XX:=Lib.hid (X0.out.go hb)
  have HG:=Lib.hid hg
  clear hb X0 hg GD
  obtain⟨a4,c4,e4⟩:=cells4 HH.out
  obtain⟨a1,c1,e1⟩:=HH.out.curs.form
  have E1:=Lib.hid e1
  obtain⟨n4,hn4⟩:∃ n,n=L.accts.length:=⟨_,rfl⟩
  obtain⟨n1,hn1⟩:∃ n,n=L.curs.length:=⟨_,rfl⟩
  have N4:=Lib.hid hn4
  have N1:=Lib.hid hn1
  have U6:=Lib.hid (show L.accts.length≤16∧L.curs.length≤4 from ⟨(good_bulk HG.out).2.2,HG.out.things.c1⟩)
  have PA:=Lib.hid (rparents_any w1 V L (HH.out.below XX.out.low) (by have:=(good_bulk HG.out).2.2;omega))
  unfold LedV.val at PA
  rw[← EC.out] at PA
  have y4:w1.cell? ⟨b0,4,none⟩=some (.slice a4 n4 c4):=XX.out.cell 0 rfl 4 (by rw[EC.out,hn4];exact e4)
  clear e1 e4 hn4 hn1
  go_wp2_with (refine led_load (XX.out.get 0 rfl) LC.out rfl rfl rfl ?_)
  refine PA.out.mono ?_
  rintro e w2 ⟨pv,rfl,hpo,hb⟩
  have XX0:=Lib.hid (show w.heap.size≤w1.heap.size from XX.out.low.size)
  have X1:=Lib.hid XX.out.lt
  have XX:=Lib.hid (XX.out.go hb)
  have PL:=Lib.hid (show L.parents.length=n4 from by rw[N4.out];unfold Led.parents;simp)
  obtain⟨v',w3,hrun,hor,hmo,_⟩:=app_int w2 w1.heap.size pv L.parents p w2.heap.size rfl hpo hb.size (by have:=PL.out;have:=U6.out;have:=N4.out;omega)
  have LT1:=Lib.hid (show ∀ x∈[(b0, 31,C),(b0+1, 31,led0)],x.1<w1.heap.size from X1.out)
  have X3:=Lib.hid (show At w w3 [(b0, 31,C),(b0+1, 31,led0)] from XX.out.mod hmo (fun k hk=>by have h1:=(World.ownsRow.lt hpo k hk).1;have:=XX0.out;omega) (fun x hx hk=>by have h1:=(World.ownsRow.lt hpo _ hk).1;have:=LT1.out x hx;omega))
  have RUN:=Lib.hid hrun
  have CK:=Lib.hid (rcheck_num w3 v' (L.parents++[p]) (row_of_owns hor))
  clear hpo hb hrun hor hmo PA
  go_wp2_with (at_builtin;refine wpList_append_run rfl (.tmp 23) (.tmp 25) 28 rfl rfl rfl RUN.out ?_)
  obtain⟨er,her⟩:∃ e,e=chkA (L.parents++[p]):=⟨_,rfl⟩
  have ER:=Lib.hid her
  refine CK.out.mono ?_
  rintro e w4 ⟨pl,rfl,hb⟩
  rw[← her]
  have XX:=Lib.hid (X3.out.go hb)
  clear hb her CK y4 LT1 XX0 X3 RUN
  by_cases hz:er=0
  ·subst hz
   go_wp2_with (refine led_load (XX.out.get 0 rfl) LC.out rfl rfl rfl ?_)
   refine (CP.out w4 XX.out.low HG.out).mono ?_
   rintro e wq ⟨V2,rfl,own,hb⟩
   have FF:=Lib.hid (fbs_copy XX.out own hb)
   have R0:=Lib.hid (show w4.heap.size≤wq.heap.size from hb.size)
   have L2:=Lib.hid (ledc own.led)
   unfold LedV.val
   clear own hb CP
   go_upto_region 8 with (refine led_store (heap_alloc_last _ _) ledc0 L2.out rfl rfl rfl rfl ?_;rw[World.setRow_alloc_new])
   obtain⟨W5,hW5⟩:∃ s,s=wq.alloc (.cells (V2.cells L) 31):=⟨_,rfl⟩
   obtain⟨b5,hb5⟩:∃ n,n=wq.heap.size:=⟨_,rfl⟩
   rw[← hW5,← hb5] at FF
   rw[← hW5,← hb5]
   clear hW5 hb5
   have AL:=Lib.hid (show V2.ac.length=n4 from by have h1:=congrArg List.length FF.out.own.same;rw[List.length_map] at h1;have:=N4.out;omega)
   obtain⟨a4',c4',e4'⟩:=cells4 FF.out.own.led
   have EV:=Lib.hid (show V2.accts=.slice a4' n4 c4' from by
    have h1:(V2.cells L)[4]?=some V2.accts:=rfl
    rw[e4',← N4.out] at h1;injection h1 with h1;exact h1.symm)
   have CF:=Lib.hid (show ∀ W VV LL,FBs w w4.heap.size ((b5, 31,V2.cells L)::[(b0, 31,C),(b0+1, 31,led0)]) VV LL W→W.cell? ⟨b5,4,none⟩=some (.slice a4' n4 c4') from fun W VV LL F=>F.at_.cell 0 rfl 4 (by rw[N4.out];exact e4'))
   have hmk:∀ W:World,(Instr.makeSlice 28 (.int .i64 (n1:Nat)) (.int .i64 (n1:Nat))).run Tryz.prog W=.ok (.slice (some ⟨W.heap.size,0,none⟩) n1 n1) (W.alloc (.cells (madeCells #[.int .i64 0] n1) 3)):=make_ints n1 (by have:=U6.out;have:=N1.out;omega)
   have hbd:=fun n c a W=>bdAcc p n c a W
   have z1:∀ z:Cls (fun W=>W.cell? ⟨b5,4,none⟩=some (.slice a4' n4 c4')),z.w.cell? ⟨b5,4,none⟩=some (.slice a4' n4 c4'):=fun z=>z.ok
   have y1:W5.cell? ⟨b0,1,none⟩=some (.slice a1 n1 c1):=FF.out.at_.cell 1 rfl 1 (by rw[EC.out,N1.out,← E1.out];rfl)
   have C0:=Lib.hid (CF.out W5 _ _ FF.out)
   clear e4'
   go_simp
   refine Fall2.wp_region_tree (C:=fun w'=>∃ z:Cls (fun W=>W.cell? ⟨b5,4,none⟩=some (.slice a4' n4 c4')),w'=z.w) [6,8,9,11] [0,1,2] (.step 0 (.step 1 (.step 2 (.step 3 (.step 4 (.step 5 (.step 6 (.step 7 (.step 8 (.step 9 (.step 10 (.step 11 .leaf)))))))))))) (fun _ _ _=>False) (by kernel_rfl) (fun _ _ _ h=>h.elim) (by kernel_rfl) ⟨⟨W5.drew,C0.out⟩,rfl⟩ ?_
   haveI ne:Nonempty (Cls (fun W=>W.cell? ⟨b5,4,none⟩=some (.slice a4' n4 c4'))):=⟨⟨W5,C0.out⟩⟩
   refine Fall2.tree_pure [0,1,2] (by kernel_rfl) ?_
   simp only[pickL,nth]
   repeat (go_big_quiet_step (fail))
   refine wpQuiet_nil ?_
   clear z1
   refine Fall2.tree_still [3,4,5] (by kernel_rfl) ?_
   simp only[pickL,nth]
   repeat (go_big_quiet_step (fail))
   refine wpQuiet_nil ?_
   clear y1
   obtain⟨W6,hW6⟩:∃ s,s=(W5.alloc (.cells (madeCells #[.int .i64 0] n1) 3)).drew:=⟨_,rfl⟩
   obtain⟨g,hg⟩:∃ g,g=W5.heap.size:=⟨_,rfl⟩
   obtain⟨a',c',w6,hrun,f6,f5⟩:=newacct FF.out n1 (by have:=U6.out;have:=N1.out;omega) (by have:=AL.out;have:=U6.out;have:=N4.out;omega) p W6 hW6 g hg
   rw[AL.out] at hrun f6
   obtain⟨m,hm'⟩:∃ m,m=n4+1:=⟨_,rfl⟩
   have HM:=Lib.hid hm'
   rw[← hm'] at hrun f6
   have F6:=Lib.hid f6
   have F5:=Lib.hid f5
   have RUN:=Lib.hid hrun
   have C5:=Lib.hid (CF.out W6 _ _ F5.out)
   have C5a:=Lib.hid (fun o=>CF.out (W6.alloc o) _ _ (F5.out.go ((Below.refl _ _).alloc (Nat.le_refl _) o)))
   have C6:=Lib.hid (CF.out w6 _ _ F6.out)
   have Z6:=Lib.hid (F6.out.at_.free 0 rfl 4)
   clear hm' f6 f5 hrun
   rw[EV.out] at RUN
   refine Fall2.tree_eff (by kernel_rfl) rfl (fun K hK=>?_)
   simp only[pickL,nth]
   refine wpOne_one ?_
   go_simp
   rw[← hW6,← hg]
   clear hW6 hg
   refine hK _ _ (fun _=>⟨⟨W6,C5.out⟩,rfl⟩) ?_
   clear hK
   refine Fall2.tree_still [7] (by kernel_rfl) ?_
   simp only[pickL,nth]
   repeat (go_big_quiet_step (fail))
   refine wpQuiet_nil ?_
   refine Fall2.tree_eff (by kernel_rfl) rfl (fun K hK=>?_)
   simp only[pickL,nth]
   refine wpOne_one ?_
   go_simp
   refine hK _ _ (fun _=>⟨⟨_,C5a.out _⟩,rfl⟩) ?_
   clear hK
   refine Fall2.tree_eff (by kernel_rfl) rfl (fun K hK=>?_)
   simp only[pickL,nth]
   refine wpOne_one ?_
   refine wp_append_run (.tmp 40) (.tmp 47) 25 rfl rfl rfl RUN.out ?_
   refine hK _ _ (fun _=>⟨⟨w6,C6.out⟩,rfl⟩) ?_
   clear hK
   go_simp
   refine Fall2.tree_still [10] (by kernel_rfl) ?_
   simp only[pickL,nth]
   repeat (go_big_quiet_step (fail))
   refine wpQuiet_nil ?_
   have k2:=C6.out
   have q2:=Z6.out
   refine Fall2.tree_last (by kernel_rfl) rfl (by kernel_rfl) (fun K hK=>?_)
   simp only[pickL,nth]
   refine wpOne_one ?_
   go_simp
   refine hK _ _ ?_
   clear hK k2 q2
   refine Fall2.tree_nil ?_
   obtain⟨V7,hV7⟩:∃ U:LedV,U={ V2 with accts:=.slice a' m c',ac:=V2.ac++[(⟨p,List.replicate n1 0,false,0⟩,.slice (some ⟨g,0,none⟩) n1 n1)] }:=⟨_,rfl⟩
   obtain⟨L7,hL7⟩:∃ l:Led,l={ L with accts:=L.accts++[⟨p,List.replicate n1 0,false,0⟩] }:=⟨_,rfl⟩
   obtain⟨W7,hW7⟩:∃ s,s=w6.setCell ⟨b5,4,none⟩ (.slice a' m c'):=⟨_,rfl⟩
   have F7:=Lib.hid (show FBs w w4.heap.size ((b5, 31,V7.cells L7)::[(b0, 31,C),(b0+1, 31,led0)]) V7 L7 W7 from by rw[hW7,hV7,hL7];exact F6.out.cell 0 rfl 4 (.slice a' m c'))
   have EL:=Lib.hid hL7
   rw[← hW7]
   clear hW7 hV7 hL7 hmk hbd
   have LE:=Lib.hid (ledc F7.out.own.led)
   have EE:=Lib.hid (show admA L (accountS L p)=endA (L7:Led) ((n4:Int)) from by
    have e:accountS L p=(⟨(L7:Led),(n4:Int),0⟩:Adm):=by unfold accountS;rw[if_pos ER.out.symm,EL.out,← N1.out,← N4.out]
    rw[admA_end HG.out (by rw[e]),e])
   have GE:=Lib.hid (show (L7:Led).Good from by
    have e:accountS L p=(⟨(L7:Led),(n4:Int),0⟩:Adm):=by unfold accountS;rw[if_pos ER.out.symm,EL.out,← N1.out,← N4.out]
    have:=accountS_good HG.out (by rw[e]:(accountS L p).err=0)
    rw[e] at this
    exact this)
   have EN:=Lib.hid (rend_any W7 _ _ F7.out.own.led GE.out ((n4:Int)))
   unfold LedV.val at EN
   go_wp2_with (refine led_load (F7.out.at_.get 0 rfl) LE.out rfl rfl rfl ?_)
   refine EN.out.mono ?_
   obtain⟨a,ha⟩:∃ a,a=endA (L7:Led) ((n4:Int)):=⟨_,rfl⟩
   rw[← ha] at EE ⊢
   rintro e w7 ⟨U,rfl,own,hb⟩
   have OW:=Lib.hid own
   have BB:=Lib.hid hb
   have X7:=Lib.hid (F7.out.at_.go hb)
   have LU:=Lib.hid (ledc own.led)
   unfold LedV.val
   clear own hb ha EN
   go_simp
   go_wp2_with (refine led_store (X7.out.get 2 rfl) ledc0 LU.out rfl rfl rfl rfl ?_)
   exact bodyPost_ret (results_led1 rfl _ _ (setRow_heap _ _ _ _ _ _ (X7.out.get 2 rfl)) LU.out rfl) rfl (by simpa using end_ret F7.out.at_ BB.out OW.out (k:=2) rfl EE.out.symm rfl rfl rfl)
  ·have HZ:=Lib.hid hz
   have hz':(er != 0)=true:=by rw[bne_iff_ne];exact hz
   clear hz
   go_wp2_with fail
   refine (rno_any er _).mono ?_
   rintro e w9 ⟨rfl,hb⟩
   have XN:=Lib.hid (XX.out.go hb)
   clear hb
   go_wp2_with (refine led_store (cs:=led0) (XN.out.get 1 rfl) ledc0 ledc0 rfl rfl rfl rfl ?_)
   refine bodyPost_ret (results_led1 (cs:=led0) rfl _ _ (setRow_heap _ _ _ _ _ _ (XN.out.get 1 rfl)) ledc0 rfl) rfl (no_ret XN.out (k:=1) rfl (by rw[admA_err HG.out (by unfold accountS;rw[if_neg (by rw[← ER.out];exact HZ.out),← ER.out];exact HZ.out)];unfold accountS;rw[if_neg (by rw[← ER.out];exact HZ.out),← ER.out];rfl))
 ·refine (GD.out W0 X0.out.low false (decide_eq_false hg)).mono ?_
  rintro e w1 ⟨rfl,hb⟩
  have XX:=Lib.hid (X0.out.go hb)
  have HG:=Lib.hid hg
  clear hb X0 hg GD
  go_wp2_with fail
  refine (rno_any 43 _).mono ?_
  rintro e w9 ⟨rfl,hb⟩
  have XN:=Lib.hid (XX.out.go hb)
  clear hb
  go_wp2_with (refine led_store (cs:=led0) (XN.out.get 1 rfl) ledc0 ledc0 rfl rfl rfl rfl ?_)
  refine bodyPost_ret (results_led1 (cs:=led0) rfl _ _ (setRow_heap _ _ _ _ _ _ (XN.out.get 1 rfl)) ledc0 rfl) rfl (no_ret XN.out (k:=1) rfl (admA_bad HG.out _))
end Go.Proofs.YtnkpdfjnjmmleaaGreatDoor

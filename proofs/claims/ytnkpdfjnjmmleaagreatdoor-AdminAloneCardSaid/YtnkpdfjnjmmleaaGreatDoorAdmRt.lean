/- admin's calls on the copy: Rate (printed by tools/gen_admrate.py). -/
import Derived.Test.YtnkpdfjnjmmleaaGreatDoorHb
import Derived.Test.YtnkpdfjnjmmleaaGreatDoorGe
set_option linter.unusedVariables false
set_option linter.unusedSimpArgs false
set_option maxRecDepth 100000
set_option maxHeartbeats 8000000
namespace Go.Proofs.YtnkpdfjnjmmleaaGreatDoor
open Go.RowKit Go.Bw Go.Maps Go.Shelf Go.Bw.Fall
theorem bdCur (r k:Int) (W:World):(Instr.build 61 #[(0,.int .i64 r),(1,.int .i64 k)]).run Tryz.prog W=.ok (.agg #[.int .i64 r,.int .i64 k]) W:=by kernel_rfl
theorem rate1 (w:World) (L:Led) (hG:L.Good) (c r k:Int) (pr pk pc:Nat) :
 AdmCalls w L 64 #[.pointer (some ⟨pr,0,none⟩),.pointer (some ⟨pk,0,none⟩),.pointer (some ⟨pc,0,none⟩)] [(pr, 3,#[.int .i64 r]),(pk, 3,#[.int .i64 k]),(pc, 3,#[.int .i64 c])] (rateS L c r k):=by
 classical
 intro W R0 b V rest F
 have bc:=bdCur r k
 obtain⟨a1,c1,e1⟩:=F.own.led.curs.form
 obtain⟨a4,c4,e4⟩:=cells4 F.own.led
 have E1:=zq e1
 have E4:=zq e4
 have U6:=zq (show L.curs.length <= 4 /\ L.accts.length <= 16 /\ 1 <= L.curs.length from ⟨hG.things.c1,(good_bulk hG).2.2,hG.things.c0⟩)
 obtain⟨n1,hn1⟩:∃ n,n=L.curs.length:=⟨_,rfl⟩
 obtain⟨n4,hn4⟩:∃ n,n=L.accts.length:=⟨_,rfl⟩
 have N1:=zq hn1
 have N4:=zq hn4
 have HG:=zq hG
 have x1:W.cell? ⟨pr,0,none⟩=some (.int .i64 r):=F.at_.cell 1 rfl 0 rfl
 have x2:W.cell? ⟨pk,0,none⟩=some (.int .i64 k):=F.at_.cell 2 rfl 0 rfl
 have FF:=zq (show FBs w R0 ((b, 31,V.cells L)::(pr, 3,#[.int .i64 r])::(pk, 3,#[.int .i64 k])::(pc, 3,#[.int .i64 c])::(W.heap.size, 61,#[.int .i64 r,.int .i64 k])::rest) V L (W.alloc (.cells #[.int .i64 r,.int .i64 k] 61)) from (F.box 61 #[.int .i64 r,.int .i64 k]).perm (by
  have e:((b, 31,V.cells L)::([(pr, 3,#[.int .i64 r]),(pk, 3,#[.int .i64 k]),(pc, 3,#[.int .i64 c])]++rest))++[(W.heap.size, 61,#[.int .i64 r,.int .i64 k])]=[(b, 31,V.cells L),(pr, 3,#[.int .i64 r]),(pk, 3,#[.int .i64 k]),(pc, 3,#[.int .i64 c])]++(rest++[(W.heap.size, 61,#[.int .i64 r,.int .i64 k])]):=by simp
  rw[e]
  exact List.Perm.append_left _ List.perm_append_comm))
 clear F e1 e4 hn1 hn4 hG
 go_enter Tryz.func64,Tryz.ntmps64
 go_upto_region 2 with (fail)
 obtain⟨W1,hW1⟩:∃ s,s=W.alloc (.cells #[.int .i64 r,.int .i64 k] 61):=⟨_,rfl⟩
 obtain⟨q,hq⟩:∃ q,q=W.heap.size:=⟨_,rfl⟩
 rw[<- hW1,<- hq] at FF
 rw[<- hW1,<- hq]
 clear hW1 hq x1 x2 bc
 have y1:W1.cell? ⟨b,1,none⟩=some (.slice a1 n1 c1):=FF.o.at_.cell 0 rfl 1 (by rw[N1.o,<- E1.o];rfl)
 have x3:W1.cell? ⟨pc,0,none⟩=some (.int .i64 c):=FF.o.at_.cell 3 rfl 0 rfl
 by_cases h0:0 <= c
 ·obtain⟨m,rfl⟩:∃ m:Nat,c=m:=⟨c.toNat,by omega⟩
  by_cases h1:m <= n1
  ·have HM:=zq h1
   have CU:=zq (fun W=>cur_any ⟨r,k⟩ m (by have:=U6.o;have:=N1.o;have:=HM.o;omega) W)
   have z0:W1.cell? ⟨q,0,none⟩=some (.int .i64 r):=FF.o.at_.cell 4 rfl 0 rfl
   have z1:W1.cell? ⟨q,1,none⟩=some (.int .i64 k):=FF.o.at_.cell 4 rfl 1 rfl
   refine Fall2.wp_region_tree (C:=fun w'=>True) [14,16] [] (.step 0 (.step 1 (.step 2 (.step 3 (.step 4 (.step 5 (.step 6 (.step 7 (.step 8 (.step 9 (.step 10 (.step 11 (.step 12 (.step 13 (.step 14 (.step 15 (.step 16 .leaf))))))))))))))))) (fun ch d w'=>d=[] /\ AdmOut (rateS L (m:Int) r k) w R0 b rest (.panicked ch) w') (by kernel_rfl) (fun _ _ _ h=>⟨h.1,h.2⟩) (by kernel_rfl) trivial ?_
   refine Fall2.tree_still [0,1,2,3,4,5,6,7,8,9,10,11,12,13] (by kernel_rfl) ?_
   simp only[pickL,nth]
   repeat (go_big_quiet_step (fail))
   refine wpQuiet_nil ?_
   refine Fall2.tree_effw (by kernel_rfl) (by rfl) (fun K hK=>?_)
   simp only[pickL,nth]
   refine wpOne_one ?_
   go_simp
   refine (CU.o _).mono ?_
   rintro e w2 ⟨rfl,hb⟩
   have FX:=zq (FF.o.drew.go hb)
   clear hb y1 x3 z0 z1 CU h1
   go_simp
   refine hK _ _ (fun h=>by cases h) ?_
   clear hK
   refine Fall2.tree_still [15] (by kernel_rfl) ?_
   simp only[pickL,nth]
   repeat (go_big_quiet_step (fail))
   refine wpQuiet_nil ?_
   refine Fall2.tree_last (by kernel_rfl) rfl (by kernel_rfl) (fun K hK=>?_)
   simp only[pickL,nth]
   refine wpOne_one ?_
   go_simp
   refine (unless_dec (Cur.Ok ⟨r,k⟩ m) 30 _).mono ?_
   rintro e w' ⟨he,rfl⟩
   rcases Or.symm he with ⟨hok,rfl⟩|⟨hok,rfl⟩
   ·exact⟨rfl,adm_stop (by unfold rateS;rw[if_neg (fun h=>hok (by have:=h.2.2;rwa [Int.toNat_natCast] at this))];rfl) (by decide) FX.o⟩
   ·go_simp
    refine hK _ _ ?_
    clear hK
    refine Fall2.tree_nil ?_
    have HOK:=zq (show 0 <= (m:Int) /\ (m:Int) <= (L.curs.length:Int) /\ Cur.Ok ⟨r,k⟩ (m:Int).toNat from ⟨by omega,by have:=N1.o;have:=HM.o;omega,by rw[Int.toNat_natCast];exact hok⟩)
    clear he hok
    have y1:w2.cell? ⟨b,1,none⟩=some (.slice a1 n1 c1):=FX.o.at_.cell 0 rfl 1 (by rw[N1.o,<- E1.o];rfl)
    have x3:w2.cell? ⟨pc,0,none⟩=some (.int .i64 (m:Int)):=FX.o.at_.cell 3 rfl 0 rfl
    by_cases hlt:m<n1
    ·have hlt':(m:Int)<(n1:Int):=by omega
     go_upto_region 3 with (fail)
     refine Fall2.wp_region_tree (C:=fun w'=>True) [] [] (.step 0 (.step 1 (.step 2 (.step 3 (.step 4 (.step 5 (.step 6 .leaf))))))) (fun _ _ _=>False) (by kernel_rfl) (fun _ _ _ h=>h.elim) (by kernel_rfl) trivial ?_
     refine Fall2.tree_still [0,1,2,3,4,5,6] (by kernel_rfl) ?_
     simp only[pickL,nth]
     repeat (go_big_quiet_step (fail))
     refine wpQuiet_nil ?_
     refine Fall2.tree_nil ?_
     have hml:=zq (show m<L.curs.length from by rw[<- N1.o];exact hlt)
     obtain⟨y,hy⟩:∃ y,L.curs[m]?=some y:=⟨_,List.getElem?_eq_getElem hml.o⟩
     have HY:=zq hy
     have FX:=zq FX.o.drew
     obtain⟨w3,hw3⟩:∃ s,s=w2.drew:=⟨_,rfl⟩
     rw[<- hw3] at FX ⊢
     obtain⟨g,cg,hv,_,_,hcell,hfree⟩:=FX.o.own.curs.slot curcells_len (by decide) hy
     obtain⟨rfl,rfl⟩:a1=some ⟨g,0,none⟩ /\ c1=cg:=by rw[E1.o] at hv;injection hv with h1 _ h3;exact⟨h1,h3⟩
     have HV:=zq (show V.curs=.slice (some ⟨g,0,none⟩) L.curs.length c1 from hv)
     clear hw3 hy hv y1 x3
     have y1:w3.cell? ⟨b,1,none⟩=some (.slice (some ⟨g,0,none⟩) n1 c1):=FX.o.at_.cell 0 rfl 1 (by rw[N1.o,<- E1.o];rfl)
     have x3:w3.cell? ⟨pc,0,none⟩=some (.int .i64 (m:Int)):=FX.o.at_.cell 3 rfl 0 rfl
     have z0:w3.cell? ⟨q,0,none⟩=some (.int .i64 r):=FX.o.at_.cell 4 rfl 0 rfl
     have z1:w3.cell? ⟨q,1,none⟩=some (.int .i64 k):=FX.o.at_.cell 4 rfl 1 rfl
     have k0:(0:Int) <= (m:Int):=by omega
     have HC:=zq hcell
     have HF:=zq hfree
     clear hcell hfree
     go_wp2_with fail
     refine Fall2.wp_region_tree (C:=fun w'=>True) [7] [] (.step 0 (.step 1 (.step 2 (.step 3 (.step 4 (.step 5 (.step 6 (.step 7 .leaf)))))))) (fun _ _ _=>False) (by kernel_rfl) (fun _ _ _ h=>h.elim) (by kernel_rfl) trivial ?_
     refine Fall2.tree_still [0,1,2,3,4,5,6] (by kernel_rfl) ?_
     simp only[pickL,nth]
     repeat (go_big_quiet_step (fail))
     refine wpQuiet_nil ?_
     have q0:w3.cell? ⟨g,m*2,none⟩=some (.int .i64 y.rate):=by have:=HC.o 0 _ rfl;simpa using this
     have q1:w3.cell? ⟨g,m*2+1,none⟩=some (.int .i64 y.hair):=HC.o 1 _ rfl
     have f0:=HF.o (m*2)
     have f1:=HF.o (m*2+1)
     refine Fall2.tree_last (by kernel_rfl) rfl (by kernel_rfl) (fun K hK=>?_)
     simp only[pickL,nth]
     refine wpOne_one ?_
     go_simp
     refine hK _ _ ?_
     clear hK y1 x3 z0 z1 q0 q1 f0 f1
     refine Fall2.tree_nil ?_
     obtain⟨w4,hw4⟩:∃ s,s=((w3.setCell ⟨g,m*2,none⟩ (.int .i64 r)).setCell ⟨g,m*2+1,none⟩ (.int .i64 k)).drew:=⟨_,rfl⟩
     have F4:=zq (show FBs w R0 ((b, 31,V.cells L)::(pr, 3,#[.int .i64 r])::(pk, 3,#[.int .i64 k])::(pc, 3,#[.int .i64 (m:Int)])::(q, 61,#[.int .i64 r,.int .i64 k])::rest) V { L with curs:=L.curs.set m ⟨r,k⟩ } w4 from by
      obtain⟨o1,m1⟩:=FX.o.own.set_curs HV.o (x':=⟨r,y.hair⟩) (u:=.int .i64 r) HY.o (j:=0) (by decide) rfl
      have e1:({ L with curs:=L.curs.set m ⟨r,y.hair⟩ }:Led).curs[m]?=some ⟨r,y.hair⟩:=by show (L.curs.set m _)[m]?=_;rw[List.getElem?_set_self hml.o]
      obtain⟨o2,m2⟩:=o1.set_curs (by show V.curs=.slice _ (L.curs.set m _).length c1;rw[List.length_set];exact HV.o) (x':=⟨r,k⟩) (u:=.int .i64 k) e1 (j:=1) (by decide) rfl
      have f1:=FX.o.row o1 m1 (q:=0) rfl (by rw[HV.o];rfl) rfl
      have f2:=f1.row o2 m2 (q:=0) rfl (by rw[HV.o];rfl) rfl
      simp only[List.set_set,Nat.add_zero] at f2
      rw[hw4]
      exact f2.drew)
     rw[<- hw4]
     clear hw4
     have x3:w4.cell? ⟨pc,0,none⟩=some (.int .i64 (m:Int)):=F4.o.at_.cell 3 rfl 0 rfl
     go_wp2_with fail
     go_ret
     refine adm_ret (V:=V) (L:={ L with curs:=L.curs.set m ⟨r,k⟩ }) ?_ F4.o
     unfold rateS
     rw[if_pos HOK.o,if_pos (by have:=hml.o;omega),Int.toNat_natCast]
    ·have hlt':¬ (m:Int)<(n1:Int):=by omega
     go_upto_region 3 with (fail)
     refine Fall2.wp_region_tree (C:=fun w'=>True) [] [] (.step 0 (.step 1 (.step 2 (.step 3 (.step 4 (.step 5 (.step 6 .leaf))))))) (fun _ _ _=>False) (by kernel_rfl) (fun _ _ _ h=>h.elim) (by kernel_rfl) trivial ?_
     refine Fall2.tree_still [0,1,2,3,4,5,6] (by kernel_rfl) ?_
     simp only[pickL,nth]
     repeat (go_big_quiet_step (fail))
     refine wpQuiet_nil ?_
     refine Fall2.tree_nil ?_
     obtain rfl:m=n1:=by have:=HM.o;omega
     have FX:=zq FX.o.drew
     obtain⟨w3,hw3⟩:∃ s,s=w2.drew:=⟨_,rfl⟩
     rw[<- hw3] at FX ⊢
     clear hw3 y1 x3
     have x3:w3.cell? ⟨pc,0,none⟩=some (.int .i64 (m:Int)):=FX.o.at_.cell 3 rfl 0 rfl
     go_wp2_with fail
     refine (unless_dec ((m:Int)<4) 40 _).mono ?_
     rintro e w' ⟨he,rfl⟩
     rcases Or.symm he with ⟨h4,rfl⟩|⟨h4,rfl⟩
     ·go_wp2_with fail
      exact⟨rfl,adm_stop (by unfold rateS;rw[if_pos HOK.o,if_neg (by have:=N1.o;omega),if_neg (by omega)];rfl) (by decide) FX.o⟩
     ·have H4:=zq h4
      clear he h4 x3
      have CF:=zq (show ∀ W2 V2 L2,FBs w R0 ((b, 31,V.cells L)::(pr, 3,#[.int .i64 r])::(pk, 3,#[.int .i64 k])::(pc, 3,#[.int .i64 (m:Int)])::(q, 61,#[.int .i64 r,.int .i64 k])::rest) V2 L2 W2 -> (fun W=>W.cell? ⟨b,1,none⟩=some (.slice a1 m c1) /\ W.heap[q]?=some (.cells #[.int .i64 r,.int .i64 k] 61 (0,0))) W2 from fun W2 V2 L2 F=>⟨F.at_.cell 0 rfl 1 (by rw[N1.o,<- E1.o];rfl),F.at_.get 4 rfl⟩)
      have z0:∀ z:Cls (fun W=>W.cell? ⟨b,1,none⟩=some (.slice a1 m c1) /\ W.heap[q]?=some (.cells #[.int .i64 r,.int .i64 k] 61 (0,0))),z.w.cell? ⟨b,1,none⟩=some (.slice a1 m c1):=fun z=>z.ok.1
      have z1:∀ z:Cls (fun W=>W.cell? ⟨b,1,none⟩=some (.slice a1 m c1) /\ W.heap[q]?=some (.cells #[.int .i64 r,.int .i64 k] 61 (0,0))),z.w.cell? ⟨q,0,none⟩=some (.int .i64 r):=fun z=>cell_of_heap z.ok.2 0
      have z2:∀ z:Cls (fun W=>W.cell? ⟨b,1,none⟩=some (.slice a1 m c1) /\ W.heap[q]?=some (.cells #[.int .i64 r,.int .i64 k] 61 (0,0))),z.w.cell? ⟨q,1,none⟩=some (.int .i64 k):=fun z=>cell_of_heap z.ok.2 1
      have FX:=zq FX.o.drew
      have C3:=zq (CF.o _ _ _ FX.o)
      go_upto_region 7 with (fail)
      refine Fall2.wp_region_tree (C:=fun w'=>∃ z:Cls (fun W=>W.cell? ⟨b,1,none⟩=some (.slice a1 m c1) /\ W.heap[q]?=some (.cells #[.int .i64 r,.int .i64 k] 61 (0,0))),w'=z.w) [6,7,10] [0,1,2,3,4] (.step 0 (.step 1 (.step 2 (.step 3 (.step 4 (.step 5 (.step 6 (.step 7 (.step 8 (.step 9 (.step 10 .leaf))))))))))) (fun _ _ _=>False) (by kernel_rfl) (fun _ _ _ h=>h.elim) (by kernel_rfl) ⟨⟨w3.drew,C3.o⟩,rfl⟩ ?_
      obtain⟨w4,hw4⟩:∃ s,s=w3.drew:=⟨_,rfl⟩
      rw[<- hw4] at C3 FX ⊢
      clear hw4
      haveI ne:Nonempty (Cls (fun W=>W.cell? ⟨b,1,none⟩=some (.slice a1 m c1) /\ W.heap[q]?=some (.cells #[.int .i64 r,.int .i64 k] 61 (0,0)))):=⟨⟨w4,C3.o⟩⟩
      refine Fall2.tree_pure [0,1,2,3,4] (by kernel_rfl) ?_
      simp only[pickL,nth]
      repeat (go_big_quiet_step (fail))
      refine wpQuiet_nil ?_
      clear z0 z1 z2
      have z1:w4.cell? ⟨q,0,none⟩=some (.int .i64 r):=cell_of_heap C3.o.2 0
      have z2:w4.cell? ⟨q,1,none⟩=some (.int .i64 k):=cell_of_heap C3.o.2 1
      refine Fall2.tree_still [5] (by kernel_rfl) ?_
      simp only[pickL,nth]
      repeat (go_big_quiet_step (fail))
      refine wpQuiet_nil ?_
      clear z1 z2
      have CA:=zq (fun o=>CF.o (w4.alloc o) _ _ (FX.o.go ((Below.refl _ _).alloc (Nat.le_refl _) o)))
      obtain⟨v',w5,hrun,ho,hm,hbk⟩:=app1_cur w4 R0 V.curs L.curs FX.o.own.curs FX.o.rb ⟨r,k⟩ #[.int .i64 r,.int .i64 k] rfl (by have:=U6.o;omega)
      obtain⟨a',c',hv',_⟩:=ho.form
      obtain⟨m',hm'⟩:∃ m,m=(L.curs++[(⟨r,k⟩:Cur)]).length:=⟨_,rfl⟩
      rw[<- hm'] at hv'
      clear hm'
      subst hv'
      have F5:=zq (FX.o.newrow (FX.o.own.new_curs hm ho hbk) hm (q:=0) rfl rfl hbk)
      have RUN:=zq hrun
      have C5:=zq (CF.o _ _ _ F5.o)
      have Z5:=zq (F5.o.at_.free 0 rfl 1)
      clear hrun ho hm hbk
      rw[E1.o,<- N1.o] at RUN
      refine Fall2.tree_eff (by kernel_rfl) rfl (fun K hK=>?_)
      simp only[pickL,nth]
      refine wpOne_one ?_
      go_simp
      refine hK _ _ (fun _=>⟨⟨_,CA.o _⟩,rfl⟩) ?_
      clear hK
      refine Fall2.tree_eff (by kernel_rfl) rfl (fun K hK=>?_)
      simp only[pickL,nth]
      refine wpOne_one ?_
      refine wp_append_run (.tmp 50) (.tmp 52) 22 rfl rfl rfl RUN.o ?_
      refine hK _ _ (fun _=>⟨⟨w5,C5.o⟩,rfl⟩) ?_
      clear hK
      go_simp
      refine Fall2.tree_still [8,9] (by kernel_rfl) ?_
      simp only[pickL,nth]
      repeat (go_big_quiet_step (fail))
      refine wpQuiet_nil ?_
      have k2:=C5.o.1
      have q2:=Z5.o
      refine Fall2.tree_last (by kernel_rfl) rfl (by kernel_rfl) (fun K hK=>?_)
      simp only[pickL,nth]
      refine wpOne_one ?_
      go_simp
      refine hK _ _ ?_
      clear hK k2 q2
      refine Fall2.tree_nil ?_
      obtain⟨V6,hV6⟩:∃ U:LedV,U={ V with curs:=.slice a' m' c' }:=⟨_,rfl⟩
      obtain⟨L6,hL6⟩:∃ l:Led,l={ L with curs:=L.curs++[⟨r,k⟩] }:=⟨_,rfl⟩
      obtain⟨w6,hw6⟩:∃ s,s=w5.setCell ⟨b,1,none⟩ (.slice a' m' c'):=⟨_,rfl⟩
      have F6:=zq (show FBs w R0 ((b, 31,V6.cells L6)::(pr, 3,#[.int .i64 r])::(pk, 3,#[.int .i64 k])::(pc, 3,#[.int .i64 (m:Int)])::(q, 61,#[.int .i64 r,.int .i64 k])::rest) V6 L6 w6 from by rw[hw6,hV6,hL6];exact F5.o.cell 0 rfl 1 (.slice a' m' c'))
      have EL:=zq hL6
      have AL:=zq (show V6.ac.length=n4 /\ L6.accts=L.accts from ⟨by have h1:=congrArg List.length F6.o.own.same;rw[List.length_map,hL6] at h1;have:=N4.o;simp at h1;omega,by rw[hL6]⟩)
      have EV:=zq (show V6.accts=.slice a4 n4 c4 from by
       have h1:(V.cells L)[4]?=some V.accts:=rfl
       rw[E4.o,<- N4.o] at h1;rw[hV6];injection h1 with h1;exact h1.symm)
      rw[<- hw6]
      clear hw6 hV6 hL6
      have y4:w6.cell? ⟨b,4,none⟩=some (.slice a4 n4 c4):=F6.o.at_.cell 0 rfl 4 (by rw[<- EV.o];rfl)
      go_wp2_with fail
      go_loopw [61] (fun i wr=>∃ v:Nat,v <= n4 /\ i=.int .i64 v /\ ∃ W,W=wr /\ Hid (∃ ac,FBs w R0 ((b, 31,V6.cells L6)::(pr, 3,#[.int .i64 r])::(pk, 3,#[.int .i64 k])::(pc, 3,#[.int .i64 (m:Int)])::(q, 61,#[.int .i64 r,.int .i64 k])::rest) { V6 with ac:=ac } { L6 with accts:=grown L.accts v } W)) (fun i _=>n4 - (intOf i).toNat)
      case atStart=>exact⟨0,Nat.zero_le _,rfl,_,rfl,zq ⟨V6.ac,by rw[grown_zero,<- AL.o.2];exact F6.o⟩⟩
      case round =>
       clear F6 y4 FX F5
       obtain⟨v,hvn,rfl,W,rfl,IV⟩:=hrel
       obtain⟨ac,FV⟩:=IV.o
       have FV:=zq FV
       clear IV
       by_cases hlt2:v<n4
       ·have hlt2':(v:Int)<(n4:Int):=by omega
        have LT:=zq hlt2
        have n16:n4 <= 16:=by have:=U6.o;have:=N4.o;omega
        obtain⟨a0,ha0⟩:∃ a,L.accts[v]?=some a:=⟨_,List.getElem?_eq_getElem (by rw[<- N4.o];exact hlt2)⟩
        have hsame:grown L.accts v=ac.map (·.1):=FV.o.own.same
        have hacl:ac.length=n4:=by have h1:=congrArg List.length hsame;rw[grown_len,List.length_map] at h1;rw[N4.o];exact h1.symm
        obtain⟨p,hp⟩:∃ p,ac[v]?=some p:=⟨_,List.getElem?_eq_getElem (by rw[hacl];exact hlt2)⟩
        have hp1:p.1=a0:=by
         have h1:=grown_at L.accts v v
         rw[hsame,ha0,List.getElem?_map,hp] at h1
         simpa using h1
        obtain⟨g,cg,hv,_,_,hcell,hfree⟩:=FV.o.own.accts.slot acccells_len (by decide) hp
        have hv':V6.accts=.slice (some ⟨g,0,none⟩) ac.length cg:=hv
        obtain⟨rfl,rfl⟩:a4=some ⟨g,0,none⟩ /\ c4=cg:=by rw[EV.o] at hv';injection hv' with h1 _ h3;exact⟨h1,h3⟩
        obtain⟨pa,pc2,hpf,_⟩:=(FV.o.own.cash p (List.mem_of_getElem? hp)).form
        obtain⟨pn,hpn⟩:∃ n,n=p.1.cash.length:=⟨_,rfl⟩
        rw[<- hpn] at hpf
        have PN:=zq (show pn <= 4 from by rw[hpn,hp1];exact (good_bulk HG.o).2.1 a0 (List.mem_of_getElem? ha0))
        have HPP:=zq (And.intro hp (And.intro hp1 (And.intro hpf hpn)))
        have HA0:=zq ha0
        have HVV:=zq hv
        have CF:=zq (show ∀ W2,Mod (fun k=>p.2.ownBlock=some k) W W2 -> (fun W=>W.cell? ⟨b,4,none⟩=some (.slice (some ⟨g,0,none⟩) n4 c4) /\ W.cell? ⟨g,v*4+1,none⟩=some (.slice pa pn pc2)) W2 from fun W2 hm=>by
         have hgb:¬ p.2.ownBlock=some g:=fun e=>rows_apart FV.o.own.sep (i:=v+8) (j:=3) (by omega) (rows_cash (V:={ V6 with ac:=ac }) hp) rfl g e (by show V6.accts.ownBlock=_;rw[hv'];rfl)
         refine⟨hm.cell (FV.o.at_.cell 0 rfl 4 (by rw[<- EV.o];rfl)) (fun e=>FV.o.nin (b, 31,V6.cells L6) (by simp) p.2 (List.mem_of_getElem? (rows_cash (V:={ V6 with ac:=ac }) hp)) e),hm.cell (by rw[<- hpf];exact hcell 1 _ rfl) hgb⟩)
        have z4:∀ z:Cls (fun W=>W.cell? ⟨b,4,none⟩=some (.slice (some ⟨g,0,none⟩) n4 c4) /\ W.cell? ⟨g,v*4+1,none⟩=some (.slice pa pn pc2)),z.w.cell? ⟨b,4,none⟩=some (.slice (some ⟨g,0,none⟩) n4 c4):=fun z=>z.ok.1
        have z5:∀ z:Cls (fun W=>W.cell? ⟨b,4,none⟩=some (.slice (some ⟨g,0,none⟩) n4 c4) /\ W.cell? ⟨g,v*4+1,none⟩=some (.slice pa pn pc2)),z.w.cell? ⟨g,v*4+1,none⟩=some (.slice pa pn pc2):=fun z=>z.ok.2
        have k0:(0:Int) <= (v:Int):=by omega
        have CD:=zq (CF.o W.drew ((Mod.refl _ W).drew))
        clear hp hp1 hpf hpn ha0 hv hv' hcell hfree hsame hacl
        go_wp2_with fail
        refine Fall2.wp_region_tree (C:=fun w'=>∃ z:Cls (fun W=>W.cell? ⟨b,4,none⟩=some (.slice (some ⟨g,0,none⟩) n4 c4) /\ W.cell? ⟨g,v*4+1,none⟩=some (.slice pa pn pc2)),w'=z.w) [13,14,17] [0,1,2,3,4,5,6,7,8,9,10,11,12] (.step 0 (.step 1 (.step 2 (.step 3 (.step 4 (.step 5 (.step 6 (.step 7 (.step 8 (.step 9 (.step 10 (.step 11 (.step 12 (.step 13 (.step 14 (.step 15 (.step 16 (.step 17 .leaf)))))))))))))))))) (fun _ _ _=>False) (by kernel_rfl) (fun _ _ _ h=>h.elim) (by kernel_rfl) ⟨⟨W.drew,CD.o⟩,rfl⟩ ?_
        obtain⟨WD,hWD⟩:∃ s,s=W.drew:=⟨_,rfl⟩
        have FD:=zq (show FBs w R0 ((b, 31,V6.cells L6)::(pr, 3,#[.int .i64 r])::(pk, 3,#[.int .i64 k])::(pc, 3,#[.int .i64 (m:Int)])::(q, 61,#[.int .i64 r,.int .i64 k])::rest) { V6 with ac:=ac } { L6 with accts:=grown L.accts v } WD from by rw[hWD];exact FV.o.drew)
        have MD:=zq (show Mod (fun k=>p.2.ownBlock=some k) W WD from by rw[hWD];exact (Mod.refl _ W).drew)
        rw[<- hWD] at CD ⊢
        clear hWD
        haveI ne:Nonempty (Cls (fun W=>W.cell? ⟨b,4,none⟩=some (.slice (some ⟨g,0,none⟩) n4 c4) /\ W.cell? ⟨g,v*4+1,none⟩=some (.slice pa pn pc2))):=⟨⟨WD,CD.o⟩⟩
        refine Fall2.tree_pure [0,1,2,3,4,5,6,7,8,9,10,11,12] (by kernel_rfl) ?_
        simp only[pickL,nth]
        repeat (go_big_quiet_step (fail))
        refine wpQuiet_nil ?_
        clear z4 z5
        obtain⟨u,w8,hrun,ho,hm,hbk⟩:=app1_int WD R0 p.2 p.1.cash (FD.o.own.cash p (List.mem_of_getElem? HPP.o.1)) FD.o.rb 0 #[.int .i64 0] rfl (by have:=HPP.o.2.2.2;have:=PN.o;omega)
        obtain⟨au,cu,hu',_⟩:=ho.form
        obtain⟨mu,hmu⟩:∃ m,m=(p.1.cash++[(0:Int)]).length:=⟨_,rfl⟩
        rw[<- hmu] at hu'
        clear hmu
        subst hu'
        have C8:=zq (CF.o w8 (MD.o.trans hm (fun _ _ h=>h)))
        have CA8:=zq (fun o=>CF.o (WD.alloc o) (MD.o.trans (((Mod.refl _ WD).alloc o)) (fun _ _ h=>h)))
        have F9:=zq (FD.o.growCash (V:={ V6 with ac:=ac }) HVV.o HPP.o.1 hm ho hbk (fun x hx=>by
         rcases List.mem_append.1 hx with hx|hx
         ·exact FD.o.own.nums p.1 (by rw[FD.o.own.same];exact List.mem_map.2 ⟨p,List.mem_of_getElem? HPP.o.1,rfl⟩) x hx
         ·obtain rfl:=List.mem_singleton.1 hx;omega))
        have ZF:=zq (show w8.frozen? ⟨g,v*4+1,none⟩=false from by
         have o:=FD.o.own.accts.mod hm (fun k hk e=>rows_apart FD.o.own.sep (i:=3) (j:=v+8) (by omega) rfl (rows_cash (V:={ V6 with ac:=ac }) HPP.o.1) k hk e)
         obtain⟨g',_,e1,_,_,_,hf⟩:=o.slot acccells_len (by decide) HPP.o.1
         rw[HVV.o] at e1;injection e1 with e1;injection e1 with e1;injection e1 with e1
         rw[e1];exact hf _)
        have RUN:=zq hrun
        clear hrun ho hm hbk
        rw[HPP.o.2.2.1] at RUN
        refine Fall2.tree_eff (by kernel_rfl) rfl (fun K hK=>?_)
        simp only[pickL,nth]
        refine wpOne_one ?_
        go_simp
        refine hK _ _ (fun _=>⟨⟨_,CA8.o _⟩,rfl⟩) ?_
        clear hK
        refine Fall2.tree_eff (by kernel_rfl) rfl (fun K hK=>?_)
        simp only[pickL,nth]
        refine wpOne_one ?_
        refine wp_append_run (.tmp 76) (.tmp 77) 28 rfl rfl rfl RUN.o ?_
        refine hK _ _ (fun _=>⟨⟨w8,C8.o⟩,rfl⟩) ?_
        clear hK
        go_simp
        refine Fall2.tree_still [15,16] (by kernel_rfl) ?_
        simp only[pickL,nth]
        repeat (go_big_quiet_step (fail))
        refine wpQuiet_nil ?_
        have k2:=C8.o.2
        have q2:=ZF.o
        refine Fall2.tree_last (by kernel_rfl) rfl (by kernel_rfl) (fun K hK=>?_)
        simp only[pickL,nth]
        refine wpOne_one ?_
        go_simp
        refine hK _ _ ?_
        clear hK k2 q2
        refine Fall2.tree_nil ?_
        obtain⟨w9,hw9⟩:∃ s,s=w8.setCell ⟨g,v*4+1,none⟩ (.slice au mu cu):=⟨_,rfl⟩
        have FN:=zq (show ∃ ac,FBs w R0 ((b, 31,V6.cells L6)::(pr, 3,#[.int .i64 r])::(pk, 3,#[.int .i64 k])::(pc, 3,#[.int .i64 (m:Int)])::(q, 61,#[.int .i64 r,.int .i64 k])::rest) { V6 with ac:=ac } { L6 with accts:=grown L.accts (v+1) } w9 from by
         refine⟨ac.set v ({ p.1 with cash:=p.1.cash++[0] },.slice au mu cu),?_⟩
         rw[hw9,grown_next HA0.o,<- HPP.o.2.1]
         exact F9.o)
        rw[<- hw9]
        clear hw9
        go_wp2_with fail
        go_roundw
        case rel=>exact⟨v+1,by have:=LT.o;omega,by go_num,_,rfl,FN⟩
        case measure=>have:=LT.o;simp[intOf];omega
       ·have hlt2':¬ (v:Int)<(n4:Int):=by omega
        obtain rfl:n4=v:=by omega
        have x3:W.cell? ⟨pc,0,none⟩=some (.int .i64 (m:Int)):=FV.o.at_.cell 3 rfl 0 rfl
        go_wp2_with fail
        go_ret
        refine adm_ret (V:={ V6 with ac:=ac }) (L:={ L6 with accts:=grown L.accts n4 }) ?_ FV.o
        unfold rateS
        rw[if_pos HOK.o,if_neg (by have:=N1.o;omega),if_pos H4.o,EL.o,N4.o,grown_all]
  ·have d1:decide ((m:Int) <= (n1:Int))=false:=decide_eq_false (by omega)
   have d2:decide (m <= n1)=false:=decide_eq_false h1
   refine Fall2.wp_region_tree (C:=fun w'=>True) [14,16] [] (.step 0 (.step 1 (.step 2 (.step 3 (.step 4 (.step 5 (.step 6 (.step 7 (.step 8 (.step 9 (.step 10 (.step 11 (.step 12 (.step 13 (.step 14 (.step 15 (.step 16 .leaf))))))))))))))))) (fun ch d w'=>d=[] /\ AdmOut (rateS L (m:Int) r k) w R0 b rest (.panicked ch) w') (by kernel_rfl) (fun _ _ _ h=>⟨h.1,h.2⟩) (by kernel_rfl) trivial ?_
   refine Fall2.tree_still [0,1,2,3,4,5,6,7,8,9,10,11,12,13] (by kernel_rfl) ?_
   simp only[pickL,nth]
   repeat (go_big_quiet_step (fail))
   refine wpQuiet_nil ?_
   refine Fall2.tree_skip (by kernel_rfl) rfl (by rfl) (fun h=>by cases h) ?_
   go_simp
   refine Fall2.tree_still [15] (by kernel_rfl) ?_
   simp only[pickL,nth]
   repeat (go_big_quiet_step (fail))
   refine wpQuiet_nil ?_
   refine Fall2.tree_last (by kernel_rfl) rfl (by kernel_rfl) (fun K hK=>?_)
   simp only[pickL,nth]
   refine wpOne_one ?_
   go_simp
   refine (unless_no 30 _).mono ?_
   rintro e w' ⟨rfl,rfl⟩
   exact⟨rfl,adm_stop (by unfold rateS;rw[if_neg (by intro h;have:=N1.o;omega)];rfl) (by decide) FF.o.drew⟩
 ·have d0:decide (0 <= c)=false:=decide_eq_false h0
  refine Fall2.wp_region_tree (C:=fun w'=>True) [14,16] [] (.step 0 (.step 1 (.step 2 (.step 3 (.step 4 (.step 5 (.step 6 (.step 7 (.step 8 (.step 9 (.step 10 (.step 11 (.step 12 (.step 13 (.step 14 (.step 15 (.step 16 .leaf))))))))))))))))) (fun ch d w'=>d=[] /\ AdmOut (rateS L c r k) w R0 b rest (.panicked ch) w') (by kernel_rfl) (fun _ _ _ h=>⟨h.1,h.2⟩) (by kernel_rfl) trivial ?_
  refine Fall2.tree_still [0,1,2,3,4,5,6,7,8,9,10,11,12,13] (by kernel_rfl) ?_
  simp only[pickL,nth]
  repeat (go_big_quiet_step (fail))
  refine wpQuiet_nil ?_
  refine Fall2.tree_skip (by kernel_rfl) rfl (by rfl) (fun h=>by cases h) ?_
  go_simp
  refine Fall2.tree_still [15] (by kernel_rfl) ?_
  simp only[pickL,nth]
  repeat (go_big_quiet_step (fail))
  refine wpQuiet_nil ?_
  refine Fall2.tree_last (by kernel_rfl) rfl (by kernel_rfl) (fun K hK=>?_)
  simp only[pickL,nth]
  refine wpOne_one ?_
  go_simp
  refine (unless_no 30 _).mono ?_
  rintro e w' ⟨rfl,rfl⟩
  exact⟨rfl,adm_stop (by unfold rateS;rw[if_neg (by intro h;have:=N1.o;omega)];rfl) (by decide) FF.o.drew⟩
end Go.Proofs.YtnkpdfjnjmmleaaGreatDoor

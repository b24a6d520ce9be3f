/- The document's admin, walked (printed by tools/gen_admr.py). -/
import Derived.Test.YtnkpdfjnjmmleaaGreatDoorAdmD
import Derived.Test.YtnkpdfjnjmmleaaGreatDoorGe
import Derived.Test.YtnkpdfjnjmmleaaGreatDoorAdmO
namespace Go.Proofs.YtnkpdfjnjmmleaaGreatDoor
open Go.RowKit Go.Bw Go.Maps Go.Shelf Go.Bw.Fall
set_option linter.unusedVariables false
set_option linter.unusedSimpArgs false
set_option maxRecDepth 100000 in
set_option maxHeartbeats 4000000 in
theorem drate_any (w:World) (V:LedV) (L:Led) (h:LedAt w V L) (hL:L.accts.length≤1024) (c r k:Int) :
 Calls Tryz.prog 25 #[V.val L,.int .i64 c,.int .i64 r,.int .i64 k] w (AdmRet w (admA L (rateS L c r k))):=by
 classical
 have LC:=Lib.hid (ledc h)
 have HH:=Lib.hid h
 have GD:=Lib.hid (show ∀ W,Below w.heap.size w W→∀ B:Bool,decide L.Good=B→Calls Tryz.prog 43 #[V.val L] W fun e w'=>e=.returned (.bool B)∧Below W.heap.size W w' from fun W hb B hB=>rgood_to (h.below hb) hL hB)
 have CP:=Lib.hid (fun W (hb:Below w.heap.size w W) (hg:L.Good)=>rcopy_any W V L (h.below hb) (good_bulk hg).1 (fun a ha=>by have:=(good_bulk hg).2.1 a ha;omega))
 unfold LedV.val at GD CP ⊢
 obtain⟨C,hC⟩:∃ C,C=V.cells L:=⟨_,rfl⟩
 have EC:=Lib.hid hC
 rw[← hC] at GD CP LC ⊢
 obtain⟨W0,hW0⟩:∃ s,s=(w.alloc (.cells C 31)).alloc (.cells #[.int .i64 0,.slice none 0 0,.slice none 0 0,.slice none 0 0,.slice none 0 0,.slice none 0 0,.slice none 0 0,.slice none 0 0,.slice none 0 0] 31):=⟨_,rfl⟩
 obtain⟨b0,hb0⟩:∃ n,n=w.heap.size:=⟨_,rfl⟩
 have X0:=Lib.hid (show At w W0 [(b0, 31,C),(b0+1, 31,led0)] from by
  have a:=(((At.start w).alloc 31 C).alloc 31 #[.int .i64 0,.slice none 0 0,.slice none 0 0,.slice none 0 0,.slice none 0 0,.slice none 0 0,.slice none 0 0,.slice none 0 0,.slice none 0 0])
  have e:∀ (w:World) (o:Obj),(w.alloc o).heap.size=w.heap.size+1:=fun w o=>by simp
  simp only[e] at a
  rw[← hW0,← hb0] at a
  exact a)
 clear h hL hC
 go_enter Tryz.func25,Tryz.ntmps25
 go_upto_region 1 with (fail)
 rw[← hW0,← hb0]
 clear hW0 hb0
 go_wp2_with (refine led_load (X0.out.get 0 rfl) LC.out rfl rfl rfl ?_)
 by_cases hg:L.Good
 ·refine (GD.out W0 X0.out.low true (decide_eq_true hg)).mono ?_
  rintro e w1 ⟨rfl,hb⟩
  have XX:=Lib.hid (X0.out.go hb)
  have HG:=Lib.hid hg
  clear hb X0 hg GD
  obtain⟨a1,c1,e1⟩:=HH.out.curs.form
  have E1:=Lib.hid e1
  obtain⟨n1,hn1⟩:∃ n,n=L.curs.length:=⟨_,rfl⟩
  have N1:=Lib.hid hn1
  obtain⟨n4,hn4⟩:∃ n,n=L.accts.length:=⟨_,rfl⟩
  have N4:=Lib.hid hn4
  have U6:=Lib.hid (show L.curs.length≤4∧L.accts.length≤16 from ⟨HG.out.things.c1,(good_bulk HG.out).2.2⟩)
  clear e1 hn1 hn4
  go_upto_region 4 with (fail)
  have XX:=Lib.hid (XX.out.alloc 61 #[.int .i64 r,.int .i64 k])
  obtain⟨w2,hw2⟩:∃ s,s=w1.alloc (.cells #[.int .i64 r,.int .i64 k] 61):=⟨_,rfl⟩
  obtain⟨b7,hb7⟩:∃ n,n=w1.heap.size:=⟨_,rfl⟩
  rw[← hw2,← hb7] at XX
  rw[← hw2,← hb7]
  clear hw2 hb7
  have y1:w2.cell? ⟨b0,1,none⟩=some (.slice a1 n1 c1):=XX.out.cell 0 rfl 1 (by rw[EC.out,N1.out,← E1.out];rfl)
  have i0:w2.cell? ⟨b7,0,none⟩=some (.int .i64 r):=XX.out.cell 2 rfl 0 rfl
  have i1:w2.cell? ⟨b7,1,none⟩=some (.int .i64 k):=XX.out.cell 2 rfl 1 rfl
  by_cases h0:c<0
  ·have d0:decide (c<0)=true:=decide_eq_true h0
   go_wp2_with fail
   refine (rno_any 30 _).mono ?_
   rintro e w9 ⟨rfl,hb⟩
   have XN:=Lib.hid (XX.out.go hb)
   clear hb
   go_wp2_with (refine led_store (cs:=led0) (XN.out.get 1 rfl) ledc0 ledc0 rfl rfl rfl rfl ?_)
   refine bodyPost_ret (results_led1 (cs:=led0) rfl _ _ (setRow_heap _ _ _ _ _ _ (XN.out.get 1 rfl)) ledc0 rfl) rfl (no_ret XN.out (k:=1) rfl (by rw[admA_err HG.out (by unfold rateS;rw[if_neg (fun h=>by have:=h.1;omega)];first|decide|exact HZ.out)];unfold rateS;rw[if_neg (fun h=>by have:=h.1;omega)];rfl))
  ·obtain⟨m,rfl⟩:∃ m:Nat,c=m:=⟨c.toNat,by omega⟩
   by_cases h1:m≤n1
   ·have HM:=Lib.hid h1
    have h1':¬ (n1:Int)<(m:Int):=by omega
    have CR:=Lib.hid (fun W=>rcur_any ⟨r,k⟩ m (by have:=U6.out;have:=N1.out;have:=HM.out;omega) W)
    go_wp2_with fail
    refine (CR.out _).mono ?_
    rintro e w5 ⟨rfl,hb⟩
    have XX:=Lib.hid (XX.out.go hb)
    clear hb y1 i0 i1 CR h0 h1 h1'
    by_cases hok:Cur.Ok ⟨r,k⟩ m
    ·have HOK:=Lib.hid (show 0≤(m:Int)∧(m:Int)≤(L.curs.length:Int)∧Cur.Ok ⟨r,k⟩ (m:Int).toNat from ⟨by omega,by have:=N1.out;have:=HM.out;omega,by rw[Int.toNat_natCast];exact hok⟩)
     have hd:decide (Cur.Ok ⟨r,k⟩ m)=true:=decide_eq_true hok
     clear hok
     rw[hd]
     go_wp2_with (refine led_load (XX.out.get 0 rfl) LC.out rfl rfl rfl ?_)
     refine (CP.out w5 XX.out.low HG.out).mono ?_
     rintro e wq ⟨V2,rfl,own,hb⟩
     have FF:=Lib.hid (fbs_copy XX.out own hb)
     have R0:=Lib.hid (show w5.heap.size≤wq.heap.size from hb.size)
     have L2:=Lib.hid (ledc own.led)
     unfold LedV.val
     clear own hb CP
     go_upto_region 7 with (refine led_store (heap_alloc_last _ _) ledc0 L2.out rfl rfl rfl rfl ?_;rw[World.setRow_alloc_new])
     obtain⟨W5,hW5⟩:∃ s,s=wq.alloc (.cells (V2.cells L) 31):=⟨_,rfl⟩
     obtain⟨b5,hb5⟩:∃ n,n=wq.heap.size:=⟨_,rfl⟩
     rw[← hW5,← hb5] at FF
     rw[← hW5,← hb5]
     clear hW5 hb5
     have y1:W5.cell? ⟨b0,1,none⟩=some (.slice a1 n1 c1):=FF.out.at_.cell 1 rfl 1 (by rw[EC.out,N1.out,← E1.out];rfl)
     have i0:W5.cell? ⟨b7,0,none⟩=some (.int .i64 r):=FF.out.at_.cell 3 rfl 0 rfl
     have i1:W5.cell? ⟨b7,1,none⟩=some (.int .i64 k):=FF.out.at_.cell 3 rfl 1 rfl
     by_cases hlt:m<n1
     ·have hlt':(m:Int)<(n1:Int):=by omega
      have hml:=Lib.hid (show m<L.curs.length from by rw[← N1.out];exact hlt)
      obtain⟨y,hy⟩:∃ y,L.curs[m]?=some y:=⟨_,List.getElem?_eq_getElem hml.out⟩
      have HY:=Lib.hid hy
      obtain⟨g,cg,hv,_,_,hcell,hfree⟩:=FF.out.own.curs.slot curcells_len (by decide) hy
      have HV:=Lib.hid (show V2.curs=.slice (some ⟨g,0,none⟩) L.curs.length cg from hv)
      have z1:W5.cell? ⟨b5,1,none⟩=some (.slice (some ⟨g,0,none⟩) n1 cg):=FF.out.at_.cell 0 rfl 1 (by rw[N1.out,← hv];rfl)
      have k0:(0:Int)≤(m:Int):=by omega
      have q0:W5.cell? ⟨g,m*2,none⟩=some (.int .i64 y.rate):=by have:=hcell 0 _ rfl;simpa using this
      have q1:W5.cell? ⟨g,m*2+1,none⟩=some (.int .i64 y.hair):=hcell 1 _ rfl
      have f0:=hfree (m*2)
      have f1:=hfree (m*2+1)
      clear hy hv hcell hfree
      go_upto_region 9 with (fail)
      clear y1 z1 q0 q1 f0 f1 i0 i1
      obtain⟨W7,hW7⟩:∃ s,s=(W5.setCell ⟨g,m*2,none⟩ (.int .i64 r)).setCell ⟨g,m*2+1,none⟩ (.int .i64 k):=⟨_,rfl⟩
      have F7:=Lib.hid (show FBs w w5.heap.size ((b5, 31,V2.cells { L with curs:=L.curs.set m ⟨r,k⟩ })::[(b0, 31,C),(b0+1, 31,led0),(b7, 61,#[.int .i64 r,.int .i64 k])]) V2 { L with curs:=L.curs.set m ⟨r,k⟩ } W7 from by
       obtain⟨o1,m1⟩:=FF.out.own.set_curs HV.out (x':=⟨r,y.hair⟩) (u:=.int .i64 r) HY.out (j:=0) (by decide) rfl
       have e1:({ L with curs:=L.curs.set m ⟨r,y.hair⟩ }:Led).curs[m]?=some ⟨r,y.hair⟩:=by show (L.curs.set m _)[m]?=_;rw[List.getElem?_set_self hml.out]
       obtain⟨o2,m2⟩:=o1.set_curs (by show V2.curs=.slice _ (L.curs.set m _).length cg;rw[List.length_set];exact HV.out) (x':=⟨r,k⟩) (u:=.int .i64 k) e1 (j:=1) (by decide) rfl
       have f1:=FF.out.row o1 m1 (q:=0) rfl (by rw[HV.out];rfl) rfl
       have f2:=f1.row o2 m2 (q:=0) rfl (by rw[HV.out];rfl) rfl
       simp only[List.set_set,Nat.add_zero] at f2
       rw[hW7]
       exact f2)
      rw[← hW7]
      clear hW7
      have LE:=Lib.hid (ledc F7.out.own.led)
      have EE:=Lib.hid (show admA L (rateS L (m:Int) r k)=endA ({ L with curs:=L.curs.set m ⟨r,k⟩ }:Led) ((m:Int)) from by
       have e:rateS L (m:Int) r k=(⟨({ L with curs:=L.curs.set m ⟨r,k⟩ }:Led),(m:Int),0⟩:Adm):=by unfold rateS;rw[if_pos HOK.out,if_pos (by have:=hml.out;omega),Int.toNat_natCast]
       rw[admA_end HG.out (by rw[e]),e])
      have GE:=Lib.hid (show ({ L with curs:=L.curs.set m ⟨r,k⟩ }:Led).Good from by
       have e:rateS L (m:Int) r k=(⟨({ L with curs:=L.curs.set m ⟨r,k⟩ }:Led),(m:Int),0⟩:Adm):=by unfold rateS;rw[if_pos HOK.out,if_pos (by have:=hml.out;omega),Int.toNat_natCast]
       have:=rateS_good HG.out (by rw[e]:(rateS L (m:Int) r k).err=0)
       rw[e] at this
       exact this)
      have EN:=Lib.hid (rend_any W7 _ _ F7.out.own.led GE.out ((m:Int)))
      unfold LedV.val at EN
      go_wp2_with (refine led_load (F7.out.at_.get 0 rfl) LE.out rfl rfl rfl ?_)
      refine EN.out.mono ?_
      obtain⟨a,ha⟩:∃ a,a=endA ({ L with curs:=L.curs.set m ⟨r,k⟩ }:Led) ((m:Int)):=⟨_,rfl⟩
      rw[← ha] at EE ⊢
      rintro e w7 ⟨U,rfl,own,hb⟩
      have OW:=Lib.hid own
      have BB:=Lib.hid hb
      have X7:=Lib.hid (F7.out.at_.go hb)
      have LU:=Lib.hid (ledc own.led)
      unfold LedV.val
      clear own hb ha EN
      go_simp
      go_wp2_with (refine led_store (X7.out.get 2 rfl) ledc0 LU.out rfl rfl rfl rfl ?_)
      exact bodyPost_ret (results_led1 rfl _ _ (setRow_heap _ _ _ _ _ _ (X7.out.get 2 rfl)) LU.out rfl) rfl (by simpa using end_ret F7.out.at_ BB.out OW.out (k:=2) rfl EE.out.symm rfl rfl rfl)
     ·have hlt':¬ (m:Int)<(n1:Int):=by omega
      obtain rfl:m=n1:=by have:=HM.out;omega
      by_cases h4:(4:Int)≤(m:Int)
      ·skip
       go_wp2_with fail
       refine (rno_any 40 _).mono ?_
       rintro e w9 ⟨rfl,hb⟩
       have XN:=Lib.hid (FF.out.at_.go hb)
       clear hb
       go_wp2_with (refine led_store (cs:=led0) (XN.out.get 2 rfl) ledc0 ledc0 rfl rfl rfl rfl ?_)
       refine bodyPost_ret (results_led1 (cs:=led0) rfl _ _ (setRow_heap _ _ _ _ _ _ (XN.out.get 2 rfl)) ledc0 rfl) rfl (no_ret XN.out (k:=2) rfl (by rw[admA_err HG.out (by unfold rateS;rw[if_pos HOK.out,if_neg (by have:=N1.out;omega),if_neg (by omega)];first|decide|exact HZ.out)];unfold rateS;rw[if_pos HOK.out,if_neg (by have:=N1.out;omega),if_neg (by omega)];rfl))
      ·have H4:=Lib.hid h4
       have h4':(m:Int)<4:=by omega
       obtain⟨a1',c1',e1'⟩:=FF.out.own.led.curs.form
       have E1':=Lib.hid e1'
       have z1:W5.cell? ⟨b5,1,none⟩=some (.slice a1' m c1'):=FF.out.at_.cell 0 rfl 1 (by show some V2.curs=_;rw[e1',N1.out])
       obtain⟨v',w6,hrun,ho,hm,hbk⟩:=app1_cur W5 w5.heap.size V2.curs L.curs FF.out.own.curs FF.out.rb ⟨r,k⟩ #[.int .i64 r,.int .i64 k] rfl (by have:=U6.out;omega)
       obtain⟨a',c',hv',_⟩:=ho.form
       obtain⟨m',hm'⟩:∃ m,m=(L.curs++[(⟨r,k⟩:Cur)]).length:=⟨_,rfl⟩
       rw[← hm'] at hv'
       clear hm'
       subst hv'
       have F6:=Lib.hid (FF.out.newrow (FF.out.own.new_curs hm ho hbk) hm (q:=0) rfl rfl hbk)
       have RUN:=Lib.hid hrun
       clear hrun ho hm hbk e1'
       rw[E1'.out,← N1.out] at RUN
       have z2:=F6.out.at_.free 0 rfl 1
       have k2:w6.cell? ⟨b5,1,none⟩=some (.slice a1' m c1'):=F6.out.at_.cell 0 rfl 1 (by show some V2.curs=_;rw[E1'.out,N1.out])
       go_upto_region 13 with (at_builtin;refine wpList_append_run rfl (.tmp 69) (.tmp 71) 22 rfl rfl rfl RUN.out ?_)
       clear i0 i1 y1 z1
       obtain⟨V6,hV6⟩:∃ U:LedV,U={ V2 with curs:=.slice a' m' c' }:=⟨_,rfl⟩
       obtain⟨L6,hL6⟩:∃ l:Led,l={ L with curs:=L.curs++[⟨r,k⟩] }:=⟨_,rfl⟩
       obtain⟨W6,hW6⟩:∃ s,s=w6.setCell ⟨b5,1,none⟩ (.slice a' m' c'):=⟨_,rfl⟩
       have F6:=Lib.hid (show FBs w w5.heap.size ((b5, 31,V6.cells L6)::[(b0, 31,C),(b0+1, 31,led0),(b7, 61,#[.int .i64 r,.int .i64 k])]) V6 L6 W6 from by rw[hW6,hV6,hL6];exact F6.out.cell 0 rfl 1 (.slice a' m' c'))
       obtain⟨a4,c4,e4⟩:=cells4 FF.out.own.led
       have EL:=Lib.hid hL6
       have AL:=Lib.hid (show V6.ac.length=n4∧L6.accts=L.accts from ⟨by have h1:=congrArg List.length F6.out.own.same;rw[List.length_map,hL6] at h1;have:=N4.out;simp at h1;omega,by rw[hL6]⟩)
       have EV:=Lib.hid (show V6.accts=.slice a4 n4 c4 from by
        have h1:(V2.cells L)[4]?=some V2.accts:=rfl
        rw[e4,← N4.out] at h1;rw[hV6];injection h1 with h1;exact h1.symm)
       rw[← hW6]
       clear hW6 hV6 hL6 e4 z2 k2 RUN
       have y4:W6.cell? ⟨b5,4,none⟩=some (.slice a4 n4 c4):=F6.out.at_.cell 0 rfl 4 (by rw[← EV.out];rfl)
       go_wp2_with fail
       go_loopw [77] (fun i wr=>∃ v:Nat,v≤n4∧i=.int .i64 v∧∃ W,W=wr∧Hid (∃ ac,FBs w w5.heap.size ((b5, 31,V6.cells L6)::[(b0, 31,C),(b0+1, 31,led0),(b7, 61,#[.int .i64 r,.int .i64 k])]) { V6 with ac:=ac } { L6 with accts:=grown L.accts v } W)) (fun i _=>n4 - (intOf i).toNat)
       case atStart=>exact⟨0,Nat.zero_le _,rfl,_,rfl,Lib.hid ⟨V6.ac,by rw[grown_zero,← AL.out.2];exact F6.out⟩⟩
       case round =>
        clear F6 y4
        obtain⟨v,hvn,rfl,W,rfl,IV⟩:=hrel
        obtain⟨ac,FV⟩:=IV.out
        have FV:=Lib.hid FV
        clear IV
        by_cases hlt2:v<n4
        ·have hlt2':(v:Int)<(n4:Int):=by omega
         have LT:=Lib.hid hlt2
         have n16:n4≤16:=by have:=U6.out;have:=N4.out;omega
         obtain⟨a0,ha0⟩:∃ a,L.accts[v]?=some a:=⟨_,List.getElem?_eq_getElem (by rw[← N4.out];exact hlt2)⟩
         have hsame:grown L.accts v=ac.map (·.1):=FV.out.own.same
         have hacl:ac.length=n4:=by have h1:=congrArg List.length hsame;rw[grown_len,List.length_map] at h1;rw[N4.out];exact h1.symm
         obtain⟨⟨q,pv⟩,hp⟩:∃ p,ac[v]?=some p:=⟨_,List.getElem?_eq_getElem (by rw[hacl];exact hlt2)⟩
         have hp1:q=a0:=by
          have h1:=grown_at L.accts v v
          rw[hsame,ha0,List.getElem?_map,hp] at h1
          simpa using h1
         obtain⟨g,cg,hv,_,_,hcell,hfree⟩:=FV.out.own.accts.slot acccells_len (by decide) hp
         have hv':V6.accts=.slice (some ⟨g,0,none⟩) ac.length cg:=hv
         obtain⟨rfl,rfl⟩:a4=some ⟨g,0,none⟩∧c4=cg:=by rw[EV.out] at hv';injection hv' with h1 _ h3;exact⟨h1,h3⟩
         obtain⟨pa,pc2,hpf,_⟩:=(FV.out.own.cash _ (List.mem_of_getElem? hp)).form
         obtain⟨pn,hpn⟩:∃ n,n=q.cash.length:=⟨_,rfl⟩
         have hpf:pv=.slice pa pn pc2:=by rw[hpn];exact hpf
         subst hpf
         have PN:=Lib.hid (show q.cash.length≤4∧pn=q.cash.length from ⟨by rw[hp1];exact (good_bulk HG.out).2.1 a0 (List.mem_of_getElem? ha0),hpn⟩)
         have HP:=Lib.hid hp
         have HP1:=Lib.hid hp1
         have HA0:=Lib.hid ha0
         have HVV:=Lib.hid hv
         have q0:W.cell? ⟨g,v*4,none⟩=some (.int .i64 q.parent):=by have:=hcell 0 _ rfl;simpa using this
         have q1:W.cell? ⟨g,v*4+1,none⟩=some (.slice pa pn pc2):=hcell 1 _ rfl
         have q2:W.cell? ⟨g,v*4+2,none⟩=some (.bool q.flag):=hcell 2 _ rfl
         have q3:W.cell? ⟨g,v*4+3,none⟩=some (.int .i64 q.last):=hcell 3 _ rfl
         have y4:W.cell? ⟨b5,4,none⟩=some (.slice (some ⟨g,0,none⟩) n4 c4):=FV.out.at_.cell 0 rfl 4 (by rw[← EV.out];rfl)
         have k0:(0:Int)≤(v:Int):=by omega
         clear hp hp1 hpn ha0 hv hv' hcell hfree hsame hacl
         go_upto_region 17 with (fail)
         clear q0 q1 q2 q3 y4
         obtain⟨b8,hb8⟩:∃ n,n=W.heap.size:=⟨_,rfl⟩
         obtain⟨W8,hW8⟩:∃ s,s=W.alloc (.cells #[.int .i64 q.parent,.slice pa pn pc2,.bool q.flag,.int .i64 q.last] 56):=⟨_,rfl⟩
         have FB:=Lib.hid (show FBs w w5.heap.size (((b5, 31,V6.cells L6)::[(b0, 31,C),(b0+1, 31,led0),(b7, 61,#[.int .i64 r,.int .i64 k])])++[(b8, 56,#[.int .i64 q.parent,.slice pa pn pc2,.bool q.flag,.int .i64 q.last])]) { V6 with ac:=ac } { L6 with accts:=grown L.accts v } W8 from by rw[hW8,hb8];exact FV.out.box _ _)
         have B8:=Lib.hid (show Below W.heap.size W W8∧W.heap.size<W8.heap.size∧b8=W.heap.size from by rw[hW8];exact⟨(Below.refl _ _).alloc (Nat.le_refl _) _,by simp,hb8⟩)
         rw[← hW8,← hb8]
         clear hW8 hb8
         obtain⟨v',w8,hrun,ho,hbb⟩:=appn_int W8 (.slice pa pn pc2) q.cash ((FB.out.own.cash _ (List.mem_of_getElem? HP.out)).row icell_len (by decide)) (by have:=PN.out;omega)
         obtain⟨x5,k5,rfl,_⟩:=ho.form
         obtain⟨n5,hn5⟩:∃ n,n=q.cash.length:=⟨_,rfl⟩
         rw[← hn5] at ho hrun
         obtain⟨v8,w9,hrun9,ho9,hm9,hb9⟩:=app1_int w8 W8.heap.size (.slice x5 n5 k5) q.cash ho hbb.size 0 #[.int .i64 0] rfl (by have:=PN.out;omega)
         obtain⟨x9,k9,hv9,_⟩:=ho9.form
         obtain⟨n9,hn9⟩:∃ n,n=(q.cash++[(0:Int)]).length:=⟨_,rfl⟩
         rw[← hn9] at hv9
         subst hv9
         have hlt5:∀ k,Value.ownBlock (.slice x5 n5 k5)=some k→W8.heap.size≤k:=fun k hk=>(ho.lt k hk).1
         have BB9:=Lib.hid (show Below W8.heap.size W8 w9 from ((Mod.of_below hbb).trans hm9 (fun k hk h=>by have:=hlt5 k h;omega)).toBelow)
         have HR:=Lib.hid hrun
         have HR9:=Lib.hid hrun9
         have OU:=Lib.hid ho9
         have XB:=Lib.hid (FB.out.go BB9.out)
         have j1:(W8.alloc (.cells #[] 3)).cell? ⟨b8,1,none⟩=some (.slice pa pn pc2):=(FB.out.go ((Below.refl _ _).alloc (Nat.le_refl _) _)).at_.cell 4 rfl 1 rfl
         have j2:w9.cell? ⟨b8,1,none⟩=some (.slice pa pn pc2):=XB.out.at_.cell 4 rfl 1 rfl
         have j3:=XB.out.at_.free 4 rfl 1
         clear hrun ho hbb hrun9 ho9 hm9 hb9 hn5 hn9 hlt5
         go_upto_region 18 with (at_builtin;first|refine wpList_append_run rfl (.tmp 85) (.tmp 87) 28 rfl rfl rfl HR.out ?_|refine wpList_append_run rfl (.tmp 88) (.tmp 89) 28 rfl rfl rfl HR9.out ?_)
         clear j1 j2 j3
         have X10:=Lib.hid (show At w (w9.setCell ⟨b8,1,none⟩ (.slice x9 n9 k9)) (((b5, 31,V6.cells L6)::[(b0, 31,C),(b0+1, 31,led0),(b7, 61,#[.int .i64 r,.int .i64 k])])++[(b8, 56,#[.int .i64 q.parent,.slice x9 n9 k9,.bool q.flag,.int .i64 q.last])]) from XB.out.at_.setCell 4 rfl 1 _)
         have B10:=Lib.hid (show Below W.heap.size W (w9.setCell ⟨b8,1,none⟩ (.slice x9 n9 k9)) from (B8.out.1.trans (BB9.out.mono (Nat.le_of_lt B8.out.2.1))).setCell (by show W.heap.size≤b8;rw[B8.out.2.2];exact Nat.le_refl _) _)
         have O10:=Lib.hid (show OwnOf (w9.setCell ⟨b8,1,none⟩ (.slice x9 n9 k9)) W8.heap.size 3 1 icell (.slice x9 n9 k9) (q.cash++[0]) from OU.out.mod ((Mod.refl (fun k=>k=b8) w9).setCell (p:=⟨b8,1,none⟩) _ (fun _=>rfl)) (fun k hk e=>by have h1:=(OU.out.lt k hk).1;have:=B8.out.2;omega))
         obtain⟨W10,hW10⟩:∃ s,s=w9.setCell ⟨b8,1,none⟩ (.slice x9 n9 k9):=⟨_,rfl⟩
         rw[← hW10] at X10 B10 O10 ⊢
         clear hW10
         have F10:=Lib.hid (FV.out.go B10.out)
         have G10:=Lib.hid (FV.out.growCash (V:={ V6 with ac:=ac }) (W':=W10) HVV.out HP.out ((Mod.of_below B10.out).mono (fun _ _ h=>h.elim)) (O10.out.base (Nat.le_trans FV.out.rb (Nat.le_of_lt B8.out.2.1))) (fun b hb=>Or.inr (by have h1:=(O10.out.lt b hb).1;have:=B8.out.2.1;omega)) (fun x hx=>by
          rcases List.mem_append.1 hx with hx|hx
          ·exact FV.out.own.nums q (by rw[FV.out.own.same];exact List.mem_map.2 ⟨_,List.mem_of_getElem? HP.out,rfl⟩) x hx
          ·obtain rfl:=List.mem_singleton.1 hx;omega))
         obtain⟨g2,cg2,hv2,_,_,hcell,hfree⟩:=F10.out.own.accts.slot acccells_len (by decide) HP.out
         obtain rfl:g2=g:=by rw[HVV.out] at hv2;injection hv2 with h1 _ _;injection h1 with h1;injection h1 with h1;exact h1.symm
         have q0:W10.cell? ⟨g2,v*4,none⟩=some (.int .i64 q.parent):=by have:=hcell 0 _ rfl;simpa using this
         have q1:W10.cell? ⟨g2,v*4+1,none⟩=some (.slice pa pn pc2):=hcell 1 _ rfl
         have q2:W10.cell? ⟨g2,v*4+2,none⟩=some (.bool q.flag):=hcell 2 _ rfl
         have q3:W10.cell? ⟨g2,v*4+3,none⟩=some (.int .i64 q.last):=hcell 3 _ rfl
         have f0:=hfree (v*4)
         have f1:=hfree (v*4+1)
         have f2:=hfree (v*4+2)
         have f3:=hfree (v*4+3)
         have y4:W10.cell? ⟨b5,4,none⟩=some (.slice (some ⟨g2,0,none⟩) n4 c4):=F10.out.at_.cell 0 rfl 4 (by rw[← EV.out];rfl)
         have i0:W10.cell? ⟨b8,0,none⟩=some (.int .i64 q.parent):=X10.out.cell 4 rfl 0 rfl
         have i1:W10.cell? ⟨b8,1,none⟩=some (.slice x9 n9 k9):=X10.out.cell 4 rfl 1 rfl
         have i2:W10.cell? ⟨b8,2,none⟩=some (.bool q.flag):=X10.out.cell 4 rfl 2 rfl
         have i3:W10.cell? ⟨b8,3,none⟩=some (.int .i64 q.last):=X10.out.cell 4 rfl 3 rfl
         have QQ:=Lib.hid q0
         clear hv2 hcell hfree
         go_upto_region 19 with (fail)
         clear q0 q1 q2 q3 f0 f1 f2 f3 y4 i0 i1 i2 i3
         have FN:=Lib.hid (show ∃ ac,FBs w w5.heap.size ((b5, 31,V6.cells L6)::[(b0, 31,C),(b0+1, 31,led0),(b7, 61,#[.int .i64 r,.int .i64 k])]) { V6 with ac:=ac } { L6 with accts:=grown L.accts (v+1) } ((((W10.setCell ⟨g2,v*4,none⟩ (.int .i64 q.parent)).setCell ⟨g2,v*4+1,none⟩ (.slice x9 n9 k9)).setCell ⟨g2,v*4+2,none⟩ (.bool q.flag)).setCell ⟨g2,v*4+3,none⟩ (.int .i64 q.last)) from by
          have hget:(ac.set v ({ q with cash:=q.cash++[0] },Value.slice x9 n9 k9))[v]?=some ({ q with cash:=q.cash++[0] },Value.slice x9 n9 k9):=List.getElem?_set_self (List.getElem?_eq_some_iff.1 HP.out).1
          obtain⟨g3,_,e1,_,_,hc,_⟩:=G10.out.own.accts.slot acccells_len (by decide) hget
          obtain rfl:g3=g2:=by have h2:=HVV.out;have e1:V6.accts=_:=e1;rw[show V6.accts=_ from h2] at e1;injection e1 with h1 _ _;injection h1 with h1;injection h1 with h1;exact h1.symm
          rw[setCell_id QQ.out,setCell_id (hc 2 _ rfl),setCell_id (hc 3 _ rfl)]
          refine⟨ac.set v ({ q with cash:=q.cash++[0] },Value.slice x9 n9 k9),?_⟩
          rw[grown_next HA0.out,← HP1.out]
          exact G10.out)
         obtain⟨w11,hw11⟩:∃ s,s=(((W10.setCell ⟨g2,v*4,none⟩ (.int .i64 q.parent)).setCell ⟨g2,v*4+1,none⟩ (.slice x9 n9 k9)).setCell ⟨g2,v*4+2,none⟩ (.bool q.flag)).setCell ⟨g2,v*4+3,none⟩ (.int .i64 q.last):=⟨_,rfl⟩
         rw[← hw11] at FN ⊢
         clear hw11
         go_wp2_with fail
         go_roundw
         case rel=>exact⟨v+1,by have:=LT.out;omega,by go_num,_,rfl,FN⟩
         case measure=>have:=LT.out;simp[intOf];omega
        ·have hlt2':¬ (v:Int)<(n4:Int):=by omega
         obtain rfl:n4=v:=by omega
         have F7:=Lib.hid (show FBs w w5.heap.size ((b5, 31,({ V6 with ac:=ac }:LedV).cells { L6 with accts:=grown L.accts n4 })::[(b0, 31,C),(b0+1, 31,led0),(b7, 61,#[.int .i64 r,.int .i64 k])]) { V6 with ac:=ac } { L6 with accts:=grown L.accts n4 } W from FV.out)
         have z4:W.cell? ⟨b5,4,none⟩=some (.slice a4 n4 c4):=F7.out.at_.cell 0 rfl 4 (by rw[← EV.out];rfl)
         obtain⟨V7,hV7⟩:∃ U:LedV,U={ V6 with ac:=ac }:=⟨_,rfl⟩
         obtain⟨L7,hL7⟩:∃ l:Led,l={ L6 with accts:=grown L.accts n4 }:=⟨_,rfl⟩
         rw[← hV7,← hL7] at F7
         have EL7:=Lib.hid hL7
         clear hV7 hL7 FV
         have LE:=Lib.hid (ledc F7.out.own.led)
         have EE:=Lib.hid (show admA L (rateS L (m:Int) r k)=endA (L7:Led) ((m:Int)) from by
          have e:rateS L (m:Int) r k=(⟨(L7:Led),(m:Int),0⟩:Adm):=by unfold rateS;rw[if_pos HOK.out,if_neg (by have:=N1.out;omega),if_pos (by have:=H4.out;omega),EL7.out,EL.out,N4.out,grown_all]
          rw[admA_end HG.out (by rw[e]),e])
         have GE:=Lib.hid (show (L7:Led).Good from by
          have e:rateS L (m:Int) r k=(⟨(L7:Led),(m:Int),0⟩:Adm):=by unfold rateS;rw[if_pos HOK.out,if_neg (by have:=N1.out;omega),if_pos (by have:=H4.out;omega),EL7.out,EL.out,N4.out,grown_all]
          have:=rateS_good HG.out (by rw[e]:(rateS L (m:Int) r k).err=0)
          rw[e] at this
          exact this)
         have EN:=Lib.hid (rend_any W _ _ F7.out.own.led GE.out ((m:Int)))
         unfold LedV.val at EN
         go_wp2_with (refine led_load (F7.out.at_.get 0 rfl) LE.out rfl rfl rfl ?_)
         refine EN.out.mono ?_
         obtain⟨a,ha⟩:∃ a,a=endA (L7:Led) ((m:Int)):=⟨_,rfl⟩
         rw[← ha] at EE ⊢
         rintro e w7 ⟨U,rfl,own,hb⟩
         have OW:=Lib.hid own
         have BB:=Lib.hid hb
         have X7:=Lib.hid (F7.out.at_.go hb)
         have LU:=Lib.hid (ledc own.led)
         unfold LedV.val
         clear own hb ha EN
         go_simp
         go_wp2_with (refine led_store (X7.out.get 2 rfl) ledc0 LU.out rfl rfl rfl rfl ?_)
         exact bodyPost_ret (results_led1 rfl _ _ (setRow_heap _ _ _ _ _ _ (X7.out.get 2 rfl)) LU.out rfl) rfl (by simpa using end_ret F7.out.at_ BB.out OW.out (k:=2) rfl EE.out.symm rfl rfl rfl)
    ·have HOK:=Lib.hid hok
     have hd:decide (Cur.Ok ⟨r,k⟩ m)=false:=decide_eq_false hok
     clear hok
     rw[hd]
     go_wp2_with fail
     refine (rno_any 30 _).mono ?_
     rintro e w9 ⟨rfl,hb⟩
     have XN:=Lib.hid (XX.out.go hb)
     clear hb
     go_wp2_with (refine led_store (cs:=led0) (XN.out.get 1 rfl) ledc0 ledc0 rfl rfl rfl rfl ?_)
     refine bodyPost_ret (results_led1 (cs:=led0) rfl _ _ (setRow_heap _ _ _ _ _ _ (XN.out.get 1 rfl)) ledc0 rfl) rfl (no_ret XN.out (k:=1) rfl (by rw[admA_err HG.out (by unfold rateS;rw[if_neg (fun h=>HOK.out (by have:=h.2.2;rwa [Int.toNat_natCast] at this))];first|decide|exact HZ.out)];unfold rateS;rw[if_neg (fun h=>HOK.out (by have:=h.2.2;rwa [Int.toNat_natCast] at this))];rfl))
   ·have h1':(n1:Int)<(m:Int):=by omega
    go_wp2_with fail
    refine (rno_any 30 _).mono ?_
    rintro e w9 ⟨rfl,hb⟩
    have XN:=Lib.hid (XX.out.go hb)
    clear hb
    go_wp2_with (refine led_store (cs:=led0) (XN.out.get 1 rfl) ledc0 ledc0 rfl rfl rfl rfl ?_)
    refine bodyPost_ret (results_led1 (cs:=led0) rfl _ _ (setRow_heap _ _ _ _ _ _ (XN.out.get 1 rfl)) ledc0 rfl) rfl (no_ret XN.out (k:=1) rfl (by rw[admA_err HG.out (by unfold rateS;rw[if_neg (fun h=>by have:=h.2.1;have:=N1.out;omega)];first|decide|exact HZ.out)];unfold rateS;rw[if_neg (fun h=>by have:=h.2.1;have:=N1.out;omega)];rfl))
 ·refine (GD.out W0 X0.out.low false (decide_eq_false hg)).mono ?_
  rintro e w1 ⟨rfl,hb⟩
  have XX:=Lib.hid (X0.out.go hb)
  have HG:=Lib.hid hg
  clear hb X0 hg GD
  go_wp2_with fail
  refine (rno_any 43 _).mono ?_
  rintro e w9 ⟨rfl,hb⟩
  have XN:=Lib.hid (XX.out.go hb)
  clear hb
  go_wp2_with (refine led_store (cs:=led0) (XN.out.get 1 rfl) ledc0 ledc0 rfl rfl rfl rfl ?_)
  refine bodyPost_ret (results_led1 (cs:=led0) rfl _ _ (setRow_heap _ _ _ _ _ _ (XN.out.get 1 rfl)) ledc0 rfl) rfl (no_ret XN.out (k:=1) rfl (admA_bad HG.out _))
end Go.Proofs.YtnkpdfjnjmmleaaGreatDoor

/- The document's admin, walked (printed by tools/gen_admr.py). -/
import Derived.Test.YtnkpdfjnjmmleaaGreatDoorAdmD
import Derived.Test.YtnkpdfjnjmmleaaGreatDoorGe
namespace Go.Proofs.YtnkpdfjnjmmleaaGreatDoor
open Go.RowKit Go.Bw Go.Maps Go.Shelf Go.Bw.Fall
set_option linter.unusedVariables false
set_option linter.unusedSimpArgs false
set_option maxRecDepth 100000 in
set_option maxHeartbeats 4000000 in
theorem dunder_any (w:World) (V:LedV) (L:Led) (h:LedAt w V L) (hL:L.accts.length≤1024) (u:Und) (hs:u.name.size≤maxLen) :
 Calls Tryz.prog 14 #[V.val L,.agg #[.string u.name,.int .i64 u.cur,.int .i64 u.price,.int .i64 u.vol]] w (AdmRet w (admA L (underS L u))):=by
 classical
 have LC:=Lib.hid (ledc h)
 have HH:=Lib.hid h
 have GD:=Lib.hid (show ∀ W,Below w.heap.size w W→∀ B:Bool,decide L.Good=B→Calls Tryz.prog 43 #[V.val L] W fun e w'=>e=.returned (.bool B)∧Below W.heap.size W w' from fun W hb B hB=>rgood_to (h.below hb) hL hB)
 have CP:=Lib.hid (fun W (hb:Below w.heap.size w W) (hg:L.Good)=>rcopy_any W V L (h.below hb) (good_bulk hg).1 (fun a ha=>by have:=(good_bulk hg).2.1 a ha;omega))
 unfold LedV.val at GD CP ⊢
 obtain⟨C,hC⟩:∃ C,C=V.cells L:=⟨_,rfl⟩
 have EC:=Lib.hid hC
 rw[← hC] at GD CP LC ⊢
 obtain⟨W0,hW0⟩:∃ s,s=((w.alloc (.cells C 31)).alloc (.cells #[.string u.name,.int .i64 u.cur,.int .i64 u.price,.int .i64 u.vol] 33)).alloc (.cells #[.int .i64 0,.slice none 0 0,.slice none 0 0,.slice none 0 0,.slice none 0 0,.slice none 0 0,.slice none 0 0,.slice none 0 0,.slice none 0 0] 31):=⟨_,rfl⟩
 obtain⟨b0,hb0⟩:∃ n,n=w.heap.size:=⟨_,rfl⟩
 have X0:=Lib.hid (show At w W0 [(b0, 31,C),(b0+1, 33,#[.string u.name,.int .i64 u.cur,.int .i64 u.price,.int .i64 u.vol]),(b0+1+1, 31,led0)] from by
  have a:=((((At.start w).alloc 31 C).alloc 33 #[.string u.name,.int .i64 u.cur,.int .i64 u.price,.int .i64 u.vol]).alloc 31 #[.int .i64 0,.slice none 0 0,.slice none 0 0,.slice none 0 0,.slice none 0 0,.slice none 0 0,.slice none 0 0,.slice none 0 0,.slice none 0 0])
  have e:∀ (w:World) (o:Obj),(w.alloc o).heap.size=w.heap.size+1:=fun w o=>by simp
  simp only[e] at a
  rw[← hW0,← hb0] at a
  exact a)
 clear h hL hC
 go_enter Tryz.func14,Tryz.ntmps14
 go_upto_region 1 with (fail)
 rw[← hW0,← hb0]
 clear hW0 hb0
 go_wp2_with (refine led_load (X0.out.get 0 rfl) LC.out rfl rfl rfl ?_)
 by_cases hg:L.Good
 ·refine (GD.out W0 X0.out.low true (decide_eq_true hg)).mono ?_
  rintro e w1 ⟨rfl,hb⟩
  have XX:=Lib.hid (X0.out.go hb)
  have HG:=Lib.hid hg
  clear hb X0 hg GD
  obtain⟨a2,c2,e2⟩:=HH.out.unders.form
  obtain⟨a1,c1,e1⟩:=HH.out.curs.form
  have E2:=Lib.hid e2
  have E1:=Lib.hid e1
  obtain⟨n2,hn2⟩:∃ n,n=L.unders.length:=⟨_,rfl⟩
  obtain⟨n1,hn1⟩:∃ n,n=L.curs.length:=⟨_,rfl⟩
  have N2:=Lib.hid hn2
  have N1:=Lib.hid hn1
  have U6:=Lib.hid (show L.unders.length≤6∧L.curs.length≤4 from ⟨HG.out.things.u1,HG.out.things.c1⟩)
  have HS:=Lib.hid hs
  have y2:w1.cell? ⟨b0,2,none⟩=some (.slice a2 n2 c2):=XX.out.cell 0 rfl 2 (by rw[EC.out,hn2,← e2];rfl)
  clear e1 e2 hn2 hn1 hs
  by_cases h6:(6:Int)≤(n2:Int)
  ·go_wp2_with fail
   refine (rno_any 40 _).mono ?_
   rintro e w9 ⟨rfl,hb⟩
   have XN:=Lib.hid (XX.out.go hb)
   clear hb
   go_wp2_with (refine led_store (cs:=led0) (XN.out.get 2 rfl) ledc0 ledc0 rfl rfl rfl rfl ?_)
   refine bodyPost_ret (results_led1 (cs:=led0) rfl _ _ (setRow_heap _ _ _ _ _ _ (XN.out.get 2 rfl)) ledc0 rfl) rfl (no_ret XN.out (k:=2) rfl (by rw[admA_err HG.out (by unfold underS;rw[if_neg (by have:=N2.out;omega)];decide)];unfold underS;rw[if_neg (by have:=N2.out;omega)];rfl))
  ·have h6':(n2:Int)<6:=by omega
   have HLT:=Lib.hid h6'
   clear h6
   go_wp2_with fail
   go_loopw [28] (fun i wr=>∃ k:Nat,k≤n2∧i=.int .i64 k∧∃ W,W=wr∧Hid (At w W [(b0, 31,C),(b0+1, 33,#[.string u.name,.int .i64 u.cur,.int .i64 u.price,.int .i64 u.vol]),(b0+1+1, 31,led0)]∧∀ (j:Nat) x,j<k→L.unders[j]?=some x→x.name≠u.name)) (fun i _=>n2 - (intOf i).toNat)
   case atStart=>exact⟨0,Nat.zero_le _,rfl,_,rfl,Lib.hid ⟨XX.out,fun j x hj=>by omega⟩⟩
   case round =>
    clear XX y2
    obtain⟨k,hk,rfl,W,rfl,IV⟩:=hrel
    by_cases hlt:k<n2
    ·have hlt':(k:Int)<(n2:Int):=by omega
     have LT:=Lib.hid hlt
     obtain⟨x,hx⟩:∃ x,L.unders[k]?=some x:=⟨_,List.getElem?_eq_getElem (by rw[← N2.out];exact hlt)⟩
     have HX:=Lib.hid hx
     have hR:=(HH.out.below IV.out.1.low).unders
     rw[E2.out] at hR
     obtain⟨b',o',e',_,hc⟩:=hR.at_ hx
     have q0:W.cell? ⟨b',o'+k*4,none⟩=some (.string x.name):=by have:=hc 0 _ rfl;simpa using this
     have q1:=hc 1 _ rfl
     have q2:=hc 2 _ rfl
     have q3:=hc 3 _ rfl
     have x0:(W.alloc (.cells #[.string x.name,.int .i64 x.cur,.int .i64 x.price,.int .i64 x.vol] 33)).cell? ⟨b0+1,0,none⟩=some (.string u.name):=(IV.out.1.go ((Below.refl _ _).alloc (Nat.le_refl _) _)).cell 1 rfl 0 rfl
     subst e'
     by_cases he:x.name=u.name
     ·have hq:(x.name.toList==u.name.toList)=true:=(toList_beq _ _).2 he
      have WHY:=Lib.hid (show admA L (underS L u)=(L0,0,42) from by
       have e:underS L u=.no 42:=by unfold underS;rw[if_pos (by have:=N2.out;have:=HLT.out;omega),if_neg (fun h=>h.2 x (List.mem_of_getElem? HX.out) he)]
       rw[e,admA_err HG.out (by decide)];rfl)
      have XX:=Lib.hid (show ∀ c,At w (W.alloc (.cells c 33)) [(b0, 31,C),(b0+1, 33,#[.string u.name,.int .i64 u.cur,.int .i64 u.price,.int .i64 u.vol]),(b0+1+1, 31,led0)] from fun c=>(IV.out.1.go ((Below.refl _ _).alloc (Nat.le_refl _) _)))
      clear hc hR hx he
      go_wp2_with fail
      refine (rno_any 42 _).mono ?_
      rintro e w9 ⟨rfl,hb⟩
      have XN:=Lib.hid ((XX.out _).go hb)
      clear hb q0 q1 q2 q3 x0
      go_wp2_with (refine led_store (cs:=led0) (XN.out.get 2 rfl) ledc0 ledc0 rfl rfl rfl rfl ?_)
      refine bodyPost_ret (results_led1 (cs:=led0) rfl _ _ (setRow_heap _ _ _ _ _ _ (XN.out.get 2 rfl)) ledc0 rfl) rfl (by first|exact no_ret XN.out (k:=2) rfl WHY.out|simpa using no_ret XN.out (k:=2) rfl WHY.out)
     ·have hq:(x.name.toList==u.name.toList)=false:=Bool.eq_false_iff.2 fun h=>he ((toList_beq _ _).1 h)
      have HE:=Lib.hid he
      clear hc hR hx he
      go_wp2_with fail
      go_roundw
      case rel=>exact⟨k+1,by have:=LT.out;omega,by go_num,_,rfl,Lib.hid ⟨IV.out.1.go ((Below.refl _ _).alloc (Nat.le_refl _) _),fun j y hj hy=>by
       rcases Nat.lt_or_ge j k with h|h
       ·exact IV.out.2 j y h hy
       ·obtain rfl:j=k:=by omega
        rw[HX.out] at hy;cases hy;exact HE.out⟩⟩
      case measure=>have:=LT.out;simp[intOf];omega
    ·have hlt':¬ (k:Int)<(n2:Int):=by omega
     obtain rfl:n2=k:=by omega
     have NE:=Lib.hid (show ∀ x∈L.unders,x.name≠u.name from fun x hx=>by
      obtain⟨j,hj,e⟩:=List.mem_iff_getElem.1 hx
      exact IV.out.2 j x (by rw[N2.out];exact hj) (by rw[List.getElem?_eq_getElem hj,e]))
     have XX:=Lib.hid IV.out.1
     clear IV hk hlt
     have NM:=Lib.hid (fun W=>rname_any u.name HS.out W)
     obtain⟨NB,hNB⟩:∃ B,B=nameB u.name:=⟨_,rfl⟩
     rw[← hNB] at NM
     have EB:=Lib.hid hNB
     clear hNB
     have x0:W.cell? ⟨b0+1,0,none⟩=some (.string u.name):=XX.out.cell 1 rfl 0 rfl
     go_wp2_with fail
     refine (NM.out _).mono ?_
     rintro e w3 ⟨rfl,rfl⟩
     cases hNB:NB with
     | false =>
       subst hNB
       go_wp2_with fail
       refine (rno_any 42 _).mono ?_
       rintro e w9 ⟨rfl,hb⟩
       have XN:=Lib.hid (XX.out.go hb)
       clear hb
       go_wp2_with (refine led_store (cs:=led0) (XN.out.get 2 rfl) ledc0 ledc0 rfl rfl rfl rfl ?_)
       refine bodyPost_ret (results_led1 (cs:=led0) rfl _ _ (setRow_heap _ _ _ _ _ _ (XN.out.get 2 rfl)) ledc0 rfl) rfl (no_ret XN.out (k:=2) rfl (by rw[admA_err HG.out (by unfold underS;rw[if_pos (by have:=N2.out;have:=HLT.out;omega),if_neg (fun h=>by rw[EB.out.symm] at h;exact absurd h.1 (by decide))];decide)];unfold underS;rw[if_pos (by have:=N2.out;have:=HLT.out;omega),if_neg (fun h=>by rw[EB.out.symm] at h;exact absurd h.1 (by decide))];rfl))
     | true =>
       subst hNB
       have x1:W.cell? ⟨b0+1,1,none⟩=some (.int .i64 u.cur):=XX.out.cell 1 rfl 1 rfl
       have x2:W.cell? ⟨b0+1,2,none⟩=some (.int .i64 u.price):=XX.out.cell 1 rfl 2 rfl
       have x3:W.cell? ⟨b0+1,3,none⟩=some (.int .i64 u.vol):=XX.out.cell 1 rfl 3 rfl
       have y1:W.cell? ⟨b0,1,none⟩=some (.slice a1 n1 c1):=XX.out.cell 0 rfl 1 (by rw[EC.out,N1.out,← E1.out];rfl)
       have UN:=Lib.hid (fun W=>rund_any u n1 (by have:=U6.out;have:=N1.out;omega) HS.out W)
       go_wp2_with fail
       refine (UN.out _).mono ?_
       rintro e w3 ⟨rfl,hb⟩
       have XX:=Lib.hid (XX.out.go hb)
       clear hb x0 x1 x2 x3 y1 UN NM
       by_cases hok:u.Ok n1
       ·have HOK:=Lib.hid (show u.Ok L.curs.length from by rw[← N1.out];exact hok)
        have hd:decide (u.Ok n1)=true:=decide_eq_true hok
        clear hok
        rw[hd]
        go_wp2_with (refine led_load (XX.out.get 0 rfl) LC.out rfl rfl rfl ?_)
        refine (CP.out w3 XX.out.low HG.out).mono ?_
        rintro e wq ⟨V2,rfl,own,hb⟩
        have FF:=Lib.hid (fbs_copy XX.out own hb)
        have R0:=Lib.hid (show w3.heap.size≤wq.heap.size from hb.size)
        have L2:=Lib.hid (ledc own.led)
        unfold LedV.val
        clear own hb CP
        go_upto_region 16 with (refine led_store (heap_alloc_last _ _) ledc0 L2.out rfl rfl rfl rfl ?_;rw[World.setRow_alloc_new])
        obtain⟨W5,hW5⟩:∃ s,s=wq.alloc (.cells (V2.cells L) 31):=⟨_,rfl⟩
        obtain⟨b5,hb5⟩:∃ n,n=wq.heap.size:=⟨_,rfl⟩
        rw[← hW5,← hb5] at FF
        rw[← hW5,← hb5]
        clear hW5 hb5
        have y2:W5.cell? ⟨b5,2,none⟩=some V2.unders:=FF.out.at_.cell 0 rfl 2 rfl
        obtain⟨a2',c2',e2'⟩:=FF.out.own.led.unders.form
        rw[e2',← N2.out] at y2
        have E2':=Lib.hid e2'
        have x0:W5.cell? ⟨b0+1,0,none⟩=some (.string u.name):=FF.out.at_.cell 2 rfl 0 rfl
        have x1:W5.cell? ⟨b0+1,1,none⟩=some (.int .i64 u.cur):=FF.out.at_.cell 2 rfl 1 rfl
        have x2:W5.cell? ⟨b0+1,2,none⟩=some (.int .i64 u.price):=FF.out.at_.cell 2 rfl 2 rfl
        have x3:W5.cell? ⟨b0+1,3,none⟩=some (.int .i64 u.vol):=FF.out.at_.cell 2 rfl 3 rfl
        obtain⟨v',w6,hrun,ho,hm,hbk⟩:=app1_under W5 w3.heap.size V2.unders L.unders FF.out.own.unders FF.out.rb u #[.string u.name,.int .i64 u.cur,.int .i64 u.price,.int .i64 u.vol] rfl (by have:=U6.out;omega)
        obtain⟨a',c',hv',_⟩:=ho.form
        obtain⟨m,hm'⟩:∃ m,m=(L.unders++[u]).length:=⟨_,rfl⟩
        rw[← hm'] at hv'
        clear hm'
        subst hv'
        have F6:=Lib.hid (FF.out.newrow (FF.out.own.new_unders hm ho hbk (fun y hy=>by
         rcases List.mem_append.1 hy with hy|hy
         ·exact FF.out.own.names y hy
         ·obtain rfl:=List.mem_singleton.1 hy;exact HS.out)) hm (q:=1) rfl rfl hbk)
        have RUN:=Lib.hid hrun
        clear hrun ho hm hbk e2'
        rw[E2'.out,← N2.out] at RUN
        have z2:=F6.out.at_.free 0 rfl 2
        have k2:w6.cell? ⟨b5,2,none⟩=some (.slice a2' n2 c2'):=F6.out.at_.cell 0 rfl 2 (by show some V2.unders=_;rw[E2'.out,N2.out])
        go_upto_region 17 with (at_builtin;refine wpList_append_run rfl (.tmp 63) (.tmp 65) 23 rfl rfl rfl RUN.out ?_)
        clear x0 x1 x2 x3 y2
        have F7:=Lib.hid (F6.out.cell 0 rfl 2 (.slice a' m c'))
        obtain⟨W7,hW7⟩:∃ s,s=w6.setCell ⟨b5,2,none⟩ (.slice a' m c'):=⟨_,rfl⟩
        have F7:=Lib.hid (show FBs w w3.heap.size ((b5, 31,({ V2 with unders:=.slice a' m c' }:LedV).cells { L with unders:=L.unders++[u] })::[(b0, 31,C),(b0+1, 33,#[.string u.name,.int .i64 u.cur,.int .i64 u.price,.int .i64 u.vol]),(b0+1+1, 31,led0)]) { V2 with unders:=.slice a' m c' } { L with unders:=L.unders++[u] } W7 from by rw[hW7];exact F7.out)
        rw[← hW7]
        clear hW7 z2 k2 RUN
        have y2:W7.cell? ⟨b0,2,none⟩=some (.slice a2 n2 c2):=F7.out.at_.cell 1 rfl 2 (by rw[EC.out,N2.out,← E2.out];rfl)
        have LE:=Lib.hid (ledc F7.out.own.led)
        have EE:=Lib.hid (show admA L (underS L u)=endA ({ L with unders:=L.unders++[u] }:Led) ((n2:Int)) from by
         have e:underS L u=(⟨({ L with unders:=L.unders++[u] }:Led),(n2:Int),0⟩:Adm):=by unfold underS;rw[if_pos (by have:=N2.out;have:=HLT.out;omega),if_pos ⟨EB.out.symm,NE.out⟩,if_pos HOK.out,← N2.out]
         rw[admA_end HG.out (by rw[e]),e])
        have GE:=Lib.hid (show ({ L with unders:=L.unders++[u] }:Led).Good from by
         have e:underS L u=(⟨({ L with unders:=L.unders++[u] }:Led),(n2:Int),0⟩:Adm):=by unfold underS;rw[if_pos (by have:=N2.out;have:=HLT.out;omega),if_pos ⟨EB.out.symm,NE.out⟩,if_pos HOK.out,← N2.out]
         have:=underS_good HG.out (by rw[e]:(underS L u).err=0)
         rw[e] at this
         exact this)
        have EN:=Lib.hid (rend_any W7 _ _ F7.out.own.led GE.out ((n2:Int)))
        unfold LedV.val at EN
        go_wp2_with (refine led_load (F7.out.at_.get 0 rfl) LE.out rfl rfl rfl ?_)
        refine EN.out.mono ?_
        obtain⟨a,ha⟩:∃ a,a=endA ({ L with unders:=L.unders++[u] }:Led) ((n2:Int)):=⟨_,rfl⟩
        rw[← ha] at EE ⊢
        rintro e w7 ⟨U,rfl,own,hb⟩
        have OW:=Lib.hid own
        have BB:=Lib.hid hb
        have X7:=Lib.hid (F7.out.at_.go hb)
        have LU:=Lib.hid (ledc own.led)
        unfold LedV.val
        clear own hb ha EN
        go_simp
        go_wp2_with (refine led_store (X7.out.get 3 rfl) ledc0 LU.out rfl rfl rfl rfl ?_)
        exact bodyPost_ret (results_led1 rfl _ _ (setRow_heap _ _ _ _ _ _ (X7.out.get 3 rfl)) LU.out rfl) rfl (by simpa using end_ret F7.out.at_ BB.out OW.out (k:=3) rfl EE.out.symm rfl rfl rfl)
       ·have HOK:=Lib.hid (show ¬ u.Ok L.curs.length from by rw[← N1.out];exact hok)
        have hd:decide (u.Ok n1)=false:=decide_eq_false hok
        clear hok
        rw[hd]
        go_wp2_with fail
        refine (rno_any 31 _).mono ?_
        rintro e w9 ⟨rfl,hb⟩
        have XN:=Lib.hid (XX.out.go hb)
        clear hb
        go_wp2_with (refine led_store (cs:=led0) (XN.out.get 2 rfl) ledc0 ledc0 rfl rfl rfl rfl ?_)
        refine bodyPost_ret (results_led1 (cs:=led0) rfl _ _ (setRow_heap _ _ _ _ _ _ (XN.out.get 2 rfl)) ledc0 rfl) rfl (no_ret XN.out (k:=2) rfl (by rw[admA_err HG.out (by unfold underS;rw[if_pos (by have:=N2.out;have:=HLT.out;omega),if_pos ⟨EB.out.symm,NE.out⟩,if_neg HOK.out];decide)];unfold underS;rw[if_pos (by have:=N2.out;have:=HLT.out;omega),if_pos ⟨EB.out.symm,NE.out⟩,if_neg HOK.out];rfl))
 ·refine (GD.out W0 X0.out.low false (decide_eq_false hg)).mono ?_
  rintro e w1 ⟨rfl,hb⟩
  have XX:=Lib.hid (X0.out.go hb)
  have HG:=Lib.hid hg
  clear hb X0 hg GD
  go_wp2_with fail
  refine (rno_any 43 _).mono ?_
  rintro e w9 ⟨rfl,hb⟩
  have XN:=Lib.hid (XX.out.go hb)
  clear hb
  go_wp2_with (refine led_store (cs:=led0) (XN.out.get 2 rfl) ledc0 ledc0 rfl rfl rfl rfl ?_)
  refine bodyPost_ret (results_led1 (cs:=led0) rfl _ _ (setRow_heap _ _ _ _ _ _ (XN.out.get 2 rfl)) ledc0 rfl) rfl (no_ret XN.out (k:=2) rfl (admA_bad HG.out _))
end Go.Proofs.YtnkpdfjnjmmleaaGreatDoor

/- The document's admin, walked (printed by tools/gen_admr.py). -/
import Derived.Test.YtnkpdfjnjmmleaaGreatDoorAdmD
import Derived.Test.YtnkpdfjnjmmleaaGreatDoorAdmM
import Derived.Test.YtnkpdfjnjmmleaaGreatDoorGc
namespace Go.Proofs.YtnkpdfjnjmmleaaGreatDoor
open Go.RowKit Go.Bw Go.Maps Go.Shelf Go.Bw.Fall
set_option linter.unusedVariables false
set_option linter.unusedSimpArgs false
set_option maxRecDepth 100000 in
set_option maxHeartbeats 4000000 in
theorem dcash_any (w:World) (V:LedV) (L:Led) (h:LedAt w V L) (hL:L.accts.length≤1024) (a c x:Int) :
 Calls Tryz.prog 19 #[V.val L,.int .i64 a,.int .i64 c,.int .i64 x] w (AdmRet w (admA L (cashS L a c x))):=by
 classical
 have LC:=Lib.hid (ledc h)
 have HH:=Lib.hid h
 have GD:=Lib.hid (show ∀ W,Below w.heap.size w W→∀ B:Bool,decide L.Good=B→Calls Tryz.prog 43 #[V.val L] W fun e w'=>e=.returned (.bool B)∧Below W.heap.size W w' from fun W hb B hB=>rgood_to (h.below hb) hL hB)
 have CP:=Lib.hid (fun W (hb:Below w.heap.size w W) (hg:L.Good)=>rcopy_any W V L (h.below hb) (good_bulk hg).1 (fun a ha=>by have:=(good_bulk hg).2.1 a ha;omega))
 unfold LedV.val at GD CP ⊢
 obtain⟨C,hC⟩:∃ C,C=V.cells L:=⟨_,rfl⟩
 have EC:=Lib.hid hC
 rw[← hC] at GD CP LC ⊢
 obtain⟨W0,hW0⟩:∃ s,s=(w.alloc (.cells C 31)).alloc (.cells #[.int .i64 0,.slice none 0 0,.slice none 0 0,.slice none 0 0,.slice none 0 0,.slice none 0 0,.slice none 0 0,.slice none 0 0,.slice none 0 0] 31):=⟨_,rfl⟩
 obtain⟨b0,hb0⟩:∃ n,n=w.heap.size:=⟨_,rfl⟩
 have X0:=Lib.hid (show At w W0 [(b0, 31,C),(b0+1, 31,led0)] from by
  have a:=(((At.start w).alloc 31 C).alloc 31 #[.int .i64 0,.slice none 0 0,.slice none 0 0,.slice none 0 0,.slice none 0 0,.slice none 0 0,.slice none 0 0,.slice none 0 0,.slice none 0 0])
  have e:∀ (w:World) (o:Obj),(w.alloc o).heap.size=w.heap.size+1:=fun w o=>by simp
  simp only[e] at a
  rw[← hW0,← hb0] at a
  exact a)
 clear h hL hC
 go_enter Tryz.func19,Tryz.ntmps19
 go_upto_region 1 with (fail)
 rw[← hW0,← hb0]
 clear hW0 hb0
 go_wp2_with (refine led_load (X0.out.get 0 rfl) LC.out rfl rfl rfl ?_)
 by_cases hg:L.Good
 ·refine (GD.out W0 X0.out.low true (decide_eq_true hg)).mono ?_
  rintro e w1 ⟨rfl,hb⟩
  have XX:=Lib.hid (X0.out.go hb)
  have HG:=Lib.hid hg
  clear hb X0 hg GD
  obtain⟨a4,c4,e4⟩:=cells4 HH.out
  obtain⟨a1,c1,e1⟩:=HH.out.curs.form
  have E1:=Lib.hid e1
  have E4:=Lib.hid e4
  obtain⟨n4,hn4⟩:∃ n,n=L.accts.length:=⟨_,rfl⟩
  obtain⟨n1,hn1⟩:∃ n,n=L.curs.length:=⟨_,rfl⟩
  have N4:=Lib.hid hn4
  have N1:=Lib.hid hn1
  have y4:w1.cell? ⟨b0,4,none⟩=some (.slice a4 n4 c4):=XX.out.cell 0 rfl 4 (by rw[EC.out,hn4];exact e4)
  have y1:w1.cell? ⟨b0,1,none⟩=some (.slice a1 n1 c1):=XX.out.cell 0 rfl 1 (by rw[EC.out,hn1,← e1];rfl)
  clear e1 e4 hn4 hn1
  by_cases h0:a<0
  ·have d0:decide (a<0)=true:=decide_eq_true h0
   go_wp2_with fail
   refine (rno_any 33 _).mono ?_
   rintro e w9 ⟨rfl,hb⟩
   have XN:=Lib.hid (XX.out.go hb)
   clear hb
   go_wp2_with (refine led_store (cs:=led0) (XN.out.get 1 rfl) ledc0 ledc0 rfl rfl rfl rfl ?_)
   refine bodyPost_ret (results_led1 (cs:=led0) rfl _ _ (setRow_heap _ _ _ _ _ _ (XN.out.get 1 rfl)) ledc0 rfl) rfl (no_ret XN.out (k:=1) rfl (by rw[admA_err HG.out (by unfold cashS;rw[if_neg (by omega)];first|decide|exact HZ.out)];unfold cashS;rw[if_neg (by omega)];rfl))
  ·obtain⟨k,rfl⟩:∃ k:Nat,a=k:=⟨a.toNat,by omega⟩
   by_cases h1:k<n4
   ·have hk:=Lib.hid (show k<L.accts.length from by rw[← N4.out];exact h1)
    have h1':¬ (n4:Int)≤(k:Int):=by omega
    by_cases h2:c<0
    ·go_wp2_with fail
     refine (rno_any 30 _).mono ?_
     rintro e w9 ⟨rfl,hb⟩
     have XN:=Lib.hid (XX.out.go hb)
     clear hb
     go_wp2_with (refine led_store (cs:=led0) (XN.out.get 1 rfl) ledc0 ledc0 rfl rfl rfl rfl ?_)
     refine bodyPost_ret (results_led1 (cs:=led0) rfl _ _ (setRow_heap _ _ _ _ _ _ (XN.out.get 1 rfl)) ledc0 rfl) rfl (no_ret XN.out (k:=1) rfl (by rw[admA_err HG.out (by unfold cashS;rw[if_pos (by have:=hk.out;omega),if_neg (by omega)];first|decide|exact HZ.out)];unfold cashS;rw[if_pos (by have:=hk.out;omega),if_neg (by omega)];rfl))
    ·obtain⟨m,rfl⟩:∃ m:Nat,c=m:=⟨c.toNat,by omega⟩
     by_cases h3:m<n1
     ·have hm:=Lib.hid (show m<L.curs.length from by rw[← N1.out];exact h3)
      have h3':¬ (n1:Int)≤(m:Int):=by omega
      obtain⟨p,hp⟩:∃ p,V.ac[k]?=some p:=⟨_,List.getElem?_eq_getElem (by have h1:=congrArg List.length HH.out.same;rw[List.length_map] at h1;have:=hk.out;omega)⟩
      have hpa:L.accts[k]?=some p.1:=by rw[HH.out.same,List.getElem?_map,hp];rfl
      obtain⟨y,hy⟩:∃ y,p.1.cash[m]?=some y:=⟨_,List.getElem?_eq_getElem (by rw[(HG.out.accounts.accts k p.1 hpa).1];exact hm.out)⟩
      have EA:=Lib.hid (show L.acc (k:Int)=p.1 from by unfold Led.acc;simp[hpa])
      have E0:=Lib.hid (show cashA L k m x=addA y x from by unfold cashA;rw[EA.out];simp[hy])
      have GV:=Lib.hid (fun W (hb:Below w.heap.size w W)=>rgive_any W V L (HH.out.below hb) HG.out k m p hp y hy x)
      unfold LedV.val at GV
      rw[← EC.out] at GV
      have FI:=Lib.hid (fun W=>rfits_any x W)
      obtain⟨FB,hFB⟩:∃ B,B=fitsA x:=⟨_,rfl⟩
      rw[← hFB] at FI
      have EF:=Lib.hid hFB
      clear hp hpa hy hFB
      go_wp2_with fail
      refine (FI.out _).mono ?_
      rintro e w' ⟨rfl,rfl⟩
      clear y1 y4 h0 h1 h1' h2 h3 h3'
      cases hFB:FB with
      | false =>
        subst hFB
        have E9:=Lib.hid (show cashA L k m x=(0,4) from by rw[E0.out];exact addA_over (Or.inr EF.out.symm))
        go_wp2_with fail
        refine (rno_any 4 _).mono ?_
        rintro e w9 ⟨rfl,hb⟩
        have XN:=Lib.hid (XX.out.go hb)
        clear hb
        go_wp2_with (refine led_store (cs:=led0) (XN.out.get 1 rfl) ledc0 ledc0 rfl rfl rfl rfl ?_)
        refine bodyPost_ret (results_led1 (cs:=led0) rfl _ _ (setRow_heap _ _ _ _ _ _ (XN.out.get 1 rfl)) ledc0 rfl) rfl (no_ret XN.out (k:=1) rfl (by rw[admA_err HG.out (by unfold cashS;rw[if_pos (by have:=hk.out;omega),if_pos (by have:=hm.out;omega),if_neg (by rw[E9.out];decide),E9.out];first|decide|exact HZ.out)];unfold cashS;rw[if_pos (by have:=hk.out;omega),if_pos (by have:=hm.out;omega),if_neg (by rw[E9.out];decide),E9.out];rfl))
      | true =>
        subst hFB
        obtain⟨s,er,hse⟩:∃ s er,addA y x=(s,er):=⟨_,_,rfl⟩
        rw[hse] at GV E0
        clear hse
        go_wp2_with (refine led_load (XX.out.get 0 rfl) LC.out rfl rfl rfl ?_)
        refine (GV.out w1 XX.out.low).mono ?_
        rintro e w2 ⟨hb,ho⟩
        have X2:=Lib.hid (XX.out.go hb)
        have BB:=Lib.hid hb
        clear hb
        rcases ho with ⟨hz,U,rfl,own⟩|⟨hz,C9,hC9,rfl⟩
        ·subst hz
         have L2:=Lib.hid (ledc own.led)
         unfold LedV.val
         go_simp
         go_upto_region 10 with (refine led_store (heap_alloc_last _ _) ledc0 L2.out rfl rfl rfl rfl ?_;rw[World.setRow_alloc_new])
         obtain⟨M,hM⟩:∃ M:Led,M={ L with accts:=L.accts.set k { p.1 with cash:=p.1.cash.set m s } }:=⟨_,rfl⟩
         have EM:=Lib.hid hM
         have FF:=Lib.hid (show FBs w w1.heap.size ((w2.heap.size, 31,U.cells M)::[(b0, 31,C),(b0+1, 31,led0)]) U M (w2.alloc (.cells (U.cells M) 31)) from by
          have ha:Below w2.heap.size w2 (w2.alloc (.cells (U.cells M) 31)):=(Below.refl _ _).alloc (Nat.le_refl _) _
          rw[← hM] at own
          refine⟨(X2.out.alloc _ _).perm List.perm_append_comm,own.below ha,fun x hx=>?_,Nat.le_trans BB.out.size ha.size,XX.out.low.size⟩
          rcases List.mem_cons.1 hx with rfl|hx
          ·exact own.notin (Or.inr (Nat.le_refl _))
          ·exact own.notin (Or.inl (XX.out.lt x hx)))
         obtain⟨W5,hW5⟩:∃ s,s=w2.alloc (.cells (U.cells M) 31):=⟨_,rfl⟩
         obtain⟨b5,hb5⟩:∃ n,n=w2.heap.size:=⟨_,rfl⟩
         rw[← hW5,← hb5] at FF
         rw[show U.cells { L with accts:=L.accts.set k { p.1 with cash:=p.1.cash.set m s } }=U.cells M from by rw[hM]] at L2 ⊢
         rw[← hW5,← hb5]
         clear hW5 hb5 own hM
         have LE:=Lib.hid (ledc FF.out.own.led)
         have EE:=Lib.hid (show admA L (cashS L k m x)=endA (M:Led) ((k:Int)) from by
          have e:cashS L k m x=(⟨(M:Led),(k:Int),0⟩:Adm):=by unfold cashS;rw[if_pos (by have:=hk.out;omega),if_pos (by have:=hm.out;omega),if_pos (by rw[E0.out]),E0.out,EA.out,Int.toNat_natCast,Int.toNat_natCast,EM.out]
          rw[admA_end HG.out (by rw[e]),e])
         have GE:=Lib.hid (show (M:Led).Good from by
          have e:cashS L k m x=(⟨(M:Led),(k:Int),0⟩:Adm):=by unfold cashS;rw[if_pos (by have:=hk.out;omega),if_pos (by have:=hm.out;omega),if_pos (by rw[E0.out]),E0.out,EA.out,Int.toNat_natCast,Int.toNat_natCast,EM.out]
          have:=cashS_good HG.out (by rw[e]:(cashS L k m x).err=0)
          rw[e] at this
          exact this)
         have EN:=Lib.hid (rend_any W5 _ _ FF.out.own.led GE.out ((k:Int)))
         unfold LedV.val at EN
         go_wp2_with (refine led_load (FF.out.at_.get 0 rfl) LE.out rfl rfl rfl ?_)
         refine EN.out.mono ?_
         obtain⟨a,ha⟩:∃ a,a=endA (M:Led) ((k:Int)):=⟨_,rfl⟩
         rw[← ha] at EE ⊢
         rintro e w7 ⟨U,rfl,own,hb⟩
         have OW:=Lib.hid own
         have BB:=Lib.hid hb
         have X7:=Lib.hid (FF.out.at_.go hb)
         have LU:=Lib.hid (ledc own.led)
         unfold LedV.val
         clear own hb ha EN
         go_simp
         go_wp2_with (refine led_store (X7.out.get 2 rfl) ledc0 LU.out rfl rfl rfl rfl ?_)
         exact bodyPost_ret (results_led1 rfl _ _ (setRow_heap _ _ _ _ _ _ (X7.out.get 2 rfl)) LU.out rfl) rfl (by simpa using end_ret FF.out.at_ BB.out OW.out (k:=2) rfl EE.out.symm rfl rfl rfl)
        ·have HZ:=Lib.hid hz
         have LC9:=Lib.hid hC9
         have hz':(er != 0)=true:=by rw[bne_iff_ne];exact hz
         clear hz hC9
         go_simp
         go_upto_region 10 with (refine led_store (heap_alloc_last _ _) ledc0 LC9.out rfl rfl rfl rfl ?_;rw[World.setRow_alloc_new])
         have XX:=Lib.hid (X2.out.alloc 31 C9)
         obtain⟨w3,hw3⟩:∃ s,s=w2.alloc (.cells C9 31):=⟨_,rfl⟩
         rw[← hw3] at XX
         rw[← hw3]
         clear hw3
         go_wp2_with fail
         refine (rno_any er _).mono ?_
         rintro e w9 ⟨rfl,hb⟩
         have XN:=Lib.hid (XX.out.go hb)
         clear hb
         go_wp2_with (refine led_store (cs:=led0) (XN.out.get 1 rfl) ledc0 ledc0 rfl rfl rfl rfl ?_)
         refine bodyPost_ret (results_led1 (cs:=led0) rfl _ _ (setRow_heap _ _ _ _ _ _ (XN.out.get 1 rfl)) ledc0 rfl) rfl (no_ret XN.out (k:=1) rfl (by rw[admA_err HG.out (by unfold cashS;rw[if_pos (by have:=hk.out;omega),if_pos (by have:=hm.out;omega),if_neg (by rw[E0.out];exact HZ.out),E0.out];exact HZ.out)];unfold cashS;rw[if_pos (by have:=hk.out;omega),if_pos (by have:=hm.out;omega),if_neg (by rw[E0.out];exact HZ.out),E0.out];rfl))
     ·have h3':(n1:Int)≤(m:Int):=by omega
      go_wp2_with fail
      refine (rno_any 30 _).mono ?_
      rintro e w9 ⟨rfl,hb⟩
      have XN:=Lib.hid (XX.out.go hb)
      clear hb
      go_wp2_with (refine led_store (cs:=led0) (XN.out.get 1 rfl) ledc0 ledc0 rfl rfl rfl rfl ?_)
      refine bodyPost_ret (results_led1 (cs:=led0) rfl _ _ (setRow_heap _ _ _ _ _ _ (XN.out.get 1 rfl)) ledc0 rfl) rfl (no_ret XN.out (k:=1) rfl (by rw[admA_err HG.out (by unfold cashS;rw[if_pos (by have:=hk.out;omega),if_neg (by have:=N1.out;omega)];first|decide|exact HZ.out)];unfold cashS;rw[if_pos (by have:=hk.out;omega),if_neg (by have:=N1.out;omega)];rfl))
   ·have h1':(n4:Int)≤(k:Int):=by omega
    go_wp2_with fail
    refine (rno_any 33 _).mono ?_
    rintro e w9 ⟨rfl,hb⟩
    have XN:=Lib.hid (XX.out.go hb)
    clear hb
    go_wp2_with (refine led_store (cs:=led0) (XN.out.get 1 rfl) ledc0 ledc0 rfl rfl rfl rfl ?_)
    refine bodyPost_ret (results_led1 (cs:=led0) rfl _ _ (setRow_heap _ _ _ _ _ _ (XN.out.get 1 rfl)) ledc0 rfl) rfl (no_ret XN.out (k:=1) rfl (by rw[admA_err HG.out (by unfold cashS;rw[if_neg (by have:=N4.out;omega)];first|decide|exact HZ.out)];unfold cashS;rw[if_neg (by have:=N4.out;omega)];rfl))
 ·refine (GD.out W0 X0.out.low false (decide_eq_false hg)).mono ?_
  rintro e w1 ⟨rfl,hb⟩
  have XX:=Lib.hid (X0.out.go hb)
  have HG:=Lib.hid hg
  clear hb X0 hg GD
  go_wp2_with fail
  refine (rno_any 43 _).mono ?_
  rintro e w9 ⟨rfl,hb⟩
  have XN:=Lib.hid (XX.out.go hb)
  clear hb
  go_wp2_with (refine led_store (cs:=led0) (XN.out.get 1 rfl) ledc0 ledc0 rfl rfl rfl rfl ?_)
  refine bodyPost_ret (results_led1 (cs:=led0) rfl _ _ (setRow_heap _ _ _ _ _ _ (XN.out.get 1 rfl)) ledc0 rfl) rfl (no_ret XN.out (k:=1) rfl (admA_bad HG.out _))
end Go.Proofs.YtnkpdfjnjmmleaaGreatDoor

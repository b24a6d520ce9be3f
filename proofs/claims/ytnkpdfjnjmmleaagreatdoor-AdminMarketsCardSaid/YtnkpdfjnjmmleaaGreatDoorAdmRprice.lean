/- The document's admin, walked (printed by tools/gen_admr.py). -/
import Derived.Test.YtnkpdfjnjmmleaaGreatDoorAdmD
import Derived.Test.YtnkpdfjnjmmleaaGreatDoorGe
namespace Go.Proofs.YtnkpdfjnjmmleaaGreatDoor
open Go.RowKit Go.Bw Go.Maps Go.Shelf Go.Bw.Fall
set_option linter.unusedVariables false
set_option linter.unusedSimpArgs false
set_option maxRecDepth 100000 in
set_option maxHeartbeats 4000000 in
theorem dprice_any (w:World) (V:LedV) (L:Led) (h:LedAt w V L) (hL:L.accts.length≤1024) (u p v:Int) :
 Calls Tryz.prog 23 #[V.val L,.int .i64 u,.int .i64 p,.int .i64 v] w (AdmRet w (admA L (priceS L u p v))):=by
 classical
 have LC:=Lib.hid (ledc h)
 have HH:=Lib.hid h
 have GD:=Lib.hid (show ∀ W,Below w.heap.size w W→∀ B:Bool,decide L.Good=B→Calls Tryz.prog 43 #[V.val L] W fun e w'=>e=.returned (.bool B)∧Below W.heap.size W w' from fun W hb B hB=>rgood_to (h.below hb) hL hB)
 have CP:=Lib.hid (fun W (hb:Below w.heap.size w W) (hg:L.Good)=>rcopy_any W V L (h.below hb) (good_bulk hg).1 (fun a ha=>by have:=(good_bulk hg).2.1 a ha;omega))
 unfold LedV.val at GD CP ⊢
 obtain⟨C,hC⟩:∃ C,C=V.cells L:=⟨_,rfl⟩
 have EC:=Lib.hid hC
 rw[← hC] at GD CP LC ⊢
 obtain⟨W0,hW0⟩:∃ s,s=(w.alloc (.cells C 31)).alloc (.cells #[.int .i64 0,.slice none 0 0,.slice none 0 0,.slice none 0 0,.slice none 0 0,.slice none 0 0,.slice none 0 0,.slice none 0 0,.slice none 0 0] 31):=⟨_,rfl⟩
 obtain⟨b0,hb0⟩:∃ n,n=w.heap.size:=⟨_,rfl⟩
 have X0:=Lib.hid (show At w W0 [(b0, 31,C),(b0+1, 31,led0)] from by
  have a:=(((At.start w).alloc 31 C).alloc 31 #[.int .i64 0,.slice none 0 0,.slice none 0 0,.slice none 0 0,.slice none 0 0,.slice none 0 0,.slice none 0 0,.slice none 0 0,.slice none 0 0])
  have e:∀ (w:World) (o:Obj),(w.alloc o).heap.size=w.heap.size+1:=fun w o=>by simp
  simp only[e] at a
  rw[← hW0,← hb0] at a
  exact a)
 clear h hL hC
 go_enter Tryz.func23,Tryz.ntmps23
 go_upto_region 1 with (fail)
 rw[← hW0,← hb0]
 clear hW0 hb0
 go_wp2_with (refine led_load (X0.out.get 0 rfl) LC.out rfl rfl rfl ?_)
 by_cases hg:L.Good
 ·refine (GD.out W0 X0.out.low true (decide_eq_true hg)).mono ?_
  rintro e w1 ⟨rfl,hb⟩
  have XX:=Lib.hid (X0.out.go hb)
  have HG:=Lib.hid hg
  clear hb X0 hg GD
  obtain⟨a2,c2,e2⟩:=HH.out.unders.form
  obtain⟨a1,c1,e1⟩:=HH.out.curs.form
  have E2:=Lib.hid e2
  have E1:=Lib.hid e1
  obtain⟨n2,hn2⟩:∃ n,n=L.unders.length:=⟨_,rfl⟩
  obtain⟨n1,hn1⟩:∃ n,n=L.curs.length:=⟨_,rfl⟩
  have N2:=Lib.hid hn2
  have N1:=Lib.hid hn1
  have U6:=Lib.hid (show L.unders.length≤6∧L.curs.length≤4 from ⟨HG.out.things.u1,HG.out.things.c1⟩)
  have y2:w1.cell? ⟨b0,2,none⟩=some (.slice a2 n2 c2):=XX.out.cell 0 rfl 2 (by rw[EC.out,hn2,← e2];rfl)
  clear e1 e2 hn2 hn1
  by_cases h0:u<0
  ·have d0:decide (u<0)=true:=decide_eq_true h0
   go_wp2_with fail
   refine (rno_any 31 _).mono ?_
   rintro e w9 ⟨rfl,hb⟩
   have XN:=Lib.hid (XX.out.go hb)
   clear hb
   go_wp2_with (refine led_store (cs:=led0) (XN.out.get 1 rfl) ledc0 ledc0 rfl rfl rfl rfl ?_)
   refine bodyPost_ret (results_led1 (cs:=led0) rfl _ _ (setRow_heap _ _ _ _ _ _ (XN.out.get 1 rfl)) ledc0 rfl) rfl (no_ret XN.out (k:=1) rfl (by rw[admA_err HG.out (by unfold priceS;rw[if_neg (by omega)];first|decide|exact HZ.out)];unfold priceS;rw[if_neg (by omega)];rfl))
  ·obtain⟨k,rfl⟩:∃ k:Nat,u=k:=⟨u.toNat,by omega⟩
   by_cases h1:k<n2
   ·have hk:=Lib.hid (show k<L.unders.length from by rw[← N2.out];exact h1)
    have h1':¬ (n2:Int)≤(k:Int):=by omega
    obtain⟨x,hx⟩:∃ x,L.unders[k]?=some x:=⟨_,List.getElem?_eq_getElem hk.out⟩
    have HX:=Lib.hid (show L.und (k:Int)=x from by unfold Led.und;simp[hx])
    have HX2:=Lib.hid hx
    have hR:=(HH.out.below XX.out.low).unders
    rw[E2.out] at hR
    obtain⟨b',o',e',_,hc⟩:=hR.at_ hx
    have q0:w1.cell? ⟨b',o'+k*4,none⟩=some (.string x.name):=by have:=hc 0 _ rfl;simpa using this
    have q1:=hc 1 _ rfl
    have q2:=hc 2 _ rfl
    have q3:=hc 3 _ rfl
    subst e'
    clear hc hR hx
    go_upto_region 6 with (fail)
    clear q0 q1 q2 q3 y2 h0 h1 h1'
    have XX:=Lib.hid (XX.out.alloc 33 #[.string x.name,.int .i64 x.cur,.int .i64 x.price,.int .i64 x.vol])
    obtain⟨w2,hw2⟩:∃ s,s=w1.alloc (.cells #[.string x.name,.int .i64 x.cur,.int .i64 x.price,.int .i64 x.vol] 33):=⟨_,rfl⟩
    obtain⟨b7,hb7⟩:∃ n,n=w1.heap.size:=⟨_,rfl⟩
    rw[← hw2,← hb7] at XX
    rw[← hw2,← hb7]
    clear hw2 hb7
    have z2:=XX.out.free 2 rfl 2
    have i2:w2.cell? ⟨b7,2,none⟩=some (.int .i64 x.price):=XX.out.cell 2 rfl 2 rfl
    go_upto_region 7 with (fail)
    clear z2 i2
    have XX:=Lib.hid (show At w (w2.setCell ⟨b7,2,none⟩ (.int .i64 p)) [(b0, 31,C),(b0+1, 31,led0),(b7, 33,#[.string x.name,.int .i64 x.cur,.int .i64 p,.int .i64 x.vol])] from XX.out.setCell 2 rfl 2 (.int .i64 p))
    obtain⟨w3,hw3⟩:∃ s,s=w2.setCell ⟨b7,2,none⟩ (.int .i64 p):=⟨_,rfl⟩
    rw[← hw3] at XX ⊢
    clear hw3
    have z3:=XX.out.free 2 rfl 3
    have i3:w3.cell? ⟨b7,3,none⟩=some (.int .i64 x.vol):=XX.out.cell 2 rfl 3 rfl
    go_upto_region 8 with (fail)
    clear z3 i3
    have XX:=Lib.hid (show At w (w3.setCell ⟨b7,3,none⟩ (.int .i64 v)) [(b0, 31,C),(b0+1, 31,led0),(b7, 33,#[.string x.name,.int .i64 x.cur,.int .i64 p,.int .i64 v])] from XX.out.setCell 2 rfl 3 (.int .i64 v))
    obtain⟨w4,hw4⟩:∃ s,s=w3.setCell ⟨b7,3,none⟩ (.int .i64 v):=⟨_,rfl⟩
    rw[← hw4] at XX ⊢
    clear hw4
    have HN:=Lib.hid (HH.out.names x (List.mem_of_getElem? HX2.out))
    have UN:=Lib.hid (show ∀ W,Calls Tryz.prog 46 #[.agg #[.string x.name,.int .i64 x.cur,.int .i64 p,.int .i64 v],.int .i64 (n1:Nat)] W fun e w'=>e=.returned (.bool (decide (({ x with price:=p,vol:=v }:Und).Ok n1)))∧Below W.heap.size W w' from fun W=>rund_any { x with price:=p,vol:=v } n1 (by have:=U6.out;have:=N1.out;omega) HN.out W)
    have i0:w4.cell? ⟨b7,0,none⟩=some (.string x.name):=XX.out.cell 2 rfl 0 rfl
    have i1:w4.cell? ⟨b7,1,none⟩=some (.int .i64 x.cur):=XX.out.cell 2 rfl 1 rfl
    have i2:w4.cell? ⟨b7,2,none⟩=some (.int .i64 p):=XX.out.cell 2 rfl 2 rfl
    have i3:w4.cell? ⟨b7,3,none⟩=some (.int .i64 v):=XX.out.cell 2 rfl 3 rfl
    have y1:w4.cell? ⟨b0,1,none⟩=some (.slice a1 n1 c1):=XX.out.cell 0 rfl 1 (by rw[EC.out,N1.out,← E1.out];rfl)
    go_wp2_with fail
    refine (UN.out _).mono ?_
    rintro e w5 ⟨rfl,hb⟩
    have XX:=Lib.hid (XX.out.go hb)
    clear hb y1 i0 i1 i2 i3 UN
    by_cases hok:({ x with price:=p,vol:=v }:Und).Ok n1
    ·have HOK:=Lib.hid (show ({ x with price:=p,vol:=v }:Und).Ok L.curs.length from by rw[← N1.out];exact hok)
     have hd:decide (({ x with price:=p,vol:=v }:Und).Ok n1)=true:=decide_eq_true hok
     clear hok
     rw[hd]
     go_wp2_with (refine led_load (XX.out.get 0 rfl) LC.out rfl rfl rfl ?_)
     refine (CP.out w5 XX.out.low HG.out).mono ?_
     rintro e wq ⟨V2,rfl,own,hb⟩
     have FF:=Lib.hid (fbs_copy XX.out own hb)
     have R0:=Lib.hid (show w5.heap.size≤wq.heap.size from hb.size)
     have L2:=Lib.hid (ledc own.led)
     unfold LedV.val
     clear own hb CP
     go_upto_region 11 with (refine led_store (heap_alloc_last _ _) ledc0 L2.out rfl rfl rfl rfl ?_;rw[World.setRow_alloc_new])
     obtain⟨W5,hW5⟩:∃ s,s=wq.alloc (.cells (V2.cells L) 31):=⟨_,rfl⟩
     obtain⟨b5,hb5⟩:∃ n,n=wq.heap.size:=⟨_,rfl⟩
     rw[← hW5,← hb5] at FF
     rw[← hW5,← hb5]
     clear hW5 hb5
     obtain⟨g,cg,hv,_,_,hcell,hfree⟩:=FF.out.own.unders.slot undcells_len (by decide) HX2.out
     have HV:=Lib.hid (show V2.unders=.slice (some ⟨g,0,none⟩) L.unders.length cg from hv)
     have y2:W5.cell? ⟨b5,2,none⟩=some (.slice (some ⟨g,0,none⟩) n2 cg):=FF.out.at_.cell 0 rfl 2 (by rw[N2.out,← hv];rfl)
     have i0:W5.cell? ⟨b7,0,none⟩=some (.string x.name):=FF.out.at_.cell 3 rfl 0 rfl
     have i1:W5.cell? ⟨b7,1,none⟩=some (.int .i64 x.cur):=FF.out.at_.cell 3 rfl 1 rfl
     have i2:W5.cell? ⟨b7,2,none⟩=some (.int .i64 p):=FF.out.at_.cell 3 rfl 2 rfl
     have i3:W5.cell? ⟨b7,3,none⟩=some (.int .i64 v):=FF.out.at_.cell 3 rfl 3 rfl
     have q0:W5.cell? ⟨g,k*4,none⟩=some (.string x.name):=by have:=hcell 0 _ rfl;simpa using this
     have q1:W5.cell? ⟨g,k*4+1,none⟩=some (.int .i64 x.cur):=hcell 1 _ rfl
     have q2:W5.cell? ⟨g,k*4+2,none⟩=some (.int .i64 x.price):=hcell 2 _ rfl
     have q3:W5.cell? ⟨g,k*4+3,none⟩=some (.int .i64 x.vol):=hcell 3 _ rfl
     have f0:=hfree (k*4)
     have f1:=hfree (k*4+1)
     have f2:=hfree (k*4+2)
     have f3:=hfree (k*4+3)
     have k0:(0:Int)≤(k:Int):=by omega
     have k1:k<n2:=by rw[N2.out];exact hk.out
     clear hv hcell hfree
     go_upto_region 12 with (fail)
     clear y2 i0 i1 i2 i3 q0 q1 q2 q3 f0 f1 f2 f3
     obtain⟨W7,hW7⟩:∃ s,s=(((W5.setCell ⟨g,k*4,none⟩ (.string x.name)).setCell ⟨g,k*4+1,none⟩ (.int .i64 x.cur)).setCell ⟨g,k*4+2,none⟩ (.int .i64 p)).setCell ⟨g,k*4+3,none⟩ (.int .i64 v):=⟨_,rfl⟩
     have F7:=Lib.hid (show FBs w w5.heap.size ((b5, 31,V2.cells { L with unders:=L.unders.set k { x with price:=p,vol:=v } })::[(b0, 31,C),(b0+1, 31,led0),(b7, 33,#[.string x.name,.int .i64 x.cur,.int .i64 p,.int .i64 v])]) V2 { L with unders:=L.unders.set k { x with price:=p,vol:=v } } W7 from by
      have S:=fun (W:World) (M:Led) (F:FBs w w5.heap.size ((b5, 31,V2.cells M)::[(b0, 31,C),(b0+1, 31,led0),(b7, 33,#[.string x.name,.int .i64 x.cur,.int .i64 p,.int .i64 v])]) V2 M W) (hl:M.unders.length=L.unders.length) (y y':Und) (j:Nat) (z:Value) (hy:M.unders[k]?=some y) (hj:j<4) (he:Und.cells y'=(Und.cells y).set j z) (hn:y'.name.size≤maxLen)=>(show FBs w w5.heap.size ((b5, 31,V2.cells { M with unders:=M.unders.set k y' })::[(b0, 31,C),(b0+1, 31,led0),(b7, 33,#[.string x.name,.int .i64 x.cur,.int .i64 p,.int .i64 v])]) V2 { M with unders:=M.unders.set k y' } (W.setCell ⟨g,k*4+j,none⟩ z) from by
       obtain⟨o,m⟩:=F.own.set_unders (by rw[hl];exact HV.out) hy hj he hn
       exact F.row o m (q:=1) rfl (by rw[HV.out];rfl) rfl)
      have G:=fun (M:List Und) (y:Und) (h:M.length=L.unders.length)=>(show (M.set k y)[k]?=some y from by rw[List.getElem?_set_self (by rw[h];exact hk.out)])
      have s0:=S W5 L FF.out rfl x x 0 (.string x.name) HX2.out (by decide) rfl HN.out
      have s1:=S _ _ s0 (by show (L.unders.set k _).length=_;rw[List.length_set]) x x 1 (.int .i64 x.cur) (G _ _ rfl) (by decide) rfl HN.out
      have s2:=S _ _ s1 (by show ((L.unders.set k _).set k _).length=_;rw[List.length_set,List.length_set]) x { x with price:=p } 2 (.int .i64 p) (G _ _ (by rw[List.length_set])) (by decide) rfl HN.out
      have s3:=S _ _ s2 (by show (((L.unders.set k _).set k _).set k _).length=_;rw[List.length_set,List.length_set,List.length_set]) { x with price:=p } { x with price:=p,vol:=v } 3 (.int .i64 v) (G _ _ (by rw[List.length_set,List.length_set])) (by decide) rfl HN.out
      simp only[List.set_set,Nat.add_zero] at s3
      rw[hW7]
      exact s3)
     rw[← hW7]
     clear hW7
     have LE:=Lib.hid (ledc F7.out.own.led)
     have EE:=Lib.hid (show admA L (priceS L (k:Int) p v)=endA ({ L with unders:=L.unders.set k { x with price:=p,vol:=v } }:Led) ((k:Int)) from by
      have e:priceS L (k:Int) p v=(⟨({ L with unders:=L.unders.set k { x with price:=p,vol:=v } }:Led),(k:Int),0⟩:Adm):=by unfold priceS;rw[if_pos (by have:=hk.out;omega),HX.out,if_pos HOK.out,Int.toNat_natCast]
      rw[admA_end HG.out (by rw[e]),e])
     have GE:=Lib.hid (show ({ L with unders:=L.unders.set k { x with price:=p,vol:=v } }:Led).Good from by
      have e:priceS L (k:Int) p v=(⟨({ L with unders:=L.unders.set k { x with price:=p,vol:=v } }:Led),(k:Int),0⟩:Adm):=by unfold priceS;rw[if_pos (by have:=hk.out;omega),HX.out,if_pos HOK.out,Int.toNat_natCast]
      have:=priceS_good HG.out (by rw[e]:(priceS L (k:Int) p v).err=0)
      rw[e] at this
      exact this)
     have EN:=Lib.hid (rend_any W7 _ _ F7.out.own.led GE.out ((k:Int)))
     unfold LedV.val at EN
     go_wp2_with (refine led_load (F7.out.at_.get 0 rfl) LE.out rfl rfl rfl ?_)
     refine EN.out.mono ?_
     obtain⟨a,ha⟩:∃ a,a=endA ({ L with unders:=L.unders.set k { x with price:=p,vol:=v } }:Led) ((k:Int)):=⟨_,rfl⟩
     rw[← ha] at EE ⊢
     rintro e w7 ⟨U,rfl,own,hb⟩
     have OW:=Lib.hid own
     have BB:=Lib.hid hb
     have X7:=Lib.hid (F7.out.at_.go hb)
     have LU:=Lib.hid (ledc own.led)
     unfold LedV.val
     clear own hb ha EN
     go_simp
     go_wp2_with (refine led_store (X7.out.get 2 rfl) ledc0 LU.out rfl rfl rfl rfl ?_)
     exact bodyPost_ret (results_led1 rfl _ _ (setRow_heap _ _ _ _ _ _ (X7.out.get 2 rfl)) LU.out rfl) rfl (by simpa using end_ret F7.out.at_ BB.out OW.out (k:=2) rfl EE.out.symm rfl rfl rfl)
    ·have HOK:=Lib.hid (show ¬ ({ x with price:=p,vol:=v }:Und).Ok L.curs.length from by rw[← N1.out];exact hok)
     have hd:decide (({ x with price:=p,vol:=v }:Und).Ok n1)=false:=decide_eq_false hok
     clear hok
     rw[hd]
     go_wp2_with fail
     refine (rno_any 37 _).mono ?_
     rintro e w9 ⟨rfl,hb⟩
     have XN:=Lib.hid (XX.out.go hb)
     clear hb
     go_wp2_with (refine led_store (cs:=led0) (XN.out.get 1 rfl) ledc0 ledc0 rfl rfl rfl rfl ?_)
     refine bodyPost_ret (results_led1 (cs:=led0) rfl _ _ (setRow_heap _ _ _ _ _ _ (XN.out.get 1 rfl)) ledc0 rfl) rfl (no_ret XN.out (k:=1) rfl (by rw[admA_err HG.out (by unfold priceS;rw[if_pos (by have:=hk.out;omega),HX.out,if_neg HOK.out];first|decide|exact HZ.out)];unfold priceS;rw[if_pos (by have:=hk.out;omega),HX.out,if_neg HOK.out];rfl))
   ·have h1':(n2:Int)≤(k:Int):=by omega
    go_wp2_with fail
    refine (rno_any 31 _).mono ?_
    rintro e w9 ⟨rfl,hb⟩
    have XN:=Lib.hid (XX.out.go hb)
    clear hb
    go_wp2_with (refine led_store (cs:=led0) (XN.out.get 1 rfl) ledc0 ledc0 rfl rfl rfl rfl ?_)
    refine bodyPost_ret (results_led1 (cs:=led0) rfl _ _ (setRow_heap _ _ _ _ _ _ (XN.out.get 1 rfl)) ledc0 rfl) rfl (no_ret XN.out (k:=1) rfl (by rw[admA_err HG.out (by unfold priceS;rw[if_neg (by have:=N2.out;omega)];first|decide|exact HZ.out)];unfold priceS;rw[if_neg (by have:=N2.out;omega)];rfl))
 ·refine (GD.out W0 X0.out.low false (decide_eq_false hg)).mono ?_
  rintro e w1 ⟨rfl,hb⟩
  have XX:=Lib.hid (X0.out.go hb)
  have HG:=Lib.hid hg
  clear hb X0 hg GD
  go_wp2_with fail
  refine (rno_any 43 _).mono ?_
  rintro e w9 ⟨rfl,hb⟩
  have XN:=Lib.hid (XX.out.go hb)
  clear hb
  go_wp2_with (refine led_store (cs:=led0) (XN.out.get 1 rfl) ledc0 ledc0 rfl rfl rfl rfl ?_)
  refine bodyPost_ret (results_led1 (cs:=led0) rfl _ _ (setRow_heap _ _ _ _ _ _ (XN.out.get 1 rfl)) ledc0 rfl) rfl (no_ret XN.out (k:=1) rfl (admA_bad HG.out _))
end Go.Proofs.YtnkpdfjnjmmleaaGreatDoor

/- The document's admin, walked (printed by tools/gen_admr.py). -/
import Derived.Test.YtnkpdfjnjmmleaaGreatDoorAdmD
import Derived.Test.YtnkpdfjnjmmleaaGreatDoorGe
import Derived.Test.YtnkpdfjnjmmleaaGreatDoorAdmE
namespace Go.Proofs.YtnkpdfjnjmmleaaGreatDoor
open Go.RowKit Go.Bw Go.Maps Go.Shelf Go.Bw.Fall
set_option linter.unusedVariables false
set_option linter.unusedSimpArgs false
set_option maxRecDepth 100000 in
set_option maxHeartbeats 4000000 in
theorem dinstr_any (w:World) (V:LedV) (L:Led) (h:LedAt w V L) (hL:L.accts.length≤1024) (i:Ins) :
 Calls Tryz.prog 17 #[V.val L,.agg #[.int .i64 i.kind,.int .i64 i.under,.int .i64 i.mult,.int .i64 i.strike,.int .i64 i.expiry,.bool i.call,.int .i64 i.mark]] w (AdmRet w (admA L (instrS L i))):=by
 classical
 have LC:=Lib.hid (ledc h)
 have HH:=Lib.hid h
 have GD:=Lib.hid (show ∀ W,Below w.heap.size w W→∀ B:Bool,decide L.Good=B→Calls Tryz.prog 43 #[V.val L] W fun e w'=>e=.returned (.bool B)∧Below W.heap.size W w' from fun W hb B hB=>rgood_to (h.below hb) hL hB)
 have CP:=Lib.hid (fun W (hb:Below w.heap.size w W) (hg:L.Good)=>rcopy_any W V L (h.below hb) (good_bulk hg).1 (fun a ha=>by have:=(good_bulk hg).2.1 a ha;omega))
 unfold LedV.val at GD CP ⊢
 obtain⟨C,hC⟩:∃ C,C=V.cells L:=⟨_,rfl⟩
 have EC:=Lib.hid hC
 rw[← hC] at GD CP LC ⊢
 obtain⟨W0,hW0⟩:∃ s,s=((w.alloc (.cells C 31)).alloc (.cells #[.int .i64 i.kind,.int .i64 i.under,.int .i64 i.mult,.int .i64 i.strike,.int .i64 i.expiry,.bool i.call,.int .i64 i.mark] 35)).alloc (.cells #[.int .i64 0,.slice none 0 0,.slice none 0 0,.slice none 0 0,.slice none 0 0,.slice none 0 0,.slice none 0 0,.slice none 0 0,.slice none 0 0] 31):=⟨_,rfl⟩
 obtain⟨b0,hb0⟩:∃ n,n=w.heap.size:=⟨_,rfl⟩
 have X0:=Lib.hid (show At w W0 [(b0, 31,C),(b0+1, 35,#[.int .i64 i.kind,.int .i64 i.under,.int .i64 i.mult,.int .i64 i.strike,.int .i64 i.expiry,.bool i.call,.int .i64 i.mark]),(b0+1+1, 31,led0)] from by
  have a:=((((At.start w).alloc 31 C).alloc 35 #[.int .i64 i.kind,.int .i64 i.under,.int .i64 i.mult,.int .i64 i.strike,.int .i64 i.expiry,.bool i.call,.int .i64 i.mark]).alloc 31 #[.int .i64 0,.slice none 0 0,.slice none 0 0,.slice none 0 0,.slice none 0 0,.slice none 0 0,.slice none 0 0,.slice none 0 0,.slice none 0 0])
  have e:∀ (w:World) (o:Obj),(w.alloc o).heap.size=w.heap.size+1:=fun w o=>by simp
  simp only[e] at a
  rw[← hW0,← hb0] at a
  exact a)
 clear h hL hC
 go_enter Tryz.func17,Tryz.ntmps17
 go_upto_region 1 with (fail)
 rw[← hW0,← hb0]
 clear hW0 hb0
 go_wp2_with (refine led_load (X0.out.get 0 rfl) LC.out rfl rfl rfl ?_)
 by_cases hg:L.Good
 ·refine (GD.out W0 X0.out.low true (decide_eq_true hg)).mono ?_
  rintro e w1 ⟨rfl,hb⟩
  have XX:=Lib.hid (X0.out.go hb)
  have HG:=Lib.hid hg
  clear hb X0 hg GD
  obtain⟨a2,c2,e2⟩:=HH.out.unders.form
  obtain⟨a3,c3,e3⟩:=HH.out.instrs.form
  have E2:=Lib.hid e2
  have E3:=Lib.hid e3
  obtain⟨n2,hn2⟩:∃ n,n=L.unders.length:=⟨_,rfl⟩
  obtain⟨n3,hn3⟩:∃ n,n=L.instrs.length:=⟨_,rfl⟩
  have N2:=Lib.hid hn2
  have N3:=Lib.hid hn3
  have U6:=Lib.hid (show L.unders.length≤6∧L.instrs.length≤12∧L.avail.length≤12 from ⟨HG.out.things.u1,HG.out.things.i1,by have h1:=HG.out.locs.len;have:=HG.out.things.i1;omega⟩)
  have y3:w1.cell? ⟨b0,3,none⟩=some (.slice a3 n3 c3):=XX.out.cell 0 rfl 3 (by rw[EC.out,hn3,← e3];rfl)
  clear e2 e3 hn2 hn3
  by_cases h6:(12:Int)≤(n3:Int)
  ·go_wp2_with fail
   refine (rno_any 40 _).mono ?_
   rintro e w9 ⟨rfl,hb⟩
   have XN:=Lib.hid (XX.out.go hb)
   clear hb
   go_wp2_with (refine led_store (cs:=led0) (XN.out.get 2 rfl) ledc0 ledc0 rfl rfl rfl rfl ?_)
   refine bodyPost_ret (results_led1 (cs:=led0) rfl _ _ (setRow_heap _ _ _ _ _ _ (XN.out.get 2 rfl)) ledc0 rfl) rfl (no_ret XN.out (k:=2) rfl (by rw[admA_err HG.out (by unfold instrS;rw[if_neg (by have:=N3.out;omega)];first|decide|exact HZ.out)];unfold instrS;rw[if_neg (by have:=N3.out;omega)];rfl))
  ·have HLT:=Lib.hid (show (n3:Int)<12 from by omega)
   have i0:w1.cell? ⟨b0+1,0,none⟩=some (.int .i64 i.kind):=XX.out.cell 1 rfl 0 rfl
   have i1:w1.cell? ⟨b0+1,1,none⟩=some (.int .i64 i.under):=XX.out.cell 1 rfl 1 rfl
   have i2:w1.cell? ⟨b0+1,2,none⟩=some (.int .i64 i.mult):=XX.out.cell 1 rfl 2 rfl
   have i3:w1.cell? ⟨b0+1,3,none⟩=some (.int .i64 i.strike):=XX.out.cell 1 rfl 3 rfl
   have i4:w1.cell? ⟨b0+1,4,none⟩=some (.int .i64 i.expiry):=XX.out.cell 1 rfl 4 rfl
   have i5:w1.cell? ⟨b0+1,5,none⟩=some (.bool i.call):=XX.out.cell 1 rfl 5 rfl
   have i6:w1.cell? ⟨b0+1,6,none⟩=some (.int .i64 i.mark):=XX.out.cell 1 rfl 6 rfl
   go_upto_region 6 with (fail)
   clear h6 i0 i1 i2 i3 i4 i5 i6 y3
   have XX:=Lib.hid (XX.out.alloc 35 #[.int .i64 i.kind,.int .i64 i.under,.int .i64 i.mult,.int .i64 i.strike,.int .i64 i.expiry,.bool i.call,.int .i64 i.mark])
   obtain⟨w2,hw2⟩:∃ s,s=w1.alloc (.cells #[.int .i64 i.kind,.int .i64 i.under,.int .i64 i.mult,.int .i64 i.strike,.int .i64 i.expiry,.bool i.call,.int .i64 i.mark] 35):=⟨_,rfl⟩
   obtain⟨b7,hb7⟩:∃ n,n=w1.heap.size:=⟨_,rfl⟩
   rw[← hw2,← hb7] at XX
   rw[← hw2,← hb7]
   clear hw2 hb7
   have z6:=XX.out.free 3 rfl 6
   have i6:w2.cell? ⟨b7,6,none⟩=some (.int .i64 i.mark):=XX.out.cell 3 rfl 6 rfl
   go_upto_region 7 with (fail)
   clear z6 i6
   have XX:=Lib.hid (show At w (w2.setCell ⟨b7,6,none⟩ (.int .i64 0)) [(b0, 31,C),(b0+1, 35,#[.int .i64 i.kind,.int .i64 i.under,.int .i64 i.mult,.int .i64 i.strike,.int .i64 i.expiry,.bool i.call,.int .i64 i.mark]),(b0+1+1, 31,led0),(b7, 35,#[.int .i64 i.kind,.int .i64 i.under,.int .i64 i.mult,.int .i64 i.strike,.int .i64 i.expiry,.bool i.call,.int .i64 0])] from XX.out.setCell 3 rfl 6 (.int .i64 0))
   obtain⟨w3,hw3⟩:∃ s,s=w2.setCell ⟨b7,6,none⟩ (.int .i64 0):=⟨_,rfl⟩
   rw[← hw3] at XX ⊢
   clear hw3
   have IA:=Lib.hid (show ∀ W,Calls Tryz.prog 52 #[.agg #[.int .i64 i.kind,.int .i64 i.under,.int .i64 i.mult,.int .i64 i.strike,.int .i64 i.expiry,.bool i.call,.int .i64 0],.int .i64 (n2:Nat)] W fun e w'=>e=.returned (.bool (decide (i.noMark.Ok n2)))∧Below W.heap.size W w' from fun W=>rins_any i.noMark n2 (by have:=U6.out;have:=N2.out;omega) W)
   have i0:w3.cell? ⟨b7,0,none⟩=some (.int .i64 i.kind):=XX.out.cell 3 rfl 0 rfl
   have i1:w3.cell? ⟨b7,1,none⟩=some (.int .i64 i.under):=XX.out.cell 3 rfl 1 rfl
   have i2:w3.cell? ⟨b7,2,none⟩=some (.int .i64 i.mult):=XX.out.cell 3 rfl 2 rfl
   have i3:w3.cell? ⟨b7,3,none⟩=some (.int .i64 i.strike):=XX.out.cell 3 rfl 3 rfl
   have i4:w3.cell? ⟨b7,4,none⟩=some (.int .i64 i.expiry):=XX.out.cell 3 rfl 4 rfl
   have i5:w3.cell? ⟨b7,5,none⟩=some (.bool i.call):=XX.out.cell 3 rfl 5 rfl
   have i6:w3.cell? ⟨b7,6,none⟩=some (.int .i64 0):=XX.out.cell 3 rfl 6 rfl
   have y2:w3.cell? ⟨b0,2,none⟩=some (.slice a2 n2 c2):=XX.out.cell 0 rfl 2 (by rw[EC.out,N2.out,← E2.out];rfl)
   go_wp2_with fail
   refine (IA.out _).mono ?_
   rintro e w4 ⟨rfl,hb⟩
   have XX:=Lib.hid (XX.out.go hb)
   clear hb y2 i0 i1 i2 i3 i4 i5 i6 IA
   by_cases hok:i.noMark.Ok n2
   ·have HOK:=Lib.hid (show i.noMark.Ok L.unders.length from by rw[← N2.out];exact hok)
    have hd:decide (i.noMark.Ok n2)=true:=decide_eq_true hok
    clear hok
    rw[hd]
    have i4:w4.cell? ⟨b7,4,none⟩=some (.int .i64 i.expiry):=XX.out.cell 3 rfl 4 rfl
    have y0:w4.cell? ⟨b0,0,none⟩=some (.int .i64 L.day):=XX.out.cell 0 rfl 0 (by rw[EC.out];rfl)
    by_cases hx0:i.expiry=0
    ·have d0:(i.expiry != 0)=false:=by rw[hx0];rfl
     have HE:=Lib.hid (show i.expiry=0∨L.day≤i.expiry from Or.inl hx0)
     clear hx0
     go_upto_region 11 with (fail)
     clear d0
     clear i4 y0
     obtain⟨u,hu⟩:∃ u:Nat,i.under=u:=⟨i.under.toNat,by have h:(0:Int)≤i.under:=HOK.out.1;omega⟩
     have hul:u<L.unders.length:=by have h:i.under<(L.unders.length:Int):=HOK.out.2.1;omega
     obtain⟨y,hy⟩:∃ y,L.unders[u]?=some y:=⟨_,List.getElem?_eq_getElem hul⟩
     have OKY:=Lib.hid (HG.out.things.unders u y hy)
     have hR:=(HH.out.below XX.out.low).unders
     rw[E2.out] at hR
     obtain⟨b',o',e',_,hc⟩:=hR.at_ hy
     have MK:=Lib.hid (show markA L i=((unitA i.noMark y.price y.vol L.day).1,0) from by
      have h2:=(markA_ok HG.out HOK.out).1
      have e:L.und i.under=y:=by unfold Led.und;rw[hu];simp[hy]
      have h3:markA L i=unitA i.noMark y.price y.vol L.day:=by
       unfold markA nowA
       rw[e,if_pos ⟨⟨by have:=OKY.out.2.2.2.1;omega,OKY.out.2.2.2.2.1⟩,OKY.out.2.2.2.2.2.1,OKY.out.2.2.2.2.2.2⟩]
      rw[h3] at h2 ⊢
      exact Prod.ext rfl h2)
     have NW:=Lib.hid (show ∀ W,Calls Tryz.prog 53 #[.agg #[.int .i64 i.kind,.int .i64 i.under,.int .i64 i.mult,.int .i64 i.strike,.int .i64 i.expiry,.bool i.call,.int .i64 0],.agg #[.string y.name,.int .i64 y.cur,.int .i64 y.price,.int .i64 y.vol],.int .i64 L.day] W fun e w'=>e=.returned (.tuple #[.int .i64 (unitA i.noMark y.price y.vol L.day).1,.int .i64 0])∧Below W.heap.size W w' from fun W=>rnow_any i.noMark y L.unders.length L.curs.length HOK.out OKY.out L.day HG.out.d0 HG.out.d1 W)
     obtain⟨mk,hmk⟩:∃ m,m=(unitA i.noMark y.price y.vol L.day).1:=⟨_,rfl⟩
     rw[← hmk] at MK NW
     have i0:w4.cell? ⟨b7,0,none⟩=some (.int .i64 i.kind):=XX.out.cell 3 rfl 0 rfl
     have i1:w4.cell? ⟨b7,1,none⟩=some (.int .i64 i.under):=XX.out.cell 3 rfl 1 rfl
     have i2:w4.cell? ⟨b7,2,none⟩=some (.int .i64 i.mult):=XX.out.cell 3 rfl 2 rfl
     have i3:w4.cell? ⟨b7,3,none⟩=some (.int .i64 i.strike):=XX.out.cell 3 rfl 3 rfl
     have i4:w4.cell? ⟨b7,4,none⟩=some (.int .i64 i.expiry):=XX.out.cell 3 rfl 4 rfl
     have i5:w4.cell? ⟨b7,5,none⟩=some (.bool i.call):=XX.out.cell 3 rfl 5 rfl
     have i6:w4.cell? ⟨b7,6,none⟩=some (.int .i64 0):=XX.out.cell 3 rfl 6 rfl
     have q0:w4.cell? ⟨b',o'+u*4,none⟩=some (.string y.name):=by have:=hc 0 _ rfl;simpa using this
     have q1:=hc 1 _ rfl
     have q2:=hc 2 _ rfl
     have q3:=hc 3 _ rfl
     subst e'
     have y2:w4.cell? ⟨b0,2,none⟩=some (.slice (some ⟨b',o',none⟩) n2 c2):=XX.out.cell 0 rfl 2 (by rw[EC.out,N2.out,← E2.out];rfl)
     have y0:w4.cell? ⟨b0,0,none⟩=some (.int .i64 L.day):=XX.out.cell 0 rfl 0 (by rw[EC.out];rfl)
     have k0:(0:Int)≤(u:Int):=by omega
     have k1:(u:Int)<(n2:Int):=by rw[N2.out];omega
     have EU:=Lib.hid hu
     rw[hu] at i1
     clear hu hul hy hR hc hmk
     refine Fall2.wp_region_tree (C:=fun w'=>True) [9] [] (.step 0 (.step 1 (.step 2 (.step 3 (.step 4 (.step 5 (.step 6 (.step 7 (.step 8 (.step 9 (.step 10 (.step 11 (.step 12 (.step 13 (.step 14 .leaf))))))))))))))) (fun _ _ _=>False) (by kernel_rfl) (fun _ _ _ h=>h.elim) (by kernel_rfl) trivial ?_
     refine Fall2.tree_still [0,1,2,3,4,5,6,7,8] (by kernel_rfl) ?_
     simp only[pickL,nth]
     repeat (go_big_quiet_step (fail))
     refine wpQuiet_nil ?_
     refine Fall2.tree_last (by kernel_rfl) rfl (by kernel_rfl) (fun K hK=>?_)
     simp only[pickL,nth]
     refine wpOne_one ?_
     go_simp
     try rw[← EU.out]
     refine (NW.out _).mono ?_
     rintro e w5 ⟨rfl,hb⟩
     have XX:=Lib.hid (XX.out.drew.go hb)
     clear hb y2 y0 k0 k1 q0 q1 q2 q3 NW i0 i1 i2 i3 i4 i5 i6
     go_simp
     refine hK _ _ ?_
     clear hK
     refine Fall2.tree_still [10,11,12,13,14] (by kernel_rfl) ?_
     simp only[pickL,nth]
     repeat (go_big_quiet_step (fail))
     refine wpQuiet_nil ?_
     refine Fall2.tree_nil ?_
     by_cases hmx:(100000000000000:Int)<mk
     ·go_wp2_with fail
      refine (rno_any 4 _).mono ?_
      rintro e w9 ⟨rfl,hb⟩
      have XN:=Lib.hid (XX.out.go hb)
      clear hb
      go_wp2_with (refine led_store (cs:=led0) (XN.out.get 2 rfl) ledc0 ledc0 rfl rfl rfl rfl ?_)
      refine bodyPost_ret (results_led1 (cs:=led0) rfl _ _ (setRow_heap _ _ _ _ _ _ (XN.out.get 2 rfl)) ledc0 rfl) rfl (no_ret XN.out (k:=2) rfl (by rw[admA_err HG.out (by unfold instrS;rw[if_pos (by have:=N3.out;have:=HLT.out;omega),if_pos HOK.out,if_pos HE.out,MK.out,if_pos rfl,if_neg (by show ¬ mk≤100000000000000;omega)];first|decide|exact HZ.out)];unfold instrS;rw[if_pos (by have:=N3.out;have:=HLT.out;omega),if_pos HOK.out,if_pos HE.out,MK.out,if_pos rfl,if_neg (by show ¬ mk≤100000000000000;omega)];rfl))
     ·have HMX:=Lib.hid (show mk≤100000000000000 from by omega)
      have z6:=XX.out.free 3 rfl 6
      have i6:w5.cell? ⟨b7,6,none⟩=some (.int .i64 0):=XX.out.cell 3 rfl 6 rfl
      go_upto_region 17 with (fail)
      clear z6 i6 hmx
      have XX:=Lib.hid (show At w (w5.setCell ⟨b7,6,none⟩ (.int .i64 mk)) [(b0, 31,C),(b0+1, 35,#[.int .i64 i.kind,.int .i64 i.under,.int .i64 i.mult,.int .i64 i.strike,.int .i64 i.expiry,.bool i.call,.int .i64 i.mark]),(b0+1+1, 31,led0),(b7, 35,#[.int .i64 i.kind,.int .i64 i.under,.int .i64 i.mult,.int .i64 i.strike,.int .i64 i.expiry,.bool i.call,.int .i64 mk])] from XX.out.setCell 3 rfl 6 (.int .i64 mk))
      obtain⟨w6,hw6⟩:∃ s,s=w5.setCell ⟨b7,6,none⟩ (.int .i64 mk):=⟨_,rfl⟩
      rw[← hw6] at XX ⊢
      clear hw6
      go_wp2_with (refine led_load (XX.out.get 0 rfl) LC.out rfl rfl rfl ?_)
      refine (CP.out w6 XX.out.low HG.out).mono ?_
      rintro e wq ⟨V2,rfl,own,hb⟩
      have FF:=Lib.hid (fbs_copy XX.out own hb)
      have R0:=Lib.hid (show w6.heap.size≤wq.heap.size from hb.size)
      have L2:=Lib.hid (ledc own.led)
      unfold LedV.val
      clear own hb CP
      go_upto_region 18 with (refine led_store (heap_alloc_last _ _) ledc0 L2.out rfl rfl rfl rfl ?_;rw[World.setRow_alloc_new])
      obtain⟨W5,hW5⟩:∃ s,s=wq.alloc (.cells (V2.cells L) 31):=⟨_,rfl⟩
      obtain⟨b5,hb5⟩:∃ n,n=wq.heap.size:=⟨_,rfl⟩
      rw[← hW5,← hb5] at FF
      rw[← hW5,← hb5]
      clear hW5 hb5
      obtain⟨x',hx'⟩:∃ y:Ins,y={ i with mark:=mk }:=⟨_,rfl⟩
      have ex:=Lib.hid (show (#[.int .i64 i.kind,.int .i64 i.under,.int .i64 i.mult,.int .i64 i.strike,.int .i64 i.expiry,.bool i.call,.int .i64 mk]:Array Value).toList=Ins.cells x' from by rw[hx'];rfl)
      have EX:=Lib.hid hx'
      clear hx'
      obtain⟨a3',c3',e3'⟩:=FF.out.own.led.instrs.form
      obtain⟨a7',c7',e7'⟩:=FF.out.own.led.avail.form
      have E3':=Lib.hid e3'
      have E7':=Lib.hid e7'
      obtain⟨n7,hn7⟩:∃ n,n=L.avail.length:=⟨_,rfl⟩
      have N7:=Lib.hid hn7
      have y3:W5.cell? ⟨b5,3,none⟩=some (.slice a3' n3 c3'):=FF.out.at_.cell 0 rfl 3 (by rw[N3.out,← e3'];rfl)
      have i0:W5.cell? ⟨b7,0,none⟩=some (.int .i64 i.kind):=FF.out.at_.cell 4 rfl 0 rfl
      have i1:W5.cell? ⟨b7,1,none⟩=some (.int .i64 i.under):=FF.out.at_.cell 4 rfl 1 rfl
      have i2:W5.cell? ⟨b7,2,none⟩=some (.int .i64 i.mult):=FF.out.at_.cell 4 rfl 2 rfl
      have i3:W5.cell? ⟨b7,3,none⟩=some (.int .i64 i.strike):=FF.out.at_.cell 4 rfl 3 rfl
      have i4:W5.cell? ⟨b7,4,none⟩=some (.int .i64 i.expiry):=FF.out.at_.cell 4 rfl 4 rfl
      have i5:W5.cell? ⟨b7,5,none⟩=some (.bool i.call):=FF.out.at_.cell 4 rfl 5 rfl
      have i6:W5.cell? ⟨b7,6,none⟩=some (.int .i64 mk):=FF.out.at_.cell 4 rfl 6 rfl
      obtain⟨vi,w6,hrun,ho,hm,hbk⟩:=app1_instr W5 w6.heap.size V2.instrs L.instrs FF.out.own.instrs FF.out.rb x' #[.int .i64 i.kind,.int .i64 i.under,.int .i64 i.mult,.int .i64 i.strike,.int .i64 i.expiry,.bool i.call,.int .i64 mk] ex.out (by have:=U6.out;omega)
      obtain⟨ai,ci,hv',_⟩:=ho.form
      obtain⟨mi,hm'⟩:∃ m,m=(L.instrs++[x']).length:=⟨_,rfl⟩
      rw[← hm'] at hv'
      clear hm'
      subst hv'
      have F6:=Lib.hid (FF.out.newrow (FF.out.own.new_instrs hm ho hbk) hm (q:=2) rfl rfl hbk)
      have RUN:=Lib.hid hrun
      clear hrun ho hm hbk e3' e7' hn7
      rw[E3'.out,← N3.out] at RUN
      have z3:=F6.out.at_.free 0 rfl 3
      have k3:w6.cell? ⟨b5,3,none⟩=some (.slice a3' n3 c3'):=F6.out.at_.cell 0 rfl 3 (by rw[N3.out,← E3'.out];rfl)
      go_upto_region 19 with (at_builtin;refine wpList_append_run rfl (.tmp 83) (.tmp 85) 24 rfl rfl rfl RUN.out ?_)
      clear i0 i1 i2 i3 i4 i5 i6 y3 z3 k3 RUN
      have F7:=Lib.hid (F6.out.cell 0 rfl 3 (.slice ai mi ci))
      obtain⟨W7,hW7⟩:∃ s,s=w6.setCell ⟨b5,3,none⟩ (.slice ai mi ci):=⟨_,rfl⟩
      rw[← hW7] at F7 ⊢
      clear hW7
      obtain⟨va,w8,hrun,ho,hm,hbk⟩:=app1_int W7 _ V2.avail L.avail F7.out.own.avail F7.out.rb 0 #[.int .i64 0] rfl (by have:=U6.out;omega)
      obtain⟨aa,ca,hv',_⟩:=ho.form
      obtain⟨ma,hm'⟩:∃ m,m=(L.avail++[(0:Int)]).length:=⟨_,rfl⟩
      rw[← hm'] at hv'
      clear hm'
      subst hv'
      have F8:=Lib.hid (F7.out.newrow (F7.out.own.new_avail hm ho hbk) hm (q:=6) rfl rfl hbk)
      have RUN:=Lib.hid hrun
      clear hrun ho hm hbk
      rw[E7'.out,← N7.out] at RUN
      have y7:W7.cell? ⟨b5,7,none⟩=some (.slice a7' n7 c7'):=F7.out.at_.cell 0 rfl 7 (by rw[N7.out,← E7'.out];rfl)
      have z7:=F8.out.at_.free 0 rfl 7
      have k7:w8.cell? ⟨b5,7,none⟩=some (.slice a7' n7 c7'):=F8.out.at_.cell 0 rfl 7 (by rw[N7.out,← E7'.out];rfl)
      go_upto_region 20 with (at_builtin;refine wpList_append_run rfl (.tmp 89) (.tmp 90) 28 rfl rfl rfl RUN.out ?_)
      clear y7 z7 k7 RUN
      have F9:=Lib.hid (F8.out.cell 0 rfl 7 (.slice aa ma ca))
      obtain⟨W9,hW9⟩:∃ s,s=w8.setCell ⟨b5,7,none⟩ (.slice aa ma ca):=⟨_,rfl⟩
      have F9:=Lib.hid (show FBs w _ ((b5, 31,({ V2 with instrs:=.slice ai mi ci,avail:=.slice aa ma ca }:LedV).cells { L with instrs:=L.instrs++[x'],avail:=L.avail++[0] })::[(b0, 31,C),(b0+1, 35,#[.int .i64 i.kind,.int .i64 i.under,.int .i64 i.mult,.int .i64 i.strike,.int .i64 i.expiry,.bool i.call,.int .i64 i.mark]),(b0+1+1, 31,led0),(b7, 35,#[.int .i64 i.kind,.int .i64 i.under,.int .i64 i.mult,.int .i64 i.strike,.int .i64 i.expiry,.bool i.call,.int .i64 mk])]) { V2 with instrs:=.slice ai mi ci,avail:=.slice aa ma ca } { L with instrs:=L.instrs++[x'],avail:=L.avail++[0] } W9 from by rw[hW9];exact F9.out)
      rw[← hW9]
      clear hW9
      have y3:W9.cell? ⟨b0,3,none⟩=some (.slice a3 n3 c3):=F9.out.at_.cell 1 rfl 3 (by rw[EC.out,N3.out,← E3.out];rfl)
      have LE:=Lib.hid (ledc F9.out.own.led)
      have EE:=Lib.hid (show admA L (instrS L i)=endA ({ L with instrs:=L.instrs++[x'],avail:=L.avail++[0] }:Led) ((n3:Int)) from by
       have e:instrS L i=(⟨({ L with instrs:=L.instrs++[x'],avail:=L.avail++[0] }:Led),(n3:Int),0⟩:Adm):=by unfold instrS;rw[if_pos (by have:=N3.out;have:=HLT.out;omega),if_pos HOK.out,if_pos HE.out,MK.out,if_pos rfl,if_pos HMX.out,EX.out,← N3.out]
       rw[admA_end HG.out (by rw[e]),e])
      have GE:=Lib.hid (show ({ L with instrs:=L.instrs++[x'],avail:=L.avail++[0] }:Led).Good from by
       have e:instrS L i=(⟨({ L with instrs:=L.instrs++[x'],avail:=L.avail++[0] }:Led),(n3:Int),0⟩:Adm):=by unfold instrS;rw[if_pos (by have:=N3.out;have:=HLT.out;omega),if_pos HOK.out,if_pos HE.out,MK.out,if_pos rfl,if_pos HMX.out,EX.out,← N3.out]
       have:=instrS_good HG.out (by rw[e]:(instrS L i).err=0)
       rw[e] at this
       exact this)
      have EN:=Lib.hid (rend_any W9 _ _ F9.out.own.led GE.out ((n3:Int)))
      unfold LedV.val at EN
      go_wp2_with (refine led_load (F9.out.at_.get 0 rfl) LE.out rfl rfl rfl ?_)
      refine EN.out.mono ?_
      obtain⟨a,ha⟩:∃ a,a=endA ({ L with instrs:=L.instrs++[x'],avail:=L.avail++[0] }:Led) ((n3:Int)):=⟨_,rfl⟩
      rw[← ha] at EE ⊢
      rintro e w7 ⟨U,rfl,own,hb⟩
      have OW:=Lib.hid own
      have BB:=Lib.hid hb
      have X7:=Lib.hid (F9.out.at_.go hb)
      have LU:=Lib.hid (ledc own.led)
      unfold LedV.val
      clear own hb ha EN
      go_simp
      go_wp2_with (refine led_store (X7.out.get 3 rfl) ledc0 LU.out rfl rfl rfl rfl ?_)
      exact bodyPost_ret (results_led1 rfl _ _ (setRow_heap _ _ _ _ _ _ (X7.out.get 3 rfl)) LU.out rfl) rfl (by simpa using end_ret F9.out.at_ BB.out OW.out (k:=3) rfl EE.out.symm rfl rfl rfl)
    ·have d0:(i.expiry != 0)=true:=by rw[bne_iff_ne];exact hx0
     by_cases hdy:i.expiry<L.day
     ·have WHY:=Lib.hid (show admA L (instrS L i)=(L0,0,41) from by rw[admA_err HG.out (by unfold instrS;rw[if_pos (by have:=N3.out;have:=HLT.out;omega),if_pos HOK.out,if_neg (by intro h;rcases h with h|h;exact hx0 h;omega)];first|decide|exact HZ.out)];unfold instrS;rw[if_pos (by have:=N3.out;have:=HLT.out;omega),if_pos HOK.out,if_neg (by intro h;rcases h with h|h;exact hx0 h;omega)];rfl)
      clear hx0
      go_wp2_with fail
      refine (rno_any 41 _).mono ?_
      rintro e w9 ⟨rfl,hb⟩
      have XN:=Lib.hid (XX.out.go hb)
      clear hb
      go_wp2_with (refine led_store (cs:=led0) (XN.out.get 2 rfl) ledc0 ledc0 rfl rfl rfl rfl ?_)
      refine bodyPost_ret (results_led1 (cs:=led0) rfl _ _ (setRow_heap _ _ _ _ _ _ (XN.out.get 2 rfl)) ledc0 rfl) rfl (by first|exact no_ret XN.out (k:=2) rfl WHY.out|simpa using no_ret XN.out (k:=2) rfl WHY.out)
     ·have HE:=Lib.hid (show i.expiry=0∨L.day≤i.expiry from Or.inr (by omega))
      clear hx0
      go_upto_region 11 with (fail)
      clear d0 hdy
      clear i4 y0
      obtain⟨u,hu⟩:∃ u:Nat,i.under=u:=⟨i.under.toNat,by have h:(0:Int)≤i.under:=HOK.out.1;omega⟩
      have hul:u<L.unders.length:=by have h:i.under<(L.unders.length:Int):=HOK.out.2.1;omega
      obtain⟨y,hy⟩:∃ y,L.unders[u]?=some y:=⟨_,List.getElem?_eq_getElem hul⟩
      have OKY:=Lib.hid (HG.out.things.unders u y hy)
      have hR:=(HH.out.below XX.out.low).unders
      rw[E2.out] at hR
      obtain⟨b',o',e',_,hc⟩:=hR.at_ hy
      have MK:=Lib.hid (show markA L i=((unitA i.noMark y.price y.vol L.day).1,0) from by
       have h2:=(markA_ok HG.out HOK.out).1
       have e:L.und i.under=y:=by unfold Led.und;rw[hu];simp[hy]
       have h3:markA L i=unitA i.noMark y.price y.vol L.day:=by
        unfold markA nowA
        rw[e,if_pos ⟨⟨by have:=OKY.out.2.2.2.1;omega,OKY.out.2.2.2.2.1⟩,OKY.out.2.2.2.2.2.1,OKY.out.2.2.2.2.2.2⟩]
       rw[h3] at h2 ⊢
       exact Prod.ext rfl h2)
      have NW:=Lib.hid (show ∀ W,Calls Tryz.prog 53 #[.agg #[.int .i64 i.kind,.int .i64 i.under,.int .i64 i.mult,.int .i64 i.strike,.int .i64 i.expiry,.bool i.call,.int .i64 0],.agg #[.string y.name,.int .i64 y.cur,.int .i64 y.price,.int .i64 y.vol],.int .i64 L.day] W fun e w'=>e=.returned (.tuple #[.int .i64 (unitA i.noMark y.price y.vol L.day).1,.int .i64 0])∧Below W.heap.size W w' from fun W=>rnow_any i.noMark y L.unders.length L.curs.length HOK.out OKY.out L.day HG.out.d0 HG.out.d1 W)
      obtain⟨mk,hmk⟩:∃ m,m=(unitA i.noMark y.price y.vol L.day).1:=⟨_,rfl⟩
      rw[← hmk] at MK NW
      have i0:w4.cell? ⟨b7,0,none⟩=some (.int .i64 i.kind):=XX.out.cell 3 rfl 0 rfl
      have i1:w4.cell? ⟨b7,1,none⟩=some (.int .i64 i.under):=XX.out.cell 3 rfl 1 rfl
      have i2:w4.cell? ⟨b7,2,none⟩=some (.int .i64 i.mult):=XX.out.cell 3 rfl 2 rfl
      have i3:w4.cell? ⟨b7,3,none⟩=some (.int .i64 i.strike):=XX.out.cell 3 rfl 3 rfl
      have i4:w4.cell? ⟨b7,4,none⟩=some (.int .i64 i.expiry):=XX.out.cell 3 rfl 4 rfl
      have i5:w4.cell? ⟨b7,5,none⟩=some (.bool i.call):=XX.out.cell 3 rfl 5 rfl
      have i6:w4.cell? ⟨b7,6,none⟩=some (.int .i64 0):=XX.out.cell 3 rfl 6 rfl
      have q0:w4.cell? ⟨b',o'+u*4,none⟩=some (.string y.name):=by have:=hc 0 _ rfl;simpa using this
      have q1:=hc 1 _ rfl
      have q2:=hc 2 _ rfl
      have q3:=hc 3 _ rfl
      subst e'
      have y2:w4.cell? ⟨b0,2,none⟩=some (.slice (some ⟨b',o',none⟩) n2 c2):=XX.out.cell 0 rfl 2 (by rw[EC.out,N2.out,← E2.out];rfl)
      have y0:w4.cell? ⟨b0,0,none⟩=some (.int .i64 L.day):=XX.out.cell 0 rfl 0 (by rw[EC.out];rfl)
      have k0:(0:Int)≤(u:Int):=by omega
      have k1:(u:Int)<(n2:Int):=by rw[N2.out];omega
      have EU:=Lib.hid hu
      rw[hu] at i1
      clear hu hul hy hR hc hmk
      refine Fall2.wp_region_tree (C:=fun w'=>True) [9] [] (.step 0 (.step 1 (.step 2 (.step 3 (.step 4 (.step 5 (.step 6 (.step 7 (.step 8 (.step 9 (.step 10 (.step 11 (.step 12 (.step 13 (.step 14 .leaf))))))))))))))) (fun _ _ _=>False) (by kernel_rfl) (fun _ _ _ h=>h.elim) (by kernel_rfl) trivial ?_
      refine Fall2.tree_still [0,1,2,3,4,5,6,7,8] (by kernel_rfl) ?_
      simp only[pickL,nth]
      repeat (go_big_quiet_step (fail))
      refine wpQuiet_nil ?_
      refine Fall2.tree_last (by kernel_rfl) rfl (by kernel_rfl) (fun K hK=>?_)
      simp only[pickL,nth]
      refine wpOne_one ?_
      go_simp
      try rw[← EU.out]
      refine (NW.out _).mono ?_
      rintro e w5 ⟨rfl,hb⟩
      have XX:=Lib.hid (XX.out.drew.go hb)
      clear hb y2 y0 k0 k1 q0 q1 q2 q3 NW i0 i1 i2 i3 i4 i5 i6
      go_simp
      refine hK _ _ ?_
      clear hK
      refine Fall2.tree_still [10,11,12,13,14] (by kernel_rfl) ?_
      simp only[pickL,nth]
      repeat (go_big_quiet_step (fail))
      refine wpQuiet_nil ?_
      refine Fall2.tree_nil ?_
      by_cases hmx:(100000000000000:Int)<mk
      ·go_wp2_with fail
       refine (rno_any 4 _).mono ?_
       rintro e w9 ⟨rfl,hb⟩
       have XN:=Lib.hid (XX.out.go hb)
       clear hb
       go_wp2_with (refine led_store (cs:=led0) (XN.out.get 2 rfl) ledc0 ledc0 rfl rfl rfl rfl ?_)
       refine bodyPost_ret (results_led1 (cs:=led0) rfl _ _ (setRow_heap _ _ _ _ _ _ (XN.out.get 2 rfl)) ledc0 rfl) rfl (no_ret XN.out (k:=2) rfl (by rw[admA_err HG.out (by unfold instrS;rw[if_pos (by have:=N3.out;have:=HLT.out;omega),if_pos HOK.out,if_pos HE.out,MK.out,if_pos rfl,if_neg (by show ¬ mk≤100000000000000;omega)];first|decide|exact HZ.out)];unfold instrS;rw[if_pos (by have:=N3.out;have:=HLT.out;omega),if_pos HOK.out,if_pos HE.out,MK.out,if_pos rfl,if_neg (by show ¬ mk≤100000000000000;omega)];rfl))
      ·have HMX:=Lib.hid (show mk≤100000000000000 from by omega)
       have z6:=XX.out.free 3 rfl 6
       have i6:w5.cell? ⟨b7,6,none⟩=some (.int .i64 0):=XX.out.cell 3 rfl 6 rfl
       go_upto_region 17 with (fail)
       clear z6 i6 hmx
       have XX:=Lib.hid (show At w (w5.setCell ⟨b7,6,none⟩ (.int .i64 mk)) [(b0, 31,C),(b0+1, 35,#[.int .i64 i.kind,.int .i64 i.under,.int .i64 i.mult,.int .i64 i.strike,.int .i64 i.expiry,.bool i.call,.int .i64 i.mark]),(b0+1+1, 31,led0),(b7, 35,#[.int .i64 i.kind,.int .i64 i.under,.int .i64 i.mult,.int .i64 i.strike,.int .i64 i.expiry,.bool i.call,.int .i64 mk])] from XX.out.setCell 3 rfl 6 (.int .i64 mk))
       obtain⟨w6,hw6⟩:∃ s,s=w5.setCell ⟨b7,6,none⟩ (.int .i64 mk):=⟨_,rfl⟩
       rw[← hw6] at XX ⊢
       clear hw6
       go_wp2_with (refine led_load (XX.out.get 0 rfl) LC.out rfl rfl rfl ?_)
       refine (CP.out w6 XX.out.low HG.out).mono ?_
       rintro e wq ⟨V2,rfl,own,hb⟩
       have FF:=Lib.hid (fbs_copy XX.out own hb)
       have R0:=Lib.hid (show w6.heap.size≤wq.heap.size from hb.size)
       have L2:=Lib.hid (ledc own.led)
       unfold LedV.val
       clear own hb CP
       go_upto_region 18 with (refine led_store (heap_alloc_last _ _) ledc0 L2.out rfl rfl rfl rfl ?_;rw[World.setRow_alloc_new])
       obtain⟨W5,hW5⟩:∃ s,s=wq.alloc (.cells (V2.cells L) 31):=⟨_,rfl⟩
       obtain⟨b5,hb5⟩:∃ n,n=wq.heap.size:=⟨_,rfl⟩
       rw[← hW5,← hb5] at FF
       rw[← hW5,← hb5]
       clear hW5 hb5
       obtain⟨x',hx'⟩:∃ y:Ins,y={ i with mark:=mk }:=⟨_,rfl⟩
       have ex:=Lib.hid (show (#[.int .i64 i.kind,.int .i64 i.under,.int .i64 i.mult,.int .i64 i.strike,.int .i64 i.expiry,.bool i.call,.int .i64 mk]:Array Value).toList=Ins.cells x' from by rw[hx'];rfl)
       have EX:=Lib.hid hx'
       clear hx'
       obtain⟨a3',c3',e3'⟩:=FF.out.own.led.instrs.form
       obtain⟨a7',c7',e7'⟩:=FF.out.own.led.avail.form
       have E3':=Lib.hid e3'
       have E7':=Lib.hid e7'
       obtain⟨n7,hn7⟩:∃ n,n=L.avail.length:=⟨_,rfl⟩
       have N7:=Lib.hid hn7
       have y3:W5.cell? ⟨b5,3,none⟩=some (.slice a3' n3 c3'):=FF.out.at_.cell 0 rfl 3 (by rw[N3.out,← e3'];rfl)
       have i0:W5.cell? ⟨b7,0,none⟩=some (.int .i64 i.kind):=FF.out.at_.cell 4 rfl 0 rfl
       have i1:W5.cell? ⟨b7,1,none⟩=some (.int .i64 i.under):=FF.out.at_.cell 4 rfl 1 rfl
       have i2:W5.cell? ⟨b7,2,none⟩=some (.int .i64 i.mult):=FF.out.at_.cell 4 rfl 2 rfl
       have i3:W5.cell? ⟨b7,3,none⟩=some (.int .i64 i.strike):=FF.out.at_.cell 4 rfl 3 rfl
       have i4:W5.cell? ⟨b7,4,none⟩=some (.int .i64 i.expiry):=FF.out.at_.cell 4 rfl 4 rfl
       have i5:W5.cell? ⟨b7,5,none⟩=some (.bool i.call):=FF.out.at_.cell 4 rfl 5 rfl
       have i6:W5.cell? ⟨b7,6,none⟩=some (.int .i64 mk):=FF.out.at_.cell 4 rfl 6 rfl
       obtain⟨vi,w6,hrun,ho,hm,hbk⟩:=app1_instr W5 w6.heap.size V2.instrs L.instrs FF.out.own.instrs FF.out.rb x' #[.int .i64 i.kind,.int .i64 i.under,.int .i64 i.mult,.int .i64 i.strike,.int .i64 i.expiry,.bool i.call,.int .i64 mk] ex.out (by have:=U6.out;omega)
       obtain⟨ai,ci,hv',_⟩:=ho.form
       obtain⟨mi,hm'⟩:∃ m,m=(L.instrs++[x']).length:=⟨_,rfl⟩
       rw[← hm'] at hv'
       clear hm'
       subst hv'
       have F6:=Lib.hid (FF.out.newrow (FF.out.own.new_instrs hm ho hbk) hm (q:=2) rfl rfl hbk)
       have RUN:=Lib.hid hrun
       clear hrun ho hm hbk e3' e7' hn7
       rw[E3'.out,← N3.out] at RUN
       have z3:=F6.out.at_.free 0 rfl 3
       have k3:w6.cell? ⟨b5,3,none⟩=some (.slice a3' n3 c3'):=F6.out.at_.cell 0 rfl 3 (by rw[N3.out,← E3'.out];rfl)
       go_upto_region 19 with (at_builtin;refine wpList_append_run rfl (.tmp 83) (.tmp 85) 24 rfl rfl rfl RUN.out ?_)
       clear i0 i1 i2 i3 i4 i5 i6 y3 z3 k3 RUN
       have F7:=Lib.hid (F6.out.cell 0 rfl 3 (.slice ai mi ci))
       obtain⟨W7,hW7⟩:∃ s,s=w6.setCell ⟨b5,3,none⟩ (.slice ai mi ci):=⟨_,rfl⟩
       rw[← hW7] at F7 ⊢
       clear hW7
       obtain⟨va,w8,hrun,ho,hm,hbk⟩:=app1_int W7 _ V2.avail L.avail F7.out.own.avail F7.out.rb 0 #[.int .i64 0] rfl (by have:=U6.out;omega)
       obtain⟨aa,ca,hv',_⟩:=ho.form
       obtain⟨ma,hm'⟩:∃ m,m=(L.avail++[(0:Int)]).length:=⟨_,rfl⟩
       rw[← hm'] at hv'
       clear hm'
       subst hv'
       have F8:=Lib.hid (F7.out.newrow (F7.out.own.new_avail hm ho hbk) hm (q:=6) rfl rfl hbk)
       have RUN:=Lib.hid hrun
       clear hrun ho hm hbk
       rw[E7'.out,← N7.out] at RUN
       have y7:W7.cell? ⟨b5,7,none⟩=some (.slice a7' n7 c7'):=F7.out.at_.cell 0 rfl 7 (by rw[N7.out,← E7'.out];rfl)
       have z7:=F8.out.at_.free 0 rfl 7
       have k7:w8.cell? ⟨b5,7,none⟩=some (.slice a7' n7 c7'):=F8.out.at_.cell 0 rfl 7 (by rw[N7.out,← E7'.out];rfl)
       go_upto_region 20 with (at_builtin;refine wpList_append_run rfl (.tmp 89) (.tmp 90) 28 rfl rfl rfl RUN.out ?_)
       clear y7 z7 k7 RUN
       have F9:=Lib.hid (F8.out.cell 0 rfl 7 (.slice aa ma ca))
       obtain⟨W9,hW9⟩:∃ s,s=w8.setCell ⟨b5,7,none⟩ (.slice aa ma ca):=⟨_,rfl⟩
       have F9:=Lib.hid (show FBs w _ ((b5, 31,({ V2 with instrs:=.slice ai mi ci,avail:=.slice aa ma ca }:LedV).cells { L with instrs:=L.instrs++[x'],avail:=L.avail++[0] })::[(b0, 31,C),(b0+1, 35,#[.int .i64 i.kind,.int .i64 i.under,.int .i64 i.mult,.int .i64 i.strike,.int .i64 i.expiry,.bool i.call,.int .i64 i.mark]),(b0+1+1, 31,led0),(b7, 35,#[.int .i64 i.kind,.int .i64 i.under,.int .i64 i.mult,.int .i64 i.strike,.int .i64 i.expiry,.bool i.call,.int .i64 mk])]) { V2 with instrs:=.slice ai mi ci,avail:=.slice aa ma ca } { L with instrs:=L.instrs++[x'],avail:=L.avail++[0] } W9 from by rw[hW9];exact F9.out)
       rw[← hW9]
       clear hW9
       have y3:W9.cell? ⟨b0,3,none⟩=some (.slice a3 n3 c3):=F9.out.at_.cell 1 rfl 3 (by rw[EC.out,N3.out,← E3.out];rfl)
       have LE:=Lib.hid (ledc F9.out.own.led)
       have EE:=Lib.hid (show admA L (instrS L i)=endA ({ L with instrs:=L.instrs++[x'],avail:=L.avail++[0] }:Led) ((n3:Int)) from by
        have e:instrS L i=(⟨({ L with instrs:=L.instrs++[x'],avail:=L.avail++[0] }:Led),(n3:Int),0⟩:Adm):=by unfold instrS;rw[if_pos (by have:=N3.out;have:=HLT.out;omega),if_pos HOK.out,if_pos HE.out,MK.out,if_pos rfl,if_pos HMX.out,EX.out,← N3.out]
        rw[admA_end HG.out (by rw[e]),e])
       have GE:=Lib.hid (show ({ L with instrs:=L.instrs++[x'],avail:=L.avail++[0] }:Led).Good from by
        have e:instrS L i=(⟨({ L with instrs:=L.instrs++[x'],avail:=L.avail++[0] }:Led),(n3:Int),0⟩:Adm):=by unfold instrS;rw[if_pos (by have:=N3.out;have:=HLT.out;omega),if_pos HOK.out,if_pos HE.out,MK.out,if_pos rfl,if_pos HMX.out,EX.out,← N3.out]
        have:=instrS_good HG.out (by rw[e]:(instrS L i).err=0)
        rw[e] at this
        exact this)
       have EN:=Lib.hid (rend_any W9 _ _ F9.out.own.led GE.out ((n3:Int)))
       unfold LedV.val at EN
       go_wp2_with (refine led_load (F9.out.at_.get 0 rfl) LE.out rfl rfl rfl ?_)
       refine EN.out.mono ?_
       obtain⟨a,ha⟩:∃ a,a=endA ({ L with instrs:=L.instrs++[x'],avail:=L.avail++[0] }:Led) ((n3:Int)):=⟨_,rfl⟩
       rw[← ha] at EE ⊢
       rintro e w7 ⟨U,rfl,own,hb⟩
       have OW:=Lib.hid own
       have BB:=Lib.hid hb
       have X7:=Lib.hid (F9.out.at_.go hb)
       have LU:=Lib.hid (ledc own.led)
       unfold LedV.val
       clear own hb ha EN
       go_simp
       go_wp2_with (refine led_store (X7.out.get 3 rfl) ledc0 LU.out rfl rfl rfl rfl ?_)
       exact bodyPost_ret (results_led1 rfl _ _ (setRow_heap _ _ _ _ _ _ (X7.out.get 3 rfl)) LU.out rfl) rfl (by simpa using end_ret F9.out.at_ BB.out OW.out (k:=3) rfl EE.out.symm rfl rfl rfl)
   ·have HOK:=Lib.hid (show ¬ i.noMark.Ok L.unders.length from by rw[← N2.out];exact hok)
    have hd:decide (i.noMark.Ok n2)=false:=decide_eq_false hok
    clear hok
    rw[hd]
    go_wp2_with fail
    refine (rno_any 32 _).mono ?_
    rintro e w9 ⟨rfl,hb⟩
    have XN:=Lib.hid (XX.out.go hb)
    clear hb
    go_wp2_with (refine led_store (cs:=led0) (XN.out.get 2 rfl) ledc0 ledc0 rfl rfl rfl rfl ?_)
    refine bodyPost_ret (results_led1 (cs:=led0) rfl _ _ (setRow_heap _ _ _ _ _ _ (XN.out.get 2 rfl)) ledc0 rfl) rfl (no_ret XN.out (k:=2) rfl (by rw[admA_err HG.out (by unfold instrS;rw[if_pos (by have:=N3.out;have:=HLT.out;omega),if_neg HOK.out];first|decide|exact HZ.out)];unfold instrS;rw[if_pos (by have:=N3.out;have:=HLT.out;omega),if_neg HOK.out];rfl))
 ·refine (GD.out W0 X0.out.low false (decide_eq_false hg)).mono ?_
  rintro e w1 ⟨rfl,hb⟩
  have XX:=Lib.hid (X0.out.go hb)
  have HG:=Lib.hid hg
  clear hb X0 hg GD
  go_wp2_with fail
  refine (rno_any 43 _).mono ?_
  rintro e w9 ⟨rfl,hb⟩
  have XN:=Lib.hid (XX.out.go hb)
  clear hb
  go_wp2_with (refine led_store (cs:=led0) (XN.out.get 2 rfl) ledc0 ledc0 rfl rfl rfl rfl ?_)
  refine bodyPost_ret (results_led1 (cs:=led0) rfl _ _ (setRow_heap _ _ _ _ _ _ (XN.out.get 2 rfl)) ledc0 rfl) rfl (no_ret XN.out (k:=2) rfl (admA_bad HG.out _))
end Go.Proofs.YtnkpdfjnjmmleaaGreatDoor

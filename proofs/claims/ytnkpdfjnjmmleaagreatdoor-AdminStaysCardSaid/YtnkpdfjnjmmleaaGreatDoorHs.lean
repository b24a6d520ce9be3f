/- Joined: LawRS, MiRS. -/
import Derived.Test.YtnkpdfjnjmmleaaGreatDoorAfter
import Derived.Test.YtnkpdfjnjmmleaaGreatDoorHe
import Derived.Test.YtnkpdfjnjmmleaaGreatDoorHd
import Derived.Test.YtnkpdfjnjmmleaaGreatDoorGn
import Derived.Test.YtnkpdfjnjmmleaaGreatDoorGk
import Derived.Test.YtnkpdfjnjmmleaaGreatDoorHq
set_option linter.unusedVariables false
set_option linter.unusedSimpArgs false
set_option maxRecDepth 100000
set_option maxHeartbeats 16000000
namespace Go.Proofs.YtnkpdfjnjmmleaaGreatDoor
open Go.RowKit Go.Bw Go.Maps Go.Shelf Go.Bw.Fall
theorem adminStays_law (w:World) (V:LedV) (L:Led) (h:LedAt w V L) (hs0:L.Short) (hG:Grd w) (c:Cal) (hu:c.u.name.size <= maxLen) (hx:I64 c.c) :
 Calls Tryz.prog 9 #[V.val L,.agg c.cells] w fun e w'=>e=.returned (.bool true) /\ Below w.heap.size w w':=by
 classical
 have GR:=zq (fun W (hb:Below w.heap.size w W)=>hG.below hb)
 have HH:=zq (fun W (hb:Below w.heap.size w W)=>h.below hb)
 have SH:=zq hs0
 have HX:=zq (And.intro hu hx)
 have WK:=zq (fun W (hb:Below w.heap.size w W)=>wakes18_any W (hG.below hb))
 have WD:=zq (fun W (hb:Below w.heap.size w W)=>wide_any W V L (h.below hb) hs0)
 have LC:=zq (ledc h)
 have BK:=zq (show ¬ 1024<L.bulk -> L.accts.length <= 1024 /\ L.bulk <= 1000000 from fun hb=>by unfold Led.bulk at hb ⊢;omega)
 have AF:=zq (fun W (hb:Below w.heap.size w W) (hL:L.accts.length <= 1024)=>after_any W V L (h.below hb) hL (hG.below hb) c hu hx)
 have GD:=zq (fun W (hb:Below w.heap.size w W) (hL:L.accts.length <= 1024) (B:Bool) (hB:decide L.Good=B)=>show Calls Tryz.prog 34 #[V.val L] W fun e x=>e=.returned (.bool B) /\ Below W.heap.size W x from good_to (h.below hb) hL hB)
 unfold LedV.val at WD AF GD ⊢
 unfold Cal.cells
 obtain⟨C,hC⟩:∃ C,C=V.cells L:=⟨_,rfl⟩
 have EC:=zq hC
 rw[<- hC] at WD LC AF GD ⊢
 obtain⟨BB,hBB⟩:∃ B,B=decide (1024<L.bulk):=⟨_,rfl⟩
 rw[<- hBB] at WD
 have HB:=zq hBB
 obtain⟨W0,hW0⟩:∃ s,s=(w.alloc (.cells C 31)).alloc (.cells #[.int .i64 c.kind,.int .i64 c.a,.int .i64 c.b,.int .i64 c.c,.string c.u.name,.int .i64 c.u.cur,.int .i64 c.u.price,.int .i64 c.u.vol,.int .i64 c.i.kind,.int .i64 c.i.under,.int .i64 c.i.mult,.int .i64 c.i.strike,.int .i64 c.i.expiry,.bool c.i.call,.int .i64 c.i.mark] 51):=⟨_,rfl⟩
 obtain⟨b0,hb0⟩:∃ n,n=w.heap.size:=⟨_,rfl⟩
 have X0:=zq (show At w W0 [(b0, 31,C),(b0+1, 51,#[.int .i64 c.kind,.int .i64 c.a,.int .i64 c.b,.int .i64 c.c,.string c.u.name,.int .i64 c.u.cur,.int .i64 c.u.price,.int .i64 c.u.vol,.int .i64 c.i.kind,.int .i64 c.i.under,.int .i64 c.i.mult,.int .i64 c.i.strike,.int .i64 c.i.expiry,.bool c.i.call,.int .i64 c.i.mark])] from by
  have a:=(((At.start w).alloc 31 C).alloc 51 #[.int .i64 c.kind,.int .i64 c.a,.int .i64 c.b,.int .i64 c.c,.string c.u.name,.int .i64 c.u.cur,.int .i64 c.u.price,.int .i64 c.u.vol,.int .i64 c.i.kind,.int .i64 c.i.under,.int .i64 c.i.mult,.int .i64 c.i.strike,.int .i64 c.i.expiry,.bool c.i.call,.int .i64 c.i.mark])
  have e:∀ (w:World) (o:Obj),(w.alloc o).heap.size=w.heap.size+1:=fun w o=>by simp
  simp only[e] at a
  rw[<- hW0,<- hb0] at a
  exact a)
 clear h hs0 hG hC hBB hu hx
 go_enter Tryz.func9,Tryz.ntmps9
 go_upto_region 1 with (fail)
 rw[<- hW0,<- hb0]
 clear hW0 hb0
 go_wp2_with fail
 refine (WK.o W0 X0.o.low).mono ?_
 rintro e w1 ⟨rfl,hb⟩
 have X1:=zq (X0.o.go hb)
 clear hb X0
 go_wp2_with (refine led_load (X1.o.get 0 rfl) LC.o rfl rfl rfl ?_)
 refine (WD.o w1 X1.o.low).mono ?_
 rintro e w2 ⟨rfl,hb⟩
 have X2:=zq (X1.o.go hb)
 clear hb X1
 cases hbb:BB with
 | true =>
   subst hbb
   go_wp2_with fail
   go_ret
   exact⟨rfl,X2.o.low⟩
 | false =>
   subst hbb
   have HL:=zq (BK.o (of_decide_eq_false HB.o.symm))
   obtain⟨M,num,er,hM⟩:∃ M num er,admA L (c.adm L)=(M,num,er):=⟨_,_,_,rfl⟩
   have EM:=zq hM
   have CC:=zq (AF.o w2 X2.o.low HL.o.1)
   rw[hM] at CC
   have SM:=zq (show M.Short from by have:=admA_short L (c.adm L);rw[hM] at this;exact this)
   clear hM AF
   have z0:w2.cell? ⟨b0+1,0,none⟩=some (.int .i64 c.kind):=X2.o.cell 1 rfl 0 rfl
   have z1:w2.cell? ⟨b0+1,1,none⟩=some (.int .i64 c.a):=X2.o.cell 1 rfl 1 rfl
   have z2:w2.cell? ⟨b0+1,2,none⟩=some (.int .i64 c.b):=X2.o.cell 1 rfl 2 rfl
   have z3:w2.cell? ⟨b0+1,3,none⟩=some (.int .i64 c.c):=X2.o.cell 1 rfl 3 rfl
   have z4:w2.cell? ⟨b0+1,4,none⟩=some (.string c.u.name):=X2.o.cell 1 rfl 4 rfl
   have z5:w2.cell? ⟨b0+1,5,none⟩=some (.int .i64 c.u.cur):=X2.o.cell 1 rfl 5 rfl
   have z6:w2.cell? ⟨b0+1,6,none⟩=some (.int .i64 c.u.price):=X2.o.cell 1 rfl 6 rfl
   have z7:w2.cell? ⟨b0+1,7,none⟩=some (.int .i64 c.u.vol):=X2.o.cell 1 rfl 7 rfl
   have z8:w2.cell? ⟨b0+1,8,none⟩=some (.int .i64 c.i.kind):=X2.o.cell 1 rfl 8 rfl
   have z9:w2.cell? ⟨b0+1,9,none⟩=some (.int .i64 c.i.under):=X2.o.cell 1 rfl 9 rfl
   have z10:w2.cell? ⟨b0+1,10,none⟩=some (.int .i64 c.i.mult):=X2.o.cell 1 rfl 10 rfl
   have z11:w2.cell? ⟨b0+1,11,none⟩=some (.int .i64 c.i.strike):=X2.o.cell 1 rfl 11 rfl
   have z12:w2.cell? ⟨b0+1,12,none⟩=some (.int .i64 c.i.expiry):=X2.o.cell 1 rfl 12 rfl
   have z13:w2.cell? ⟨b0+1,13,none⟩=some (.bool c.i.call):=X2.o.cell 1 rfl 13 rfl
   have z14:w2.cell? ⟨b0+1,14,none⟩=some (.int .i64 c.i.mark):=X2.o.cell 1 rfl 14 rfl
   go_wp2_with (refine led_load (X2.o.get 0 rfl) LC.o rfl rfl rfl ?_)
   refine CC.o.mono ?_
   rintro e u ⟨U,rfl,own,hb⟩
   have Y:=zq (X2.o.go hb)
   have OW:=zq own
   have BL:=zq hb
   have LU:=zq (ledc own.led)
   unfold LedV.val
   clear own hb z0 z1 z2 z3 z4 z5 z6 z7 z8 z9 z10 z11 z12 z13 z14
   go_simp
   go_upto_region 6 with (refine led_store (heap_alloc_last _ _) ledc0 LU.o rfl rfl rfl rfl ?_;rw[World.setRow_alloc_new])
   obtain⟨W4,hW4⟩:∃ s,s=u.alloc (.cells (U.cells M) 31):=⟨_,rfl⟩
   obtain⟨b5,hb5⟩:∃ n,n=u.heap.size:=⟨_,rfl⟩
   have X4:=zq (show At w W4 [(b0, 31,C),(b0+1, 51,#[.int .i64 c.kind,.int .i64 c.a,.int .i64 c.b,.int .i64 c.c,.string c.u.name,.int .i64 c.u.cur,.int .i64 c.u.price,.int .i64 c.u.vol,.int .i64 c.i.kind,.int .i64 c.i.under,.int .i64 c.i.mult,.int .i64 c.i.strike,.int .i64 c.i.expiry,.bool c.i.call,.int .i64 c.i.mark]),(b5, 31,U.cells M)] from by rw[hW4,hb5];exact Y.o.alloc _ _)
   have OM:=zq (show LedOwn W4 w2.heap.size U M from by rw[hW4];exact OW.o.below ((Below.refl _ _).alloc (Nat.le_refl _) _))
   rw[<- hW4,<- hb5]
   clear hW4 hb5 Y OW CC
   by_cases hgd:L.Good
   rotate_left
   ·have GX:=zq (GD.o W4 X4.o.low HL.o.1 false (decide_eq_false hgd))
    have ZZ:=zq (show M=L0 /\ er=43 from by
     have:=EM.o
     rw[admA_bad hgd] at this
     injection this with e1 e2
     injection e2 with _ e3
     exact⟨e1.symm,e3.symm⟩)
    obtain⟨a4,c4,e4⟩:=OM.o.led.accts.form
    have hz4:U.ac.length=0:=by
     have:=OM.o.led.same
     rw[ZZ.o.1] at this
     have:=congrArg List.length this
     rw[List.length_map] at this
     exact this.symm
    rw[hz4] at e4
    obtain rfl:=ZZ.o.2
    go_wp2_with (refine led_load (X4.o.get 0 rfl) LC.o rfl rfl rfl ?_)
    refine GX.o.mono ?_
    rintro e w5 ⟨rfl,hb⟩
    have X5:=zq (X4.o.go hb)
    clear hb
    have y4:w5.cell? ⟨b5,4,none⟩=some (.slice a4 0 c4):=X5.o.cell 2 rfl 4 (by rw[<- e4];rfl)
    go_wp2_with fail
    go_ret
    exact⟨rfl,X5.o.low⟩
   have GX:=zq (GD.o W4 X4.o.low HL.o.1 true (decide_eq_true hgd))
   have HGD:=zq hgd
   clear hgd GD
   go_wp2_with (refine led_load (X4.o.get 0 rfl) LC.o rfl rfl rfl ?_)
   refine GX.o.mono ?_
   rintro e w5 ⟨rfl,hb⟩
   have X5:=zq (X4.o.go hb)
   have OM5:=zq (OM.o.below hb)
   clear hb GX X4 OM
   by_cases he:er=0
   rotate_left
   ·have heb:(er != 0)=true:=by simp[he]
    have ZZ:=zq (show M=L0 from by
     have h1:=(admA_no (L:=L) (r:=c.adm L) (by rw[EM.o];exact he)).1
     rw[EM.o] at h1
     exact h1)
    obtain⟨a4,c4,e4⟩:=OM5.o.led.accts.form
    have hz4:U.ac.length=0:=by
     have:=OM5.o.led.same
     rw[ZZ.o] at this
     have:=congrArg List.length this
     rw[List.length_map] at this
     exact this.symm
    rw[hz4] at e4
    have y4:w5.cell? ⟨b5,4,none⟩=some (.slice a4 0 c4):=X5.o.cell 2 rfl 4 (by rw[<- e4];rfl)
    go_wp2_with fail
    go_ret
    exact⟨rfl,X5.o.low⟩
   subst he
   have ST:=zq (show M.Good /\ flagsA M=(M,0) from by
    have h1:(admA L (c.adm L)).2.2=0:=by rw[EM.o]
    have:=admA_stays (L:=L) (k:=c.k) (A:=c.a) (B:=c.b) (C:=c.c) (u:=c.u) (i:=c.i) h1
    have e:admA L (admS L c.k c.a c.b c.c c.u c.i)=(M,num,0):=EM.o
    rw[e] at this
    exact this)
   have ML:=zq (good_bulk ST.o.1)
   have FL:=zq (flags_ret w5 U M OM5.o.led (by have:=ML.o.2.2;omega) (GR.o w5 X5.o.low))
   rw[ST.o.2] at FL
   unfold LedV.val at FL
   go_wp2_with (refine led_load (X5.o.get 2 rfl) LU.o rfl rfl rfl ?_)
   refine FL.o.mono ?_
   rintro e w6 ⟨U2,rfl,own,hb⟩
   have X6:=zq (X5.o.go hb)
   have OM6:=zq (OM5.o.below hb)
   have OF:=zq own
   have L2:=zq (ledc own.led)
   unfold LedV.val
   clear own hb FL X5 OM5
   go_simp
   go_upto_region 11 with (refine led_store (heap_alloc_last _ _) ledc0 L2.o rfl rfl rfl rfl ?_;rw[World.setRow_alloc_new])
   obtain⟨W7,hW7⟩:∃ s,s=w6.alloc (.cells (U2.cells M) 31):=⟨_,rfl⟩
   obtain⟨b7,hb7⟩:∃ n,n=w6.heap.size:=⟨_,rfl⟩
   have X7:=zq (show At w W7 [(b0, 31,C),(b0+1, 51,#[.int .i64 c.kind,.int .i64 c.a,.int .i64 c.b,.int .i64 c.c,.string c.u.name,.int .i64 c.u.cur,.int .i64 c.u.price,.int .i64 c.u.vol,.int .i64 c.i.kind,.int .i64 c.i.under,.int .i64 c.i.mult,.int .i64 c.i.strike,.int .i64 c.i.expiry,.bool c.i.call,.int .i64 c.i.mark]),(b5, 31,U.cells M),(b7, 31,U2.cells M)] from by rw[hW7,hb7];exact X6.o.alloc _ _)
   have OM7:=zq (show LedOwn W7 w2.heap.size U M from by rw[hW7];exact OM6.o.below ((Below.refl _ _).alloc (Nat.le_refl _) _))
   have OF7:=zq (show LedOwn W7 w5.heap.size U2 M from by rw[hW7];exact OF.o.below ((Below.refl _ _).alloc (Nat.le_refl _) _))
   rw[<- hW7,<- hb7]
   clear hW7 hb7 X6 OM6 OF
   have GM:=zq (show Calls Tryz.prog 34 #[U.val M] W7 fun e w'=>e=.returned (.bool true) /\ Below W7.heap.size W7 w' from good_to OM7.o.led (by have:=ML.o.2.2;omega) (decide_eq_true ST.o.1))
   unfold LedV.val at GM
   go_wp2_with (refine led_load (X7.o.get 2 rfl) LU.o rfl rfl rfl ?_)
   refine GM.o.mono ?_
   rintro e w8 ⟨rfl,hb⟩
   have X8:=zq (X7.o.go hb)
   have SQ:=zq (lsame_any w8 U U2 M M (OM7.o.below hb).led (OF7.o.below hb).led SM.o (fun a ha=>by have:=ML.o.2.1 a ha;omega))
   rw[eqB_yes rfl] at SQ
   unfold LedV.val at SQ
   clear hb GM
   go_wp2_with (first|refine led_loadg (X8.o.get 2 rfl) LU.o (by rfl) rfl rfl ?_|refine led_loadg (X8.o.get 3 rfl) L2.o (by rfl) rfl rfl ?_)
   refine SQ.o.mono ?_
   rintro e w9 ⟨rfl,hb⟩
   have X9:=zq (X8.o.go hb)
   clear hb
   go_wp2_with fail
   go_ret
   exact⟨rfl,X9.o.low⟩
end Go.Proofs.YtnkpdfjnjmmleaaGreatDoor
namespace Go.Proofs.YtnkpdfjnjmmleaaGreatDoor
open Go.RowKit Go.Bw Go.Maps Go.WideShapes
theorem adminStays_in (W:World) (n0 n1:Array Value) (V0:HasVal Tryz.prog W 31 n0.toList) (V1:HasVal Tryz.prog W 51 n1.toList) (HL:Grd W) :
 Calls Tryz.prog 9 #[.agg n0,.agg n1] W fun e w'=>e=.returned (.bool true) /\ Below W.heap.size W w':=by
 obtain⟨V,l,e,h,s⟩:=led_in V0
 obtain⟨c,rfl,hu,hx⟩:=cal_in V1
 rw[e]
 exact adminStays_law W V l h s HL c hu hx
end Go.Proofs.YtnkpdfjnjmmleaaGreatDoor

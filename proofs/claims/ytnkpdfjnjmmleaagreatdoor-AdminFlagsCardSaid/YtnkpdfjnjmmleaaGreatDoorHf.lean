/- Joined: LawRF, MiRF. -/
import Derived.Test.YtnkpdfjnjmmleaaGreatDoorAfter
import Derived.Test.YtnkpdfjnjmmleaaGreatDoorHe
import Derived.Test.YtnkpdfjnjmmleaaGreatDoorGn
import Derived.Test.YtnkpdfjnjmmleaaGreatDoorAdmZ
import Derived.Test.YtnkpdfjnjmmleaaGreatDoorGk
import Derived.Test.YtnkpdfjnjmmleaaGreatDoorHq
set_option linter.unusedVariables false
set_option linter.unusedSimpArgs false
set_option maxRecDepth 100000
set_option maxHeartbeats 16000000
namespace Go.Proofs.YtnkpdfjnjmmleaaGreatDoor
open Go.RowKit Go.Bw Go.Maps Go.Shelf Go.Bw.Fall
theorem adminFlags_law (w:World) (V:LedV) (L:Led) (h:LedAt w V L) (hs0:L.Short) (hG:Grd w) (c:Cal) (hu:c.u.name.size <= maxLen) (hx:I64 c.c) :
 Calls Tryz.prog 7 #[V.val L,.agg c.cells] w fun e w'=>e=.returned (.bool true) /\ Below w.heap.size w w':=by
 classical
 have GR:=zq (fun W (hb:Below w.heap.size w W)=>hG.below hb)
 have HH:=zq (fun W (hb:Below w.heap.size w W)=>h.below hb)
 have SH:=zq hs0
 have HX:=zq (And.intro hu hx)
 have WK:=zq (fun W (hb:Below w.heap.size w W)=>wakes18_any W (hG.below hb))
 have WD:=zq (fun W (hb:Below w.heap.size w W)=>wide_any W V L (h.below hb) hs0)
 have LC:=zq (ledc h)
 have BK:=zq (show ¬ 1024<L.bulk -> L.accts.length <= 1024 /\ L.bulk <= 1000000 from fun hb=>by unfold Led.bulk at hb ⊢;omega)
 have FL:=zq (fun W (hb:Below w.heap.size w W) (hL:L.accts.length <= 1024)=>flags_ret W V L (h.below hb) hL (hG.below hb))
 obtain⟨a1,c1,e1⟩:=h.curs.form
 obtain⟨n1,hn1⟩:∃ n,n=L.curs.length:=⟨_,rfl⟩
 rw[<- hn1] at e1
 have Y1:=zq (show (V.cells L)[1]?=some (.slice a1 n1 c1) from by rw[<- e1];rfl)
 have N1:=zq hn1
 clear e1 hn1
 unfold LedV.val at WD FL ⊢
 unfold Cal.cells
 obtain⟨C,hC⟩:∃ C,C=V.cells L:=⟨_,rfl⟩
 have EC:=zq hC
 rw[<- hC] at WD LC FL Y1 ⊢
 obtain⟨BB,hBB⟩:∃ B,B=decide (1024<L.bulk):=⟨_,rfl⟩
 rw[<- hBB] at WD
 have HB:=zq hBB
 obtain⟨W0,hW0⟩:∃ s,s=(w.alloc (.cells C 31)).alloc (.cells #[.int .i64 c.kind,.int .i64 c.a,.int .i64 c.b,.int .i64 c.c,.string c.u.name,.int .i64 c.u.cur,.int .i64 c.u.price,.int .i64 c.u.vol,.int .i64 c.i.kind,.int .i64 c.i.under,.int .i64 c.i.mult,.int .i64 c.i.strike,.int .i64 c.i.expiry,.bool c.i.call,.int .i64 c.i.mark] 51):=⟨_,rfl⟩
 obtain⟨b0,hb0⟩:∃ n,n=w.heap.size:=⟨_,rfl⟩
 have X0:=zq (show At w W0 [(b0, 31,C),(b0+1, 51,#[.int .i64 c.kind,.int .i64 c.a,.int .i64 c.b,.int .i64 c.c,.string c.u.name,.int .i64 c.u.cur,.int .i64 c.u.price,.int .i64 c.u.vol,.int .i64 c.i.kind,.int .i64 c.i.under,.int .i64 c.i.mult,.int .i64 c.i.strike,.int .i64 c.i.expiry,.bool c.i.call,.int .i64 c.i.mark])] from by
  have a:=(((At.start w).alloc 31 C).alloc 51 #[.int .i64 c.kind,.int .i64 c.a,.int .i64 c.b,.int .i64 c.c,.string c.u.name,.int .i64 c.u.cur,.int .i64 c.u.price,.int .i64 c.u.vol,.int .i64 c.i.kind,.int .i64 c.i.under,.int .i64 c.i.mult,.int .i64 c.i.strike,.int .i64 c.i.expiry,.bool c.i.call,.int .i64 c.i.mark])
  have e:∀ (w:World) (o:Obj),(w.alloc o).heap.size=w.heap.size+1:=fun w o=>by simp
  simp only[e] at a
  rw[<- hW0,<- hb0] at a
  exact a)
 clear h hs0 hG hC hBB hu hx
 go_enter Tryz.func7,Tryz.ntmps7
 go_upto_region 1 with (fail)
 rw[<- hW0,<- hb0]
 clear hW0 hb0
 go_wp2_with fail
 refine (WK.o W0 X0.o.low).mono ?_
 rintro e w1 ⟨rfl,hb⟩
 have X1:=zq (X0.o.go hb)
 clear hb X0
 go_wp2_with (refine led_load (X1.o.get 0 rfl) LC.o rfl rfl rfl ?_)
 refine (WD.o w1 X1.o.low).mono ?_
 rintro e w2 ⟨rfl,hb⟩
 have X2:=zq (X1.o.go hb)
 clear hb X1
 cases hbb:BB with
 | true =>
   subst hbb
   go_wp2_with fail
   go_ret
   exact⟨rfl,X2.o.low⟩
 | false =>
   subst hbb
   have HL:=zq (BK.o (of_decide_eq_false HB.o.symm))
   obtain⟨R,e0,hR⟩:∃ R e0,flagsA L=(R,e0):=⟨_,_,rfl⟩
   have ER:=zq hR
   have CF:=zq (FL.o w2 X2.o.low HL.o.1)
   rw[hR] at CF
   clear hR FL
   go_wp2_with (refine led_load (X2.o.get 0 rfl) LC.o rfl rfl rfl ?_)
   refine CF.o.mono ?_
   rintro e u ⟨U1,rfl,own,hb⟩
   have Y:=zq (X2.o.go hb)
   have OW:=zq own
   have LU:=zq (ledc own.led)
   unfold LedV.val
   clear own hb CF
   go_simp
   go_upto_region 6 with (refine led_store (heap_alloc_last _ _) ledc0 LU.o rfl rfl rfl rfl ?_;rw[World.setRow_alloc_new])
   obtain⟨W4,hW4⟩:∃ s,s=u.alloc (.cells (U1.cells R) 31):=⟨_,rfl⟩
   obtain⟨b5,hb5⟩:∃ n,n=u.heap.size:=⟨_,rfl⟩
   have X4:=zq (show At w W4 [(b0, 31,C),(b0+1, 51,#[.int .i64 c.kind,.int .i64 c.a,.int .i64 c.b,.int .i64 c.c,.string c.u.name,.int .i64 c.u.cur,.int .i64 c.u.price,.int .i64 c.u.vol,.int .i64 c.i.kind,.int .i64 c.i.under,.int .i64 c.i.mult,.int .i64 c.i.strike,.int .i64 c.i.expiry,.bool c.i.call,.int .i64 c.i.mark]),(b5, 31,U1.cells R)] from by rw[hW4,hb5];exact Y.o.alloc _ _)
   have OR:=zq (show LedOwn W4 w2.heap.size U1 R from by rw[hW4];exact OW.o.below ((Below.refl _ _).alloc (Nat.le_refl _) _))
   rw[<- hW4,<- hb5]
   clear hW4 hb5 Y OW
   by_cases he0:e0=0
   rotate_left
   ·have heb:(e0 != 0)=true:=by simp[he0]
    go_wp2_with fail
    go_ret
    exact⟨rfl,X4.o.low⟩
   subst he0
   have GD:=zq (show R.Good /\ flagsO R=some R /\ R.curs=L.curs from by
    by_cases hg:L.Good
    ·have h1:=flagsA_good hg (by rw[ER.o])
     rw[ER.o] at h1
     exact⟨h1.2,flagsO_again h1.1,by rw[(flagsO_only (show flagsO L=some R from h1.1)).1]⟩
    ·have:=ER.o
     unfold flagsA at this
     rw[if_neg hg] at this
     injection this with _ e
     cases e)
   have BR:=zq (good_bulk GD.o.1)
   obtain⟨M,num,er,hM⟩:∃ M num er,admA R (c.adm R)=(M,num,er):=⟨_,_,_,rfl⟩
   have EM:=zq hM
   have CC:=zq (after_any W4 U1 R OR.o.led (by have:=BR.o.2.2;omega) (GR.o W4 X4.o.low) c HX.o.1 HX.o.2)
   rw[hM] at CC
   unfold LedV.val Cal.cells at CC
   clear hM
   have z0:W4.cell? ⟨b0+1,0,none⟩=some (.int .i64 c.kind):=X4.o.cell 1 rfl 0 rfl
   have z1:W4.cell? ⟨b0+1,1,none⟩=some (.int .i64 c.a):=X4.o.cell 1 rfl 1 rfl
   have z2:W4.cell? ⟨b0+1,2,none⟩=some (.int .i64 c.b):=X4.o.cell 1 rfl 2 rfl
   have z3:W4.cell? ⟨b0+1,3,none⟩=some (.int .i64 c.c):=X4.o.cell 1 rfl 3 rfl
   have z4:W4.cell? ⟨b0+1,4,none⟩=some (.string c.u.name):=X4.o.cell 1 rfl 4 rfl
   have z5:W4.cell? ⟨b0+1,5,none⟩=some (.int .i64 c.u.cur):=X4.o.cell 1 rfl 5 rfl
   have z6:W4.cell? ⟨b0+1,6,none⟩=some (.int .i64 c.u.price):=X4.o.cell 1 rfl 6 rfl
   have z7:W4.cell? ⟨b0+1,7,none⟩=some (.int .i64 c.u.vol):=X4.o.cell 1 rfl 7 rfl
   have z8:W4.cell? ⟨b0+1,8,none⟩=some (.int .i64 c.i.kind):=X4.o.cell 1 rfl 8 rfl
   have z9:W4.cell? ⟨b0+1,9,none⟩=some (.int .i64 c.i.under):=X4.o.cell 1 rfl 9 rfl
   have z10:W4.cell? ⟨b0+1,10,none⟩=some (.int .i64 c.i.mult):=X4.o.cell 1 rfl 10 rfl
   have z11:W4.cell? ⟨b0+1,11,none⟩=some (.int .i64 c.i.strike):=X4.o.cell 1 rfl 11 rfl
   have z12:W4.cell? ⟨b0+1,12,none⟩=some (.int .i64 c.i.expiry):=X4.o.cell 1 rfl 12 rfl
   have z13:W4.cell? ⟨b0+1,13,none⟩=some (.bool c.i.call):=X4.o.cell 1 rfl 13 rfl
   have z14:W4.cell? ⟨b0+1,14,none⟩=some (.int .i64 c.i.mark):=X4.o.cell 1 rfl 14 rfl
   go_wp2_with (refine led_load (X4.o.get 2 rfl) LU.o rfl rfl rfl ?_)
   refine CC.o.mono ?_
   rintro e u2 ⟨U2,rfl,own,hb⟩
   have Y2:=zq (X4.o.go hb)
   have OW2:=zq own
   have BL2:=zq hb
   have LU2:=zq (ledc own.led)
   unfold LedV.val
   clear own hb z0 z1 z2 z3 z4 z5 z6 z7 z8 z9 z10 z11 z12 z13 z14
   go_simp
   have OR2:=zq (OR.o.below BL2.o)
   go_upto_region 9 with (refine led_store (heap_alloc_last _ _) ledc0 LU2.o rfl rfl rfl rfl ?_;rw[World.setRow_alloc_new])
   obtain⟨W6,hW6⟩:∃ s,s=u2.alloc (.cells (U2.cells M) 31):=⟨_,rfl⟩
   obtain⟨b7,hb7⟩:∃ n,n=u2.heap.size:=⟨_,rfl⟩
   have X6:=zq (show At w W6 [(b0, 31,C),(b0+1, 51,#[.int .i64 c.kind,.int .i64 c.a,.int .i64 c.b,.int .i64 c.c,.string c.u.name,.int .i64 c.u.cur,.int .i64 c.u.price,.int .i64 c.u.vol,.int .i64 c.i.kind,.int .i64 c.i.under,.int .i64 c.i.mult,.int .i64 c.i.strike,.int .i64 c.i.expiry,.bool c.i.call,.int .i64 c.i.mark]),(b5, 31,U1.cells R),(b7, 31,U2.cells M)] from by rw[hW6,hb7];exact Y2.o.alloc _ _)
   have OR6:=zq (show LedOwn W6 w2.heap.size U1 R from by rw[hW6];exact OR2.o.below ((Below.refl _ _).alloc (Nat.le_refl _) _))
   have OM6:=zq (show LedOwn W6 W4.heap.size U2 M from by rw[hW6];exact OW2.o.below ((Below.refl _ _).alloc (Nat.le_refl _) _))
   rw[<- hW6,<- hb7]
   clear hW6 hb7 Y2 OW2 OR OR2 CC X4 BL2
   have z0:W6.cell? ⟨b0+1,0,none⟩=some (.int .i64 c.kind):=X6.o.cell 1 rfl 0 rfl
   have KK:=zq (show ((c.k:Nat):Int)=c.kind % 8 /\ c.k<8 from by unfold Cal.k;omega)
   obtain⟨k,hk⟩:∃ k,k=c.k:=⟨_,rfl⟩
   rw[<- hk] at KK
   have EK:=zq hk
   have hb7:bits .and .i64 c.kind 7=(k:Int):=by rw[and7];exact KK.o.1.symm
   clear hk
   go_upto_region 10 with fail
   clear z0 hb7
   by_cases he:er=0
   rotate_left
   ·have heb:(er != 0)=true:=by simp[he]
    go_wp2_with fail
    go_ret
    exact⟨rfl,X6.o.low⟩
   subst he
   have FF:=zq (show R.accts.length <= M.accts.length /\ ∀ (v:Nat) (p q:Go.Bw.Acc),R.accts[v]?=some p -> M.accts[v]?=some q -> k≠0 -> (k=1 -> ¬ c.a<(n1:Int)) -> (k=2 -> 0 <= c.c) -> (q.flag=true -> p.flag=true) /\ (k≠2 -> q.flag=p.flag) from by
    have h1:=admA_yes (L:=R) (r:=c.adm R) (by rw[EM.o])
    have h2:=flagsA_good (admS_good GD.o.1 h1.2.1) h1.2.2.1
    have h3:(flagsA (c.adm R).led).1=M:=by rw[<- h1.2.2.2.1,EM.o]
    have h4:flagsO (c.adm R).led=some M:=by rw[<- h3];exact h2.1
    refine⟨?_,fun v p q hp hq k0 k1 k2=>?_⟩
    ·rw[(flagsO_only h4).2.1]
     exact admS_len h1.2.1
    ·rw[EK.o] at k0 k1 k2 ⊢
     exact admS_flags GD.o.1 GD.o.2.1 h1.2.1 h4 k0 (fun e=>by rw[GD.o.2.2,<- N1.o];exact k1 e) k2 hp hq)
   by_cases k0:k=0
   ·have kb:((k:Int)==0)=true:=by simp[k0]
    go_wp2_with fail
    go_ret
    exact⟨rfl,X6.o.low⟩
   have kb0:((k:Int)==0)=false:=by rw[beq_eq_false_iff_ne];omega
   have y1:W6.cell? ⟨b0,1,none⟩=some (.slice a1 n1 c1):=X6.o.cell 0 rfl 1 Y1.o
   have y2:W6.cell? ⟨b0+1,1,none⟩=some (.int .i64 c.a):=X6.o.cell 1 rfl 1 rfl
   have y3:W6.cell? ⟨b0+1,3,none⟩=some (.int .i64 c.c):=X6.o.cell 1 rfl 3 rfl
   obtain⟨a4,d4,h4⟩:=OR6.o.led.accts.form
   obtain⟨a5,d5,h5⟩:=OM6.o.led.accts.form
   obtain⟨n4,hn4⟩:∃ n,n=U1.ac.length:=⟨_,rfl⟩
   obtain⟨n5,hn5⟩:∃ n,n=U2.ac.length:=⟨_,rfl⟩
   rw[<- hn4] at h4
   rw[<- hn5] at h5
   have N4:=zq (show n4=U1.ac.length /\ n5=U2.ac.length /\ n4 <= n5 /\ n4 <= 16 from by
    have h1:=congrArg List.length OR6.o.led.same
    have h2:=congrArg List.length OM6.o.led.same
    rw[List.length_map] at h1 h2
    have:=FF.o.1
    have:=BR.o.2.2
    omega)
   have G4:=zq (show (U1.cells R)[4]?=some (.slice a4 n4 d4) /\ (U2.cells M)[4]?=some (.slice a5 n5 d5) from ⟨by rw[<- h4];rfl,by rw[<- h5];rfl⟩)
   have RR:=zq (show ∀ W,Below W6.heap.size W6 W -> RowOf W 4 Acc.cells (.slice a4 n4 d4) U1.ac /\ RowOf W 4 Acc.cells (.slice a5 n5 d5) U2.ac from fun W hb=>⟨by rw[<- h4];exact (OR6.o.led.below hb).accts,by rw[<- h5];exact (OM6.o.led.below hb).accts⟩)
   have SM:=zq (And.intro OR6.o.led.same OM6.o.led.same)
   clear h4 h5 hn4 hn5 LU LU2 EM OR6 OM6 GD BR
   have K0:=zq k0
   clear k0
   by_cases k1:k=1
   ·have kb1:((k:Int)==1)=true:=by simp[k1]
    have kb2:((k:Int)==2)=false:=by rw[beq_eq_false_iff_ne];omega
    by_cases ha:c.a<(n1:Int)
    ·clear k1
     go_wp2_with fail
     go_ret
     exact⟨rfl,X6.o.low⟩
    have FLG:=zq (fun v p q hp hq=>FF.o.2 v p q hp hq K0.o (fun _=>ha) (fun e=>by omega))
    have K2:=zq (show k≠2 from by omega)
    have kbn:((k:Int) != 2)=true:=by rw[bne,kb2];rfl
    clear k1
    go_upto_region 12 with fail
    clear y1 y2 y3
    have x4:W6.cell? ⟨b5,4,none⟩=some (.slice a4 n4 d4):=X6.o.cell 2 rfl 4 G4.o.1
    go_wp2_with fail
    clear x4
    go_loopw [60] (fun i wr=>∃ j:Nat,j <= n4 /\ i=.int .i64 j /\ ∃ W,W=wr /\ Hid (At w W [(b0, 31,C),(b0+1, 51,#[.int .i64 c.kind,.int .i64 c.a,.int .i64 c.b,.int .i64 c.c,.string c.u.name,.int .i64 c.u.cur,.int .i64 c.u.price,.int .i64 c.u.vol,.int .i64 c.i.kind,.int .i64 c.i.under,.int .i64 c.i.mult,.int .i64 c.i.strike,.int .i64 c.i.expiry,.bool c.i.call,.int .i64 c.i.mark]),(b5, 31,U1.cells R),(b7, 31,U2.cells M)] /\ Below W6.heap.size W6 W)) (fun i _=>n4 - (intOf i).toNat)
    case atStart=>exact⟨0,Nat.zero_le _,rfl,_,rfl,zq ⟨X6.o,Below.refl _ _⟩⟩
    case round =>
     clear X6
     obtain⟨j,hj,rfl,W,rfl,XB⟩:=hrel
     by_cases hlt:j<n4
     ·have hlt':(j:Int)<(n4:Int):=by omega
      have hlt5:(j:Int)<(n5:Int):=by have:=N4.o;omega
      have hj16:j <= 16:=by have:=N4.o;omega
      have LT_:=zq hlt
      obtain⟨p,hp⟩:∃ p,U1.ac[j]?=some p:=⟨_,List.getElem?_eq_getElem (by have:=N4.o;omega)⟩
      obtain⟨q,hq⟩:∃ q,U2.ac[j]?=some q:=⟨_,List.getElem?_eq_getElem (by have:=N4.o;omega)⟩
      have FQ:=zq (FLG.o j p.1 q.1 (by rw[SM.o.1,List.getElem?_map,hp];rfl) (by rw[SM.o.2,List.getElem?_map,hq];rfl))
      have rows:=RR.o W XB.o.2
      obtain⟨g,o,eg,_,hcp⟩:=rows.1.at_ hp
      obtain⟨g',o',eg',_,hcq⟩:=rows.2.at_ hq
      obtain⟨fp,hfp⟩:∃ f,f=p.1.flag:=⟨_,rfl⟩
      obtain⟨fq,hfq⟩:∃ f,f=q.1.flag:=⟨_,rfl⟩
      rw[<- hfp,<- hfq] at FQ
      have cp:W.cell? ⟨g,o+j*4+2,none⟩=some (.bool fp):=by rw[hfp];exact hcp 2 _ rfl
      have cq:W.cell? ⟨g',o'+j*4+2,none⟩=some (.bool fq):=by rw[hfq];exact hcq 2 _ rfl
      have y4:W.cell? ⟨b5,4,none⟩=some (.slice a4 n4 d4):=XB.o.1.cell 2 rfl 4 G4.o.1
      have y5:W.cell? ⟨b7,4,none⟩=some (.slice a5 n5 d5):=XB.o.1.cell 3 rfl 4 G4.o.2
      subst eg
      subst eg'
      clear hp hq hcp hcq rows hfp hfq
      go_upto_region 15 with fail
      have BW:=zq (show At w W.drew [(b0, 31,C),(b0+1, 51,#[.int .i64 c.kind,.int .i64 c.a,.int .i64 c.b,.int .i64 c.c,.string c.u.name,.int .i64 c.u.cur,.int .i64 c.u.price,.int .i64 c.u.vol,.int .i64 c.i.kind,.int .i64 c.i.under,.int .i64 c.i.mult,.int .i64 c.i.strike,.int .i64 c.i.expiry,.bool c.i.call,.int .i64 c.i.mark]),(b5, 31,U1.cells R),(b7, 31,U2.cells M)] /\ Below W6.heap.size W6 W.drew from ⟨XB.o.1.drew,XB.o.2.trans ((Mod.refl (fun _=>False) W).drew.toBelow.mono XB.o.2.size)⟩)
      obtain rfl:fq=fp:=FQ.o.2 K2.o
      cases fq
      all_goals
       refine Fall2.wp_region_tree (C:=fun w'=>True) [] [] (.step 0 (.step 1 (.step 2 (.step 3 (.step 4 (.step 5 (.step 6 (.step 7 (.step 8 (.step 9 (.step 10 (.step 11 (.step 12 (.step 13 (.step 14 (.step 15 (.step 16 (.step 17 (.step 18 (.step 19 (.step 20 (.step 21 (.step 22 (.step 23 (.step 24 (.step 25 (.step 26 (.step 27 (.step 28 (.step 29 (.step 30 (.step 31 (.step 32 (.step 33 .leaf)))))))))))))))))))))))))))))))))) (fun _ _ _=>False) (by kernel_rfl) (fun _ _ _ h=>h.elim) (by kernel_rfl) trivial ?_
       refine Fall2.tree_still [0,1,2,3,4,5,6,7,8,9,10,11,12,13,14,15,16,17,18,19,20,21,22,23,24,25,26,27,28,29,30,31,32,33] (by kernel_rfl) ?_
       simp only[pickL,nth]
       repeat (go_big_quiet_step (fail))
       refine wpQuiet_nil ?_
       refine Fall2.tree_nil ?_
       go_simp
       clear y4 y5 cp cq
       go_wp2_with fail
       go_roundw
       case rel=>exact⟨j+1,by have:=LT_.o;omega,by go_num,_,rfl,BW⟩
       case measure=>have:=LT_.o;simp[intOf];omega
     ·have hlt':¬ (j:Int)<(n4:Int):=by omega
      obtain rfl:n4=j:=by omega
      have FIN:=zq XB.o.1.low
      go_wp2_with fail
      go_ret
      exact⟨rfl,FIN.o⟩
   ·have kb1:((k:Int)==1)=false:=by rw[beq_eq_false_iff_ne];omega
    by_cases k2:k=2
    ·have kb2:((k:Int)==2)=true:=by simp[k2]
     have kbn:((k:Int) != 2)=false:=by rw[bne,kb2];rfl
     by_cases hc:c.c<0
     ·clear k1 k2
      go_wp2_with fail
      go_ret
      exact⟨rfl,X6.o.low⟩
     have FLG:=zq (fun v p q hp hq=>FF.o.2 v p q hp hq K0.o (fun e=>absurd e k1) (fun _=>by omega))
     clear k1 k2
     go_upto_region 12 with fail
     clear y1 y2 y3
     have x4:W6.cell? ⟨b5,4,none⟩=some (.slice a4 n4 d4):=X6.o.cell 2 rfl 4 G4.o.1
     go_wp2_with fail
     clear x4
     go_loopw [60] (fun i wr=>∃ j:Nat,j <= n4 /\ i=.int .i64 j /\ ∃ W,W=wr /\ Hid (At w W [(b0, 31,C),(b0+1, 51,#[.int .i64 c.kind,.int .i64 c.a,.int .i64 c.b,.int .i64 c.c,.string c.u.name,.int .i64 c.u.cur,.int .i64 c.u.price,.int .i64 c.u.vol,.int .i64 c.i.kind,.int .i64 c.i.under,.int .i64 c.i.mult,.int .i64 c.i.strike,.int .i64 c.i.expiry,.bool c.i.call,.int .i64 c.i.mark]),(b5, 31,U1.cells R),(b7, 31,U2.cells M)] /\ Below W6.heap.size W6 W)) (fun i _=>n4 - (intOf i).toNat)
     case atStart=>exact⟨0,Nat.zero_le _,rfl,_,rfl,zq ⟨X6.o,Below.refl _ _⟩⟩
     case round =>
      clear X6
      obtain⟨j,hj,rfl,W,rfl,XB⟩:=hrel
      by_cases hlt:j<n4
      ·have hlt':(j:Int)<(n4:Int):=by omega
       have hlt5:(j:Int)<(n5:Int):=by have:=N4.o;omega
       have hj16:j <= 16:=by have:=N4.o;omega
       have LT_:=zq hlt
       obtain⟨p,hp⟩:∃ p,U1.ac[j]?=some p:=⟨_,List.getElem?_eq_getElem (by have:=N4.o;omega)⟩
       obtain⟨q,hq⟩:∃ q,U2.ac[j]?=some q:=⟨_,List.getElem?_eq_getElem (by have:=N4.o;omega)⟩
       have FQ:=zq (FLG.o j p.1 q.1 (by rw[SM.o.1,List.getElem?_map,hp];rfl) (by rw[SM.o.2,List.getElem?_map,hq];rfl))
       have rows:=RR.o W XB.o.2
       obtain⟨g,o,eg,_,hcp⟩:=rows.1.at_ hp
       obtain⟨g',o',eg',_,hcq⟩:=rows.2.at_ hq
       obtain⟨fp,hfp⟩:∃ f,f=p.1.flag:=⟨_,rfl⟩
       obtain⟨fq,hfq⟩:∃ f,f=q.1.flag:=⟨_,rfl⟩
       rw[<- hfp,<- hfq] at FQ
       have cp:W.cell? ⟨g,o+j*4+2,none⟩=some (.bool fp):=by rw[hfp];exact hcp 2 _ rfl
       have cq:W.cell? ⟨g',o'+j*4+2,none⟩=some (.bool fq):=by rw[hfq];exact hcq 2 _ rfl
       have y4:W.cell? ⟨b5,4,none⟩=some (.slice a4 n4 d4):=XB.o.1.cell 2 rfl 4 G4.o.1
       have y5:W.cell? ⟨b7,4,none⟩=some (.slice a5 n5 d5):=XB.o.1.cell 3 rfl 4 G4.o.2
       subst eg
       subst eg'
       clear hp hq hcp hcq rows hfp hfq
       go_upto_region 15 with fail
       have BW:=zq (show At w W.drew [(b0, 31,C),(b0+1, 51,#[.int .i64 c.kind,.int .i64 c.a,.int .i64 c.b,.int .i64 c.c,.string c.u.name,.int .i64 c.u.cur,.int .i64 c.u.price,.int .i64 c.u.vol,.int .i64 c.i.kind,.int .i64 c.i.under,.int .i64 c.i.mult,.int .i64 c.i.strike,.int .i64 c.i.expiry,.bool c.i.call,.int .i64 c.i.mark]),(b5, 31,U1.cells R),(b7, 31,U2.cells M)] /\ Below W6.heap.size W6 W.drew from ⟨XB.o.1.drew,XB.o.2.trans ((Mod.refl (fun _=>False) W).drew.toBelow.mono XB.o.2.size)⟩)
       have hpq:(fq=false) \/ (fq=true /\ fp=true):=by cases fq;exact Or.inl rfl;exact Or.inr ⟨rfl,FQ.o.1 rfl⟩
       rcases hpq with rfl|⟨rfl,rfl⟩
       all_goals
        refine Fall2.wp_region_tree (C:=fun w'=>True) [] [] (.step 0 (.step 1 (.step 2 (.step 3 (.step 4 (.step 5 (.step 6 (.step 7 (.step 8 (.step 9 (.step 10 (.step 11 (.step 12 (.step 13 (.step 14 (.step 15 (.step 16 (.step 17 (.step 18 (.step 19 (.step 20 (.step 21 (.step 22 (.step 23 (.step 24 (.step 25 (.step 26 (.step 27 (.step 28 (.step 29 (.step 30 (.step 31 (.step 32 (.step 33 .leaf)))))))))))))))))))))))))))))))))) (fun _ _ _=>False) (by kernel_rfl) (fun _ _ _ h=>h.elim) (by kernel_rfl) trivial ?_
        refine Fall2.tree_still [0,1,2,3,4,5,6,7,8,9,10,11,12,13,14,15,16,17,18,19,20,21,22,23,24,25,26,27,28,29,30,31,32,33] (by kernel_rfl) ?_
        simp only[pickL,nth]
        repeat (go_big_quiet_step (fail))
        refine wpQuiet_nil ?_
        refine Fall2.tree_nil ?_
        go_simp
        clear y4 y5 cp cq
        go_wp2_with fail
        go_roundw
        case rel=>exact⟨j+1,by have:=LT_.o;omega,by go_num,_,rfl,BW⟩
        case measure=>have:=LT_.o;simp[intOf];omega
      ·have hlt':¬ (j:Int)<(n4:Int):=by omega
       obtain rfl:n4=j:=by omega
       have FIN:=zq XB.o.1.low
       go_wp2_with fail
       go_ret
       exact⟨rfl,FIN.o⟩
    ·have kb2:((k:Int)==2)=false:=by rw[beq_eq_false_iff_ne];omega
     have FLG:=zq (fun v p q hp hq=>FF.o.2 v p q hp hq K0.o (fun e=>absurd e k1) (fun e=>absurd e k2))
     have K2:=zq k2
     have kbn:((k:Int) != 2)=true:=by rw[bne,kb2];rfl
     clear k1 k2
     go_upto_region 12 with fail
     clear y1 y2 y3
     have x4:W6.cell? ⟨b5,4,none⟩=some (.slice a4 n4 d4):=X6.o.cell 2 rfl 4 G4.o.1
     go_wp2_with fail
     clear x4
     go_loopw [60] (fun i wr=>∃ j:Nat,j <= n4 /\ i=.int .i64 j /\ ∃ W,W=wr /\ Hid (At w W [(b0, 31,C),(b0+1, 51,#[.int .i64 c.kind,.int .i64 c.a,.int .i64 c.b,.int .i64 c.c,.string c.u.name,.int .i64 c.u.cur,.int .i64 c.u.price,.int .i64 c.u.vol,.int .i64 c.i.kind,.int .i64 c.i.under,.int .i64 c.i.mult,.int .i64 c.i.strike,.int .i64 c.i.expiry,.bool c.i.call,.int .i64 c.i.mark]),(b5, 31,U1.cells R),(b7, 31,U2.cells M)] /\ Below W6.heap.size W6 W)) (fun i _=>n4 - (intOf i).toNat)
     case atStart=>exact⟨0,Nat.zero_le _,rfl,_,rfl,zq ⟨X6.o,Below.refl _ _⟩⟩
     case round =>
      clear X6
      obtain⟨j,hj,rfl,W,rfl,XB⟩:=hrel
      by_cases hlt:j<n4
      ·have hlt':(j:Int)<(n4:Int):=by omega
       have hlt5:(j:Int)<(n5:Int):=by have:=N4.o;omega
       have hj16:j <= 16:=by have:=N4.o;omega
       have LT_:=zq hlt
       obtain⟨p,hp⟩:∃ p,U1.ac[j]?=some p:=⟨_,List.getElem?_eq_getElem (by have:=N4.o;omega)⟩
       obtain⟨q,hq⟩:∃ q,U2.ac[j]?=some q:=⟨_,List.getElem?_eq_getElem (by have:=N4.o;omega)⟩
       have FQ:=zq (FLG.o j p.1 q.1 (by rw[SM.o.1,List.getElem?_map,hp];rfl) (by rw[SM.o.2,List.getElem?_map,hq];rfl))
       have rows:=RR.o W XB.o.2
       obtain⟨g,o,eg,_,hcp⟩:=rows.1.at_ hp
       obtain⟨g',o',eg',_,hcq⟩:=rows.2.at_ hq
       obtain⟨fp,hfp⟩:∃ f,f=p.1.flag:=⟨_,rfl⟩
       obtain⟨fq,hfq⟩:∃ f,f=q.1.flag:=⟨_,rfl⟩
       rw[<- hfp,<- hfq] at FQ
       have cp:W.cell? ⟨g,o+j*4+2,none⟩=some (.bool fp):=by rw[hfp];exact hcp 2 _ rfl
       have cq:W.cell? ⟨g',o'+j*4+2,none⟩=some (.bool fq):=by rw[hfq];exact hcq 2 _ rfl
       have y4:W.cell? ⟨b5,4,none⟩=some (.slice a4 n4 d4):=XB.o.1.cell 2 rfl 4 G4.o.1
       have y5:W.cell? ⟨b7,4,none⟩=some (.slice a5 n5 d5):=XB.o.1.cell 3 rfl 4 G4.o.2
       subst eg
       subst eg'
       clear hp hq hcp hcq rows hfp hfq
       go_upto_region 15 with fail
       have BW:=zq (show At w W.drew [(b0, 31,C),(b0+1, 51,#[.int .i64 c.kind,.int .i64 c.a,.int .i64 c.b,.int .i64 c.c,.string c.u.name,.int .i64 c.u.cur,.int .i64 c.u.price,.int .i64 c.u.vol,.int .i64 c.i.kind,.int .i64 c.i.under,.int .i64 c.i.mult,.int .i64 c.i.strike,.int .i64 c.i.expiry,.bool c.i.call,.int .i64 c.i.mark]),(b5, 31,U1.cells R),(b7, 31,U2.cells M)] /\ Below W6.heap.size W6 W.drew from ⟨XB.o.1.drew,XB.o.2.trans ((Mod.refl (fun _=>False) W).drew.toBelow.mono XB.o.2.size)⟩)
       obtain rfl:fq=fp:=FQ.o.2 K2.o
       cases fq
       all_goals
        refine Fall2.wp_region_tree (C:=fun w'=>True) [] [] (.step 0 (.step 1 (.step 2 (.step 3 (.step 4 (.step 5 (.step 6 (.step 7 (.step 8 (.step 9 (.step 10 (.step 11 (.step 12 (.step 13 (.step 14 (.step 15 (.step 16 (.step 17 (.step 18 (.step 19 (.step 20 (.step 21 (.step 22 (.step 23 (.step 24 (.step 25 (.step 26 (.step 27 (.step 28 (.step 29 (.step 30 (.step 31 (.step 32 (.step 33 .leaf)))))))))))))))))))))))))))))))))) (fun _ _ _=>False) (by kernel_rfl) (fun _ _ _ h=>h.elim) (by kernel_rfl) trivial ?_
        refine Fall2.tree_still [0,1,2,3,4,5,6,7,8,9,10,11,12,13,14,15,16,17,18,19,20,21,22,23,24,25,26,27,28,29,30,31,32,33] (by kernel_rfl) ?_
        simp only[pickL,nth]
        repeat (go_big_quiet_step (fail))
        refine wpQuiet_nil ?_
        refine Fall2.tree_nil ?_
        go_simp
        clear y4 y5 cp cq
        go_wp2_with fail
        go_roundw
        case rel=>exact⟨j+1,by have:=LT_.o;omega,by go_num,_,rfl,BW⟩
        case measure=>have:=LT_.o;simp[intOf];omega
      ·have hlt':¬ (j:Int)<(n4:Int):=by omega
       obtain rfl:n4=j:=by omega
       have FIN:=zq XB.o.1.low
       go_wp2_with fail
       go_ret
       exact⟨rfl,FIN.o⟩
end Go.Proofs.YtnkpdfjnjmmleaaGreatDoor
namespace Go.Proofs.YtnkpdfjnjmmleaaGreatDoor
open Go.RowKit Go.Bw Go.Maps Go.WideShapes
theorem adminFlags_in (W:World) (n0 n1:Array Value) (V0:HasVal Tryz.prog W 31 n0.toList) (V1:HasVal Tryz.prog W 51 n1.toList) (HL:Grd W) :
 Calls Tryz.prog 7 #[.agg n0,.agg n1] W fun e w'=>e=.returned (.bool true) /\ Below W.heap.size W w':=by
 obtain⟨V,l,e,h,s⟩:=led_in V0
 obtain⟨c,rfl,hu,hx⟩:=cal_in V1
 rw[e]
 exact adminFlags_law W V l h s HL c hu hx
end Go.Proofs.YtnkpdfjnjmmleaaGreatDoor

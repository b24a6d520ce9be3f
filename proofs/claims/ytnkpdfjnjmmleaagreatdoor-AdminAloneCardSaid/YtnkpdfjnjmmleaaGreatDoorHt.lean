/- Joined: LawRA, MiRA. -/
import Derived.Test.YtnkpdfjnjmmleaaGreatDoorAfter
import Derived.Test.YtnkpdfjnjmmleaaGreatDoorHe
import Derived.Test.YtnkpdfjnjmmleaaGreatDoorHd
import Derived.Test.YtnkpdfjnjmmleaaGreatDoorGn
import Derived.Test.YtnkpdfjnjmmleaaGreatDoorGk
import Derived.Test.YtnkpdfjnjmmleaaGreatDoorHx
import Derived.Test.YtnkpdfjnjmmleaaGreatDoorHq
set_option linter.unusedVariables false
set_option linter.unusedSimpArgs false
set_option maxRecDepth 100000
set_option maxHeartbeats 16000000
namespace Go.Proofs.YtnkpdfjnjmmleaaGreatDoor
open Go.RowKit Go.Bw Go.Maps Go.Shelf Go.Bw.Fall
theorem adminAlone_law (w:World) (V:LedV) (L:Led) (h:LedAt w V L) (hs0:L.Short) (hG:Grd w) (c:Cal) (hu:c.u.name.size <= maxLen) (hx:I64 c.c) :
 Calls Tryz.prog 10 #[V.val L,.agg c.cells] w fun e w'=>e=.returned (.bool true) /\ Below w.heap.size w w':=by
 classical
 have GR:=zq (fun W (hb:Below w.heap.size w W)=>hG.below hb)
 have HH:=zq (fun W (hb:Below w.heap.size w W)=>h.below hb)
 have SH:=zq hs0
 have HX:=zq (And.intro hu hx)
 have WK:=zq (fun W (hb:Below w.heap.size w W)=>wakes18_any W (hG.below hb))
 have WD:=zq (fun W (hb:Below w.heap.size w W)=>wide_any W V L (h.below hb) hs0)
 have LC:=zq (ledc h)
 have BK:=zq (show ¬ 1024<L.bulk -> L.accts.length <= 1024 /\ L.bulk <= 1000000 from fun hb=>by unfold Led.bulk at hb ⊢;omega)
 have AF:=zq (fun W (hb:Below w.heap.size w W) (hL:L.accts.length <= 1024)=>after_any W V L (h.below hb) hL (hG.below hb) c hu hx)
 have GD:=zq (fun W (hb:Below w.heap.size w W) (hL:L.accts.length <= 1024) (B:Bool) (hB:decide L.Good=B)=>show Calls Tryz.prog 34 #[V.val L] W fun e x=>e=.returned (.bool B) /\ Below W.heap.size W x from good_to (h.below hb) hL hB)
 unfold LedV.val at WD AF GD ⊢
 unfold Cal.cells
 obtain⟨C,hC⟩:∃ C,C=V.cells L:=⟨_,rfl⟩
 have EC:=zq hC
 rw[<- hC] at WD LC AF GD ⊢
 obtain⟨BB,hBB⟩:∃ B,B=decide (1024<L.bulk):=⟨_,rfl⟩
 rw[<- hBB] at WD
 have HB:=zq hBB
 obtain⟨W0,hW0⟩:∃ s,s=(w.alloc (.cells C 31)).alloc (.cells #[.int .i64 c.kind,.int .i64 c.a,.int .i64 c.b,.int .i64 c.c,.string c.u.name,.int .i64 c.u.cur,.int .i64 c.u.price,.int .i64 c.u.vol,.int .i64 c.i.kind,.int .i64 c.i.under,.int .i64 c.i.mult,.int .i64 c.i.strike,.int .i64 c.i.expiry,.bool c.i.call,.int .i64 c.i.mark] 51):=⟨_,rfl⟩
 obtain⟨b0,hb0⟩:∃ n,n=w.heap.size:=⟨_,rfl⟩
 have X0:=zq (show At w W0 [(b0, 31,C),(b0+1, 51,#[.int .i64 c.kind,.int .i64 c.a,.int .i64 c.b,.int .i64 c.c,.string c.u.name,.int .i64 c.u.cur,.int .i64 c.u.price,.int .i64 c.u.vol,.int .i64 c.i.kind,.int .i64 c.i.under,.int .i64 c.i.mult,.int .i64 c.i.strike,.int .i64 c.i.expiry,.bool c.i.call,.int .i64 c.i.mark])] from by
  have a:=(((At.start w).alloc 31 C).alloc 51 #[.int .i64 c.kind,.int .i64 c.a,.int .i64 c.b,.int .i64 c.c,.string c.u.name,.int .i64 c.u.cur,.int .i64 c.u.price,.int .i64 c.u.vol,.int .i64 c.i.kind,.int .i64 c.i.under,.int .i64 c.i.mult,.int .i64 c.i.strike,.int .i64 c.i.expiry,.bool c.i.call,.int .i64 c.i.mark])
  have e:∀ (w:World) (o:Obj),(w.alloc o).heap.size=w.heap.size+1:=fun w o=>by simp
  simp only[e] at a
  rw[<- hW0,<- hb0] at a
  exact a)
 clear h hs0 hG hC hBB hu hx
 go_enter Tryz.func10,Tryz.ntmps10
 go_upto_region 1 with (fail)
 rw[<- hW0,<- hb0]
 clear hW0 hb0
 go_wp2_with fail
 refine (WK.o W0 X0.o.low).mono ?_
 rintro e w1 ⟨rfl,hb⟩
 have X1:=zq (X0.o.go hb)
 clear hb X0
 go_wp2_with (refine led_load (X1.o.get 0 rfl) LC.o rfl rfl rfl ?_)
 refine (WD.o w1 X1.o.low).mono ?_
 rintro e w2 ⟨rfl,hb⟩
 have X2:=zq (X1.o.go hb)
 clear hb X1
 cases hbb:BB with
 | true =>
   subst hbb
   go_wp2_with fail
   go_ret
   exact⟨rfl,X2.o.low⟩
 | false =>
   subst hbb
   have HL:=zq (BK.o (of_decide_eq_false HB.o.symm))
   by_cases hgd:L.Good
   rotate_left
   ·have GX:=zq (GD.o w2 X2.o.low HL.o.1 false (decide_eq_false hgd))
    go_wp2_with (refine led_loadg (X2.o.get 0 rfl) LC.o (by rfl) rfl rfl ?_)
    refine GX.o.mono ?_
    rintro e w3 ⟨rfl,hb⟩
    have X3:=zq (X2.o.go hb)
    clear hb
    go_wp2_with fail
    go_ret
    exact⟨rfl,X3.o.low⟩
   have GX:=zq (GD.o w2 X2.o.low HL.o.1 true (decide_eq_true hgd))
   have HGD:=zq hgd
   clear hgd GD
   go_wp2_with (refine led_loadg (X2.o.get 0 rfl) LC.o (by rfl) rfl rfl ?_)
   refine GX.o.mono ?_
   rintro e w3 ⟨rfl,hb⟩
   have X3:=zq (X2.o.go hb)
   clear hb GX X2
   obtain⟨M,num,er,hM⟩:∃ M num er,admA L (c.adm L)=(M,num,er):=⟨_,_,_,rfl⟩
   have EM:=zq hM
   have CC:=zq (AF.o w3 X3.o.low HL.o.1)
   rw[hM] at CC
   clear hM AF
   go_upto_region 5 with fail
   have z0:w3.cell? ⟨b0+1,0,none⟩=some (.int .i64 c.kind):=X3.o.cell 1 rfl 0 rfl
   have z1:w3.cell? ⟨b0+1,1,none⟩=some (.int .i64 c.a):=X3.o.cell 1 rfl 1 rfl
   have z2:w3.cell? ⟨b0+1,2,none⟩=some (.int .i64 c.b):=X3.o.cell 1 rfl 2 rfl
   have z3:w3.cell? ⟨b0+1,3,none⟩=some (.int .i64 c.c):=X3.o.cell 1 rfl 3 rfl
   have z4:w3.cell? ⟨b0+1,4,none⟩=some (.string c.u.name):=X3.o.cell 1 rfl 4 rfl
   have z5:w3.cell? ⟨b0+1,5,none⟩=some (.int .i64 c.u.cur):=X3.o.cell 1 rfl 5 rfl
   have z6:w3.cell? ⟨b0+1,6,none⟩=some (.int .i64 c.u.price):=X3.o.cell 1 rfl 6 rfl
   have z7:w3.cell? ⟨b0+1,7,none⟩=some (.int .i64 c.u.vol):=X3.o.cell 1 rfl 7 rfl
   have z8:w3.cell? ⟨b0+1,8,none⟩=some (.int .i64 c.i.kind):=X3.o.cell 1 rfl 8 rfl
   have z9:w3.cell? ⟨b0+1,9,none⟩=some (.int .i64 c.i.under):=X3.o.cell 1 rfl 9 rfl
   have z10:w3.cell? ⟨b0+1,10,none⟩=some (.int .i64 c.i.mult):=X3.o.cell 1 rfl 10 rfl
   have z11:w3.cell? ⟨b0+1,11,none⟩=some (.int .i64 c.i.strike):=X3.o.cell 1 rfl 11 rfl
   have z12:w3.cell? ⟨b0+1,12,none⟩=some (.int .i64 c.i.expiry):=X3.o.cell 1 rfl 12 rfl
   have z13:w3.cell? ⟨b0+1,13,none⟩=some (.bool c.i.call):=X3.o.cell 1 rfl 13 rfl
   have z14:w3.cell? ⟨b0+1,14,none⟩=some (.int .i64 c.i.mark):=X3.o.cell 1 rfl 14 rfl
   go_wp2_with (refine led_load (X3.o.get 0 rfl) LC.o rfl rfl rfl ?_)
   refine CC.o.mono ?_
   rintro e u ⟨U,rfl,own,hb⟩
   have Y:=zq (X3.o.go hb)
   have OW:=zq own
   have BL:=zq hb
   have LU:=zq (ledc own.led)
   unfold LedV.val
   clear own hb z0 z1 z2 z3 z4 z5 z6 z7 z8 z9 z10 z11 z12 z13 z14
   go_simp
   have F00:=zq (show FBs w w3.heap.size [(b0, 31,C),(b0+1, 51,#[.int .i64 c.kind,.int .i64 c.a,.int .i64 c.b,.int .i64 c.c,.string c.u.name,.int .i64 c.u.cur,.int .i64 c.u.price,.int .i64 c.u.vol,.int .i64 c.i.kind,.int .i64 c.i.under,.int .i64 c.i.mult,.int .i64 c.i.strike,.int .i64 c.i.expiry,.bool c.i.call,.int .i64 c.i.mark])] U M u from by
    refine⟨Y.o,OW.o,fun x hx=>OW.o.notin (Or.inl ?_),BL.o.size,X3.o.low.size⟩
    exact X3.o.lt x hx)
   go_upto_region 6 with (refine led_store (heap_alloc_last _ _) ledc0 LU.o rfl rfl rfl rfl ?_;rw[World.setRow_alloc_new])
   obtain⟨W4,hW4⟩:∃ s,s=u.alloc (.cells (U.cells M) 31):=⟨_,rfl⟩
   obtain⟨b5,hb5⟩:∃ n,n=u.heap.size:=⟨_,rfl⟩
   have F4:=zq (show FBs w w3.heap.size [(b0, 31,C),(b0+1, 51,#[.int .i64 c.kind,.int .i64 c.a,.int .i64 c.b,.int .i64 c.c,.string c.u.name,.int .i64 c.u.cur,.int .i64 c.u.price,.int .i64 c.u.vol,.int .i64 c.i.kind,.int .i64 c.i.under,.int .i64 c.i.mult,.int .i64 c.i.strike,.int .i64 c.i.expiry,.bool c.i.call,.int .i64 c.i.mark]),(b5, 31,U.cells M)] U M W4 from by rw[hW4,hb5];exact F00.o.box 31 (U.cells M))
   rw[<- hW4,<- hb5]
   clear hW4 hb5 Y OW CC F00
   by_cases he:er=0
   rotate_left
   ·have heb:(er != 0)=true:=by simp[he]
    go_wp2_with fail
    go_ret
    exact⟨rfl,F4.o.low⟩
   subst he
   obtain⟨k,hk⟩:∃ k,k=c.k:=⟨_,rfl⟩
   have EK:=zq hk
   clear hk
   obtain⟨N,hN⟩:∃ N,N=(c.adm L).led:=⟨_,rfl⟩
   have HN:=zq hN
   clear hN
   have HA:=zq (show (c.adm L).err=0 /\ flagsO N=some M /\ L.accts.length <= N.accts.length /\ (∀ (v:Nat) p q,L.accts[v]?=some p -> N.accts[v]?=some q -> q.flag=p.flag) /\ 2 <= L.accts.length /\ L.accts.length <= 16 from by
    have h1:=admA_yes (L:=L) (r:=c.adm L) (by rw[EM.o])
    have h2:=flagsA_good (admS_good HGD.o h1.2.1) h1.2.2.1
    have h3:(flagsA (c.adm L).led).1=M:=by rw[<- h1.2.2.2.1,EM.o]
    have h4:flagsO (c.adm L).led=some M:=by rw[<- h3];exact h2.1
    rw[HN.o]
    exact⟨h1.2.1,h4,admS_len h1.2.1,fun v p q hp hq=>admS_flag h1.2.1 hp hq,by have:=HGD.o.accounts.tree.lo;rwa [List.length_map] at this,by have:=HGD.o.accounts.tree.hi;rwa [List.length_map] at this⟩)
   obtain⟨la,lc,hla⟩:∃ a d,V.accts=.slice a V.ac.length d:=by obtain⟨a,d,e,_⟩:=(HH.o W4 F4.o.low).accts.ex;exact⟨a,d,e⟩
   obtain⟨ua,uc,hua,_⟩:=F4.o.own.accts.form
   obtain⟨n4,hn4⟩:∃ n,n=V.ac.length:=⟨_,rfl⟩
   obtain⟨n5,hn5⟩:∃ n,n=U.ac.length:=⟨_,rfl⟩
   rw[<- hn4] at hla
   rw[<- hn5] at hua
   have NN:=zq (show n4=V.ac.length /\ n5=U.ac.length /\ n4=L.accts.length /\ n5=M.accts.length /\ n4 <= n5 /\ 2 <= n4 /\ n4 <= 16 from by
    have h1:=congrArg List.length (HH.o W4 F4.o.low).same
    have h2:=congrArg List.length F4.o.own.same
    rw[List.length_map] at h1 h2
    have h3:=(flagsO_only HA.o.2.1).2.1
    have:=HA.o
    omega)
   have G4:=zq (show C[4]?=some (.slice la n4 lc) /\ (U.cells M)[4]?=some (.slice ua n5 uc) from ⟨by rw[EC.o,<- hla];rfl,by rw[<- hua];rfl⟩)
   have FA:=zq (And.intro hla hua)
   have SV:=zq (HH.o W4 F4.o.low).same
   clear hn4 hn5 hla hua LU
   have x4:W4.cell? ⟨b0,4,none⟩=some (.slice la n4 lc):=F4.o.at_.cell 0 rfl 4 G4.o.1
   have J0:=zq (show ∃ ac B,FBs w w3.heap.size [(b0, 31,C),(b0+1, 51,#[.int .i64 c.kind,.int .i64 c.a,.int .i64 c.b,.int .i64 c.c,.string c.u.name,.int .i64 c.u.cur,.int .i64 c.u.price,.int .i64 c.u.vol,.int .i64 c.i.kind,.int .i64 c.i.under,.int .i64 c.i.mult,.int .i64 c.i.strike,.int .i64 c.i.expiry,.bool c.i.call,.int .i64 c.i.mark]),(b5, 31,U.cells M)] { U with ac:=ac } { M with accts:=B } W4 /\ UF M.accts L.accts 0 B from ⟨U.ac,M.accts,F4.o,UF.start _ _⟩)
   go_wp2_with fail
   go_loopw [31] (fun i wr=>∃ j:Nat,j <= n4 /\ i=.int .i64 j /\ ∃ W,W=wr /\ Hid (∃ ac B,FBs w w3.heap.size [(b0, 31,C),(b0+1, 51,#[.int .i64 c.kind,.int .i64 c.a,.int .i64 c.b,.int .i64 c.c,.string c.u.name,.int .i64 c.u.cur,.int .i64 c.u.price,.int .i64 c.u.vol,.int .i64 c.i.kind,.int .i64 c.i.under,.int .i64 c.i.mult,.int .i64 c.i.strike,.int .i64 c.i.expiry,.bool c.i.call,.int .i64 c.i.mark]),(b5, 31,U.cells M)] { U with ac:=ac } { M with accts:=B } W /\ UF M.accts L.accts j B)) (fun i _=>n4 - (intOf i).toNat)
   case atStart=>exact⟨0,Nat.zero_le _,rfl,_,rfl,J0⟩
   case round =>
    clear J0 x4 F4
    obtain⟨j,hj,rfl,W,rfl,JJ⟩:=hrel
    obtain⟨ac,B,F0,UJ⟩:=JJ.o
    have F:=zq F0
    have UQ:=zq UJ
    clear F0 UJ JJ
    by_cases hlt:j<n4
    ·have hlt':(j:Int)<(n4:Int):=by omega
     have hlt5:(j:Int)<(n5:Int):=by have:=NN.o;omega
     have hj16:j <= 16:=by have:=NN.o;omega
     have LT_:=zq hlt
     have LN:=zq (show ac.length=n5 /\ B=ac.map (·.1) from by
      have h1:B=ac.map (·.1):=F.o.own.same
      have h2:=congrArg List.length h1
      rw[List.length_map] at h2
      have:=UQ.o.len
      have:=NN.o
      exact⟨by omega,h1⟩)
     obtain⟨⟨⟨pp,pcs,pf,pl⟩,pv⟩,hp⟩:∃ p,ac[j]?=some p:=⟨_,List.getElem?_eq_getElem (by have:=LN.o.1;have:=NN.o;omega)⟩
     obtain⟨x,hx⟩:∃ x,V.ac[j]?=some x:=⟨_,List.getElem?_eq_getElem (by have:=NN.o;omega)⟩
     obtain⟨ug,uc',hgu,_⟩:=F.o.own.accts.block hp
     have hgu2:U.accts=.slice (some ⟨ug,0,none⟩) ac.length uc':=hgu
     have e1:=FA.o.2.symm.trans hgu2
     injection e1 with e1 _ e2
     subst e1
     subst e2
     have HU:=zq hgu2
     obtain⟨pa,pq,hpv,_⟩:=(F.o.own.cash _ (List.mem_of_getElem? hp)).form
     obtain⟨pn,hpn⟩:∃ n,n=pcs.length:=⟨_,rfl⟩
     simp only at hpv
     rw[<- hpn] at hpv
     subst hpv
     have HP:=zq hp
     have hcu:=acct_cells F.o.own hgu2 hp
     have HC:=zq hcu
     have rl:=(HH.o W F.o.low).accts
     rw[FA.o.1] at rl
     obtain⟨lg,lo,el,_,hcl⟩:=rl.at_ hx
     subst el
     obtain⟨xf,hxf⟩:∃ f,f=x.1.flag:=⟨_,rfl⟩
     have HXF:=zq (show L.accts[j]?=some x.1 /\ xf=x.1.flag from ⟨by rw[SV.o,List.getElem?_map,hx];rfl,hxf⟩)
     have cl:W.cell? ⟨lg,lo+j*4+2,none⟩=some (.bool xf):=by rw[hxf];exact hcl 2 _ rfl
     have CLH:=zq cl
     have a0:W.cell? ⟨ug,j*4,none⟩=some (.int .i64 pp):=hcu.1 0 _ rfl
     have a1:W.cell? ⟨ug,j*4+1,none⟩=some (.slice pa pn pq):=hcu.1 1 _ rfl
     have a2:W.cell? ⟨ug,j*4+2,none⟩=some (.bool pf):=hcu.1 2 _ rfl
     have a3:W.cell? ⟨ug,j*4+3,none⟩=some (.int .i64 pl):=hcu.1 3 _ rfl
     have y5:W.cell? ⟨b5,4,none⟩=some (.slice (some ⟨ug,0,none⟩) n5 uc):=F.o.at_.cell 2 rfl 4 G4.o.2
     clear hp hx hgu hgu2 hcu rl hcl hxf hpn cl
     go_upto_region 13 with fail
     clear a0 a1 a2 a3 y5
     obtain⟨W1,hW1⟩:∃ s,s=W.alloc (.cells #[.int .i64 pp,.slice pa pn pq,.bool pf,.int .i64 pl] 56):=⟨_,rfl⟩
     obtain⟨b8,hb8⟩:∃ n,n=W.heap.size:=⟨_,rfl⟩
     have F1:=zq (show FBs w w3.heap.size ([(b0, 31,C),(b0+1, 51,#[.int .i64 c.kind,.int .i64 c.a,.int .i64 c.b,.int .i64 c.c,.string c.u.name,.int .i64 c.u.cur,.int .i64 c.u.price,.int .i64 c.u.vol,.int .i64 c.i.kind,.int .i64 c.i.under,.int .i64 c.i.mult,.int .i64 c.i.strike,.int .i64 c.i.expiry,.bool c.i.call,.int .i64 c.i.mark]),(b5, 31,U.cells M)]++[(b8, 56,#[.int .i64 pp,.slice pa pn pq,.bool pf,.int .i64 pl])]) { U with ac:=ac } { M with accts:=B } W1 from by rw[hW1,hb8];exact F.o.box _ _)
     have B1:=zq (show Below W.heap.size W W1 from by rw[hW1];exact (Below.refl _ _).alloc (Nat.le_refl _) _)
     rw[<- hW1,<- hb8]
     clear hW1 hb8
     have cl:W1.cell? ⟨lg,lo+j*4+2,none⟩=some (.bool xf):=(Mod.of_below B1.o).cell CLH.o (fun h=>h)
     have x4:W1.cell? ⟨b0,4,none⟩=some (.slice (some ⟨lg,lo,none⟩) n4 lc):=F1.o.at_.cell 0 rfl 4 G4.o.1
     have t2:W1.cell? ⟨b8,2,none⟩=some (.bool pf):=F1.o.at_.cell 3 rfl 2 rfl
     have t2f:W1.frozen? ⟨b8,2,none⟩=false:=F1.o.at_.free 3 rfl 2
     have F2:=zq (show FBs w w3.heap.size ([(b0, 31,C),(b0+1, 51,#[.int .i64 c.kind,.int .i64 c.a,.int .i64 c.b,.int .i64 c.c,.string c.u.name,.int .i64 c.u.cur,.int .i64 c.u.price,.int .i64 c.u.vol,.int .i64 c.i.kind,.int .i64 c.i.under,.int .i64 c.i.mult,.int .i64 c.i.strike,.int .i64 c.i.expiry,.bool c.i.call,.int .i64 c.i.mark]),(b5, 31,U.cells M)]++[(b8, 56,#[.int .i64 pp,.slice pa pn pq,.bool xf,.int .i64 pl])]) { U with ac:=ac } { M with accts:=B } (W1.setCell ⟨b8,2,none⟩ (.bool xf)) from F1.o.cell 3 rfl 2 (.bool xf))
     go_upto_region 14 with fail
     clear cl x4 t2 t2f
     obtain⟨W2,hW2⟩:∃ s,s=W1.setCell ⟨b8,2,none⟩ (.bool xf):=⟨_,rfl⟩
     rw[<- hW2] at F2 ⊢
     clear hW2 F1
     have hcu:=acct_cells F2.o.own HU.o HP.o
     have a0:W2.cell? ⟨ug,j*4,none⟩=some (.int .i64 pp):=hcu.1 0 _ rfl
     have a1:W2.cell? ⟨ug,j*4+1,none⟩=some (.slice pa pn pq):=hcu.1 1 _ rfl
     have a2:W2.cell? ⟨ug,j*4+2,none⟩=some (.bool pf):=hcu.1 2 _ rfl
     have a3:W2.cell? ⟨ug,j*4+3,none⟩=some (.int .i64 pl):=hcu.1 3 _ rfl
     have f0:W2.frozen? ⟨ug,j*4,none⟩=false:=hcu.2 _
     have f1:W2.frozen? ⟨ug,j*4+1,none⟩=false:=hcu.2 _
     have f2:W2.frozen? ⟨ug,j*4+2,none⟩=false:=hcu.2 _
     have f3:W2.frozen? ⟨ug,j*4+3,none⟩=false:=hcu.2 _
     have y5:W2.cell? ⟨b5,4,none⟩=some (.slice (some ⟨ug,0,none⟩) n5 uc):=F2.o.at_.cell 2 rfl 4 G4.o.2
     have t0:W2.cell? ⟨b8,0,none⟩=some (.int .i64 pp):=F2.o.at_.cell 3 rfl 0 rfl
     have t1:W2.cell? ⟨b8,1,none⟩=some (.slice pa pn pq):=F2.o.at_.cell 3 rfl 1 rfl
     have t2:W2.cell? ⟨b8,2,none⟩=some (.bool xf):=F2.o.at_.cell 3 rfl 2 rfl
     have t3:W2.cell? ⟨b8,3,none⟩=some (.int .i64 pl):=F2.o.at_.cell 3 rfl 3 rfl
     have F3:=zq (show ∃ ac' B',FBs w w3.heap.size [(b0, 31,C),(b0+1, 51,#[.int .i64 c.kind,.int .i64 c.a,.int .i64 c.b,.int .i64 c.c,.string c.u.name,.int .i64 c.u.cur,.int .i64 c.u.price,.int .i64 c.u.vol,.int .i64 c.i.kind,.int .i64 c.i.under,.int .i64 c.i.mult,.int .i64 c.i.strike,.int .i64 c.i.expiry,.bool c.i.call,.int .i64 c.i.mark]),(b5, 31,U.cells M)] { U with ac:=ac' } { M with accts:=B' } ((((W2.setCell ⟨ug,j*4,none⟩ (.int .i64 pp)).setCell ⟨ug,j*4+1,none⟩ (.slice pa pn pq)).setCell ⟨ug,j*4+2,none⟩ (.bool xf)).setCell ⟨ug,j*4+3,none⟩ (.int .i64 pl)) /\ UF M.accts L.accts (j+1) B' from by
      have h1:=(F2.o.storeFlag HU.o HP.o xf).sub (List.sublist_append_left _ _)
      have h2:=UQ.o.next (b:=⟨pp,pcs,pf,pl⟩) (f:=x.1) (by rw[LN.o.2,List.getElem?_map,HP.o];rfl) HXF.o.1
      rw[<- HXF.o.2] at h2
      exact⟨_,_,h1,h2⟩)
     clear hcu F F2
     go_wp2_with fail
     go_roundw
     case rel=>exact⟨j+1,by have:=LT_.o;omega,by go_num,_,rfl,F3⟩
     case measure=>have:=LT_.o;simp[intOf];omega
    ·have hlt':¬ (j:Int)<(n4:Int):=by omega
     obtain rfl:n4=j:=by omega
     have KK:=zq (show ((c.k:Nat):Int)=c.kind % 8 /\ c.k<8 from by unfold Cal.k;omega)
     have CK:=zq (show c.adm L=admS L k c.a c.b c.c c.u c.i from by rw[EK.o];rfl)
     rw[<- EK.o] at KK
     have z0:W.cell? ⟨b0+1,0,none⟩=some (.int .i64 c.kind):=F.o.at_.cell 1 rfl 0 rfl
     have ch:k=0 \/ k=1 \/ k=2 \/ k=3 \/ k=4 \/ k=5 \/ k=6 \/ k=7:=by have:=KK.o.2;omega
     clear hlt hlt' hj
     rcases ch with rfl|rfl|rfl|rfl|rfl|rfl|rfl|rfl
     ·have hb7:bits .and .i64 c.kind 7=0:=by rw[and7];exact KK.o.1.symm
      have ERR:(priceS L c.a c.b c.c).err=0:=by have:=HA.o.1;rw[CK.o] at this;exact this
      obtain⟨m,em,⟨xn,xc,xp,xv⟩,hx,eN⟩:=price_form ERR
      have NE:N={ L with unders:=L.unders.set m ⟨xn,xc,c.b,c.c⟩ }:=by rw[HN.o,CK.o];exact eN
      have F':=F.o
      rw[(unflagged_all HA.o.2.1 (by rw[NE]) HA.o.2.2.2.1 (by rw[<- NN.o.2.2.1];exact UQ.o)).trans NE,show U.cells M=U.cells L from by unfold LedV.cells;rw[(flagsO_only HA.o.2.1).1,NE] <;> rfl] at F'
      have F:=zq F'
      clear F' UQ HN
      obtain⟨va,vc,hva⟩:∃ a d,V.unders=.slice a L.unders.length d:=(HH.o W F.o.low).unders.form
      obtain⟨n2,hn2⟩:∃ n,n=L.unders.length:=⟨_,rfl⟩
      have hml:=(List.getElem?_eq_some_iff.1 hx).1
      obtain⟨ug,uc2,hua0,hdl,hdm,hcu,hdf⟩:=F.o.own.unders.slot undcells_len (by decide) (k:=m) (x:=⟨xn,xc,c.b,c.c⟩) (List.getElem?_set_self hml)
      have hua:U.unders=.slice (some ⟨ug,0,none⟩) n2 uc2:=by have h:U.unders=_:=hua0;rw[List.length_set,<- hn2] at h;exact h
      have rl:=(HH.o W F.o.low).unders
      rw[hva] at rl
      obtain⟨lg,lo,el,_,hcl⟩:=rl.at_ hx
      subst el
      clear hua0 hdl hdm hdf
      have HNM:=zq ((HH.o W F.o.low).names _ (List.mem_of_getElem? hx))
      rw[<- hn2] at hva hml
      have N2:=zq (And.intro hn2 hml)
      have HXM:=zq hx
      have HVA:=zq hva
      have HUA:=zq hua
      have hmi:(m:Int)<(n2:Int):=by omega
      have u2:W.cell? ⟨ug,m*4+2,none⟩=some (.int .i64 c.b):=hcu 2 _ rfl
      have u3:W.cell? ⟨ug,m*4+3,none⟩=some (.int .i64 c.c):=hcu 3 _ rfl
      have l2:W.cell? ⟨lg,lo+m*4+2,none⟩=some (.int .i64 xp):=hcl 2 _ rfl
      have l3:W.cell? ⟨lg,lo+m*4+3,none⟩=some (.int .i64 xv):=hcl 3 _ rfl
      have CLH:=zq (And.intro l2 l3)
      have y2:W.cell? ⟨b5,2,none⟩=some (.slice (some ⟨ug,0,none⟩) n2 uc2):=F.o.at_.cell 2 rfl 2 (by rw[<- hua];rfl)
      have x2:W.cell? ⟨b0,2,none⟩=some (.slice (some ⟨lg,lo,none⟩) n2 vc):=F.o.at_.cell 0 rfl 2 (by rw[EC.o,<- hva];rfl)
      have z1:W.cell? ⟨b0+1,1,none⟩=some (.int .i64 (m:Int)):=by rw[<- em];exact F.o.at_.cell 1 rfl 1 rfl
      have z2:W.cell? ⟨b0+1,2,none⟩=some (.int .i64 c.b):=F.o.at_.cell 1 rfl 2 rfl
      have z3:W.cell? ⟨b0+1,3,none⟩=some (.int .i64 c.c):=F.o.at_.cell 1 rfl 3 rfl
      have EMM:=zq em
      clear hx hcu hcl rl em eN ERR NE hva hua hn2 hml
      go_upto_region 18 with fail
      clear z0 hb7
      have FD:=zq F.o.drew
      refine Fall2.wp_region_tree (C:=fun w'=>True) [] [] (.step 0 (.step 1 (.step 2 (.step 3 (.step 4 (.step 5 (.step 6 (.step 7 (.step 8 (.step 9 (.step 10 (.step 11 (.step 12 (.step 13 (.step 14 (.step 15 (.step 16 (.step 17 (.step 18 (.step 19 (.step 20 (.step 21 (.step 22 (.step 23 (.step 24 (.step 25 (.step 26 (.step 27 (.step 28 (.step 29 (.step 30 .leaf))))))))))))))))))))))))))))))) (fun _ _ _=>False) (by kernel_rfl) (fun _ _ _ h=>h.elim) (by kernel_rfl) trivial ?_
      refine Fall2.tree_still [0,1,2,3,4,5,6,7,8,9,10,11,12,13,14,15,16,17,18,19,20,21,22,23,24,25,26,27,28,29,30] (by kernel_rfl) ?_
      simp only[pickL,nth]
      repeat (go_big_quiet_step (fail))
      refine wpQuiet_nil ?_
      refine Fall2.tree_nil ?_
      go_simp
      obtain⟨WD,hWD⟩:∃ s,s=W.drew:=⟨_,rfl⟩
      have CD:=zq (show WD.cell? ⟨lg,lo+m*4+2,none⟩=some (.int .i64 xp) /\ WD.cell? ⟨lg,lo+m*4+3,none⟩=some (.int .i64 xv) from by rw[hWD];exact CLH.o)
      rw[<- hWD] at FD ⊢
      clear hWD u2 u3 l2 l3 y2 x2 z1 z2 z3 F CLH
      go_upto_region 20 with fail
      have FF:=zq FD.o.drew
      obtain⟨WF,hWF⟩:∃ s,s=WD.drew:=⟨_,rfl⟩
      have CF:=zq (show WF.cell? ⟨lg,lo+m*4+2,none⟩=some (.int .i64 xp) /\ WF.cell? ⟨lg,lo+m*4+3,none⟩=some (.int .i64 xv) from by rw[hWF];exact CD.o)
      have KC:=zq (show WF.cell? ⟨b5,2,none⟩=some (.slice (some ⟨ug,0,none⟩) n2 uc2) /\ WF.cell? ⟨b0+1,1,none⟩=some (.int .i64 (m:Int)) from by rw[hWF];exact⟨FF.o.at_.cell 2 rfl 2 (by rw[<- HUA.o];rfl),by rw[<- EMM.o];exact FF.o.at_.cell 1 rfl 1 rfl⟩)
      have y2z:∀ z:Cls (fun W=>W.cell? ⟨b5,2,none⟩=some (.slice (some ⟨ug,0,none⟩) n2 uc2) /\ W.cell? ⟨b0+1,1,none⟩=some (.int .i64 (m:Int))),z.w.cell? ⟨b5,2,none⟩=some (.slice (some ⟨ug,0,none⟩) n2 uc2):=fun z=>z.ok.1
      have z1z:∀ z:Cls (fun W=>W.cell? ⟨b5,2,none⟩=some (.slice (some ⟨ug,0,none⟩) n2 uc2) /\ W.cell? ⟨b0+1,1,none⟩=some (.int .i64 (m:Int))),z.w.cell? ⟨b0+1,1,none⟩=some (.int .i64 (m:Int)):=fun z=>z.ok.2
      haveI ne:Nonempty (Cls (fun W=>W.cell? ⟨b5,2,none⟩=some (.slice (some ⟨ug,0,none⟩) n2 uc2) /\ W.cell? ⟨b0+1,1,none⟩=some (.int .i64 (m:Int)))):=⟨⟨WF,KC.o⟩⟩
      refine Fall2.wp_region_tree (C:=fun w'=>∃ z:Cls (fun W=>W.cell? ⟨b5,2,none⟩=some (.slice (some ⟨ug,0,none⟩) n2 uc2) /\ W.cell? ⟨b0+1,1,none⟩=some (.int .i64 (m:Int))),w'=z.w) [24,27] [4,5,6,7] (.step 0 (.step 1 (.step 2 (.step 3 (.step 4 (.step 5 (.step 6 (.step 7 (.step 8 (.step 9 (.step 10 (.step 11 (.step 12 (.step 13 (.step 14 (.step 15 (.step 16 (.step 17 (.step 18 (.step 19 (.step 20 (.step 21 (.step 22 (.step 23 (.step 24 (.step 25 (.step 26 (.step 27 .leaf)))))))))))))))))))))))))))) (fun _ _ _=>False) (by kernel_rfl) (fun _ _ _ h=>h.elim) (by kernel_rfl) ⟨⟨WD.drew,by rw[<- hWF];exact KC.o⟩,rfl⟩ ?_
      rw[<- hWF] at FF ⊢
      clear hWF FD CD
      have y2:=KC.o.1
      have z1:=KC.o.2
      have l2:=CF.o.1
      have l3:=CF.o.2
      have x2:WF.cell? ⟨b0,2,none⟩=some (.slice (some ⟨lg,lo,none⟩) n2 vc):=FF.o.at_.cell 0 rfl 2 (by rw[EC.o,<- HVA.o];rfl)
      have S1:=zq (FF.o.own.set_unders (g:=ug) (c:=uc2) (k:=m) (j:=2) (by rw[show ({ U with ac:=ac }:LedV).unders=_ from HUA.o,List.length_set,<- N2.o.1]) (x:=⟨xn,xc,c.b,c.c⟩) (x':=⟨xn,xc,xp,c.c⟩) (u:=.int .i64 xp) (List.getElem?_set_self (by rw[<- N2.o.1];exact N2.o.2)) (by decide) rfl HNM.o)
      have sl:=FF.o.own.unders.slot undcells_len (by decide) (k:=m) (x:=⟨xn,xc,c.b,c.c⟩) (List.getElem?_set_self (by rw[<- N2.o.1];exact N2.o.2))
      have SLT:=zq (show WF.cell? ⟨ug,m*4+2,none⟩=some (.int .i64 c.b) /\ WF.cell? ⟨ug,m*4+3,none⟩=some (.int .i64 c.c) /\ ∀ j,WF.frozen? ⟨ug,j,none⟩=false from by
       obtain⟨g',c',e,_,_,h1,h2⟩:=sl
       rw[show ({ U with ac:=ac }:LedV).unders=_ from HUA.o] at e
       injection e with e _ _
       cases e
       exact⟨h1 2 _ rfl,h1 3 _ rfl,h2⟩)
      clear sl
      have F1:=zq (FF.o.row S1.o.1 S1.o.2 (q:=1) rfl (by rw[show ({ U with ac:=ac }:LedV).unders=_ from HUA.o];rfl) rfl)
      have u2:=SLT.o.1
      have u2f:=SLT.o.2.2 (m*4+2)
      refine Fall2.tree_still [0,1,2,3] (by kernel_rfl) ?_
      simp only[pickL,nth]
      repeat (go_big_quiet_step (fail))
      refine wpQuiet_nil ?_
      refine Fall2.tree_pure [4,5,6,7] (by kernel_rfl) ?_
      simp only[pickL,nth]
      repeat (go_big_quiet_step (fail))
      refine wpQuiet_nil ?_
      refine Fall2.tree_still [8,9,10,11,12,13,14,15,16,17,18,19,20,21,22,23] (by kernel_rfl) ?_
      simp only[pickL,nth]
      repeat (go_big_quiet_step (fail))
      refine wpQuiet_nil ?_
      refine Fall2.tree_eff (by kernel_rfl) rfl (fun K hK=>?_)
      simp only[pickL,nth]
      refine wpOne_one ?_
      go_simp
      refine hK _ _ (fun _=>⟨⟨_,F1.o.at_.cell 2 rfl 2 (by rw[<- HUA.o];rfl),by rw[<- EMM.o];exact F1.o.at_.cell 1 rfl 1 rfl⟩,rfl⟩) ?_
      clear hK y2 z1 l2 l3 x2 u2 u2f y2z z1z ne
      have u3:(WF.setCell ⟨ug,m*4+2,none⟩ (.int .i64 xp)).cell? ⟨ug,m*4+3,none⟩=some (.int .i64 c.c):=by rw[World.cell?_setCell_other _ _ _ _ (by simp)];exact SLT.o.2.1
      have u3f:(WF.setCell ⟨ug,m*4+2,none⟩ (.int .i64 xp)).frozen? ⟨ug,m*4+3,none⟩=false:=by rw[World.frozen?_setCell];exact SLT.o.2.2 _
      obtain⟨WG,hWG⟩:∃ s,s=WF.setCell ⟨ug,m*4+2,none⟩ (.int .i64 xp):=⟨_,rfl⟩
      rw[<- hWG] at F1 u3 u3f ⊢
      clear hWG S1
      go_simp
      have S2:=zq (F1.o.own.set_unders (g:=ug) (c:=uc2) (k:=m) (j:=3) (by rw[show ({ U with ac:=ac }:LedV).unders=_ from HUA.o,List.length_set,List.length_set,<- N2.o.1]) (x:=⟨xn,xc,xp,c.c⟩) (x':=⟨xn,xc,xp,xv⟩) (u:=.int .i64 xv) (List.getElem?_set_self (by rw[List.length_set,<- N2.o.1];exact N2.o.2)) (by decide) rfl HNM.o)
      have F2:=zq (F1.o.row S2.o.1 S2.o.2 (q:=1) rfl (by rw[show ({ U with ac:=ac }:LedV).unders=_ from HUA.o];rfl) rfl)
      refine Fall2.tree_still [25,26] (by kernel_rfl) ?_
      simp only[pickL,nth]
      repeat (go_big_quiet_step (fail))
      refine wpQuiet_nil ?_
      refine Fall2.tree_last (by kernel_rfl) rfl (by kernel_rfl) (fun K hK=>?_)
      simp only[pickL,nth]
      refine wpOne_one ?_
      go_simp
      refine hK _ _ ?_
      clear hK u3 u3f
      refine Fall2.tree_nil ?_
      obtain⟨WH,hWH⟩:∃ s,s=WG.setCell ⟨ug,m*4+3,none⟩ (.int .i64 xv):=⟨_,rfl⟩
      rw[<- hWH] at F2 ⊢
      clear hWH S2
      have XT:=zq (show At w WH [(b0, 31,C),(b0+1, 51,#[.int .i64 c.kind,.int .i64 c.a,.int .i64 c.b,.int .i64 c.c,.string c.u.name,.int .i64 c.u.cur,.int .i64 c.u.price,.int .i64 c.u.vol,.int .i64 c.i.kind,.int .i64 c.i.under,.int .i64 c.i.mult,.int .i64 c.i.strike,.int .i64 c.i.expiry,.bool c.i.call,.int .i64 c.i.mark]),(b5, 31,({ U with ac:=ac }:LedV).cells L)] from F2.o.at_)
      have LTT:=zq (show LedAt WH { U with ac:=ac } L from by
       have h1:=F2.o.own.led
       have h2:=HH.o _ F2.o.low
       have c2:RowOf WH 4 Und.cells U.unders (((L.unders.set m ⟨xn,xc,c.b,c.c⟩).set m ⟨xn,xc,xp,c.c⟩).set m ⟨xn,xc,xp,xv⟩):=h1.unders
       rw[List.set_set,List.set_set,set_same_at HXM.o] at c2
       exact⟨h1.curs,c2,h1.instrs,h1.same,h1.accts,h1.cash,h1.poss,h1.orders,h1.avail,h1.locs,h2.names,h2.nums⟩)
      have LCU:=zq (ledc LTT.o)
      have SQ:=zq (lsame_any _ { U with ac:=ac } V L L LTT.o (HH.o _ XT.o.low) SH.o (fun a ha=>by have:=(good_bulk HGD.o).2.1 a ha;omega))
      rw[eqB_yes rfl] at SQ
      unfold LedV.val at SQ
      rw[<- EC.o] at SQ
      clear F2 F1 FF
      go_wp2_with (first|refine led_load (XT.o.get 2 rfl) LCU.o rfl rfl rfl ?_|refine led_load (XT.o.get 0 rfl) LC.o rfl rfl rfl ?_)
      refine SQ.o.mono ?_
      rintro e w9 ⟨rfl,hb⟩
      have X9:=zq (XT.o.go hb)
      clear hb
      go_wp2_with fail
      go_ret
      exact⟨rfl,X9.o.low⟩
     ·by_cases hcA:c.a<L.curs.length
      ·have hb7:bits .and .i64 c.kind 7=1:=by rw[and7];exact KK.o.1.symm
       have ERR:(rateS L c.a c.b c.c).err=0:=by have:=HA.o.1;rw[CK.o] at this;exact this
       obtain⟨m,em,⟨xr,xh⟩,hx,eN⟩:=rate_old hcA ERR
       have NE:N={ L with curs:=L.curs.set m ⟨c.b,c.c⟩ }:=by rw[HN.o,CK.o];exact eN
       have F':=F.o
       rw[(unflagged_all HA.o.2.1 (by rw[NE]) HA.o.2.2.2.1 (by rw[<- NN.o.2.2.1];exact UQ.o)).trans NE,show U.cells M=U.cells L from by unfold LedV.cells;rw[(flagsO_only HA.o.2.1).1,NE] <;> rfl] at F'
       have F:=zq F'
       clear F' UQ HN
       obtain⟨va,vc,hva⟩:∃ a d,V.curs=.slice a L.curs.length d:=(HH.o W F.o.low).curs.form
       obtain⟨n1,hn1⟩:∃ n,n=L.curs.length:=⟨_,rfl⟩
       have hml:=(List.getElem?_eq_some_iff.1 hx).1
       obtain⟨ug,uc1,hua0,hdl,hdm,hcu,hdf⟩:=F.o.own.curs.slot curcells_len (by decide) (k:=m) (x:=⟨c.b,c.c⟩) (List.getElem?_set_self hml)
       have hua:U.curs=.slice (some ⟨ug,0,none⟩) n1 uc1:=by have h:U.curs=_:=hua0;rw[List.length_set,<- hn1] at h;exact h
       have rl:=(HH.o W F.o.low).curs
       rw[hva] at rl
       obtain⟨lg,lo,el,_,hcl⟩:=rl.at_ hx
       subst el
       rw[<- hn1] at hva hml
       have N1:=zq (And.intro hn1 hml)
       have HXM:=zq hx
       have HVA:=zq hva
       have HUA:=zq hua
       have HDF:=zq hdf
       have hmi:(m:Int)<(n1:Int):=by omega
       have u0:W.cell? ⟨ug,m*2,none⟩=some (.int .i64 c.b):=by have:=hcu 0 _ rfl;simpa using this
       have u1:W.cell? ⟨ug,m*2+1,none⟩=some (.int .i64 c.c):=hcu 1 _ rfl
       have l0:W.cell? ⟨lg,lo+m*2,none⟩=some (.int .i64 xr):=by have:=hcl 0 _ rfl;simpa using this
       have l1:W.cell? ⟨lg,lo+m*2+1,none⟩=some (.int .i64 xh):=hcl 1 _ rfl
       have CH:=zq (And.intro (And.intro u0 u1) (And.intro l0 l1))
       have y1:W.cell? ⟨b5,1,none⟩=some (.slice (some ⟨ug,0,none⟩) n1 uc1):=F.o.at_.cell 2 rfl 1 (by rw[<- hua];rfl)
       have z1:W.cell? ⟨b0+1,1,none⟩=some (.int .i64 (m:Int)):=by rw[<- em];exact F.o.at_.cell 1 rfl 1 rfl
       have z2:W.cell? ⟨b0+1,2,none⟩=some (.int .i64 c.b):=F.o.at_.cell 1 rfl 2 rfl
       have z3:W.cell? ⟨b0+1,3,none⟩=some (.int .i64 c.c):=F.o.at_.cell 1 rfl 3 rfl
       have EMM:=zq em
       clear hx hcu hcl rl em eN ERR NE hva hua hua0 hn1 hml hcA hdl hdm hdf
       have bdc:∀ W,(Instr.build 61 #[(0,.int .i64 c.b),(1,.int .i64 c.c)]).run Tryz.prog W=.ok (.agg #[.int .i64 c.b,.int .i64 c.c]) W:=fun W=>by kernel_rfl
       go_upto_region 22 with fail
       clear z0 hb7
       have FD:=zq F.o.drew
       refine Fall2.wp_region_tree (C:=fun w'=>True) [] [] (.step 0 (.step 1 (.step 2 (.step 3 (.step 4 (.step 5 (.step 6 (.step 7 (.step 8 (.step 9 (.step 10 (.step 11 .leaf)))))))))))) (fun _ _ _=>False) (by kernel_rfl) (fun _ _ _ h=>h.elim) (by kernel_rfl) trivial ?_
       refine Fall2.tree_still [0,1,2,3,4,5,6,7,8,9,10,11] (by kernel_rfl) ?_
       simp only[pickL,nth]
       repeat (go_big_quiet_step (fail))
       refine wpQuiet_nil ?_
       refine Fall2.tree_nil ?_
       go_simp
       obtain⟨WD,hWD⟩:∃ s,s=W.drew:=⟨_,rfl⟩
       have CD:=zq (show (WD.cell? ⟨ug,m*2,none⟩=some (.int .i64 c.b) /\ WD.cell? ⟨ug,m*2+1,none⟩=some (.int .i64 c.c)) /\ WD.cell? ⟨lg,lo+m*2,none⟩=some (.int .i64 xr) /\ WD.cell? ⟨lg,lo+m*2+1,none⟩=some (.int .i64 xh) from by rw[hWD];exact CH.o)
       have HD2:=zq (show ∀ j,WD.frozen? ⟨ug,j,none⟩=false from by rw[hWD];exact HDF.o)
       rw[<- hWD] at FD ⊢
       clear hWD u0 u1 l0 l1 y1 z1 z2 z3 F CH bdc HDF
       have x1:WD.cell? ⟨b0,1,none⟩=some (.slice (some ⟨lg,lo,none⟩) n1 vc):=FD.o.at_.cell 0 rfl 1 (by rw[EC.o,<- HVA.o];rfl)
       have z1:WD.cell? ⟨b0+1,1,none⟩=some (.int .i64 (m:Int)):=by rw[<- EMM.o];exact FD.o.at_.cell 1 rfl 1 rfl
       go_upto_region 25 with fail
       clear x1 z1
       have FF:=zq FD.o.drew
       obtain⟨WF,hWF⟩:∃ s,s=WD.drew:=⟨_,rfl⟩
       have CF:=zq (show (WF.cell? ⟨ug,m*2,none⟩=some (.int .i64 c.b) /\ WF.cell? ⟨ug,m*2+1,none⟩=some (.int .i64 c.c)) /\ WF.cell? ⟨lg,lo+m*2,none⟩=some (.int .i64 xr) /\ WF.cell? ⟨lg,lo+m*2+1,none⟩=some (.int .i64 xh) from by rw[hWF];exact CD.o)
       have HD3:=zq (show ∀ j,WF.frozen? ⟨ug,j,none⟩=false from by rw[hWF];exact HD2.o)
       refine Fall2.wp_region_tree (C:=fun w'=>True) [11] [] (.step 0 (.step 1 (.step 2 (.step 3 (.step 4 (.step 5 (.step 6 (.step 7 (.step 8 (.step 9 (.step 10 (.step 11 .leaf)))))))))))) (fun _ _ _=>False) (by kernel_rfl) (fun _ _ _ h=>h.elim) (by kernel_rfl) trivial ?_
       rw[<- hWF] at FF ⊢
       clear hWF FD CD HD2
       have u0:=CF.o.1.1
       have u1:=CF.o.1.2
       have l0:=CF.o.2.1
       have l1:=CF.o.2.2
       have f0:=HD3.o (m*2)
       have f1:=HD3.o (m*2+1)
       have x1:WF.cell? ⟨b0,1,none⟩=some (.slice (some ⟨lg,lo,none⟩) n1 vc):=FF.o.at_.cell 0 rfl 1 (by rw[EC.o,<- HVA.o];rfl)
       have y1:WF.cell? ⟨b5,1,none⟩=some (.slice (some ⟨ug,0,none⟩) n1 uc1):=FF.o.at_.cell 2 rfl 1 (by rw[<- HUA.o];rfl)
       have z1:WF.cell? ⟨b0+1,1,none⟩=some (.int .i64 (m:Int)):=by rw[<- EMM.o];exact FF.o.at_.cell 1 rfl 1 rfl
       have S1:=FF.o.own.set_curs (g:=ug) (c:=uc1) (k:=m) (j:=0) (by rw[show ({ U with ac:=ac }:LedV).curs=_ from HUA.o,List.length_set,<- N1.o.1]) (x:=⟨c.b,c.c⟩) (x':=⟨xr,c.c⟩) (u:=.int .i64 xr) (List.getElem?_set_self (by rw[<- N1.o.1];exact N1.o.2)) (by decide) rfl
       have F1:=FF.o.row S1.1 S1.2 (q:=0) rfl (by rw[show ({ U with ac:=ac }:LedV).curs=_ from HUA.o];rfl) rfl
       have S2:=F1.own.set_curs (g:=ug) (c:=uc1) (k:=m) (j:=1) (by rw[show ({ U with ac:=ac }:LedV).curs=_ from HUA.o,List.length_set,List.length_set,<- N1.o.1]) (x:=⟨xr,c.c⟩) (x':=⟨xr,xh⟩) (u:=.int .i64 xh) (List.getElem?_set_self (by rw[List.length_set,<- N1.o.1];exact N1.o.2)) (by decide) rfl
       have F2:=zq (F1.row S2.1 S2.2 (q:=0) rfl (by rw[show ({ U with ac:=ac }:LedV).curs=_ from HUA.o];rfl) rfl)
       clear S1 F1 S2
       refine Fall2.tree_still [0,1,2,3,4,5,6,7,8,9,10] (by kernel_rfl) ?_
       simp only[pickL,nth]
       repeat (go_big_quiet_step (fail))
       refine wpQuiet_nil ?_
       refine Fall2.tree_last (by kernel_rfl) rfl (by kernel_rfl) (fun K hK=>?_)
       simp only[pickL,nth]
       refine wpOne_one ?_
       go_simp
       refine hK _ _ ?_
       clear hK u0 u1 l0 l1 f0 f1 x1 y1 z1
       refine Fall2.tree_nil ?_
       obtain⟨WH,hWH⟩:∃ s,s=(WF.setCell ⟨ug,m*2,none⟩ (.int .i64 xr)).setCell ⟨ug,m*2+1,none⟩ (.int .i64 xh):=⟨_,rfl⟩
       have F2:=zq (show FBs w w3.heap.size [(b0, 31,C),(b0+1, 51,#[.int .i64 c.kind,.int .i64 c.a,.int .i64 c.b,.int .i64 c.c,.string c.u.name,.int .i64 c.u.cur,.int .i64 c.u.price,.int .i64 c.u.vol,.int .i64 c.i.kind,.int .i64 c.i.under,.int .i64 c.i.mult,.int .i64 c.i.strike,.int .i64 c.i.expiry,.bool c.i.call,.int .i64 c.i.mark]),(b5, 31,U.cells L)] { U with ac:=ac } { L with curs:=((L.curs.set m ⟨c.b,c.c⟩).set m ⟨xr,c.c⟩).set m ⟨xr,xh⟩ } WH from by rw[hWH];exact F2.o)
       rw[<- hWH]
       clear hWH
       have XT:=zq (show At w WH [(b0, 31,C),(b0+1, 51,#[.int .i64 c.kind,.int .i64 c.a,.int .i64 c.b,.int .i64 c.c,.string c.u.name,.int .i64 c.u.cur,.int .i64 c.u.price,.int .i64 c.u.vol,.int .i64 c.i.kind,.int .i64 c.i.under,.int .i64 c.i.mult,.int .i64 c.i.strike,.int .i64 c.i.expiry,.bool c.i.call,.int .i64 c.i.mark]),(b5, 31,({ U with ac:=ac }:LedV).cells L)] from F2.o.at_)
       have LTT:=zq (show LedAt WH { U with ac:=ac } L from by
        have h1:=F2.o.own.led
        have h2:=HH.o _ F2.o.low
        have c1:RowOf WH 2 Cur.cells U.curs (((L.curs.set m ⟨c.b,c.c⟩).set m ⟨xr,c.c⟩).set m ⟨xr,xh⟩):=h1.curs
        rw[List.set_set,List.set_set,set_same_at HXM.o] at c1
        exact⟨c1,h1.unders,h1.instrs,h1.same,h1.accts,h1.cash,h1.poss,h1.orders,h1.avail,h1.locs,h2.names,h2.nums⟩)
       have LCU:=zq (ledc LTT.o)
       have SQ:=zq (lsame_any _ { U with ac:=ac } V L L LTT.o (HH.o _ XT.o.low) SH.o (fun a ha=>by have:=(good_bulk HGD.o).2.1 a ha;omega))
       rw[eqB_yes rfl] at SQ
       unfold LedV.val at SQ
       rw[<- EC.o] at SQ
       clear F2 FF
       go_wp2_with (first|refine led_load (XT.o.get 2 rfl) LCU.o rfl rfl rfl ?_|refine led_load (XT.o.get 0 rfl) LC.o rfl rfl rfl ?_)
       refine SQ.o.mono ?_
       rintro e w9 ⟨rfl,hb⟩
       have X9:=zq (XT.o.go hb)
       clear hb
       go_wp2_with fail
       go_ret
       exact⟨rfl,X9.o.low⟩
      ·have hb7:bits .and .i64 c.kind 7=1:=by rw[and7];exact KK.o.1.symm
       have ERR:(rateS L c.a c.b c.c).err=0:=by have:=HA.o.1;rw[CK.o] at this;exact this
       have RN:=rateS_new hcA ERR
       have eN:=congrArg Adm.led RN.2.2
       have NE:N=L.newCur ⟨c.b,c.c⟩:=by rw[HN.o,CK.o];exact eN
       have F':=F.o
       rw[(unflagged_all HA.o.2.1 (by rw[NE] <;> simp[Led.newCur]) HA.o.2.2.2.1 (by rw[<- NN.o.2.2.1];exact UQ.o)).trans NE,show U.cells M=U.cells L from by unfold LedV.cells;rw[(flagsO_only HA.o.2.1).1,NE] <;> rfl] at F'
       have F:=zq F'
       clear F' UQ HN
       obtain⟨va,vc,hva⟩:∃ a d,V.curs=.slice a L.curs.length d:=(HH.o W F.o.low).curs.form
       obtain⟨n1,hn1⟩:∃ n,n=L.curs.length:=⟨_,rfl⟩
       have hn4:n1 <= 4:=by rw[hn1];exact HGD.o.things.c1
       have em:c.a=(n1:Int):=by rw[hn1];exact RN.2.1
       obtain⟨ug,uc1,hua0,hdl,hdm,hcu,hdf⟩:=F.o.own.curs.slot curcells_len (by decide) (k:=n1) (x:=⟨c.b,c.c⟩) (by rw[hn1];exact List.getElem?_concat_length)
       have hua:U.curs=.slice (some ⟨ug,0,none⟩) (n1+1) uc1:=by have h:U.curs=_:=hua0;simp only[Led.newCur] at h;rw[List.length_append,List.length_singleton,<- hn1] at h;exact h
       have hdl2:n1+1 <= uc1:=by simp only[Led.newCur] at hdl;rw[List.length_append,List.length_singleton,<- hn1] at hdl;exact hdl
       rw[<- hn1] at hva
       have N1:=zq hn1
       have HVA:=zq hva
       have HUA:=zq hua
       have N54:=zq (show n5=n4 from by
        have h1:=(flagsO_only HA.o.2.1).2.1
        rw[NE] at h1
        simp only[Led.newCur,List.length_map] at h1
        have:=NN.o
        omega)
       have hmi:(n1:Int)<(n1:Int)+1:=by omega
       have hmu:(n1:Int) <= (uc1:Int):=by omega
       have u0:W.cell? ⟨ug,n1*2,none⟩=some (.int .i64 c.b):=by have:=hcu 0 _ rfl;simpa using this
       have u1:W.cell? ⟨ug,n1*2+1,none⟩=some (.int .i64 c.c):=hcu 1 _ rfl
       have y1:W.cell? ⟨b5,1,none⟩=some (.slice (some ⟨ug,0,none⟩) (n1+1) uc1):=F.o.at_.cell 2 rfl 1 (by rw[<- hua];rfl)
       have z1:W.cell? ⟨b0+1,1,none⟩=some (.int .i64 (n1:Int)):=by rw[<- em];exact F.o.at_.cell 1 rfl 1 rfl
       have z2:W.cell? ⟨b0+1,2,none⟩=some (.int .i64 c.b):=F.o.at_.cell 1 rfl 2 rfl
       have z3:W.cell? ⟨b0+1,3,none⟩=some (.int .i64 c.c):=F.o.at_.cell 1 rfl 3 rfl
       have EMM:=zq em
       clear hcu em eN ERR NE hva hua hua0 hn1 hcA hdl hdl2 hdm hdf RN
       have bdc:∀ W,(Instr.build 61 #[(0,.int .i64 c.b),(1,.int .i64 c.c)]).run Tryz.prog W=.ok (.agg #[.int .i64 c.b,.int .i64 c.c]) W:=fun W=>by kernel_rfl
       go_upto_region 22 with fail
       clear z0 hb7
       have FD:=zq F.o.drew
       refine Fall2.wp_region_tree (C:=fun w'=>True) [] [] (.step 0 (.step 1 (.step 2 (.step 3 (.step 4 (.step 5 (.step 6 (.step 7 (.step 8 (.step 9 (.step 10 (.step 11 .leaf)))))))))))) (fun _ _ _=>False) (by kernel_rfl) (fun _ _ _ h=>h.elim) (by kernel_rfl) trivial ?_
       refine Fall2.tree_still [0,1,2,3,4,5,6,7,8,9,10,11] (by kernel_rfl) ?_
       simp only[pickL,nth]
       repeat (go_big_quiet_step (fail))
       refine wpQuiet_nil ?_
       refine Fall2.tree_nil ?_
       go_simp
       obtain⟨WD,hWD⟩:∃ s,s=W.drew:=⟨_,rfl⟩
       rw[<- hWD] at FD ⊢
       clear hWD u0 u1 y1 z1 z2 z3 F bdc
       have x1:WD.cell? ⟨b0,1,none⟩=some (.slice va n1 vc):=FD.o.at_.cell 0 rfl 1 (by rw[EC.o,<- HVA.o];rfl)
       have z1:WD.cell? ⟨b0+1,1,none⟩=some (.int .i64 (n1:Int)):=by rw[<- EMM.o];exact FD.o.at_.cell 1 rfl 1 rfl
       have y1:WD.cell? ⟨b5,1,none⟩=some (.slice (some ⟨ug,0,none⟩) (n1+1) uc1):=FD.o.at_.cell 2 rfl 1 (by rw[<- HUA.o];rfl)
       have y1f:WD.frozen? ⟨b5,1,none⟩=false:=FD.o.at_.free 2 rfl 1
       have FC:=FD.o.cutCurs (a:=some ⟨ug,0,none⟩) (m:=n1+1) (q:=uc1) (j:=n1) HUA.o (by simp only[Led.newCur];rw[List.length_append,<- N1.o];omega)
       have FC2:=FC.cell 2 rfl 1 (.slice (some ⟨ug,0,none⟩) n1 uc1)
       have J1:=zq (show ∃ ac' A',FBs w w3.heap.size [(b0, 31,C),(b0+1, 51,#[.int .i64 c.kind,.int .i64 c.a,.int .i64 c.b,.int .i64 c.c,.string c.u.name,.int .i64 c.u.cur,.int .i64 c.u.price,.int .i64 c.u.vol,.int .i64 c.i.kind,.int .i64 c.i.under,.int .i64 c.i.mult,.int .i64 c.i.strike,.int .i64 c.i.expiry,.bool c.i.call,.int .i64 c.i.mark]),(b5, 31,({ U with curs:=.slice (some ⟨ug,0,none⟩) n1 uc1 }:LedV).cells L)] { U with curs:=.slice (some ⟨ug,0,none⟩) n1 uc1,ac:=ac' } { L with accts:=A' } (WD.setCell ⟨b5,1,none⟩ (.slice (some ⟨ug,0,none⟩) n1 uc1)) /\ CU L.accts 0 A' from by
        refine⟨ac,L.accts.map fun a=>{ a with cash:=a.cash++[0] },?_,CU.start _⟩
        have e:((L.newCur ⟨c.b,c.c⟩).curs).take n1=L.curs:=by simp only[Led.newCur];rw[N1.o];exact List.take_left
        rw[e] at FC2
        exact FC2)
       clear FC FC2
       go_upto_region 27 with fail
       clear x1 y1 y1f z1
       obtain⟨WG,hWG⟩:∃ s,s=WD.setCell ⟨b5,1,none⟩ (.slice (some ⟨ug,0,none⟩) n1 uc1):=⟨_,rfl⟩
       rw[<- hWG] at J1 ⊢
       clear hWG FD
       have y4:WG.cell? ⟨b5,4,none⟩=some (.slice ua n5 uc):=by
        obtain⟨ac',A',f,_⟩:=J1.o
        exact f.at_.cell 2 rfl 4 (by rw[<- FA.o.2];rfl)
       have hn516:n5 <= 16:=by have:=N54.o;have:=NN.o;omega
       go_wp2_with fail
       go_loopw [160] (fun i wr=>∃ j:Nat,j <= n5 /\ i=.int .i64 j /\ ∃ W,W=wr /\ Hid (∃ ac' A',FBs w w3.heap.size [(b0, 31,C),(b0+1, 51,#[.int .i64 c.kind,.int .i64 c.a,.int .i64 c.b,.int .i64 c.c,.string c.u.name,.int .i64 c.u.cur,.int .i64 c.u.price,.int .i64 c.u.vol,.int .i64 c.i.kind,.int .i64 c.i.under,.int .i64 c.i.mult,.int .i64 c.i.strike,.int .i64 c.i.expiry,.bool c.i.call,.int .i64 c.i.mark]),(b5, 31,({ U with curs:=.slice (some ⟨ug,0,none⟩) n1 uc1 }:LedV).cells L)] { U with curs:=.slice (some ⟨ug,0,none⟩) n1 uc1,ac:=ac' } { L with accts:=A' } W /\ CU L.accts j A')) (fun i _=>n5 - (intOf i).toNat)
       case atStart=>exact⟨0,Nat.zero_le _,rfl,_,rfl,J1⟩
       case round =>
        clear J1 y4
        obtain⟨j,hj,rfl,W,rfl,JJ⟩:=hrel
        obtain⟨ac',A',F0,UJ⟩:=JJ.o
        have F:=zq F0
        have UQ:=zq UJ
        clear F0 UJ JJ
        by_cases hlt:j<n5
        ·have hlt':(j:Int)<(n5:Int):=by omega
         have LT_:=zq hlt
         have hj16:j <= 16:=by omega
         have LN:=zq (show ac'.length=n5 /\ A'=ac'.map (·.1) from by
          have h1:A'=ac'.map (·.1):=F.o.own.same
          have h2:=congrArg List.length h1
          rw[List.length_map] at h2
          have:=UQ.o.len
          have:=NN.o
          have:=N54.o
          exact⟨by omega,h1⟩)
         obtain⟨x,hx⟩:∃ x,L.accts[j]?=some x:=⟨_,List.getElem?_eq_getElem (by have:=NN.o;have:=N54.o;omega)⟩
         obtain⟨p,hp⟩:∃ p,ac'[j]?=some p:=⟨_,List.getElem?_eq_getElem (by have:=LN.o.1;omega)⟩
         have hpx:p.1={ x with cash:=x.cash++[0] }:=by
          have h1:=UQ.o.high j (Nat.le_refl _)
          rw[hx,LN.o.2,List.getElem?_map,hp] at h1
          exact Option.some.inj h1
         have hxl:x.cash.length=n1:=by rw[N1.o];exact (HGD.o.accounts.accts j x hx).1
         obtain⟨xp,xc,xf,xl⟩:=x
         obtain⟨p1,pv⟩:=p
         simp only at hpx hxl
         subst hpx
         obtain⟨qg,uc',hgu,hd1,hd2,hd3⟩:=F.o.own.accts.block hp
         have hgu2:U.accts=.slice (some ⟨qg,0,none⟩) ac'.length uc':=hgu
         have e1:=FA.o.2.symm.trans hgu2
         injection e1 with e1 e0 e2
         subst e1
         subst e2
         have HU:=zq hgu2
         have oc:=F.o.own.cash _ (List.mem_of_getElem? hp)
         obtain⟨gp,pq,hpv0,hd4,hd5,hcp,hfp⟩:=oc.slot icell_len (by decide) (k:=n1) (x:=0) (by rw[<- hxl];exact List.getElem?_concat_length)
         have hpv:pv=.slice (some ⟨gp,0,none⟩) (n1+1) pq:=by have h:pv=_:=hpv0;rw[List.length_append,List.length_singleton,hxl] at h;exact h
         have hpq:(n1:Int) <= (pq:Int):=by rw[List.length_append,List.length_singleton,hxl] at hd4;omega
         clear hpv0 hd1 hd2 hd3 hd4 hd5
         subst hpv
         have HP:=zq hp
         have HXJ:=zq (And.intro hx hxl)
         have hcu:=acct_cells F.o.own hgu2 hp
         have HZ0:=zq (show W.cell? ⟨gp,n1,none⟩=some (.int .i64 0) from by have:=hcp 0 _ rfl;simpa using this)
         have a0:W.cell? ⟨qg,j*4,none⟩=some (.int .i64 xp):=hcu.1 0 _ rfl
         have a1:W.cell? ⟨qg,j*4+1,none⟩=some (.slice (some ⟨gp,0,none⟩) (n1+1) pq):=hcu.1 1 _ rfl
         have a2:W.cell? ⟨qg,j*4+2,none⟩=some (.bool xf):=hcu.1 2 _ rfl
         have a3:W.cell? ⟨qg,j*4+3,none⟩=some (.int .i64 xl):=hcu.1 3 _ rfl
         have y5:W.cell? ⟨b5,4,none⟩=some (.slice (some ⟨qg,0,none⟩) n5 uc):=F.o.at_.cell 2 rfl 4 (by rw[<- FA.o.2];rfl)
         clear hp hx hgu hgu2 hcu hcp hfp hxl oc e0
         go_upto_region 31 with fail
         clear a0 a1 a2 a3 y5
         obtain⟨W1,hW1⟩:∃ s,s=W.alloc (.cells #[.int .i64 xp,.slice (some ⟨gp,0,none⟩) (n1+1) pq,.bool xf,.int .i64 xl] 56):=⟨_,rfl⟩
         obtain⟨b8,hb8⟩:∃ n,n=W.heap.size:=⟨_,rfl⟩
         have F1:=zq (show FBs w w3.heap.size ([(b0, 31,C),(b0+1, 51,#[.int .i64 c.kind,.int .i64 c.a,.int .i64 c.b,.int .i64 c.c,.string c.u.name,.int .i64 c.u.cur,.int .i64 c.u.price,.int .i64 c.u.vol,.int .i64 c.i.kind,.int .i64 c.i.under,.int .i64 c.i.mult,.int .i64 c.i.strike,.int .i64 c.i.expiry,.bool c.i.call,.int .i64 c.i.mark]),(b5, 31,({ U with curs:=.slice (some ⟨ug,0,none⟩) n1 uc1 }:LedV).cells L)]++[(b8, 56,#[.int .i64 xp,.slice (some ⟨gp,0,none⟩) (n1+1) pq,.bool xf,.int .i64 xl])]) { U with curs:=.slice (some ⟨ug,0,none⟩) n1 uc1,ac:=ac' } { L with accts:=A' } W1 from by rw[hW1,hb8];exact F.o.box _ _)
         have B1:=zq (show Below W.heap.size W W1 from by rw[hW1];exact (Below.refl _ _).alloc (Nat.le_refl _) _)
         rw[<- hW1,<- hb8]
         clear hW1 hb8
         have cz:W1.cell? ⟨gp,n1,none⟩=some (.int .i64 0):=(Mod.of_below B1.o).cell HZ0.o (fun h=>h)
         have x1:W1.cell? ⟨b0,1,none⟩=some (.slice va n1 vc):=F1.o.at_.cell 0 rfl 1 (by rw[EC.o,<- HVA.o];rfl)
         have t1:W1.cell? ⟨b8,1,none⟩=some (.slice (some ⟨gp,0,none⟩) (n1+1) pq):=F1.o.at_.cell 3 rfl 1 rfl
         have t1f:W1.frozen? ⟨b8,1,none⟩=false:=F1.o.at_.free 3 rfl 1
         have F2:=zq (show FBs w w3.heap.size ([(b0, 31,C),(b0+1, 51,#[.int .i64 c.kind,.int .i64 c.a,.int .i64 c.b,.int .i64 c.c,.string c.u.name,.int .i64 c.u.cur,.int .i64 c.u.price,.int .i64 c.u.vol,.int .i64 c.i.kind,.int .i64 c.i.under,.int .i64 c.i.mult,.int .i64 c.i.strike,.int .i64 c.i.expiry,.bool c.i.call,.int .i64 c.i.mark]),(b5, 31,({ U with curs:=.slice (some ⟨ug,0,none⟩) n1 uc1 }:LedV).cells L)]++[(b8, 56,#[.int .i64 xp,.slice (some ⟨gp,0,none⟩) n1 pq,.bool xf,.int .i64 xl])]) { U with curs:=.slice (some ⟨ug,0,none⟩) n1 uc1,ac:=ac' } { L with accts:=A' } (W1.setCell ⟨b8,1,none⟩ (.slice (some ⟨gp,0,none⟩) n1 pq)) from F1.o.cell 3 rfl 1 (.slice (some ⟨gp,0,none⟩) n1 pq))
         go_upto_region 34 with fail
         clear cz x1 t1 t1f
         obtain⟨W2,hW2⟩:∃ s,s=W1.setCell ⟨b8,1,none⟩ (.slice (some ⟨gp,0,none⟩) n1 pq):=⟨_,rfl⟩
         rw[<- hW2] at F2 ⊢
         clear hW2 F1
         have hcu:=acct_cells F2.o.own HU.o HP.o
         have a0:W2.cell? ⟨qg,j*4,none⟩=some (.int .i64 xp):=hcu.1 0 _ rfl
         have a1:W2.cell? ⟨qg,j*4+1,none⟩=some (.slice (some ⟨gp,0,none⟩) (n1+1) pq):=hcu.1 1 _ rfl
         have a2:W2.cell? ⟨qg,j*4+2,none⟩=some (.bool xf):=hcu.1 2 _ rfl
         have a3:W2.cell? ⟨qg,j*4+3,none⟩=some (.int .i64 xl):=hcu.1 3 _ rfl
         have f0:W2.frozen? ⟨qg,j*4,none⟩=false:=hcu.2 _
         have f1:W2.frozen? ⟨qg,j*4+1,none⟩=false:=hcu.2 _
         have f2:W2.frozen? ⟨qg,j*4+2,none⟩=false:=hcu.2 _
         have f3:W2.frozen? ⟨qg,j*4+3,none⟩=false:=hcu.2 _
         have y5:W2.cell? ⟨b5,4,none⟩=some (.slice (some ⟨qg,0,none⟩) n5 uc):=F2.o.at_.cell 2 rfl 4 (by rw[<- FA.o.2];rfl)
         have t0:W2.cell? ⟨b8,0,none⟩=some (.int .i64 xp):=F2.o.at_.cell 3 rfl 0 rfl
         have t1:W2.cell? ⟨b8,1,none⟩=some (.slice (some ⟨gp,0,none⟩) n1 pq):=F2.o.at_.cell 3 rfl 1 rfl
         have t2:W2.cell? ⟨b8,2,none⟩=some (.bool xf):=F2.o.at_.cell 3 rfl 2 rfl
         have t3:W2.cell? ⟨b8,3,none⟩=some (.int .i64 xl):=F2.o.at_.cell 3 rfl 3 rfl
         have F3:=zq (show ∃ ac'' A'',FBs w w3.heap.size [(b0, 31,C),(b0+1, 51,#[.int .i64 c.kind,.int .i64 c.a,.int .i64 c.b,.int .i64 c.c,.string c.u.name,.int .i64 c.u.cur,.int .i64 c.u.price,.int .i64 c.u.vol,.int .i64 c.i.kind,.int .i64 c.i.under,.int .i64 c.i.mult,.int .i64 c.i.strike,.int .i64 c.i.expiry,.bool c.i.call,.int .i64 c.i.mark]),(b5, 31,({ U with curs:=.slice (some ⟨ug,0,none⟩) n1 uc1 }:LedV).cells L)] { U with curs:=.slice (some ⟨ug,0,none⟩) n1 uc1,ac:=ac'' } { L with accts:=A'' } ((((W2.setCell ⟨qg,j*4,none⟩ (.int .i64 xp)).setCell ⟨qg,j*4+1,none⟩ (.slice (some ⟨gp,0,none⟩) n1 pq)).setCell ⟨qg,j*4+2,none⟩ (.bool xf)).setCell ⟨qg,j*4+3,none⟩ (.int .i64 xl)) /\ CU L.accts (j+1) A'' from by
          have h1:=(F2.o.storeCash HU.o HP.o (a:=some ⟨gp,0,none⟩) (m:=n1+1) (q:=pq) (j:=n1) rfl (by simp only;rw[List.length_append,HXJ.o.2];omega)).sub (List.sublist_append_left _ _)
          have h2:=UQ.o.next HXJ.o.1
          have e:(xc++[0]).take n1=xc:=by rw[<- HXJ.o.2];exact List.take_left
          simp only at h1
          rw[e] at h1
          exact⟨_,_,h1,h2⟩)
         clear hcu F F2
         go_wp2_with fail
         go_roundw
         case rel=>exact⟨j+1,by have:=LT_.o;omega,by go_num,_,rfl,F3⟩
         case measure=>have:=LT_.o;simp[intOf];omega
        ·have hlt':¬ (j:Int)<(n5:Int):=by omega
         obtain rfl:n5=j:=by omega
         have DN:=zq (UQ.o.done (by have:=NN.o;have:=N54.o;omega))
         have XT:=zq (show At w W [(b0, 31,C),(b0+1, 51,#[.int .i64 c.kind,.int .i64 c.a,.int .i64 c.b,.int .i64 c.c,.string c.u.name,.int .i64 c.u.cur,.int .i64 c.u.price,.int .i64 c.u.vol,.int .i64 c.i.kind,.int .i64 c.i.under,.int .i64 c.i.mult,.int .i64 c.i.strike,.int .i64 c.i.expiry,.bool c.i.call,.int .i64 c.i.mark]),(b5, 31,({ U with curs:=.slice (some ⟨ug,0,none⟩) n1 uc1,ac:=ac' }:LedV).cells L)] from F.o.at_)
         have LTT:=zq (show LedAt W { U with curs:=.slice (some ⟨ug,0,none⟩) n1 uc1,ac:=ac' } L from by
          have h1:=F.o.own.led
          have h2:=HH.o _ F.o.low
          exact⟨h1.curs,h1.unders,h1.instrs,DN.o.symm.trans h1.same,h1.accts,h1.cash,h1.poss,h1.orders,h1.avail,h1.locs,h2.names,h2.nums⟩)
         have LCU:=zq (ledc LTT.o)
         have SQ:=zq (lsame_any _ { U with curs:=.slice (some ⟨ug,0,none⟩) n1 uc1,ac:=ac' } V L L LTT.o (HH.o _ XT.o.low) SH.o (fun a ha=>by have:=(good_bulk HGD.o).2.1 a ha;omega))
         rw[eqB_yes rfl] at SQ
         unfold LedV.val at SQ
         rw[<- EC.o] at SQ
         clear F UQ hlt hlt' hj
         go_wp2_with (first|refine led_load (XT.o.get 2 rfl) LCU.o rfl rfl rfl ?_|refine led_load (XT.o.get 0 rfl) LC.o rfl rfl rfl ?_)
         refine SQ.o.mono ?_
         rintro e w9 ⟨rfl,hb⟩
         have X9:=zq (XT.o.go hb)
         clear hb
         go_wp2_with fail
         go_ret
         exact⟨rfl,X9.o.low⟩
     ·have hb7:bits .and .i64 c.kind 7=2:=by rw[and7];exact KK.o.1.symm
      have ERR:(cashS L c.a c.b c.c).err=0:=by have:=HA.o.1;rw[CK.o] at this;exact this
      obtain⟨m,n,em,en,⟨ap,acs,af,al⟩,y,hx,hy,eN⟩:=cash_form HGD.o ERR
      have NE:N={ L with accts:=L.accts.set m ⟨ap,acs.set n (y+c.c),af,al⟩ }:=by rw[HN.o,CK.o];exact eN
      have F':=F.o
      rw[(unflagged_all HA.o.2.1 (by rw[NE] <;> exact List.length_set) HA.o.2.2.2.1 (by rw[<- NN.o.2.2.1];exact UQ.o)).trans NE,show U.cells M=U.cells L from by unfold LedV.cells;rw[(flagsO_only HA.o.2.1).1,NE] <;> rfl] at F'
      have F:=zq F'
      clear F' UQ HN
      have hxl:=(List.getElem?_eq_some_iff.1 hx).1
      have hyl:n<acs.length:=(List.getElem?_eq_some_iff.1 hy).1
      obtain⟨q,hq⟩:∃ q,q=y+c.c:=⟨_,rfl⟩
      rw[<- hq] at F NE
      obtain⟨p,hp,hp1⟩:∃ p,ac[m]?=some p /\ p.1=⟨ap,acs.set n q,af,al⟩:=by
       have h1:L.accts.set m ⟨ap,acs.set n q,af,al⟩=ac.map (·.1):=F.o.own.same
       have h2:(L.accts.set m ⟨ap,acs.set n q,af,al⟩)[m]?=(ac.map (·.1))[m]?:=by rw[h1]
       rw[List.getElem?_set_self hxl,List.getElem?_map] at h2
       cases hh:ac[m]? with
       | none=>rw[hh] at h2;cases h2
       | some p=>rw[hh] at h2;exact⟨p,rfl,(Option.some.inj h2).symm⟩
      obtain⟨p1,pv⟩:=p
      simp only at hp1
      subst hp1
      obtain⟨ug,uc',hgu,_⟩:=F.o.own.accts.block hp
      have hgu2:U.accts=.slice (some ⟨ug,0,none⟩) ac.length uc':=hgu
      have e1:=FA.o.2.symm.trans hgu2
      injection e1 with e1 e0 e2
      subst e1
      subst e2
      have oc:=F.o.own.cash _ (List.mem_of_getElem? hp)
      have hqn:(acs.set n q)[n]?=some q:=List.getElem?_set_self hyl
      obtain⟨gp,pq,hpv0,hd1,hd2,hcp,hfp⟩:=oc.slot icell_len (by decide) hqn
      obtain⟨pn,hpn⟩:∃ k,k=acs.length:=⟨_,rfl⟩
      have hpv:pv=.slice (some ⟨gp,0,none⟩) pn pq:=by have h:pv=_:=hpv0;rw[List.length_set,<- hpn] at h;exact h
      clear hpv0 hd1 hd2
      subst hpv
      obtain⟨xx,hxx⟩:∃ xx,V.ac[m]?=some xx:=⟨_,List.getElem?_eq_getElem (by have:=NN.o;omega)⟩
      have hx1:xx.1=⟨ap,acs,af,al⟩:=by
       have h1:=SV.o
       rw[h1,List.getElem?_map,hxx] at hx
       exact Option.some.inj hx
      obtain⟨xx1,xxv⟩:=xx
      simp only at hx1
      subst hx1
      have rl:=(HH.o W F.o.low).accts
      rw[FA.o.1] at rl
      obtain⟨lg,lo,el,_,hcl⟩:=rl.at_ hxx
      subst el
      have rc:=(HH.o W F.o.low).cash _ (List.mem_of_getElem? hxx)
      obtain⟨la2,lc2,hlv0⟩:=rc.form
      have hlv:xxv=.slice la2 pn lc2:=by have h:xxv=_:=hlv0;rw[<- hpn] at h;exact h
      clear hlv0
      subst hlv
      obtain⟨lp,lq,el2,_,hcl2⟩:=rc.at_ hy
      subst el2
      have HP:=zq hp
      have HM:=zq (show m<L.accts.length /\ L.accts[m]?=some ⟨ap,acs,af,al⟩ /\ n<acs.length /\ acs[n]?=some y /\ pn=acs.length /\ (-9223372036854775808 <= y /\ y <= 9223372036854775807) from ⟨hxl,hx,hyl,hy,hpn,(HH.o W F.o.low).nums _ (List.mem_of_getElem? hx) y (List.mem_of_getElem? hy)⟩)
      have hm4:(m:Int)<(n4:Int):=by have:=NN.o;omega
      have hm5:(m:Int)<(n5:Int):=by have:=NN.o;omega
      have hnp:(n:Int)<(pn:Int):=by omega
      have hcu:=acct_cells F.o.own hgu2 hp
      have a1:W.cell? ⟨ug,m*4+1,none⟩=some (.slice (some ⟨gp,0,none⟩) pn pq):=hcu.1 1 _ rfl
      have a2:W.cell? ⟨gp,n,none⟩=some (.int .i64 q):=by have:=hcp 0 _ rfl;simpa using this
      have l1:W.cell? ⟨lg,lo+m*4+1,none⟩=some (.slice (some ⟨lp,lq,none⟩) pn lc2):=hcl 1 _ rfl
      have l2:W.cell? ⟨lp,lq+n,none⟩=some (.int .i64 y):=by have:=hcl2 0 _ rfl;simpa using this
      have CH:=zq (show (W.cell? ⟨ug,m*4+1,none⟩=some (.slice (some ⟨gp,0,none⟩) pn pq) /\ W.cell? ⟨gp,n,none⟩=some (.int .i64 q) /\ W.cell? ⟨lg,lo+m*4+1,none⟩=some (.slice (some ⟨lp,lq,none⟩) pn lc2) /\ W.cell? ⟨lp,lq+n,none⟩=some (.int .i64 y)) /\ W.frozen? ⟨gp,n,none⟩=false from ⟨⟨a1,a2,l1,l2⟩,hfp n⟩)
      have y4:W.cell? ⟨b5,4,none⟩=some (.slice (some ⟨ug,0,none⟩) n5 uc):=F.o.at_.cell 2 rfl 4 (by rw[<- FA.o.2];rfl)
      have x4:W.cell? ⟨b0,4,none⟩=some (.slice (some ⟨lg,lo,none⟩) n4 lc):=F.o.at_.cell 0 rfl 4 G4.o.1
      have z1:W.cell? ⟨b0+1,1,none⟩=some (.int .i64 (m:Int)):=by rw[<- em];exact F.o.at_.cell 1 rfl 1 rfl
      have z2:W.cell? ⟨b0+1,2,none⟩=some (.int .i64 (n:Int)):=by rw[<- en];exact F.o.at_.cell 1 rfl 2 rfl
      have z3:W.cell? ⟨b0+1,3,none⟩=some (.int .i64 c.c):=F.o.at_.cell 1 rfl 3 rfl
      have ws:IntKind.i64.wrap (q - y)=c.c:=by rw[show q - y=c.c from by omega];exact IntWalk.i64_in _ (by obtain⟨h1,h2⟩:=HX.o.2;exact⟨h1,h2⟩)
      have EMM:=zq (And.intro em en)
      clear hq hx hy hcl rl rc hcl2 hcp hfp hcu em en eN ERR NE hxx hp hgu hgu2 oc hqn hxl hyl hpn e0
      go_upto_region 37 with fail
      clear z0 hb7
      have FD:=zq F.o.drew
      refine Fall2.wp_region_tree (C:=fun w'=>True) [] [] (.step 0 (.step 1 (.step 2 (.step 3 (.step 4 (.step 5 (.step 6 (.step 7 (.step 8 (.step 9 (.step 10 (.step 11 (.step 12 (.step 13 (.step 14 (.step 15 (.step 16 (.step 17 (.step 18 (.step 19 (.step 20 (.step 21 (.step 22 (.step 23 (.step 24 (.step 25 .leaf)))))))))))))))))))))))))) (fun _ _ _=>False) (by kernel_rfl) (fun _ _ _ h=>h.elim) (by kernel_rfl) trivial ?_
      refine Fall2.tree_still [0,1,2,3,4,5,6,7,8,9,10,11,12,13,14,15,16,17,18,19,20,21,22,23,24,25] (by kernel_rfl) ?_
      simp only[pickL,nth]
      repeat (go_big_quiet_step (fail))
      refine wpQuiet_nil ?_
      refine Fall2.tree_nil ?_
      go_simp
      obtain⟨WD,hWD⟩:∃ s,s=W.drew:=⟨_,rfl⟩
      have CD:=zq (show (WD.cell? ⟨ug,m*4+1,none⟩=some (.slice (some ⟨gp,0,none⟩) pn pq) /\ WD.cell? ⟨gp,n,none⟩=some (.int .i64 q) /\ WD.cell? ⟨lg,lo+m*4+1,none⟩=some (.slice (some ⟨lp,lq,none⟩) pn lc2) /\ WD.cell? ⟨lp,lq+n,none⟩=some (.int .i64 y)) /\ WD.frozen? ⟨gp,n,none⟩=false from by rw[hWD];exact CH.o)
      rw[<- hWD] at FD ⊢
      clear hWD a1 a2 l1 l2 y4 x4 z1 z2 z3 F CH
      go_upto_region 39 with fail
      have FF:=zq FD.o.drew
      obtain⟨WF,hWF⟩:∃ s,s=WD.drew:=⟨_,rfl⟩
      have CF:=zq (show (WF.cell? ⟨ug,m*4+1,none⟩=some (.slice (some ⟨gp,0,none⟩) pn pq) /\ WF.cell? ⟨gp,n,none⟩=some (.int .i64 q) /\ WF.cell? ⟨lg,lo+m*4+1,none⟩=some (.slice (some ⟨lp,lq,none⟩) pn lc2) /\ WF.cell? ⟨lp,lq+n,none⟩=some (.int .i64 y)) /\ WF.frozen? ⟨gp,n,none⟩=false from by rw[hWF];exact CD.o)
      refine Fall2.wp_region_tree (C:=fun w'=>True) [21] [] (.step 0 (.step 1 (.step 2 (.step 3 (.step 4 (.step 5 (.step 6 (.step 7 (.step 8 (.step 9 (.step 10 (.step 11 (.step 12 (.step 13 (.step 14 (.step 15 (.step 16 (.step 17 (.step 18 (.step 19 (.step 20 (.step 21 .leaf)))))))))))))))))))))) (fun _ _ _=>False) (by kernel_rfl) (fun _ _ _ h=>h.elim) (by kernel_rfl) trivial ?_
      rw[<- hWF] at FF ⊢
      clear hWF FD CD
      have a1:=CF.o.1.1
      have a2:=CF.o.1.2.1
      have a2f:=CF.o.2
      have l1:=CF.o.1.2.2.1
      have l2:=CF.o.1.2.2.2
      have y4:WF.cell? ⟨b5,4,none⟩=some (.slice (some ⟨ug,0,none⟩) n5 uc):=FF.o.at_.cell 2 rfl 4 (by rw[<- FA.o.2];rfl)
      have x4:WF.cell? ⟨b0,4,none⟩=some (.slice (some ⟨lg,lo,none⟩) n4 lc):=FF.o.at_.cell 0 rfl 4 G4.o.1
      have z1:WF.cell? ⟨b0+1,1,none⟩=some (.int .i64 (m:Int)):=by rw[<- EMM.o.1];exact FF.o.at_.cell 1 rfl 1 rfl
      have z2:WF.cell? ⟨b0+1,2,none⟩=some (.int .i64 (n:Int)):=by rw[<- EMM.o.2];exact FF.o.at_.cell 1 rfl 2 rfl
      have S1:=zq (FF.o.own.setCash HP.o (g:=gp) (c:=pq) (by rw[HM.o.2.2.2.2.1];simp) (n:=n) (y:=q) (x:=y) (List.getElem?_set_self HM.o.2.2.1) HM.o.2.2.2.2.2)
      have F1:=zq (FF.o.row S1.o.1 S1.o.2 (q:=m+8) (rows_cash HP.o) rfl (by simp only[LedV.rows];rw[map_set_same (fun q:Go.Bw.Acc×Value=>q.2) (x':=(⟨ap,(acs.set n q).set n y,af,al⟩,.slice (some ⟨gp,0,none⟩) pn pq)) HP.o rfl]))
      refine Fall2.tree_still [0,1,2,3,4,5,6,7,8,9,10,11,12,13,14,15,16,17,18,19,20] (by kernel_rfl) ?_
      simp only[pickL,nth]
      repeat (go_big_quiet_step (fail))
      refine wpQuiet_nil ?_
      refine Fall2.tree_last (by kernel_rfl) rfl (by kernel_rfl) (fun K hK=>?_)
      simp only[pickL,nth]
      refine wpOne_one ?_
      go_simp
      refine hK _ _ ?_
      clear hK a1 a2 a2f l1 l2 y4 x4 z1 z2
      refine Fall2.tree_nil ?_
      obtain⟨WH,hWH⟩:∃ s,s=WF.setCell ⟨gp,n,none⟩ (.int .i64 y):=⟨_,rfl⟩
      rw[<- hWH] at F1 ⊢
      clear hWH S1
      have XT:=zq (show At w WH [(b0, 31,C),(b0+1, 51,#[.int .i64 c.kind,.int .i64 c.a,.int .i64 c.b,.int .i64 c.c,.string c.u.name,.int .i64 c.u.cur,.int .i64 c.u.price,.int .i64 c.u.vol,.int .i64 c.i.kind,.int .i64 c.i.under,.int .i64 c.i.mult,.int .i64 c.i.strike,.int .i64 c.i.expiry,.bool c.i.call,.int .i64 c.i.mark]),(b5, 31,({ U with ac:=ac.set m (⟨ap,(acs.set n q).set n y,af,al⟩,.slice (some ⟨gp,0,none⟩) pn pq) }:LedV).cells L)] from F1.o.at_)
      have LTT:=zq (show LedAt WH { U with ac:=ac.set m (⟨ap,(acs.set n q).set n y,af,al⟩,.slice (some ⟨gp,0,none⟩) pn pq) } L from by
       have h1:=F1.o.own.led
       have h2:=HH.o _ F1.o.low
       have e:(L.accts.set m ⟨ap,acs.set n q,af,al⟩).set m ⟨ap,(acs.set n q).set n y,af,al⟩=L.accts:=by rw[List.set_set,List.set_set,set_same_at HM.o.2.2.2.1,set_same_at HM.o.2.1]
       exact⟨h1.curs,h1.unders,h1.instrs,e.symm.trans h1.same,h1.accts,h1.cash,h1.poss,h1.orders,h1.avail,h1.locs,h2.names,h2.nums⟩)
      have LCU:=zq (ledc LTT.o)
      have SQ:=zq (lsame_any _ { U with ac:=ac.set m (⟨ap,(acs.set n q).set n y,af,al⟩,.slice (some ⟨gp,0,none⟩) pn pq) } V L L LTT.o (HH.o _ XT.o.low) SH.o (fun a ha=>by have:=(good_bulk HGD.o).2.1 a ha;omega))
      rw[eqB_yes rfl] at SQ
      unfold LedV.val at SQ
      rw[<- EC.o] at SQ
      clear F1 FF
      go_wp2_with (first|refine led_load (XT.o.get 2 rfl) LCU.o rfl rfl rfl ?_|refine led_load (XT.o.get 0 rfl) LC.o rfl rfl rfl ?_)
      refine SQ.o.mono ?_
      rintro e w9 ⟨rfl,hb⟩
      have X9:=zq (XT.o.go hb)
      clear hb
      go_wp2_with fail
      go_ret
      exact⟨rfl,X9.o.low⟩
     ·have hb7:bits .and .i64 c.kind 7=3:=by rw[and7];exact KK.o.1.symm
      have ERR:(accountS L c.a).err=0:=by have:=HA.o.1;rw[CK.o] at this;exact this
      have NE:N=L.newAcc c.a:=by rw[HN.o,CK.o];exact congrArg Adm.led (accountS_ok ERR)
      have MEQ:=(flagsO_only HA.o.2.1).1
      have UN:=unflagged HA.o.2.1 HA.o.2.2.1 HA.o.2.2.2.1 (by rw[<- NN.o.2.2.1];exact UQ.o)
      have TK:=zq (show B.take n4=L.accts from by
       apply List.ext_getElem?
       intro v
       rw[List.getElem?_take]
       by_cases hv:v<n4
       ·rw[if_pos hv,UN.2 v (by have:=NN.o;omega),NE]
        simp only[Led.newAcc]
        rw[List.getElem?_append_left (by have:=NN.o;omega)]
       ·rw[if_neg hv,List.getElem?_eq_none (by have:=NN.o;omega)])
      have MEE:=zq (show M.day=L.day /\ M.curs=L.curs /\ M.unders=L.unders /\ M.instrs=L.instrs /\ M.poss=L.poss /\ M.orders=L.orders /\ M.avail=L.avail /\ M.locs=L.locs from by rw[MEQ,NE];exact⟨rfl,rfl,rfl,rfl,rfl,rfl,rfl,rfl⟩)
      have BL2:=zq (show n4 <= B.length /\ B=ac.map (·.1) from ⟨by rw[UN.1];have:=HA.o.2.2.1;have:=NN.o;omega,F.o.own.same⟩)
      have hi4:(n4:Int) <= (uc:Int):=by
       have h:=F.o.own.accts.row acccells_len (by decide)
       rw[show ({ U with ac:=ac }:LedV).accts=.slice ua n5 uc from FA.o.2] at h
       have:=h.caps
       have:=NN.o
       omega
      have x4:W.cell? ⟨b0,4,none⟩=some (.slice la n4 lc):=F.o.at_.cell 0 rfl 4 G4.o.1
      have y4:W.cell? ⟨b5,4,none⟩=some (.slice ua n5 uc):=F.o.at_.cell 2 rfl 4 G4.o.2
      have y4f:W.frozen? ⟨b5,4,none⟩=false:=F.o.at_.free 2 rfl 4
      have FE:=zq (F.o.cell 2 rfl 4 (.slice ua n4 uc))
      clear ERR NE MEQ UN UQ
      have XT:=zq (show At w (W.setCell ⟨b5,4,none⟩ (.slice ua n4 uc)) [(b0, 31,C),(b0+1, 51,#[.int .i64 c.kind,.int .i64 c.a,.int .i64 c.b,.int .i64 c.c,.string c.u.name,.int .i64 c.u.cur,.int .i64 c.u.price,.int .i64 c.u.vol,.int .i64 c.i.kind,.int .i64 c.i.under,.int .i64 c.i.mult,.int .i64 c.i.strike,.int .i64 c.i.expiry,.bool c.i.call,.int .i64 c.i.mark]),(b5, 31,({ U with ac:=ac.take n4,accts:=.slice ua n4 uc }:LedV).cells L)] from by have h:=FE.o.at_;unfold LedV.cells at h ⊢;rw[<- MEE.o.1];exact h)
      have LTT:=zq (show LedAt (W.setCell ⟨b5,4,none⟩ (.slice ua n4 uc)) { U with ac:=ac.take n4,accts:=.slice ua n4 uc } L from by
       have h1:=FE.o.own.led
       have h2:=HH.o _ FE.o.low
       have c4:=h1.accts
       rw[show ({ U with ac:=ac }:LedV).accts=.slice ua n5 uc from FA.o.2] at c4
       have c4:=c4.cut (k:=n4) (by have h:=BL2.o.1;rw[BL2.o.2,List.length_map] at h;exact h)
       have m1:=MEE.o
       refine⟨by rw[<- m1.2.1];exact h1.curs,by rw[<- m1.2.2.1];exact h1.unders,by rw[<- m1.2.2.2.1];exact h1.instrs,?_,c4,fun p hp=>h1.cash p (List.mem_of_mem_take hp),by rw[<- m1.2.2.2.2.1];exact h1.poss,by rw[<- m1.2.2.2.2.2.1];exact h1.orders,by rw[<- m1.2.2.2.2.2.2.1];exact h1.avail,by rw[<- m1.2.2.2.2.2.2.2];exact h1.locs,h2.names,h2.nums⟩
       rw[<- TK.o,BL2.o.2,List.map_take])
      have LCU:=zq (ledc LTT.o)
      have SQ:=zq (lsame_any _ { U with ac:=ac.take n4,accts:=.slice ua n4 uc } V L L LTT.o (HH.o _ XT.o.low) SH.o (fun a ha=>by have:=(good_bulk HGD.o).2.1 a ha;omega))
      rw[eqB_yes rfl] at SQ
      unfold LedV.val at SQ
      rw[<- EC.o] at SQ
      clear FE F
      go_upto_region 57 with fail
      clear x4 y4 y4f
      go_wp2_with (first|refine led_load (XT.o.get 2 rfl) LCU.o rfl rfl rfl ?_|refine led_load (XT.o.get 0 rfl) LC.o rfl rfl rfl ?_)
      refine SQ.o.mono ?_
      rintro e w9 ⟨rfl,hb⟩
      have X9:=zq (XT.o.go hb)
      clear hb
      go_wp2_with fail
      go_ret
      exact⟨rfl,X9.o.low⟩
     ·have hb7:bits .and .i64 c.kind 7=4:=by rw[and7];exact KK.o.1.symm
      have ERR:(underS L c.u).err=0:=by have:=HA.o.1;rw[CK.o] at this;exact this
      have eN:=congrArg Adm.led (underS_ok ERR).2
      have NE:N={ L with unders:=L.unders++[c.u] }:=by rw[HN.o,CK.o];exact eN
      have F':=F.o
      rw[(unflagged_all HA.o.2.1 (by rw[NE]) HA.o.2.2.2.1 (by rw[<- NN.o.2.2.1];exact UQ.o)).trans NE,show U.cells M=U.cells L from by unfold LedV.cells;rw[(flagsO_only HA.o.2.1).1,NE] <;> rfl] at F'
      have F:=zq F'
      clear F' UQ HN
      obtain⟨va,vc,hva⟩:∃ a d,V.unders=.slice a L.unders.length d:=(HH.o W F.o.low).unders.form
      obtain⟨n2,hn2⟩:∃ n,n=L.unders.length:=⟨_,rfl⟩
      have hn6:n2 <= 6:=by rw[hn2];exact HGD.o.things.u1
      obtain⟨ug,uc2,hua,hc2,_,hcu,_⟩:=F.o.own.unders.slot undcells_len (by decide) (k:=n2) (x:=c.u) (by rw[hn2];exact List.getElem?_concat_length)
      have hua:U.unders=.slice (some ⟨ug,0,none⟩) (n2+1) uc2:=by have h:U.unders=_:=hua;rw[List.length_append,List.length_singleton,<- hn2] at h;exact h
      rw[List.length_append,List.length_singleton,<- hn2] at hc2
      rw[<- hn2] at hva
      have N2:=zq hn2
      have HVA:=zq hva
      have HUA:=zq hua
      have hi2:(n2:Int) <= (uc2:Int):=by omega
      have hi3:(n2:Int)<(n2:Int)+1:=by omega
      have x2:W.cell? ⟨b0,2,none⟩=some (.slice va n2 vc):=F.o.at_.cell 0 rfl 2 (by rw[EC.o,<- hva];rfl)
      have y2:W.cell? ⟨b5,2,none⟩=some (.slice (some ⟨ug,0,none⟩) (n2+1) uc2):=F.o.at_.cell 2 rfl 2 (by rw[<- hua];rfl)
      have u0:W.cell? ⟨ug,n2*4,none⟩=some (.string c.u.name):=by have:=hcu 0 _ rfl;simpa using this
      have u1:W.cell? ⟨ug,n2*4+1,none⟩=some (.int .i64 c.u.cur):=hcu 1 _ rfl
      have u2:W.cell? ⟨ug,n2*4+2,none⟩=some (.int .i64 c.u.price):=hcu 2 _ rfl
      have u3:W.cell? ⟨ug,n2*4+3,none⟩=some (.int .i64 c.u.vol):=hcu 3 _ rfl
      have z4:W.cell? ⟨b0+1,4,none⟩=some (.string c.u.name):=F.o.at_.cell 1 rfl 4 rfl
      have z5:W.cell? ⟨b0+1,5,none⟩=some (.int .i64 c.u.cur):=F.o.at_.cell 1 rfl 5 rfl
      have z6:W.cell? ⟨b0+1,6,none⟩=some (.int .i64 c.u.price):=F.o.at_.cell 1 rfl 6 rfl
      have z7:W.cell? ⟨b0+1,7,none⟩=some (.int .i64 c.u.vol):=F.o.at_.cell 1 rfl 7 rfl
      clear eN ERR NE hva hua hn2 hcu
      go_upto_region 43 with fail
      clear z0 hb7
      have FD:=zq F.o.drew
      refine Fall2.wp_region_tree (C:=fun w'=>True) [] [] (.step 0 (.step 1 (.step 2 (.step 3 (.step 4 (.step 5 (.step 6 (.step 7 (.step 8 (.step 9 (.step 10 (.step 11 (.step 12 (.step 13 (.step 14 (.step 15 (.step 16 (.step 17 (.step 18 (.step 19 .leaf)))))))))))))))))))) (fun _ _ _=>False) (by kernel_rfl) (fun _ _ _ h=>h.elim) (by kernel_rfl) trivial ?_
      refine Fall2.tree_still [0,1,2,3,4,5,6,7,8,9,10,11,12,13,14,15,16,17,18,19] (by kernel_rfl) ?_
      simp only[pickL,nth]
      repeat (go_big_quiet_step (fail))
      refine wpQuiet_nil ?_
      refine Fall2.tree_nil ?_
      go_simp
      obtain⟨WD,hWD⟩:∃ s,s=W.drew:=⟨_,rfl⟩
      rw[<- hWD] at FD ⊢
      clear hWD x2 y2 u0 u1 u2 u3 z4 z5 z6 z7 F
      have x2:WD.cell? ⟨b0,2,none⟩=some (.slice va n2 vc):=FD.o.at_.cell 0 rfl 2 (by rw[EC.o,<- HVA.o];rfl)
      have y2:WD.cell? ⟨b5,2,none⟩=some (.slice (some ⟨ug,0,none⟩) (n2+1) uc2):=FD.o.at_.cell 2 rfl 2 (by rw[<- HUA.o];rfl)
      have y2f:WD.frozen? ⟨b5,2,none⟩=false:=FD.o.at_.free 2 rfl 2
      have FI:=zq (FD.o.cell 2 rfl 2 (.slice (some ⟨ug,0,none⟩) n2 uc2))
      have XT:=zq (show At w (WD.setCell ⟨b5,2,none⟩ (.slice (some ⟨ug,0,none⟩) n2 uc2)) [(b0, 31,C),(b0+1, 51,#[.int .i64 c.kind,.int .i64 c.a,.int .i64 c.b,.int .i64 c.c,.string c.u.name,.int .i64 c.u.cur,.int .i64 c.u.price,.int .i64 c.u.vol,.int .i64 c.i.kind,.int .i64 c.i.under,.int .i64 c.i.mult,.int .i64 c.i.strike,.int .i64 c.i.expiry,.bool c.i.call,.int .i64 c.i.mark]),(b5, 31,({ U with ac:=ac,unders:=.slice (some ⟨ug,0,none⟩) n2 uc2 }:LedV).cells L)] from FI.o.at_)
      have LTT:=zq (show LedAt (WD.setCell ⟨b5,2,none⟩ (.slice (some ⟨ug,0,none⟩) n2 uc2)) { U with ac:=ac,unders:=.slice (some ⟨ug,0,none⟩) n2 uc2 } L from by
       have h1:=FI.o.own.led
       have h2:=HH.o _ FI.o.low
       have c2:=h1.unders
       rw[show ({ U with ac:=ac }:LedV).unders=.slice (some ⟨ug,0,none⟩) (n2+1) uc2 from HUA.o] at c2
       have c2:=c2.cut (k:=n2) (by rw[N2.o];simp)
       rw[show (L.unders++[c.u]).take n2=L.unders from by rw[N2.o];exact List.take_left] at c2
       exact⟨h1.curs,c2,h1.instrs,h1.same,h1.accts,h1.cash,h1.poss,h1.orders,h1.avail,h1.locs,h2.names,h2.nums⟩)
      have LCU:=zq (ledc LTT.o)
      have SQ:=zq (lsame_any _ { U with ac:=ac,unders:=.slice (some ⟨ug,0,none⟩) n2 uc2 } V L L LTT.o (HH.o _ XT.o.low) SH.o (fun a ha=>by have:=(good_bulk HGD.o).2.1 a ha;omega))
      rw[eqB_yes rfl] at SQ
      unfold LedV.val at SQ
      rw[<- EC.o] at SQ
      clear FI FD
      go_upto_region 57 with fail
      clear x2 y2 y2f
      go_wp2_with (first|refine led_load (XT.o.get 2 rfl) LCU.o rfl rfl rfl ?_|refine led_load (XT.o.get 0 rfl) LC.o rfl rfl rfl ?_)
      refine SQ.o.mono ?_
      rintro e w9 ⟨rfl,hb⟩
      have X9:=zq (XT.o.go hb)
      clear hb
      go_wp2_with fail
      go_ret
      exact⟨rfl,X9.o.low⟩
     ·have hb7:bits .and .i64 c.kind 7=5:=by rw[and7];exact KK.o.1.symm
      have ERR:(instrS L c.i).err=0:=by have:=HA.o.1;rw[CK.o] at this;exact this
      have eN:=congrArg Adm.led (instrS_ok ERR)
      have NE:N={ L with instrs:=L.instrs++[{ c.i with mark:=(markA L c.i).1 }],avail:=L.avail++[0] }:=by rw[HN.o,CK.o];exact eN
      have F':=F.o
      rw[(unflagged_all HA.o.2.1 (by rw[NE]) HA.o.2.2.2.1 (by rw[<- NN.o.2.2.1];exact UQ.o)).trans NE,show U.cells M=U.cells L from by unfold LedV.cells;rw[(flagsO_only HA.o.2.1).1,NE] <;> rfl] at F'
      have F:=zq F'
      clear F' UQ HN
      obtain⟨va,vc,hva⟩:∃ a d,V.instrs=.slice a L.instrs.length d:=(HH.o W F.o.low).instrs.form
      obtain⟨vb,vd,hvb⟩:∃ a d,V.avail=.slice a L.avail.length d:=(HH.o W F.o.low).avail.form
      obtain⟨n3,hn3⟩:∃ n,n=L.instrs.length:=⟨_,rfl⟩
      obtain⟨n7,hn7⟩:∃ n,n=L.avail.length:=⟨_,rfl⟩
      obtain⟨ug,uc3,hua,hc3,hm3,_⟩:=F.o.own.instrs.slot inscells_len (by decide) (k:=n3) (x:={ c.i with mark:=(markA L c.i).1 }) (by rw[hn3];exact List.getElem?_concat_length)
      obtain⟨ug7,uc7,hub,hc7,hm7,_⟩:=F.o.own.avail.slot icell_len (by decide) (k:=n7) (x:=0) (by rw[hn7];exact List.getElem?_concat_length)
      have hua:U.instrs=.slice (some ⟨ug,0,none⟩) (n3+1) uc3:=by have h:U.instrs=_:=hua;rw[List.length_append,List.length_singleton,<- hn3] at h;exact h
      have hub:U.avail=.slice (some ⟨ug7,0,none⟩) (n7+1) uc7:=by have h:U.avail=_:=hub;rw[List.length_append,List.length_singleton,<- hn7] at h;exact h
      rw[List.length_append,List.length_singleton,<- hn3] at hc3
      rw[List.length_append,List.length_singleton,<- hn7] at hc7
      rw[<- hn3] at hva
      rw[<- hn7] at hvb
      have N37:=zq (And.intro hn3 hn7)
      have HVA:=zq (And.intro hva hvb)
      have HUA:=zq (And.intro hua hub)
      have hi3:(n3:Int) <= (uc3:Int):=by omega
      have hi7:(n7:Int) <= (uc7:Int):=by omega
      have x3:W.cell? ⟨b0,3,none⟩=some (.slice va n3 vc):=F.o.at_.cell 0 rfl 3 (by rw[EC.o,<- hva];rfl)
      have y3:W.cell? ⟨b5,3,none⟩=some (.slice (some ⟨ug,0,none⟩) (n3+1) uc3):=F.o.at_.cell 2 rfl 3 (by rw[<- hua];rfl)
      have y3f:W.frozen? ⟨b5,3,none⟩=false:=F.o.at_.free 2 rfl 3
      have FE:=zq (F.o.cell 2 rfl 3 (.slice (some ⟨ug,0,none⟩) n3 uc3))
      clear eN ERR NE hva hvb hua hub hn3 hn7 hm3 hm7
      go_upto_region 48 with fail
      clear z0 hb7 x3 y3 y3f F
      obtain⟨WG,hWG⟩:∃ s,s=W.setCell ⟨b5,3,none⟩ (.slice (some ⟨ug,0,none⟩) n3 uc3):=⟨_,rfl⟩
      rw[<- hWG] at FE ⊢
      clear hWG
      have x7:WG.cell? ⟨b0,7,none⟩=some (.slice vb n7 vd):=FE.o.at_.cell 0 rfl 7 (by rw[EC.o,<- HVA.o.2];rfl)
      have y7:WG.cell? ⟨b5,7,none⟩=some (.slice (some ⟨ug7,0,none⟩) (n7+1) uc7):=FE.o.at_.cell 2 rfl 7 (by rw[<- HUA.o.2];rfl)
      have y7f:WG.frozen? ⟨b5,7,none⟩=false:=FE.o.at_.free 2 rfl 7
      have FI:=zq (FE.o.cell 2 rfl 7 (.slice (some ⟨ug7,0,none⟩) n7 uc7))
      have XT:=zq (show At w (WG.setCell ⟨b5,7,none⟩ (.slice (some ⟨ug7,0,none⟩) n7 uc7)) [(b0, 31,C),(b0+1, 51,#[.int .i64 c.kind,.int .i64 c.a,.int .i64 c.b,.int .i64 c.c,.string c.u.name,.int .i64 c.u.cur,.int .i64 c.u.price,.int .i64 c.u.vol,.int .i64 c.i.kind,.int .i64 c.i.under,.int .i64 c.i.mult,.int .i64 c.i.strike,.int .i64 c.i.expiry,.bool c.i.call,.int .i64 c.i.mark]),(b5, 31,({ U with ac:=ac,instrs:=.slice (some ⟨ug,0,none⟩) n3 uc3,avail:=.slice (some ⟨ug7,0,none⟩) n7 uc7 }:LedV).cells L)] from FI.o.at_)
      have LTT:=zq (show LedAt (WG.setCell ⟨b5,7,none⟩ (.slice (some ⟨ug7,0,none⟩) n7 uc7)) { U with ac:=ac,instrs:=.slice (some ⟨ug,0,none⟩) n3 uc3,avail:=.slice (some ⟨ug7,0,none⟩) n7 uc7 } L from by
       have h1:=FI.o.own.led
       have h2:=HH.o _ FI.o.low
       have c3:=h1.instrs
       have c7:=h1.avail
       rw[show ({ U with ac:=ac }:LedV).instrs=.slice (some ⟨ug,0,none⟩) (n3+1) uc3 from HUA.o.1] at c3
       rw[show ({ U with ac:=ac }:LedV).avail=.slice (some ⟨ug7,0,none⟩) (n7+1) uc7 from HUA.o.2] at c7
       have c3:=c3.cut (k:=n3) (by rw[N37.o.1];simp)
       have c7:=c7.cut (k:=n7) (by rw[N37.o.2];simp)
       rw[show (L.instrs++[({ c.i with mark:=(markA L c.i).1 }:Ins)]).take n3=L.instrs from by rw[N37.o.1];exact List.take_left] at c3
       rw[show (L.avail++([0]:List Int)).take n7=L.avail from by rw[N37.o.2];exact List.take_left] at c7
       exact⟨h1.curs,h1.unders,c3,h1.same,h1.accts,h1.cash,h1.poss,h1.orders,c7,h1.locs,h2.names,h2.nums⟩)
      have LCU:=zq (ledc LTT.o)
      have SQ:=zq (lsame_any _ { U with ac:=ac,instrs:=.slice (some ⟨ug,0,none⟩) n3 uc3,avail:=.slice (some ⟨ug7,0,none⟩) n7 uc7 } V L L LTT.o (HH.o _ XT.o.low) SH.o (fun a ha=>by have:=(good_bulk HGD.o).2.1 a ha;omega))
      rw[eqB_yes rfl] at SQ
      unfold LedV.val at SQ
      rw[<- EC.o] at SQ
      clear FI FE
      go_upto_region 57 with fail
      clear x7 y7 y7f
      go_wp2_with (first|refine led_load (XT.o.get 2 rfl) LCU.o rfl rfl rfl ?_|refine led_load (XT.o.get 0 rfl) LC.o rfl rfl rfl ?_)
      refine SQ.o.mono ?_
      rintro e w9 ⟨rfl,hb⟩
      have X9:=zq (XT.o.go hb)
      clear hb
      go_wp2_with fail
      go_ret
      exact⟨rfl,X9.o.low⟩
     ·have hb7:bits .and .i64 c.kind 7=6:=by rw[and7];exact KK.o.1.symm
      have ERR:(supplyS L c.a c.b).err=0:=by have:=HA.o.1;rw[CK.o] at this;exact this
      obtain⟨m,em,y,hy,hbb,eN⟩:=supply_form ERR
      have NE:N={ L with avail:=L.avail.set m (y+c.b) }:=by rw[HN.o,CK.o];exact eN
      have F':=F.o
      rw[(unflagged_all HA.o.2.1 (by rw[NE]) HA.o.2.2.2.1 (by rw[<- NN.o.2.2.1];exact UQ.o)).trans NE,show U.cells M=U.cells L from by unfold LedV.cells;rw[(flagsO_only HA.o.2.1).1,NE] <;> rfl] at F'
      have F:=zq F'
      clear F' UQ HN
      obtain⟨va,vc,hva⟩:∃ a d,V.avail=.slice a L.avail.length d:=(HH.o W F.o.low).avail.form
      obtain⟨n7,hn7⟩:∃ n,n=L.avail.length:=⟨_,rfl⟩
      have hml:=(List.getElem?_eq_some_iff.1 hy).1
      obtain⟨q,hq⟩:∃ q,q=y+c.b:=⟨_,rfl⟩
      obtain⟨ug,uc7,hua,_,_,hcu,_⟩:=F.o.own.avail.slot icell_len (by decide) (k:=m) (x:=q) (by rw[hq];exact List.getElem?_set_self hml)
      have hua:U.avail=.slice (some ⟨ug,0,none⟩) n7 uc7:=by have h:U.avail=_:=hua;rw[List.length_set,<- hn7] at h;exact h
      have rl:=(HH.o W F.o.low).avail
      rw[hva] at rl
      obtain⟨lg,lo,el,_,hcl⟩:=rl.at_ hy
      subst el
      rw[<- hn7] at hva hml
      have HVA:=zq hva
      have hmi:(m:Int)<(n7:Int):=by omega
      have cu:W.cell? ⟨ug,m,none⟩=some (.int .i64 q):=by have:=hcu 0 _ rfl;simpa using this
      have cl:W.cell? ⟨lg,lo+m,none⟩=some (.int .i64 y):=by have:=hcl 0 _ rfl;simpa using this
      have y7:W.cell? ⟨b5,7,none⟩=some (.slice (some ⟨ug,0,none⟩) n7 uc7):=F.o.at_.cell 2 rfl 7 (by rw[<- hua];rfl)
      have x7:W.cell? ⟨b0,7,none⟩=some (.slice (some ⟨lg,lo,none⟩) n7 vc):=F.o.at_.cell 0 rfl 7 (by rw[EC.o,<- hva];rfl)
      have z1:W.cell? ⟨b0+1,1,none⟩=some (.int .i64 (m:Int)):=by rw[<- em];exact F.o.at_.cell 1 rfl 1 rfl
      have z2:W.cell? ⟨b0+1,2,none⟩=some (.int .i64 c.b):=F.o.at_.cell 1 rfl 2 rfl
      have ws:IntKind.i64.wrap (q - y)=c.b:=by rw[show q - y=c.b from by omega];exact IntWalk.i64_in _ (by omega)
      clear hq hy hcu hcl rl em eN ERR NE hva hua hn7
      go_upto_region 50 with fail
      clear z0 hb7
      have FD:=zq F.o.drew
      refine Fall2.wp_region_tree (C:=fun w'=>True) [] [] (.step 0 (.step 1 (.step 2 (.step 3 (.step 4 (.step 5 (.step 6 (.step 7 (.step 8 (.step 9 (.step 10 (.step 11 (.step 12 (.step 13 (.step 14 (.step 15 .leaf)))))))))))))))) (fun _ _ _=>False) (by kernel_rfl) (fun _ _ _ h=>h.elim) (by kernel_rfl) trivial ?_
      refine Fall2.tree_still [0,1,2,3,4,5,6,7,8,9,10,11,12,13,14,15] (by kernel_rfl) ?_
      simp only[pickL,nth]
      repeat (go_big_quiet_step (fail))
      refine wpQuiet_nil ?_
      refine Fall2.tree_nil ?_
      go_simp
      obtain⟨WD,hWD⟩:∃ s,s=W.drew:=⟨_,rfl⟩
      rw[<- hWD] at FD ⊢
      clear hWD cu cl y7 x7 z1 z2 F
      have x7:WD.cell? ⟨b0,7,none⟩=some (.slice (some ⟨lg,lo,none⟩) n7 vc):=FD.o.at_.cell 0 rfl 7 (by rw[EC.o,<- HVA.o];rfl)
      obtain⟨o7,k7,hk7⟩:∃ a d,U.avail=.slice a L.avail.length d:=by have:=FD.o.own.avail.form;obtain⟨a,d,e,_⟩:=this;rw[List.length_set] at e;exact⟨a,d,e⟩
      have y7:WD.cell? ⟨b5,7,none⟩=some (.slice o7 L.avail.length k7):=FD.o.at_.cell 2 rfl 7 (by rw[<- hk7];rfl)
      have y7f:WD.frozen? ⟨b5,7,none⟩=false:=FD.o.at_.free 2 rfl 7
      have FE:=zq (FD.o.cell 2 rfl 7 (.slice (some ⟨lg,lo,none⟩) n7 vc))
      have XT:=zq (show At w (WD.setCell ⟨b5,7,none⟩ (.slice (some ⟨lg,lo,none⟩) n7 vc)) [(b0, 31,C),(b0+1, 51,#[.int .i64 c.kind,.int .i64 c.a,.int .i64 c.b,.int .i64 c.c,.string c.u.name,.int .i64 c.u.cur,.int .i64 c.u.price,.int .i64 c.u.vol,.int .i64 c.i.kind,.int .i64 c.i.under,.int .i64 c.i.mult,.int .i64 c.i.strike,.int .i64 c.i.expiry,.bool c.i.call,.int .i64 c.i.mark]),(b5, 31,({ U with ac:=ac,avail:=.slice (some ⟨lg,lo,none⟩) n7 vc }:LedV).cells L)] from FE.o.at_)
      have LTT:=zq (show LedAt (WD.setCell ⟨b5,7,none⟩ (.slice (some ⟨lg,lo,none⟩) n7 vc)) { U with ac:=ac,avail:=.slice (some ⟨lg,lo,none⟩) n7 vc } L from by have h1:=FE.o.own.led;have h2:=HH.o _ FE.o.low;exact⟨h1.curs,h1.unders,h1.instrs,h1.same,h1.accts,h1.cash,h1.poss,h1.orders,by have h3:=h2.avail;rw[HVA.o] at h3;exact h3,h1.locs,h2.names,h2.nums⟩)
      have LCU:=zq (ledc LTT.o)
      have SQ:=zq (lsame_any _ { U with ac:=ac,avail:=.slice (some ⟨lg,lo,none⟩) n7 vc } V L L LTT.o (HH.o _ XT.o.low) SH.o (fun a ha=>by have:=(good_bulk HGD.o).2.1 a ha;omega))
      rw[eqB_yes rfl] at SQ
      unfold LedV.val at SQ
      rw[<- EC.o] at SQ
      clear hk7 FE FD
      go_upto_region 57 with fail
      clear x7 y7 y7f
      go_wp2_with (first|refine led_load (XT.o.get 2 rfl) LCU.o rfl rfl rfl ?_|refine led_load (XT.o.get 0 rfl) LC.o rfl rfl rfl ?_)
      refine SQ.o.mono ?_
      rintro e w9 ⟨rfl,hb⟩
      have X9:=zq (XT.o.go hb)
      clear hb
      go_wp2_with fail
      go_ret
      exact⟨rfl,X9.o.low⟩
     ·have hb7:bits .and .i64 c.kind 7=7:=by rw[and7];exact KK.o.1.symm
      have ERR:(reserveS L c.a c.b c.c).err=0:=by have:=HA.o.1;rw[CK.o] at this;exact this
      obtain⟨m,em,y,ps,hy,hbb,eN⟩:=reserve_form ERR
      have NE:N={ L with avail:=L.avail.set m (y - c.c),locs:=ps }:=by rw[HN.o,CK.o];exact eN
      have F':=F.o
      rw[(unflagged_all HA.o.2.1 (by rw[NE]) HA.o.2.2.2.1 (by rw[<- NN.o.2.2.1];exact UQ.o)).trans NE,show U.cells M=U.cells L from by unfold LedV.cells;rw[(flagsO_only HA.o.2.1).1,NE] <;> rfl] at F'
      have F:=zq F'
      clear F' UQ HN
      obtain⟨va,vc,hva⟩:∃ a d,V.avail=.slice a L.avail.length d:=(HH.o W F.o.low).avail.form
      obtain⟨vb,vd,hvb⟩:∃ a d,V.locs=.slice a L.locs.length d:=(HH.o W F.o.low).locs.form
      obtain⟨n7,hn7⟩:∃ n,n=L.avail.length:=⟨_,rfl⟩
      obtain⟨n8,hn8⟩:∃ n,n=L.locs.length:=⟨_,rfl⟩
      have hml:=(List.getElem?_eq_some_iff.1 hy).1
      obtain⟨q,hq⟩:∃ q,q=y - c.c:=⟨_,rfl⟩
      obtain⟨ug,uc7,hua,_,_,hcu,_⟩:=F.o.own.avail.slot icell_len (by decide) (k:=m) (x:=q) (by rw[hq];exact List.getElem?_set_self hml)
      have hua:U.avail=.slice (some ⟨ug,0,none⟩) n7 uc7:=by have h:U.avail=_:=hua;rw[List.length_set,<- hn7] at h;exact h
      obtain⟨ub,uc8,hub,_⟩:∃ a d,U.locs=.slice a ps.length d /\ ps.length <= d:=F.o.own.locs.form
      obtain⟨m8,hm8⟩:∃ n,n=ps.length:=⟨_,rfl⟩
      rw[<- hm8] at hub
      have rl:=(HH.o W F.o.low).avail
      rw[hva] at rl
      obtain⟨lg,lo,el,_,hcl⟩:=rl.at_ hy
      subst el
      rw[<- hn7] at hva hml
      rw[<- hn8] at hvb
      have HVA:=zq (And.intro hva hvb)
      have HUA:=zq (And.intro hua hub)
      have hmi:(m:Int)<(n7:Int):=by omega
      have cu:W.cell? ⟨ug,m,none⟩=some (.int .i64 q):=by have:=hcu 0 _ rfl;simpa using this
      have cl:W.cell? ⟨lg,lo+m,none⟩=some (.int .i64 y):=by have:=hcl 0 _ rfl;simpa using this
      have y7:W.cell? ⟨b5,7,none⟩=some (.slice (some ⟨ug,0,none⟩) n7 uc7):=F.o.at_.cell 2 rfl 7 (by rw[<- hua];rfl)
      have x7:W.cell? ⟨b0,7,none⟩=some (.slice (some ⟨lg,lo,none⟩) n7 vc):=F.o.at_.cell 0 rfl 7 (by rw[EC.o,<- hva];rfl)
      have z1:W.cell? ⟨b0+1,2,none⟩=some (.int .i64 (m:Int)):=by rw[<- em];exact F.o.at_.cell 1 rfl 2 rfl
      have z2:W.cell? ⟨b0+1,3,none⟩=some (.int .i64 c.c):=F.o.at_.cell 1 rfl 3 rfl
      have ws:IntKind.i64.wrap (y - q)=c.c:=by rw[show y - q=c.c from by omega];exact IntWalk.i64_in _ (by omega)
      clear hq hy hcu hcl rl em eN ERR NE hva hua hvb hub hn7 hn8 hm8
      go_upto_region 54 with fail
      clear z0 hb7
      have FD:=zq F.o.drew
      refine Fall2.wp_region_tree (C:=fun w'=>True) [] [] (.step 0 (.step 1 (.step 2 (.step 3 (.step 4 (.step 5 (.step 6 (.step 7 (.step 8 (.step 9 (.step 10 (.step 11 (.step 12 (.step 13 (.step 14 (.step 15 .leaf)))))))))))))))) (fun _ _ _=>False) (by kernel_rfl) (fun _ _ _ h=>h.elim) (by kernel_rfl) trivial ?_
      refine Fall2.tree_still [0,1,2,3,4,5,6,7,8,9,10,11,12,13,14,15] (by kernel_rfl) ?_
      simp only[pickL,nth]
      repeat (go_big_quiet_step (fail))
      refine wpQuiet_nil ?_
      refine Fall2.tree_nil ?_
      go_simp
      obtain⟨WD,hWD⟩:∃ s,s=W.drew:=⟨_,rfl⟩
      rw[<- hWD] at FD ⊢
      clear hWD cu cl y7 x7 z1 z2 F
      go_upto_region 56 with fail
      have FF:=zq FD.o.drew
      obtain⟨WF,hWF⟩:∃ s,s=WD.drew:=⟨_,rfl⟩
      have X8:=zq (show WF.cell? ⟨b0,8,none⟩=some (.slice vb n8 vd) from by rw[hWF];exact FF.o.at_.cell 0 rfl 8 (by rw[EC.o,<- HVA.o.2];rfl))
      have y8z:∀ z:Cls (fun W=>W.cell? ⟨b0,8,none⟩=some (.slice vb n8 vd)),z.w.cell? ⟨b0,8,none⟩=some (.slice vb n8 vd):=fun z=>z.ok
      haveI ne:Nonempty (Cls (fun W=>W.cell? ⟨b0,8,none⟩=some (.slice vb n8 vd))):=⟨⟨WF,X8.o⟩⟩
      refine Fall2.wp_region_tree (C:=fun w'=>∃ z:Cls (fun W=>W.cell? ⟨b0,8,none⟩=some (.slice vb n8 vd)),w'=z.w) [5,7] [2,3] (.step 0 (.step 1 (.step 2 (.step 3 (.step 4 (.step 5 (.step 6 (.step 7 .leaf)))))))) (fun _ _ _=>False) (by kernel_rfl) (fun _ _ _ h=>h.elim) (by kernel_rfl) ⟨⟨WD.drew,by rw[<- hWF];exact X8.o⟩,rfl⟩ ?_
      rw[<- hWF] at FF ⊢
      clear hWF FD
      have x7:WF.cell? ⟨b0,7,none⟩=some (.slice (some ⟨lg,lo,none⟩) n7 vc):=FF.o.at_.cell 0 rfl 7 (by rw[EC.o,<- HVA.o.1];rfl)
      have y7:WF.cell? ⟨b5,7,none⟩=some (.slice (some ⟨ug,0,none⟩) n7 uc7):=FF.o.at_.cell 2 rfl 7 (by rw[<- HUA.o.1];rfl)
      have y7f:WF.frozen? ⟨b5,7,none⟩=false:=FF.o.at_.free 2 rfl 7
      have FE:=zq (FF.o.cell 2 rfl 7 (.slice (some ⟨lg,lo,none⟩) n7 vc))
      refine Fall2.tree_still [0,1] (by kernel_rfl) ?_
      simp only[pickL,nth]
      repeat (go_big_quiet_step (fail))
      refine wpQuiet_nil ?_
      refine Fall2.tree_pure [2,3] (by kernel_rfl) ?_
      simp only[pickL,nth]
      repeat (go_big_quiet_step (fail))
      refine wpQuiet_nil ?_
      refine Fall2.tree_still [4] (by kernel_rfl) ?_
      simp only[pickL,nth]
      repeat (go_big_quiet_step (fail))
      refine wpQuiet_nil ?_
      refine Fall2.tree_eff (by kernel_rfl) rfl (fun K hK=>?_)
      simp only[pickL,nth]
      refine wpOne_one ?_
      go_simp
      refine hK _ _ (fun _=>⟨⟨_,FE.o.at_.cell 0 rfl 8 (by rw[EC.o,<- HVA.o.2];rfl)⟩,rfl⟩) ?_
      clear hK x7 y7 y7f
      obtain⟨WG,hWG⟩:∃ s,s=WF.setCell ⟨b5,7,none⟩ (.slice (some ⟨lg,lo,none⟩) n7 vc):=⟨_,rfl⟩
      rw[<- hWG] at FE ⊢
      clear hWG
      go_simp
      have y8:WG.cell? ⟨b5,8,none⟩=some (.slice ub m8 uc8):=FE.o.at_.cell 2 rfl 8 (by rw[<- HUA.o.2];rfl)
      have y8f:WG.frozen? ⟨b5,8,none⟩=false:=FE.o.at_.free 2 rfl 8
      have FI:=zq (FE.o.cell 2 rfl 8 (.slice vb n8 vd))
      refine Fall2.tree_still [6] (by kernel_rfl) ?_
      simp only[pickL,nth]
      repeat (go_big_quiet_step (fail))
      refine wpQuiet_nil ?_
      refine Fall2.tree_last (by kernel_rfl) rfl (by kernel_rfl) (fun K hK=>?_)
      simp only[pickL,nth]
      refine wpOne_one ?_
      go_simp
      refine hK _ _ ?_
      clear hK y8 y8f y8z ne
      refine Fall2.tree_nil ?_
      obtain⟨WH,hWH⟩:∃ s,s=WG.setCell ⟨b5,8,none⟩ (.slice vb n8 vd):=⟨_,rfl⟩
      rw[<- hWH] at FI ⊢
      clear hWH
      have XT:=zq (show At w WH [(b0, 31,C),(b0+1, 51,#[.int .i64 c.kind,.int .i64 c.a,.int .i64 c.b,.int .i64 c.c,.string c.u.name,.int .i64 c.u.cur,.int .i64 c.u.price,.int .i64 c.u.vol,.int .i64 c.i.kind,.int .i64 c.i.under,.int .i64 c.i.mult,.int .i64 c.i.strike,.int .i64 c.i.expiry,.bool c.i.call,.int .i64 c.i.mark]),(b5, 31,({ U with ac:=ac,avail:=.slice (some ⟨lg,lo,none⟩) n7 vc,locs:=.slice vb n8 vd }:LedV).cells L)] from FI.o.at_)
      have LTT:=zq (show LedAt WH { U with ac:=ac,avail:=.slice (some ⟨lg,lo,none⟩) n7 vc,locs:=.slice vb n8 vd } L from by have h1:=FI.o.own.led;have h2:=HH.o _ FI.o.low;exact⟨h1.curs,h1.unders,h1.instrs,h1.same,h1.accts,h1.cash,h1.poss,h1.orders,by have h3:=h2.avail;rw[HVA.o.1] at h3;exact h3,by have h3:=h2.locs;rw[HVA.o.2] at h3;exact h3,h2.names,h2.nums⟩)
      have LCU:=zq (ledc LTT.o)
      have SQ:=zq (lsame_any _ { U with ac:=ac,avail:=.slice (some ⟨lg,lo,none⟩) n7 vc,locs:=.slice vb n8 vd } V L L LTT.o (HH.o _ XT.o.low) SH.o (fun a ha=>by have:=(good_bulk HGD.o).2.1 a ha;omega))
      rw[eqB_yes rfl] at SQ
      unfold LedV.val at SQ
      rw[<- EC.o] at SQ
      clear FI FE FF
      go_wp2_with (first|refine led_load (XT.o.get 2 rfl) LCU.o rfl rfl rfl ?_|refine led_load (XT.o.get 0 rfl) LC.o rfl rfl rfl ?_)
      refine SQ.o.mono ?_
      rintro e w9 ⟨rfl,hb⟩
      have X9:=zq (XT.o.go hb)
      clear hb
      go_wp2_with fail
      go_ret
      exact⟨rfl,X9.o.low⟩
end Go.Proofs.YtnkpdfjnjmmleaaGreatDoor
namespace Go.Proofs.YtnkpdfjnjmmleaaGreatDoor
open Go.RowKit Go.Bw Go.Maps Go.WideShapes
theorem adminAlone_in (W:World) (n0 n1:Array Value) (V0:HasVal Tryz.prog W 31 n0.toList) (V1:HasVal Tryz.prog W 51 n1.toList) (HL:Grd W) :
 Calls Tryz.prog 10 #[.agg n0,.agg n1] W fun e w'=>e=.returned (.bool true) /\ Below W.heap.size W w':=by
 obtain⟨V,l,e,h,s⟩:=led_in V0
 obtain⟨c,rfl,hu,hx⟩:=cal_in V1
 rw[e]
 exact adminAlone_law W V l h s HL c hu hx
end Go.Proofs.YtnkpdfjnjmmleaaGreatDoor

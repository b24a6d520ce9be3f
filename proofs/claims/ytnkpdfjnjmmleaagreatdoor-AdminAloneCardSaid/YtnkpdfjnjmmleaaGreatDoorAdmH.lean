/- admin's calls on the copy: Cash (printed by tools/gen_admh.py). -/
import Derived.Test.YtnkpdfjnjmmleaaGreatDoorHb
set_option linter.unusedVariables false
set_option linter.unusedSimpArgs false
set_option maxRecDepth 100000
set_option maxHeartbeats 4000000
namespace Go.Proofs.YtnkpdfjnjmmleaaGreatDoor
open Go.RowKit Go.Bw Go.Maps Go.Shelf Go.Bw.Fall
theorem cashA_fits {L:Led} {a c x:Int} (h:(cashA L a c x).2=0):fitsA (cashA L a c x).1=true:=by
 unfold cashA addA at h ⊢
 split at h
 ·rename_i h4;rw[if_pos h4];exact h4.2.2
 ·cases h
theorem cash1 (w:World) (L:Led) (hG:L.Good) (a c x:Int) (hx64:I64 x) (pa pc px:Nat) :
 AdmCalls w L 54 #[.pointer (some ⟨pa,0,none⟩),.pointer (some ⟨pc,0,none⟩),.pointer (some ⟨px,0,none⟩)] [(pa, 3,#[.int .i64 a]),(pc, 3,#[.int .i64 c]),(px, 3,#[.int .i64 x])] (cashS L a c x):=by
 classical
 intro W R0 b V rest F
 have FF:=zq F
 have HX64:=zq hx64
 obtain⟨a4,c4,e4⟩:=cells4 F.own.led
 obtain⟨a1,c1,e1⟩:=F.own.led.curs.form
 have E4:=zq e4
 have E1:=zq e1
 obtain⟨n4,hn4⟩:∃ n,n=L.accts.length:=⟨_,rfl⟩
 obtain⟨n1,hn1⟩:∃ n,n=L.curs.length:=⟨_,rfl⟩
 have N4:=zq hn4
 have N1:=zq hn1
 have y4:W.cell? ⟨b,4,none⟩=some (.slice a4 n4 c4):=F.at_.cell 0 rfl 4 (by rw[hn4];exact e4)
 have x1:W.cell? ⟨pa,0,none⟩=some (.int .i64 a):=F.at_.cell 1 rfl 0 rfl
 have HG:=zq hG
 clear F e4 e1 hn4 hn1 hG hx64
 by_cases h0:0 <= a
 ·obtain⟨k,rfl⟩:∃ k:Nat,a=k:=⟨a.toNat,by omega⟩
  go_enter Tryz.func54,Tryz.ntmps54
  go_wp2_with fail
  refine Fall2.wp_region_tree (C:=fun w'=>True) [11] [] (.step 0 (.step 1 (.step 2 (.step 3 (.step 4 (.step 5 (.step 6 (.step 7 (.step 8 (.step 9 (.step 10 (.step 11 .leaf)))))))))))) (fun ch d w'=>d=[] /\ AdmOut (cashS L (k:Int) c x) w R0 b rest (.panicked ch) w') (by kernel_rfl) (fun _ _ _ h=>⟨h.1,h.2⟩) (by kernel_rfl) trivial ?_
  refine Fall2.tree_still [0,1,2,3,4,5,6,7,8,9,10] (by kernel_rfl) ?_
  simp only[pickL,nth]
  repeat (go_big_quiet_step (fail))
  refine wpQuiet_nil ?_
  refine Fall2.tree_last (by kernel_rfl) rfl (by kernel_rfl) (fun K hK=>?_)
  simp only[pickL,nth]
  refine wpOne_one ?_
  go_simp
  refine (unless_dec (k<n4) 33 _).mono ?_
  rintro e w' ⟨he,rfl⟩
  rcases Or.symm he with ⟨hlt,rfl⟩|⟨hlt,rfl⟩
  ·exact⟨rfl,adm_stop (by unfold cashS;rw[if_neg (by have:=N4.o;omega)];rfl) (by decide) FF.o.drew⟩
  ·go_simp
   refine hK _ _ ?_
   clear hK
   refine Fall2.tree_nil ?_
   have hk':=zq (show k<L.accts.length from by rw[<- N4.o];omega)
   have FA:=zq FF.o.drew
   obtain⟨WA,hWA⟩:∃ s,s=W.drew:=⟨_,rfl⟩
   rw[<- hWA] at FA ⊢
   clear hWA y4 x1 h0
   have y1:WA.cell? ⟨b,1,none⟩=some (.slice a1 n1 c1):=FA.o.at_.cell 0 rfl 1 (by rw[N1.o,<- E1.o];rfl)
   have x2:WA.cell? ⟨pc,0,none⟩=some (.int .i64 c):=FA.o.at_.cell 2 rfl 0 rfl
   by_cases h0:0 <= c
   ·obtain⟨m,rfl⟩:∃ m:Nat,c=m:=⟨c.toNat,by omega⟩
    go_wp2_with fail
    refine Fall2.wp_region_tree (C:=fun w'=>True) [11] [] (.step 0 (.step 1 (.step 2 (.step 3 (.step 4 (.step 5 (.step 6 (.step 7 (.step 8 (.step 9 (.step 10 (.step 11 .leaf)))))))))))) (fun ch d w'=>d=[] /\ AdmOut (cashS L (k:Int) (m:Int) x) w R0 b rest (.panicked ch) w') (by kernel_rfl) (fun _ _ _ h=>⟨h.1,h.2⟩) (by kernel_rfl) trivial ?_
    refine Fall2.tree_still [0,1,2,3,4,5,6,7,8,9,10] (by kernel_rfl) ?_
    simp only[pickL,nth]
    repeat (go_big_quiet_step (fail))
    refine wpQuiet_nil ?_
    refine Fall2.tree_last (by kernel_rfl) rfl (by kernel_rfl) (fun K hK=>?_)
    simp only[pickL,nth]
    refine wpOne_one ?_
    go_simp
    refine (unless_dec (m<n1) 30 _).mono ?_
    rintro e w' ⟨he,rfl⟩
    rcases Or.symm he with ⟨hlt2,rfl⟩|⟨hlt2,rfl⟩
    ·exact⟨rfl,adm_stop (by unfold cashS;rw[if_pos (by have:=hk'.o;omega),if_neg (by have:=N1.o;omega)];rfl) (by decide) FA.o.drew⟩
    ·go_simp
     refine hK _ _ ?_
     clear hK
     refine Fall2.tree_nil ?_
     have hm':=zq (show m<L.curs.length from by rw[<- N1.o];omega)
     have FB:=zq FA.o.drew
     obtain⟨WB,hWB⟩:∃ s,s=WA.drew:=⟨_,rfl⟩
     rw[<- hWB] at FB ⊢
     clear hWB y1 x2
     obtain⟨p,hp⟩:∃ p,V.ac[k]?=some p:=⟨_,List.getElem?_eq_getElem (by have h1:=congrArg List.length FB.o.own.same;rw[List.length_map] at h1;have:=hk'.o;omega)⟩
     have hpa:L.accts[k]?=some p.1:=by rw[FB.o.own.same,List.getElem?_map,hp];rfl
     have hcl:p.1.cash.length=n1:=by rw[N1.o];exact (HG.o.accounts.accts k p.1 hpa).1
     obtain⟨y,hy⟩:∃ y,p.1.cash[m]?=some y:=⟨_,List.getElem?_eq_getElem (by rw[hcl];exact hlt2)⟩
     have HPP:=zq (And.intro hp (And.intro hpa hy))
     have EA:=zq (show L.acc (k:Int)=p.1 from by unfold Led.acc;simp[hpa])
     have E0:=zq (show cashA L k m x=addA y x from by unfold cashA;rw[EA.o];simp[hy])
     have IY:=zq (show I64 y from by have:=FB.o.own.nums p.1 (List.mem_of_getElem? hpa) y (List.mem_of_getElem? hy);exact⟨by omega,by omega⟩)
     obtain⟨g,cg,hv,_,_,hcell,_⟩:=FB.o.own.accts.slot acccells_len (by decide) hp
     obtain⟨gc,cc,hv2,_,_,hcell2,hfree2⟩:=(FB.o.own.cash p (List.mem_of_getElem? hp)).slot icell_len (by decide) hy
     have HV2:=zq hv2
     obtain⟨rfl,rfl⟩:a4=some ⟨g,0,none⟩ /\ c4=cg:=by
      have h1:(V.cells L)[4]?=some V.accts:=rfl
      rw[E4.o,hv] at h1;injection h1 with h1;injection h1 with h1 _ h3;exact⟨h1,h3⟩
     have HF2:=zq (hfree2 m)
     have k1:WB.cell? ⟨g,k*4+1,none⟩=some (.slice (some ⟨gc,0,none⟩) n1 cc):=by rw[<- hcl,<- hv2];exact hcell 1 _ rfl
     have k2:WB.cell? ⟨gc,m,none⟩=some (.int .i64 y):=by have:=hcell2 0 _ rfl;simpa using this
     have y4:WB.cell? ⟨b,4,none⟩=some (.slice (some ⟨g,0,none⟩) n4 c4):=FB.o.at_.cell 0 rfl 4 (by rw[N4.o];exact E4.o)
     have x1:WB.cell? ⟨pa,0,none⟩=some (.int .i64 (k:Int)):=FB.o.at_.cell 1 rfl 0 rfl
     have x2:WB.cell? ⟨pc,0,none⟩=some (.int .i64 (m:Int)):=FB.o.at_.cell 2 rfl 0 rfl
     have x3:WB.cell? ⟨px,0,none⟩=some (.int .i64 x):=FB.o.at_.cell 3 rfl 0 rfl
     have b0:(0:Int) <= (k:Int):=by omega
     have b1:(k:Int)<(n4:Int):=by omega
     have b2:(0:Int) <= (m:Int):=by omega
     have b3:(m:Int)<(n1:Int):=by omega
     clear hp hpa hcl hy hv hv2 hcell hcell2 hfree2 h0 he hlt hlt2
     go_wp2_with fail
     refine Fall2.wp_region_tree (C:=fun w'=>True) [12] [] (.step 0 (.step 1 (.step 2 (.step 3 (.step 4 (.step 5 (.step 6 (.step 7 (.step 8 (.step 9 (.step 10 (.step 11 (.step 12 (.step 13 (.step 14 (.step 15 (.step 16 (.step 17 .leaf)))))))))))))))))) (fun _ _ _=>False) (by kernel_rfl) (fun _ _ _ h=>h.elim) (by kernel_rfl) trivial ?_
     refine Fall2.tree_still [0,1,2,3,4,5,6,7,8,9,10,11] (by kernel_rfl) ?_
     simp only[pickL,nth]
     repeat (go_big_quiet_step (fail))
     refine wpQuiet_nil ?_
     refine Fall2.tree_last (by kernel_rfl) rfl (by kernel_rfl) (fun K hK=>?_)
     simp only[pickL,nth]
     refine wpOne_one ?_
     go_simp
     obtain⟨s,er,hse⟩:∃ s er,addA y x=(s,er):=⟨_,_,rfl⟩
     have AD:=fadd_any y x IY.o HX64.o WB.drew
     rw[hse] at AD
     have SE:=zq hse
     clear hse
     refine AD.mono ?_
     rintro e w' ⟨rfl,rfl⟩
     go_simp
     refine hK _ _ ?_
     clear hK AD
     refine Fall2.tree_still [13,14,15,16,17] (by kernel_rfl) ?_
     simp only[pickL,nth]
     repeat (go_big_quiet_step (fail))
     refine wpQuiet_nil ?_
     refine Fall2.tree_nil ?_
     have FC:=zq FB.o.drew
     obtain⟨WC,hWC⟩:∃ s,s=WB.drew:=⟨_,rfl⟩
     have k1':WC.cell? ⟨g,k*4+1,none⟩=some (.slice (some ⟨gc,0,none⟩) n1 cc):=by rw[hWC];exact k1
     have k2':WC.cell? ⟨gc,m,none⟩=some (.int .i64 y):=by rw[hWC];exact k2
     have HF3:=zq (show WC.frozen? ⟨gc,m,none⟩=false from by rw[hWC];exact HF2.o)
     rw[<- hWC] at FC ⊢
     clear hWC y4 x1 x2 x3 k1 k2 HF2
     by_cases hz:er=0
     ·subst hz
      go_wp2_with fail
      refine (fail_ok _).mono ?_
      rintro e w' ⟨rfl,rfl⟩
      have y4:WC.cell? ⟨b,4,none⟩=some (.slice (some ⟨g,0,none⟩) n4 c4):=FC.o.at_.cell 0 rfl 4 (by rw[N4.o];exact E4.o)
      have x1:WC.cell? ⟨pa,0,none⟩=some (.int .i64 (k:Int)):=FC.o.at_.cell 1 rfl 0 rfl
      have x2:WC.cell? ⟨pc,0,none⟩=some (.int .i64 (m:Int)):=FC.o.at_.cell 2 rfl 0 rfl
      go_wp2_with fail
      refine Fall2.wp_region_tree (C:=fun w'=>True) [11] [] (.step 0 (.step 1 (.step 2 (.step 3 (.step 4 (.step 5 (.step 6 (.step 7 (.step 8 (.step 9 (.step 10 (.step 11 .leaf)))))))))))) (fun _ _ _=>False) (by kernel_rfl) (fun _ _ _ h=>h.elim) (by kernel_rfl) trivial ?_
      refine Fall2.tree_still [0,1,2,3,4,5,6,7,8,9,10] (by kernel_rfl) ?_
      simp only[pickL,nth]
      repeat (go_big_quiet_step (fail))
      refine wpQuiet_nil ?_
      have zf:WC.drew.frozen? ⟨gc,m,none⟩=false:=HF3.o
      refine Fall2.tree_last (by kernel_rfl) rfl (by kernel_rfl) (fun K hK=>?_)
      simp only[pickL,nth]
      refine wpOne_one ?_
      go_simp
      refine hK _ _ ?_
      clear hK zf y4 x1 x2 k1' k2'
      refine Fall2.tree_nil ?_
      have FT:=zq (show fitsA s=true from by have:=cashA_fits (L:=L) (a:=k) (c:=m) (x:=x) (by rw[E0.o,SE.o]);rw[E0.o,SE.o] at this;exact this)
      obtain⟨WE,hWE⟩:∃ q,q=(WC.setCell ⟨gc,m,none⟩ (.int .i64 s)).drew:=⟨_,rfl⟩
      have FE:=zq (show FBs w R0 ((b, 31,V.cells L)::((pa, 3,#[.int .i64 (k:Int)])::(pc, 3,#[.int .i64 (m:Int)])::(px, 3,#[.int .i64 x])::rest)) { V with ac:=V.ac.set k ({ p.1 with cash:=p.1.cash.set m s },p.2) } { L with accts:=L.accts.set k { p.1 with cash:=p.1.cash.set m s } } WE from by
       obtain⟨o1,m1⟩:=FC.o.own.setCash HPP.o.1 (g:=gc) (c:=cc) HV2.o HPP.o.2.2 (x:=s) (by have:=I64.of_fits FT.o;have h1:=this.1;have h2:=this.2;omega)
       rw[hWE]
       exact (FC.o.row o1 m1 (q:=k+8) (rows_cash HPP.o.1) (by rw[HV2.o];rfl) (by simp only[LedV.rows];rw[map_set_same (fun q:Acc×Value=>q.2) (x':=({ p.1 with cash:=p.1.cash.set m s },p.2)) HPP.o.1 rfl])).drew)
      rw[<- hWE]
      clear hWE
      have x1:WE.cell? ⟨pa,0,none⟩=some (.int .i64 (k:Int)):=FE.o.at_.cell 1 rfl 0 rfl
      go_wp2_with fail
      go_ret
      refine adm_ret (V:={ V with ac:=V.ac.set k ({ p.1 with cash:=p.1.cash.set m s },p.2) }) (L:={ L with accts:=L.accts.set k { p.1 with cash:=p.1.cash.set m s } }) ?_ FE.o
      unfold cashS
      rw[if_pos (by have:=hk'.o;omega),if_pos (by have:=hm'.o;omega),if_pos (by rw[E0.o,SE.o]),E0.o,SE.o,EA.o,Int.toNat_natCast,Int.toNat_natCast]
     ·have HZ:=zq hz
      clear hz
      go_wp2_with fail
      refine (fail_bad er HZ.o _).mono ?_
      rintro e w' ⟨rfl,rfl⟩
      go_wp2_with fail
      exact⟨rfl,adm_stop (by unfold cashS;rw[if_pos (by have:=hk'.o;omega),if_pos (by have:=hm'.o;omega),if_neg (by rw[E0.o,SE.o];exact HZ.o),E0.o,SE.o];rfl) HZ.o FC.o⟩
   ·have hr:=zq (show (cashS L (k:Int) c x).err=30 from by unfold cashS;rw[if_pos (by have:=hk'.o;omega),if_neg (by omega)];rfl)
    have d0:decide (0 <= c)=false:=decide_eq_false h0
    go_wp2_with fail
    refine Fall2.wp_region_tree (C:=fun w'=>True) [11] [] (.step 0 (.step 1 (.step 2 (.step 3 (.step 4 (.step 5 (.step 6 (.step 7 (.step 8 (.step 9 (.step 10 (.step 11 .leaf)))))))))))) (fun ch d w'=>d=[] /\ AdmOut (cashS L (k:Int) c x) w R0 b rest (.panicked ch) w') (by kernel_rfl) (fun _ _ _ h=>⟨h.1,h.2⟩) (by kernel_rfl) trivial ?_
    refine Fall2.tree_still [0,1,2,3,4,5,6,7,8,9,10] (by kernel_rfl) ?_
    simp only[pickL,nth]
    repeat (go_big_quiet_step (fail))
    refine wpQuiet_nil ?_
    refine Fall2.tree_last (by kernel_rfl) rfl (by kernel_rfl) (fun K hK=>?_)
    simp only[pickL,nth]
    refine wpOne_one ?_
    go_simp
    refine (unless_no 30 _).mono ?_
    rintro e w' ⟨rfl,rfl⟩
    exact⟨rfl,adm_stop hr.o (by decide) FA.o.drew⟩
 ·have hr:=zq (show (cashS L a c x).err=33 from by unfold cashS;rw[if_neg (by have:=N4.o;omega)];rfl)
  have d0:decide (0 <= a)=false:=decide_eq_false h0
  go_enter Tryz.func54,Tryz.ntmps54
  go_wp2_with fail
  refine Fall2.wp_region_tree (C:=fun w'=>True) [11] [] (.step 0 (.step 1 (.step 2 (.step 3 (.step 4 (.step 5 (.step 6 (.step 7 (.step 8 (.step 9 (.step 10 (.step 11 .leaf)))))))))))) (fun ch d w'=>d=[] /\ AdmOut (cashS L a c x) w R0 b rest (.panicked ch) w') (by kernel_rfl) (fun _ _ _ h=>⟨h.1,h.2⟩) (by kernel_rfl) trivial ?_
  refine Fall2.tree_still [0,1,2,3,4,5,6,7,8,9,10] (by kernel_rfl) ?_
  simp only[pickL,nth]
  repeat (go_big_quiet_step (fail))
  refine wpQuiet_nil ?_
  refine Fall2.tree_last (by kernel_rfl) rfl (by kernel_rfl) (fun K hK=>?_)
  simp only[pickL,nth]
  refine wpOne_one ?_
  go_simp
  refine (unless_no 33 _).mono ?_
  rintro e w' ⟨rfl,rfl⟩
  exact⟨rfl,adm_stop hr.o (by decide) FF.o.drew⟩
end Go.Proofs.YtnkpdfjnjmmleaaGreatDoor

/- admin's calls on the copy: Price (printed by tools/gen_admg.py). -/
import Derived.Test.YtnkpdfjnjmmleaaGreatDoorHb
import Derived.Test.YtnkpdfjnjmmleaaGreatDoorGe
set_option linter.unusedVariables false
set_option linter.unusedSimpArgs false
set_option maxRecDepth 100000
set_option maxHeartbeats 4000000
namespace Go.Proofs.YtnkpdfjnjmmleaaGreatDoor
open Go.RowKit Go.Bw Go.Maps Go.Shelf Go.Bw.Fall
theorem price1 (w:World) (L:Led) (hG:L.Good) (u p v:Int) (pu pp pv:Nat) :
 AdmCalls w L 63 #[.pointer (some ⟨pu,0,none⟩),.pointer (some ⟨pp,0,none⟩),.pointer (some ⟨pv,0,none⟩)] [(pu, 3,#[.int .i64 u]),(pp, 3,#[.int .i64 p]),(pv, 3,#[.int .i64 v])] (priceS L u p v):=by
 classical
 intro W R0 b V rest F
 have FF:=zq F
 obtain⟨a2,c2,e2⟩:=F.own.led.unders.form
 obtain⟨a1,c1,e1⟩:=F.own.led.curs.form
 have E2:=zq e2
 have E1:=zq e1
 have U6:=zq (show L.unders.length <= 6 /\ L.curs.length <= 4 from ⟨hG.things.u1,hG.things.c1⟩)
 obtain⟨n2,hn2⟩:∃ n,n=L.unders.length:=⟨_,rfl⟩
 obtain⟨n1,hn1⟩:∃ n,n=L.curs.length:=⟨_,rfl⟩
 have N2:=zq hn2
 have N1:=zq hn1
 have y2:W.cell? ⟨b,2,none⟩=some (.slice a2 n2 c2):=F.at_.cell 0 rfl 2 (by rw[hn2,<- e2];rfl)
 have x1:W.cell? ⟨pu,0,none⟩=some (.int .i64 u):=F.at_.cell 1 rfl 0 rfl
 have HG:=zq hG
 clear F e1 e2 hn2 hn1 hG
 by_cases h0:0 <= u
 ·obtain⟨k,rfl⟩:∃ k:Nat,u=k:=⟨u.toNat,by omega⟩
  go_enter Tryz.func63,Tryz.ntmps63
  go_wp2_with fail
  refine Fall2.wp_region_tree (C:=fun w'=>True) [11] [] (.step 0 (.step 1 (.step 2 (.step 3 (.step 4 (.step 5 (.step 6 (.step 7 (.step 8 (.step 9 (.step 10 (.step 11 .leaf)))))))))))) (fun c d w'=>d=[] /\ AdmOut (priceS L (k:Int) p v) w R0 b rest (.panicked c) w') (by kernel_rfl) (fun _ _ _ h=>⟨h.1,h.2⟩) (by kernel_rfl) trivial ?_
  refine Fall2.tree_still [0,1,2,3,4,5,6,7,8,9,10] (by kernel_rfl) ?_
  simp only[pickL,nth]
  repeat (go_big_quiet_step (fail))
  refine wpQuiet_nil ?_
  refine Fall2.tree_last (by kernel_rfl) rfl (by kernel_rfl) (fun K hK=>?_)
  simp only[pickL,nth]
  refine wpOne_one ?_
  go_simp
  refine (unless_dec (k<n2) 31 _).mono ?_
  rintro e w' ⟨he,rfl⟩
  rcases Or.symm he with ⟨hlt,rfl⟩|⟨hlt,rfl⟩
  ·exact⟨rfl,adm_stop (by unfold priceS;rw[if_neg (by have:=N2.o;omega)];rfl) (by decide) FF.o.drew⟩
  ·go_simp
   refine hK _ _ ?_
   clear hK
   refine Fall2.tree_nil ?_
   have hk':=zq (show k<L.unders.length from by rw[<- N2.o];omega)
   obtain⟨x,hx⟩:∃ x,L.unders[k]?=some x:=⟨_,List.getElem?_eq_getElem hk'.o⟩
   have HX:=zq (show L.und (k:Int)=x from by unfold Led.und;simp[hx])
   have HX2:=zq hx
   clear hx
   obtain⟨WA,hWA⟩:∃ s,s=W.drew:=⟨_,rfl⟩
   have FA:=zq (show FBs w R0 ((b, 31,V.cells L)::((pu, 3,#[.int .i64 (k:Int)])::(pp, 3,#[.int .i64 p])::(pv, 3,#[.int .i64 v])::rest)) V L WA from by rw[hWA];exact FF.o.drew)
   obtain⟨g,c,hv,hc1,hc2,hcell,hfree⟩:=FA.o.own.unders.slot undcells_len (by decide) HX2.o
   obtain⟨rfl,rfl⟩:a2=some ⟨g,0,none⟩ /\ c2=c:=by rw[E2.o] at hv;injection hv with h1 _ h3;exact⟨h1,h3⟩
   have HV:=zq (show V.unders=.slice (some ⟨g,0,none⟩) L.unders.length c2 from hv)
   have q0:=zq hcell
   have qf:=zq hfree
   rw[<- hWA]
   clear hWA hv hcell hfree hc1 hc2 y2 x1
   have y2:WA.cell? ⟨b,2,none⟩=some (.slice (some ⟨g,0,none⟩) n2 c2):=FA.o.at_.cell 0 rfl 2 (by rw[N2.o,<- E2.o];rfl)
   have x1:WA.cell? ⟨pu,0,none⟩=some (.int .i64 (k:Int)):=FA.o.at_.cell 1 rfl 0 rfl
   go_wp2_with fail
   refine Fall2.wp_region_tree (C:=fun w'=>True) [] [] (.step 0 (.step 1 (.step 2 (.step 3 (.step 4 (.step 5 (.step 6 .leaf))))))) (fun _ _ _=>False) (by kernel_rfl) (fun _ _ _ h=>h.elim) (by kernel_rfl) trivial ?_
   refine Fall2.tree_still [0,1,2,3,4,5,6] (by kernel_rfl) ?_
   simp only[pickL,nth]
   repeat (go_big_quiet_step (fail))
   refine wpQuiet_nil ?_
   refine Fall2.tree_nil ?_
   clear y2 x1
   have FD:=zq FA.o.drew
   obtain⟨WB,hWB⟩:∃ s,s=WA.drew:=⟨_,rfl⟩
   rw[<- hWB] at FD ⊢
   have z0:WB.cell? ⟨g,k*4+2,none⟩=some (.int .i64 x.price):=by rw[hWB];exact q0.o 2 _ rfl
   have z1:WB.cell? ⟨g,k*4+3,none⟩=some (.int .i64 x.vol):=by rw[hWB];exact q0.o 3 _ rfl
   have z2:WB.frozen? ⟨g,k*4+2,none⟩=false:=by rw[hWB];exact qf.o _
   have z3:WB.frozen? ⟨g,k*4+3,none⟩=false:=by rw[hWB];exact qf.o _
   have x2:WB.cell? ⟨pp,0,none⟩=some (.int .i64 p):=FD.o.at_.cell 2 rfl 0 rfl
   have x3:WB.cell? ⟨pv,0,none⟩=some (.int .i64 v):=FD.o.at_.cell 3 rfl 0 rfl
   clear hWB
   go_upto_region 4 with (fail)
   obtain⟨x',hx'⟩:∃ y:Und,y={ x with price:=p,vol:=v }:=⟨_,rfl⟩
   obtain⟨L',hL'⟩:∃ M:Led,M={ L with unders:=L.unders.set k x' }:=⟨_,rfl⟩
   obtain⟨W4,hW4⟩:∃ s,s=(WB.setCell ⟨g,k*4+2,none⟩ (.int .i64 p)).setCell ⟨g,k*4+3,none⟩ (.int .i64 v):=⟨_,rfl⟩
   have F4:=zq (show FBs w R0 ((b, 31,V.cells L')::((pu, 3,#[.int .i64 (k:Int)])::(pp, 3,#[.int .i64 p])::(pv, 3,#[.int .i64 v])::rest)) V L' W4 from by
    have hn:=FD.o.own.names x (List.mem_of_getElem? HX2.o)
    obtain⟨o1,m1⟩:=FD.o.own.set_unders HV.o (x':={ x with price:=p }) (u:=.int .i64 p) HX2.o (j:=2) (by decide) rfl hn
    have e1:({ L with unders:=L.unders.set k { x with price:=p } }:Led).unders[k]?=some { x with price:=p }:=by show (L.unders.set k _)[k]?=_;rw[List.getElem?_set_self hk'.o]
    obtain⟨o2,m2⟩:=o1.set_unders (by show V.unders=.slice _ (L.unders.set k _).length c2;rw[List.length_set];exact HV.o) (x':={ x with price:=p,vol:=v }) (u:=.int .i64 v) e1 (j:=3) (by decide) rfl hn
    have f1:=FD.o.row o1 m1 (q:=1) rfl (by rw[HV.o];rfl) rfl
    have f2:=f1.row o2 m2 (q:=1) rfl (by rw[HV.o];rfl) rfl
    rw[hW4,hL',hx']
    simp only[List.set_set] at f2
    exact f2)
   have HX3:=zq (show L'.unders[k]?=some x' from by rw[hL'];show (L.unders.set k x')[k]?=_;rw[List.getElem?_set_self hk'.o])
   have OKU:=zq (show ∀ W,Calls Tryz.prog 42 #[.agg #[.string x.name,.int .i64 x.cur,.int .i64 p,.int .i64 v],.int .i64 (n1:Nat)] W fun e w'=>e=.returned (.bool (decide (x'.Ok n1))) /\ Below W.heap.size W w' from fun W=>by
    rw[hx'];exact und_any { x with price:=p,vol:=v } n1 (by have:=U6.o;have:=N1.o;omega) (FD.o.own.names x (List.mem_of_getElem? HX2.o)) W)
   have RS:=zq (show priceS L k p v=if x'.Ok L.curs.length then ⟨L',k,0⟩ else .no 37 from by
    unfold priceS
    rw[if_pos (by have:=hk'.o;omega),HX.o,<- hx',Int.toNat_natCast,<- hL'])
   have e':=zq (show x'.name=x.name /\ x'.cur=x.cur /\ x'.price=p /\ x'.vol=v from by rw[hx'];exact⟨rfl,rfl,rfl,rfl⟩)
   rw[<- hW4]
   clear hW4 hL' hx' z0 z1 z2 z3 x2 x3 q0 qf
   obtain⟨g',c',hv,_,_,hcell,_⟩:=F4.o.own.unders.slot undcells_len (by decide) HX3.o
   obtain rfl:g'=g:=by rw[HV.o] at hv;injection hv with h1 _ _;injection h1 with h1;injection h1 with h1;exact h1.symm
   have z0:W4.cell? ⟨g',k*4+0,none⟩=some (.string x.name):=by rw[<- e'.o.1];exact hcell 0 _ rfl
   have z1:W4.cell? ⟨g',k*4+1,none⟩=some (.int .i64 x.cur):=by rw[<- e'.o.2.1];exact hcell 1 _ rfl
   have z2:W4.cell? ⟨g',k*4+2,none⟩=some (.int .i64 p):=by have:=hcell 2 _ rfl;rw[e'.o.2.2.1] at this;exact this
   have z3:W4.cell? ⟨g',k*4+3,none⟩=some (.int .i64 v):=by have:=hcell 3 _ rfl;rw[e'.o.2.2.2] at this;exact this
   rw[Nat.add_zero] at z0
   have y1:W4.cell? ⟨b,1,none⟩=some (.slice a1 n1 c1):=F4.o.at_.cell 0 rfl 1 (by rw[N1.o,<- E1.o];rfl)
   clear hv hcell
   refine Fall2.wp_region_tree (C:=fun w'=>True) [8,9] [] (.step 0 (.step 1 (.step 2 (.step 3 (.step 4 (.step 5 (.step 6 (.step 7 (.step 8 (.step 9 .leaf)))))))))) (fun c d w'=>d=[] /\ AdmOut (priceS L (k:Int) p v) w R0 b rest (.panicked c) w') (by kernel_rfl) (fun _ _ _ h=>⟨h.1,h.2⟩) (by kernel_rfl) trivial ?_
   refine Fall2.tree_still [0,1,2,3,4,5,6,7] (by kernel_rfl) ?_
   simp only[pickL,nth]
   repeat (go_big_quiet_step (fail))
   refine wpQuiet_nil ?_
   refine Fall2.tree_last (by kernel_rfl) rfl (by kernel_rfl) (fun K hK=>?_)
   simp only[pickL,nth]
   refine wpOne_one ?_
   go_simp
   refine (OKU.o _).mono ?_
   rintro e w5 ⟨rfl,hb⟩
   have F5:=zq (F4.o.drew.go hb)
   clear hb z0 z1 z2 z3 y1
   go_simp
   refine hK _ _ ?_
   clear hK
   refine Fall2.tree_last (by kernel_rfl) rfl (by kernel_rfl) (fun K hK=>?_)
   simp only[pickL,nth]
   refine wpOne_one ?_
   go_simp
   refine (unless_dec (x'.Ok n1) 37 _).mono ?_
   rintro e w' ⟨he,rfl⟩
   rcases Or.symm he with ⟨hok,rfl⟩|⟨hok,rfl⟩
   ·exact⟨rfl,adm_stop (by rw[RS.o,if_neg (by rw[<- N1.o];exact hok)];rfl) (by decide) F5.o⟩
   go_simp
   refine hK _ _ ?_
   clear hK
   refine Fall2.tree_nil ?_
   have x1:w5.cell? ⟨pu,0,none⟩=some (.int .i64 (k:Int)):=F5.o.at_.cell 1 rfl 0 rfl
   have HOK:=zq hok
   clear hok
   go_wp2_with fail
   go_ret
   exact adm_ret (V:=V) (by rw[RS.o,if_pos (by rw[<- N1.o];exact HOK.o)]) F5.o
 ·have hr:=zq (show (priceS L u p v).err=31 from by unfold priceS;rw[if_neg (by have:=N2.o;omega)];rfl)
  have d0:decide (0 <= u)=false:=decide_eq_false h0
  go_enter Tryz.func63,Tryz.ntmps63
  go_wp2_with fail
  refine Fall2.wp_region_tree (C:=fun w'=>True) [11] [] (.step 0 (.step 1 (.step 2 (.step 3 (.step 4 (.step 5 (.step 6 (.step 7 (.step 8 (.step 9 (.step 10 (.step 11 .leaf)))))))))))) (fun c d w'=>d=[] /\ AdmOut (priceS L u p v) w R0 b rest (.panicked c) w') (by kernel_rfl) (fun _ _ _ h=>⟨h.1,h.2⟩) (by kernel_rfl) trivial ?_
  refine Fall2.tree_still [0,1,2,3,4,5,6,7,8,9,10] (by kernel_rfl) ?_
  simp only[pickL,nth]
  repeat (go_big_quiet_step (fail))
  refine wpQuiet_nil ?_
  refine Fall2.tree_last (by kernel_rfl) rfl (by kernel_rfl) (fun K hK=>?_)
  simp only[pickL,nth]
  refine wpOne_one ?_
  go_simp
  refine (unless_no 31 _).mono ?_
  rintro e w' ⟨rfl,rfl⟩
  exact⟨rfl,adm_stop hr.o (by decide) (FF.o.drew)⟩
end Go.Proofs.YtnkpdfjnjmmleaaGreatDoor

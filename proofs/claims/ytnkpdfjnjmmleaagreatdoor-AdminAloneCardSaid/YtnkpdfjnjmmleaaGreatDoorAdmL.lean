/- admin's calls on the copy: Instrument (printed by tools/gen_adml.py). -/
import Derived.Test.YtnkpdfjnjmmleaaGreatDoorAdmK
import Derived.Test.YtnkpdfjnjmmleaaGreatDoorGe
import Derived.Test.YtnkpdfjnjmmleaaGreatDoorLexV
set_option linter.unusedVariables false
set_option linter.unusedSimpArgs false
set_option maxRecDepth 100000
set_option maxHeartbeats 8000000
namespace Go.Proofs.YtnkpdfjnjmmleaaGreatDoor
open Go.RowKit Go.Bw Go.Maps Go.Shelf Go.Bw.Fall
def InsC (b pi:Nat) (v3 v7:Value) (cs:Array Value) (W:World):Prop:=W.cell? ⟨b,3,none⟩=some v3 /\ W.cell? ⟨b,7,none⟩=some v7 /\ W.heap[pi]?=some (.cells cs 35 (0,0))
theorem reads_one {α:Type} {n:Nat} {f:α -> List Value} (w:World) (e:TypeId) (x:α) (cs:Array Value) (hcs:cs.toList=f x) (hf:(f x).length=n):Reads (w.alloc (.cells cs e)) n (.slice (some ⟨w.heap.size,0,none⟩) 1 1) [x].length ([x].flatMap f) :=
 ⟨by simp[hf],Or.inr ⟨_,_,rfl,fun j u hj=>by
  rw[add_plain,Nat.zero_add,cell_of_heap (heap_alloc_new w _)]
  rw[List.flatMap_singleton,<- hcs] at hj
  simpa using hj⟩⟩
theorem instr1 (w:World) (L:Led) (hG:L.Good) (i:Ins) (pi:Nat) :
 AdmCalls w L 48 #[.pointer (some ⟨pi,0,none⟩)] [(pi, 35,#[.int .i64 i.kind,.int .i64 i.under,.int .i64 i.mult,.int .i64 i.strike,.int .i64 i.expiry,.bool i.call,.int .i64 i.mark])] (instrS L i):=by
 classical
 intro W R0 b V rest F
 have FF:=zq F
 obtain⟨a2,c2,e2⟩:=F.own.led.unders.form
 obtain⟨a3,c3,e3⟩:=F.own.led.instrs.form
 obtain⟨a7,c7,e7⟩:=F.own.led.avail.form
 have E2:=zq e2
 have E3:=zq e3
 have E7:=zq e7
 have U6:=zq (show L.unders.length <= 6 /\ L.instrs.length <= 12 /\ L.avail.length <= 12 from ⟨hG.things.u1,hG.things.i1,by have h1:=hG.locs.len;have:=hG.things.i1;omega⟩)
 obtain⟨n2,hn2⟩:∃ n,n=L.unders.length:=⟨_,rfl⟩
 obtain⟨n3,hn3⟩:∃ n,n=L.instrs.length:=⟨_,rfl⟩
 obtain⟨n7,hn7⟩:∃ n,n=L.avail.length:=⟨_,rfl⟩
 have N2:=zq hn2
 have N3:=zq hn3
 have N7:=zq hn7
 have HG:=zq hG
 have y3:W.cell? ⟨b,3,none⟩=some (.slice a3 n3 c3):=F.at_.cell 0 rfl 3 (by rw[hn3,<- e3];rfl)
 clear F e2 e3 e7 hn2 hn3 hn7 hG
 go_enter Tryz.func48,Tryz.ntmps48
 go_wp2_with fail
 refine (unless_dec ((n3:Int)<12) 40 _).mono ?_
 rintro e w' ⟨he,rfl⟩
 rcases Or.symm he with ⟨hlt,rfl⟩|⟨hlt,rfl⟩
 ·go_wp2_with fail
  exact⟨rfl,adm_stop (by unfold instrS;rw[if_neg (by have:=N3.o;omega)];rfl) (by decide) FF.o⟩
 ·have HLT:=zq hlt
  have i6:W.cell? ⟨pi,6,none⟩=some (.int .i64 i.mark):=FF.o.at_.cell 1 rfl 6 rfl
  have z6:=FF.o.at_.free 1 rfl 6
  clear he hlt y3
  go_upto_region 3 with (fail)
  have FX:=zq (show FBs w R0 ((b, 31,V.cells L)::((pi, 35,#[.int .i64 i.kind,.int .i64 i.under,.int .i64 i.mult,.int .i64 i.strike,.int .i64 i.expiry,.bool i.call,.int .i64 0])::rest)) V L (W.setCell ⟨pi,6,none⟩ (.int .i64 0)) from FF.o.cell 1 rfl 6 (.int .i64 0))
  obtain⟨W2,hW2⟩:∃ s,s=W.setCell ⟨pi,6,none⟩ (.int .i64 0):=⟨_,rfl⟩
  rw[<- hW2] at FX ⊢
  clear hW2 i6 z6
  have IA:=zq (show ∀ W,Calls Tryz.prog 49 #[.agg #[.int .i64 i.kind,.int .i64 i.under,.int .i64 i.mult,.int .i64 i.strike,.int .i64 i.expiry,.bool i.call,.int .i64 0],.int .i64 (n2:Nat)] W fun e w'=>e=.returned (.bool (decide (i.noMark.Ok n2))) /\ Below W.heap.size W w' from fun W=>ins_any i.noMark n2 (by have:=U6.o;have:=N2.o;omega) W)
  have i0:W2.cell? ⟨pi,0,none⟩=some (.int .i64 i.kind):=FX.o.at_.cell 1 rfl 0 rfl
  have i1:W2.cell? ⟨pi,1,none⟩=some (.int .i64 i.under):=FX.o.at_.cell 1 rfl 1 rfl
  have i2:W2.cell? ⟨pi,2,none⟩=some (.int .i64 i.mult):=FX.o.at_.cell 1 rfl 2 rfl
  have i3:W2.cell? ⟨pi,3,none⟩=some (.int .i64 i.strike):=FX.o.at_.cell 1 rfl 3 rfl
  have i4:W2.cell? ⟨pi,4,none⟩=some (.int .i64 i.expiry):=FX.o.at_.cell 1 rfl 4 rfl
  have i5:W2.cell? ⟨pi,5,none⟩=some (.bool i.call):=FX.o.at_.cell 1 rfl 5 rfl
  have i6:W2.cell? ⟨pi,6,none⟩=some (.int .i64 0):=FX.o.at_.cell 1 rfl 6 rfl
  have y2:W2.cell? ⟨b,2,none⟩=some (.slice a2 n2 c2):=FX.o.at_.cell 0 rfl 2 (by rw[N2.o,<- E2.o];rfl)
  refine Fall2.wp_region_tree (C:=fun w'=>True) [6,7] [] (.step 0 (.step 1 (.step 2 (.step 3 (.step 4 (.step 5 (.step 6 (.step 7 .leaf)))))))) (fun ch d w'=>d=[] /\ AdmOut (instrS L i) w R0 b rest (.panicked ch) w') (by kernel_rfl) (fun _ _ _ h=>⟨h.1,h.2⟩) (by kernel_rfl) trivial ?_
  refine Fall2.tree_still [0,1,2,3,4,5] (by kernel_rfl) ?_
  simp only[pickL,nth]
  repeat (go_big_quiet_step (fail))
  refine wpQuiet_nil ?_
  refine Fall2.tree_last (by kernel_rfl) rfl (by kernel_rfl) (fun K hK=>?_)
  simp only[pickL,nth]
  refine wpOne_one ?_
  go_simp
  refine (IA.o _).mono ?_
  rintro e w3 ⟨rfl,hb⟩
  have FX:=zq (FX.o.drew.go hb)
  clear hb y2 IA
  clear i0 i1 i2 i3 i4 i5 i6
  go_simp
  refine hK _ _ ?_
  clear hK
  refine Fall2.tree_last (by kernel_rfl) rfl (by kernel_rfl) (fun K hK=>?_)
  simp only[pickL,nth]
  refine wpOne_one ?_
  go_simp
  refine (unless_dec (i.noMark.Ok n2) 32 _).mono ?_
  rintro e w' ⟨he,rfl⟩
  rcases Or.symm he with ⟨hok,rfl⟩|⟨hok,rfl⟩
  ·exact⟨rfl,adm_stop (by unfold instrS;rw[if_pos (by have:=N3.o;have:=HLT.o;omega),if_neg (by rw[<- N2.o];exact hok)];rfl) (by decide) FX.o⟩
  ·go_simp
   refine hK _ _ ?_
   clear hK
   refine Fall2.tree_nil ?_
   have HOK:=zq (show i.noMark.Ok L.unders.length from by rw[<- N2.o];exact hok)
   clear he hok
   have i4:w3.cell? ⟨pi,4,none⟩=some (.int .i64 i.expiry):=FX.o.at_.cell 1 rfl 4 rfl
   have y0:w3.cell? ⟨b,0,none⟩=some (.int .i64 L.day):=FX.o.at_.cell 0 rfl 0 rfl
   have EXP:∀ B:Bool,B=true -> (i.expiry=0 \/ L.day <= i.expiry) -> True:=fun _ _ _=>trivial
   by_cases hx0:i.expiry=0
   case' pos =>
    have d0:(i.expiry==0)=true:=by rw[hx0];rfl
    go_wp2_with fail
    refine Fall2.wp_region_tree (C:=fun w'=>True) [12] [] (.step 0 (.step 1 (.step 2 (.step 3 (.step 4 (.step 5 (.step 6 (.step 7 (.step 8 (.step 9 (.step 10 (.step 11 (.step 12 .leaf))))))))))))) (fun ch d w'=>d=[] /\ AdmOut (instrS L i) w R0 b rest (.panicked ch) w') (by kernel_rfl) (fun _ _ _ h=>⟨h.1,h.2⟩) (by kernel_rfl) trivial ?_
    refine Fall2.tree_still [0,1,2,3,4,5,6,7,8,9,10,11] (by kernel_rfl) ?_
    simp only[pickL,nth]
    repeat (go_big_quiet_step (fail))
    refine wpQuiet_nil ?_
    refine Fall2.tree_last (by kernel_rfl) rfl (by kernel_rfl) (fun K hK=>?_)
    simp only[pickL,nth]
    refine wpOne_one ?_
    go_simp
    refine (unless_yes 41 _).mono ?_
    rintro e w' ⟨rfl,rfl⟩
    have HE:=zq (show i.expiry=0 \/ L.day <= i.expiry from Or.inl hx0)
    clear d0 hx0

   case' neg =>
    have d0:(i.expiry==0)=false:=beq_false_of_ne hx0
    go_wp2_with fail
    refine Fall2.wp_region_tree (C:=fun w'=>True) [12] [] (.step 0 (.step 1 (.step 2 (.step 3 (.step 4 (.step 5 (.step 6 (.step 7 (.step 8 (.step 9 (.step 10 (.step 11 (.step 12 .leaf))))))))))))) (fun ch d w'=>d=[] /\ AdmOut (instrS L i) w R0 b rest (.panicked ch) w') (by kernel_rfl) (fun _ _ _ h=>⟨h.1,h.2⟩) (by kernel_rfl) trivial ?_
    refine Fall2.tree_still [0,1,2,3,4,5,6,7,8,9,10,11] (by kernel_rfl) ?_
    simp only[pickL,nth]
    repeat (go_big_quiet_step (fail))
    refine wpQuiet_nil ?_
    refine Fall2.tree_last (by kernel_rfl) rfl (by kernel_rfl) (fun K hK=>?_)
    simp only[pickL,nth]
    refine wpOne_one ?_
    go_simp
    refine (unless_dec (L.day <= i.expiry) 41 _).mono ?_
    rintro e w' ⟨he,rfl⟩
    rcases Or.symm he with ⟨hdy,rfl⟩|⟨hdy,rfl⟩
    ·exact⟨rfl,adm_stop (by unfold instrS;rw[if_pos (by have:=N3.o;have:=HLT.o;omega),if_pos HOK.o,if_neg (by intro h;rcases h with h|h <;> contradiction)];rfl) (by decide) FX.o.drew⟩
    have HE:=zq (show i.expiry=0 \/ L.day <= i.expiry from Or.inr hdy)
    clear d0 hx0 he hdy

   all_goals
    go_simp
    refine hK _ _ ?_
    clear hK
    refine Fall2.tree_nil ?_
    have FX:=zq FX.o.drew
    obtain⟨w4,hw4⟩:∃ s,s=w3.drew:=⟨_,rfl⟩
    rw[<- hw4] at FX ⊢
    clear hw4 i4 y0 EXP
    obtain⟨u,hu⟩:∃ u:Nat,i.under=u:=⟨i.under.toNat,by have:=HOK.o.1;show i.under=_;have h:(0:Int) <= i.under:=this;omega⟩
    have hul:u<L.unders.length:=by have h:i.under<(L.unders.length:Int):=HOK.o.2.1;omega
    obtain⟨y,hy⟩:∃ y,L.unders[u]?=some y:=⟨_,List.getElem?_eq_getElem hul⟩
    have HY:=zq hy
    have EU:=zq hu
    have OKY:=zq (HG.o.things.unders u y hy)
    obtain⟨g,cg,hv,_,_,hcell,_⟩:=FX.o.own.unders.slot undcells_len (by decide) hy
    obtain⟨rfl,rfl⟩:a2=some ⟨g,0,none⟩ /\ c2=cg:=by rw[E2.o] at hv;injection hv with h1 _ h3;exact⟨h1,h3⟩
    have MK:=zq (show markA L i=((unitA i.noMark y.price y.vol L.day).1,0) from by
     have h2:=(markA_ok HG.o HOK.o).1
     have e:L.und i.under=y:=by unfold Led.und;rw[hu];simp[hy]
     have h3:markA L i=unitA i.noMark y.price y.vol L.day:=by
      unfold markA nowA
      rw[e,if_pos ⟨⟨by have:=OKY.o.2.2.2.1;omega,OKY.o.2.2.2.2.1⟩,OKY.o.2.2.2.2.2.1,OKY.o.2.2.2.2.2.2⟩]
     rw[h3] at h2 ⊢
     exact Prod.ext rfl h2)
    have NW:=zq (show ∀ W,Calls Tryz.prog 50 #[.agg #[.int .i64 i.kind,.int .i64 i.under,.int .i64 i.mult,.int .i64 i.strike,.int .i64 i.expiry,.bool i.call,.int .i64 0],.agg #[.string y.name,.int .i64 y.cur,.int .i64 y.price,.int .i64 y.vol],.int .i64 L.day] W fun e w'=>e=.returned (.tuple #[.int .i64 (unitA i.noMark y.price y.vol L.day).1,.int .i64 0]) /\ Below W.heap.size W w' from fun W=>now_any i.noMark y L.unders.length L.curs.length HOK.o OKY.o L.day HG.o.d0 HG.o.d1 W)
    obtain⟨mk,hmk⟩:∃ m,m=(unitA i.noMark y.price y.vol L.day).1:=⟨_,rfl⟩
    rw[<- hmk] at MK NW
    have MK2:=zq (show 0 <= mk /\ mk <= 2000000000000000 from by have:=markA_ok HG.o HOK.o;rw[MK.o] at this;exact this.2)
    have i0:w4.cell? ⟨pi,0,none⟩=some (.int .i64 i.kind):=FX.o.at_.cell 1 rfl 0 rfl
    have i1:w4.cell? ⟨pi,1,none⟩=some (.int .i64 i.under):=FX.o.at_.cell 1 rfl 1 rfl
    have i2:w4.cell? ⟨pi,2,none⟩=some (.int .i64 i.mult):=FX.o.at_.cell 1 rfl 2 rfl
    have i3:w4.cell? ⟨pi,3,none⟩=some (.int .i64 i.strike):=FX.o.at_.cell 1 rfl 3 rfl
    have i4:w4.cell? ⟨pi,4,none⟩=some (.int .i64 i.expiry):=FX.o.at_.cell 1 rfl 4 rfl
    have i5:w4.cell? ⟨pi,5,none⟩=some (.bool i.call):=FX.o.at_.cell 1 rfl 5 rfl
    have i6:w4.cell? ⟨pi,6,none⟩=some (.int .i64 0):=FX.o.at_.cell 1 rfl 6 rfl
    have q0:w4.cell? ⟨g,u*4,none⟩=some (.string y.name):=by have:=hcell 0 _ rfl;simpa using this
    have q1:w4.cell? ⟨g,u*4+1,none⟩=some (.int .i64 y.cur):=hcell 1 _ rfl
    have q2:w4.cell? ⟨g,u*4+2,none⟩=some (.int .i64 y.price):=hcell 2 _ rfl
    have q3:w4.cell? ⟨g,u*4+3,none⟩=some (.int .i64 y.vol):=hcell 3 _ rfl
    have y2:w4.cell? ⟨b,2,none⟩=some (.slice (some ⟨g,0,none⟩) n2 c2):=FX.o.at_.cell 0 rfl 2 (by rw[N2.o,<- E2.o];rfl)
    have y0:w4.cell? ⟨b,0,none⟩=some (.int .i64 L.day):=FX.o.at_.cell 0 rfl 0 rfl
    have k0:(0:Int) <= (u:Int):=by omega
    have k1:(u:Int)<(n2:Int):=by rw[N2.o];omega
    rw[hu] at i1
    clear hu hul hy hv hcell hmk
    go_wp2_with fail
    refine Fall2.wp_region_tree (C:=fun w'=>True) [13] [] (.step 0 (.step 1 (.step 2 (.step 3 (.step 4 (.step 5 (.step 6 (.step 7 (.step 8 (.step 9 (.step 10 (.step 11 (.step 12 (.step 13 (.step 14 (.step 15 (.step 16 (.step 17 (.step 18 .leaf))))))))))))))))))) (fun _ _ _=>False) (by kernel_rfl) (fun _ _ _ h=>h.elim) (by kernel_rfl) trivial ?_
    refine Fall2.tree_still [0,1,2,3,4,5,6,7,8,9,10,11,12] (by kernel_rfl) ?_
    simp only[pickL,nth]
    repeat (go_big_quiet_step (fail))
    refine wpQuiet_nil ?_
    refine Fall2.tree_last (by kernel_rfl) rfl (by kernel_rfl) (fun K hK=>?_)
    simp only[pickL,nth]
    refine wpOne_one ?_
    go_simp
    try rw[<- EU.o]
    refine (NW.o _).mono ?_
    rintro e w5 ⟨rfl,hb⟩
    have FX:=zq (FX.o.drew.go hb)
    clear hb y2 y0 k0 k1 q0 q1 q2 q3 NW
    clear i0 i1 i2 i3 i4 i5 i6
    go_simp
    refine hK _ _ ?_
    clear hK
    refine Fall2.tree_still [14,15,16,17,18] (by kernel_rfl) ?_
    simp only[pickL,nth]
    repeat (go_big_quiet_step (fail))
    refine wpQuiet_nil ?_
    refine Fall2.tree_nil ?_
    go_wp2_with fail
    refine (fail_ok _).mono ?_
    rintro e w' ⟨rfl,rfl⟩
    go_wp2_with fail
    refine (unless_dec (mk <= 100000000000000) 4 _).mono ?_
    rintro e w' ⟨he,rfl⟩
    rcases Or.symm he with ⟨hmx,rfl⟩|⟨hmx,rfl⟩
    ·go_wp2_with fail
     exact⟨rfl,adm_stop (by unfold instrS;rw[if_pos (by have:=N3.o;have:=HLT.o;omega),if_pos HOK.o,if_pos HE.o,MK.o,if_pos rfl,if_neg (by show ¬ mk <= 100000000000000;omega)];rfl) (by decide) FX.o⟩
    ·have HMX:=zq hmx
     clear he hmx
     have i6:w5.cell? ⟨pi,6,none⟩=some (.int .i64 0):=FX.o.at_.cell 1 rfl 6 rfl
     have z6:=FX.o.at_.free 1 rfl 6
     go_upto_region 9 with (fail)
     have FX:=zq (show FBs w R0 ((b, 31,V.cells L)::((pi, 35,#[.int .i64 i.kind,.int .i64 i.under,.int .i64 i.mult,.int .i64 i.strike,.int .i64 i.expiry,.bool i.call,.int .i64 mk])::rest)) V L (w5.setCell ⟨pi,6,none⟩ (.int .i64 mk)) from FX.o.cell 1 rfl 6 (.int .i64 mk))
     obtain⟨w6,hw6⟩:∃ s,s=w5.setCell ⟨pi,6,none⟩ (.int .i64 mk):=⟨_,rfl⟩
     rw[<- hw6] at FX ⊢
     clear hw6 i6 z6
     have CF:=zq (show ∀ W2 V2 L2,FBs w R0 ((b, 31,V.cells L)::((pi, 35,#[.int .i64 i.kind,.int .i64 i.under,.int .i64 i.mult,.int .i64 i.strike,.int .i64 i.expiry,.bool i.call,.int .i64 mk])::rest)) V2 L2 W2 -> (InsC b pi (.slice a3 n3 c3) (.slice a7 n7 c7) #[.int .i64 i.kind,.int .i64 i.under,.int .i64 i.mult,.int .i64 i.strike,.int .i64 i.expiry,.bool i.call,.int .i64 mk]) W2 from fun W2 V2 L2 F=>⟨F.at_.cell 0 rfl 3 (by rw[N3.o,<- E3.o];rfl),F.at_.cell 0 rfl 7 (by rw[N7.o,<- E7.o];rfl),F.at_.get 1 rfl⟩)
     have z0:∀ z:Cls (InsC b pi (.slice a3 n3 c3) (.slice a7 n7 c7) #[.int .i64 i.kind,.int .i64 i.under,.int .i64 i.mult,.int .i64 i.strike,.int .i64 i.expiry,.bool i.call,.int .i64 mk]),z.w.cell? ⟨b,3,none⟩=some (.slice a3 n3 c3):=fun z=>z.ok.1
     have z7:∀ z:Cls (InsC b pi (.slice a3 n3 c3) (.slice a7 n7 c7) #[.int .i64 i.kind,.int .i64 i.under,.int .i64 i.mult,.int .i64 i.strike,.int .i64 i.expiry,.bool i.call,.int .i64 mk]),z.w.cell? ⟨b,7,none⟩=some (.slice a7 n7 c7):=fun z=>z.ok.2.1
     have p0:∀ z:Cls (InsC b pi (.slice a3 n3 c3) (.slice a7 n7 c7) #[.int .i64 i.kind,.int .i64 i.under,.int .i64 i.mult,.int .i64 i.strike,.int .i64 i.expiry,.bool i.call,.int .i64 mk]),z.w.cell? ⟨pi,0,none⟩=some (.int .i64 i.kind):=fun z=>cell_of_heap z.ok.2.2 0
     have p1:∀ z:Cls (InsC b pi (.slice a3 n3 c3) (.slice a7 n7 c7) #[.int .i64 i.kind,.int .i64 i.under,.int .i64 i.mult,.int .i64 i.strike,.int .i64 i.expiry,.bool i.call,.int .i64 mk]),z.w.cell? ⟨pi,1,none⟩=some (.int .i64 i.under):=fun z=>cell_of_heap z.ok.2.2 1
     have p2:∀ z:Cls (InsC b pi (.slice a3 n3 c3) (.slice a7 n7 c7) #[.int .i64 i.kind,.int .i64 i.under,.int .i64 i.mult,.int .i64 i.strike,.int .i64 i.expiry,.bool i.call,.int .i64 mk]),z.w.cell? ⟨pi,2,none⟩=some (.int .i64 i.mult):=fun z=>cell_of_heap z.ok.2.2 2
     have p3:∀ z:Cls (InsC b pi (.slice a3 n3 c3) (.slice a7 n7 c7) #[.int .i64 i.kind,.int .i64 i.under,.int .i64 i.mult,.int .i64 i.strike,.int .i64 i.expiry,.bool i.call,.int .i64 mk]),z.w.cell? ⟨pi,3,none⟩=some (.int .i64 i.strike):=fun z=>cell_of_heap z.ok.2.2 3
     have p4:∀ z:Cls (InsC b pi (.slice a3 n3 c3) (.slice a7 n7 c7) #[.int .i64 i.kind,.int .i64 i.under,.int .i64 i.mult,.int .i64 i.strike,.int .i64 i.expiry,.bool i.call,.int .i64 mk]),z.w.cell? ⟨pi,4,none⟩=some (.int .i64 i.expiry):=fun z=>cell_of_heap z.ok.2.2 4
     have p5:∀ z:Cls (InsC b pi (.slice a3 n3 c3) (.slice a7 n7 c7) #[.int .i64 i.kind,.int .i64 i.under,.int .i64 i.mult,.int .i64 i.strike,.int .i64 i.expiry,.bool i.call,.int .i64 mk]),z.w.cell? ⟨pi,5,none⟩=some (.bool i.call):=fun z=>cell_of_heap z.ok.2.2 5
     have p6:∀ z:Cls (InsC b pi (.slice a3 n3 c3) (.slice a7 n7 c7) #[.int .i64 i.kind,.int .i64 i.under,.int .i64 i.mult,.int .i64 i.strike,.int .i64 i.expiry,.bool i.call,.int .i64 mk]),z.w.cell? ⟨pi,6,none⟩=some (.int .i64 mk):=fun z=>cell_of_heap z.ok.2.2 6
     have FX:=zq FX.o.drew
     have C6:=zq (CF.o w6.drew V L FX.o)
     obtain⟨x',hx'⟩:∃ y:Ins,y={ i with mark:=mk }:=⟨_,rfl⟩
     have ex:=zq (show (#[.int .i64 i.kind,.int .i64 i.under,.int .i64 i.mult,.int .i64 i.strike,.int .i64 i.expiry,.bool i.call,.int .i64 mk]:Array Value).toList=Ins.cells x' from by rw[hx'];rfl)
     have EX:=zq hx'
     clear hx'
     refine Fall3.wp_region_tree (C:=fun k w'=>k=1 \/ ∃ z:Cls (InsC b pi (.slice a3 n3 c3) (.slice a7 n7 c7) #[.int .i64 i.kind,.int .i64 i.under,.int .i64 i.mult,.int .i64 i.strike,.int .i64 i.expiry,.bool i.call,.int .i64 mk]),w'=z.w) [7,8,13,14,17,20] [0,1,2,3,4,5,6,9,10,11,12] (.step 0 (.step 1 (.step 2 (.step 3 (.step 4 (.step 5 (.step 6 (.step 9 (.step 10 (.step 11 (.step 12 (.fork 7 (.fork 8 (.step 13 (.step 14 (.step 15 (.step 16 (.step 17 (.step 18 (.step 19 (.step 20 .leaf)))))))) 13 (.step 8 (.step 14 (.step 15 (.step 16 (.step 17 (.step 18 (.step 19 (.step 20 .leaf))))))))) 13 (.step 7 (.step 8 (.step 14 (.step 15 (.step 16 (.step 17 (.step 18 (.step 19 (.step 20 .leaf))))))))))))))))))))) (fun _ _ _=>False) (by kernel_rfl) (fun _ _ _ h=>h.elim) (by kernel_rfl) (fun _=>Or.inr ⟨⟨w6.drew,C6.o⟩,rfl⟩) ?_
     obtain⟨w7,hw7⟩:∃ s,s=w6.drew:=⟨_,rfl⟩
     rw[<- hw7] at C6 FX ⊢
     clear hw7
     haveI ne:Nonempty (Cls (InsC b pi (.slice a3 n3 c3) (.slice a7 n7 c7) #[.int .i64 i.kind,.int .i64 i.under,.int .i64 i.mult,.int .i64 i.strike,.int .i64 i.expiry,.bool i.call,.int .i64 mk])):=⟨⟨w7,C6.o⟩⟩
     refine Fall3.tree_pure (fun _=>True) [0] (by kernel_rfl) (fun _ _ _ _=>trivial) ?_
     simp only[pickL,nth]
     repeat (go_big_quiet_step (fail))
     refine wpQuiet_nil ?_
     refine Fall3.tree_pure (fun _=>True) [1] (by kernel_rfl) (fun _ _ _ _=>trivial) ?_
     simp only[pickL,nth]
     repeat (go_big_quiet_step (fail))
     refine wpQuiet_nil ?_
     refine Fall3.tree_pure (fun w'=>∃ z:Cls (InsC b pi (.slice a3 n3 c3) (.slice a7 n7 c7) #[.int .i64 i.kind,.int .i64 i.under,.int .i64 i.mult,.int .i64 i.strike,.int .i64 i.expiry,.bool i.call,.int .i64 mk]),w'=z.w) [2,3,4,5,6,9,10,11,12] (by kernel_rfl) (fun i hi w h=>h.resolve_left (by intro e;subst e;revert hi;decide)) ?_
     simp only[pickL,nth]
     repeat (go_big_quiet_step (fail))
     refine wpQuiet_nil ?_
     clear z0 z7 p0 p1 p2 p3 p4 p5 p6
     refine Fall3.tree_fork ?_ ?_
     ·obtain⟨w8,hw⟩:∃ s,s=w7.alloc (.cells #[.int .i64 i.kind,.int .i64 i.under,.int .i64 i.mult,.int .i64 i.strike,.int .i64 i.expiry,.bool i.call,.int .i64 mk] 35):=⟨_,rfl⟩
      obtain⟨gA,hgA⟩:∃ g,g=w7.heap.size:=⟨_,rfl⟩
      have RA:=zq (reads_one (f:=Ins.cells) w7 35 x' #[.int .i64 i.kind,.int .i64 i.under,.int .i64 i.mult,.int .i64 i.strike,.int .i64 i.expiry,.bool i.call,.int .i64 mk] ex.o rfl)
      have MB:=zq (show Below w7.heap.size w7 w8 from by rw[hw];exact (Below.refl _ _).alloc (Nat.le_refl _) _)
      have FX:=zq (FX.o.go MB.o)
      have CX:=zq (CF.o _ _ _ FX.o)
      refine Fall3.tree_eff (by kernel_rfl) rfl (fun K hK=>?_)
      simp only[pickL,nth]
      refine wpOne_one ?_
      go_simp
      rw[<- hw,<- hgA]
      rw[<- hw,<- hgA] at RA
      clear hw hgA MB
      refine hK _ _ (fun _ _=>Or.inr ⟨⟨_,CX.o⟩,rfl⟩) ?_
      clear hK
      refine Fall3.tree_fork ?_ ?_
      ·obtain⟨vi,w9,hrun,ho,hm,hbk⟩:=appr_instr w8 R0 V.instrs L.instrs FX.o.own.instrs FX.o.rb (.slice (some ⟨gA,0,none⟩) 1 1) [x'] RA.o (by have:=U6.o;simp;omega)
       obtain⟨avi,cvi,hv',_⟩:=ho.form
       obtain⟨mvi,hm'⟩:∃ m,m=(L.instrs++[x']).length:=⟨_,rfl⟩
       have HMvi:=zq (show mvi=n3+1 from by rw[hm',N3.o];simp)
       rw[<- hm'] at hv'
       clear hm'
       subst hv'
       have FX:=zq (FX.o.newrow (FX.o.own.new_instrs hm ho (fun k hk=>(hbk k hk).imp id (fun h=>Nat.le_of_eq h.symm))) hm (q:=2) rfl rfl (fun k hk=>(hbk k hk).imp id (fun h=>Nat.le_of_eq h.symm)))
       have CX:=zq (CF.o _ _ _ FX.o)
       have RUN:=zq hrun
       clear hrun ho hm hbk
       rw[E3.o,<- N3.o] at RUN
       refine Fall3.tree_eff (by kernel_rfl) rfl (fun K hK=>?_)
       simp only[pickL,nth]
       refine wpOne_one ?_
       refine wp_append_run (.tmp 64) (.tmp 66) 24 rfl rfl rfl RUN.o ?_
       refine hK _ _ (fun _ _=>Or.inr ⟨⟨_,CX.o⟩,rfl⟩) ?_
       clear hK
       go_simp
       obtain⟨w10,hw⟩:∃ s,s=w9.alloc (.cells #[.int .i64 0] 3):=⟨_,rfl⟩
       obtain⟨gC,hgC⟩:∃ g,g=w9.heap.size:=⟨_,rfl⟩
       have RC:=zq (reads_one (f:=icell) w9 3 (0:Int) #[.int .i64 0] rfl rfl)
       have MB:=zq (show Below w9.heap.size w9 w10 from by rw[hw];exact (Below.refl _ _).alloc (Nat.le_refl _) _)
       have FX:=zq (FX.o.go MB.o)
       have CX:=zq (CF.o _ _ _ FX.o)
       refine Fall3.tree_eff (by kernel_rfl) rfl (fun K hK=>?_)
       simp only[pickL,nth]
       refine wpOne_one ?_
       go_simp
       rw[<- hw,<- hgC]
       rw[<- hw,<- hgC] at RC
       clear hw hgC MB
       refine hK _ _ (fun _ _=>Or.inr ⟨⟨_,CX.o⟩,rfl⟩) ?_
       clear hK
       obtain⟨va,w11,hrun,ho,hm,hbk⟩:=appr_int w10 R0 V.avail L.avail FX.o.own.avail FX.o.rb (.slice (some ⟨gC,0,none⟩) 1 1) [(0:Int)] RC.o (by have:=U6.o;simp;omega)
       obtain⟨ava,cva,hv',_⟩:=ho.form
       obtain⟨mva,hm'⟩:∃ m,m=(L.avail++[(0:Int)]).length:=⟨_,rfl⟩
       have HMva:=zq (show mva=n7+1 from by rw[hm',N7.o];simp)
       rw[<- hm'] at hv'
       clear hm'
       subst hv'
       have FX:=zq (FX.o.newrow (FX.o.own.new_avail hm ho (fun k hk=>(hbk k hk).imp id (fun h=>Nat.le_of_eq h.symm))) hm (q:=6) rfl rfl (fun k hk=>(hbk k hk).imp id (fun h=>Nat.le_of_eq h.symm)))
       have CX:=zq (CF.o _ _ _ FX.o)
       have RUN:=zq hrun
       clear hrun ho hm hbk
       rw[E7.o,<- N7.o] at RUN
       refine Fall3.tree_eff (by kernel_rfl) rfl (fun K hK=>?_)
       simp only[pickL,nth]
       refine wpOne_one ?_
       refine wp_append_run (.tmp 71) (.tmp 72) 28 rfl rfl rfl RUN.o ?_
       refine hK _ _ (fun _ _=>Or.inr ⟨⟨_,CX.o⟩,rfl⟩) ?_
       clear hK
       go_simp
       refine Fall3.tree_still [15,16] (by kernel_rfl) ?_
       simp only[pickL,nth]
       repeat (go_big_quiet_step (fail))
       refine wpQuiet_nil ?_
       have k2:=CX.o.1
       have q2:=FX.o.at_.free 0 rfl 3
       refine Fall3.tree_only (x:=1) (by kernel_rfl) rfl (by kernel_rfl) (fun K hK=>?_)
       simp only[pickL,nth]
       refine wpOne_one ?_
       go_simp
       refine hK _ _ (Or.inl rfl) ?_
       clear hK k2 q2
       have FX:=zq (FX.o.cell 0 rfl 3 (.slice avi mvi cvi))
       obtain⟨wS,hwS⟩:∃ s,s=w11.setCell ⟨b,3,none⟩ (.slice avi mvi cvi):=⟨_,rfl⟩
       rw[<- hwS] at FX ⊢
       clear hwS
       refine Fall3.tree_still [18,19] (by kernel_rfl) ?_
       simp only[pickL,nth]
       repeat (go_big_quiet_step (fail))
       refine wpQuiet_nil ?_
       have k2:wS.cell? ⟨b,7,none⟩=some (.slice a7 n7 c7):=FX.o.at_.cell 0 rfl 7 (by rw[N7.o,<- E7.o];rfl)
       have q2:=FX.o.at_.free 0 rfl 7
       refine Fall3.tree_only (x:=1) (by kernel_rfl) rfl (by kernel_rfl) (fun K hK=>?_)
       simp only[pickL,nth]
       refine wpOne_one ?_
       go_simp
       refine hK _ _ (Or.inl rfl) ?_
       clear hK k2 q2
       refine Fall3.tree_nil ?_
       have FX:=zq (FX.o.cell 0 rfl 7 (.slice ava mva cva))
       obtain⟨wT,hwT⟩:∃ s,s=wS.setCell ⟨b,7,none⟩ (.slice ava mva cva):=⟨_,rfl⟩
       rw[<- hwT] at FX ⊢
       clear hwT
       have y3:wT.cell? ⟨b,3,none⟩=some (.slice avi mvi cvi):=FX.o.at_.cell 0 rfl 3 rfl
       obtain rfl:=HMvi.o
       have hb2:=HLT.o
       go_wp2_with fail
       go_ret
       refine adm_ret (V:={ V with instrs:=.slice avi (n3+1) cvi,avail:=.slice ava mva cva }) (L:={ L with instrs:=L.instrs++[x'],avail:=L.avail++[0] }) ?_ FX.o
       unfold instrS
       rw[if_pos (by have:=N3.o;have:=HLT.o;omega),if_pos HOK.o,if_pos HE.o,MK.o,if_pos rfl,if_pos HMX.o,EX.o,<- N3.o]
      ·obtain⟨w9,hw⟩:∃ s,s=w8.alloc (.cells #[.int .i64 0] 3):=⟨_,rfl⟩
       obtain⟨gC,hgC⟩:∃ g,g=w8.heap.size:=⟨_,rfl⟩
       have RC:=zq (reads_one (f:=icell) w8 3 (0:Int) #[.int .i64 0] rfl rfl)
       have hNC:=zq (show ∀ k,V.instrs.ownBlock=some k -> k<gC from fun k hk=>by rw[hgC];exact (FX.o.own.instrs.lt k hk).2)
       have MB:=zq (show Below w8.heap.size w8 w9 from by rw[hw];exact (Below.refl _ _).alloc (Nat.le_refl _) _)
       have FX:=zq (FX.o.go MB.o)
       have CX:=zq (CF.o _ _ _ FX.o)
       have RA:=zq (RA.o.kept (Mod.of_below MB.o) (fun _ _ h=>h))
       refine Fall3.tree_eff (by kernel_rfl) rfl (fun K hK=>?_)
       simp only[pickL,nth]
       refine wpOne_one ?_
       go_simp
       rw[<- hw,<- hgC]
       rw[<- hw,<- hgC] at RC
       clear hw hgC MB
       refine hK _ _ (fun _ _=>Or.inr ⟨⟨_,CX.o⟩,rfl⟩) ?_
       clear hK
       obtain⟨vi,w10,hrun,ho,hm,hbk⟩:=appr_instr w9 R0 V.instrs L.instrs FX.o.own.instrs FX.o.rb (.slice (some ⟨gA,0,none⟩) 1 1) [x'] RA.o (by have:=U6.o;simp;omega)
       obtain⟨avi,cvi,hv',_⟩:=ho.form
       obtain⟨mvi,hm'⟩:∃ m,m=(L.instrs++[x']).length:=⟨_,rfl⟩
       have HMvi:=zq (show mvi=n3+1 from by rw[hm',N3.o];simp)
       rw[<- hm'] at hv'
       clear hm'
       subst hv'
       have RC:=zq (RC.o.kept hm (fun k hk e=>by have:=hNC.o k e;simp[Value.ownBlock] at hk;omega))
       have FX:=zq (FX.o.newrow (FX.o.own.new_instrs hm ho (fun k hk=>(hbk k hk).imp id (fun h=>Nat.le_of_eq h.symm))) hm (q:=2) rfl rfl (fun k hk=>(hbk k hk).imp id (fun h=>Nat.le_of_eq h.symm)))
       have CX:=zq (CF.o _ _ _ FX.o)
       have RUN:=zq hrun
       clear hrun ho hm hbk
       rw[E3.o,<- N3.o] at RUN
       refine Fall3.tree_eff (by kernel_rfl) rfl (fun K hK=>?_)
       simp only[pickL,nth]
       refine wpOne_one ?_
       refine wp_append_run (.tmp 64) (.tmp 66) 24 rfl rfl rfl RUN.o ?_
       refine hK _ _ (fun _ _=>Or.inr ⟨⟨_,CX.o⟩,rfl⟩) ?_
       clear hK
       go_simp
       obtain⟨va,w11,hrun,ho,hm,hbk⟩:=appr_int w10 R0 V.avail L.avail FX.o.own.avail FX.o.rb (.slice (some ⟨gC,0,none⟩) 1 1) [(0:Int)] RC.o (by have:=U6.o;simp;omega)
       obtain⟨ava,cva,hv',_⟩:=ho.form
       obtain⟨mva,hm'⟩:∃ m,m=(L.avail++[(0:Int)]).length:=⟨_,rfl⟩
       have HMva:=zq (show mva=n7+1 from by rw[hm',N7.o];simp)
       rw[<- hm'] at hv'
       clear hm'
       subst hv'
       have FX:=zq (FX.o.newrow (FX.o.own.new_avail hm ho (fun k hk=>(hbk k hk).imp id (fun h=>Nat.le_of_eq h.symm))) hm (q:=6) rfl rfl (fun k hk=>(hbk k hk).imp id (fun h=>Nat.le_of_eq h.symm)))
       have CX:=zq (CF.o _ _ _ FX.o)
       have RUN:=zq hrun
       clear hrun ho hm hbk
       rw[E7.o,<- N7.o] at RUN
       refine Fall3.tree_eff (by kernel_rfl) rfl (fun K hK=>?_)
       simp only[pickL,nth]
       refine wpOne_one ?_
       refine wp_append_run (.tmp 71) (.tmp 72) 28 rfl rfl rfl RUN.o ?_
       refine hK _ _ (fun _ _=>Or.inr ⟨⟨_,CX.o⟩,rfl⟩) ?_
       clear hK
       go_simp
       refine Fall3.tree_still [15,16] (by kernel_rfl) ?_
       simp only[pickL,nth]
       repeat (go_big_quiet_step (fail))
       refine wpQuiet_nil ?_
       have k2:=CX.o.1
       have q2:=FX.o.at_.free 0 rfl 3
       refine Fall3.tree_only (x:=1) (by kernel_rfl) rfl (by kernel_rfl) (fun K hK=>?_)
       simp only[pickL,nth]
       refine wpOne_one ?_
       go_simp
       refine hK _ _ (Or.inl rfl) ?_
       clear hK k2 q2
       have FX:=zq (FX.o.cell 0 rfl 3 (.slice avi mvi cvi))
       obtain⟨wS,hwS⟩:∃ s,s=w11.setCell ⟨b,3,none⟩ (.slice avi mvi cvi):=⟨_,rfl⟩
       rw[<- hwS] at FX ⊢
       clear hwS
       refine Fall3.tree_still [18,19] (by kernel_rfl) ?_
       simp only[pickL,nth]
       repeat (go_big_quiet_step (fail))
       refine wpQuiet_nil ?_
       have k2:wS.cell? ⟨b,7,none⟩=some (.slice a7 n7 c7):=FX.o.at_.cell 0 rfl 7 (by rw[N7.o,<- E7.o];rfl)
       have q2:=FX.o.at_.free 0 rfl 7
       refine Fall3.tree_only (x:=1) (by kernel_rfl) rfl (by kernel_rfl) (fun K hK=>?_)
       simp only[pickL,nth]
       refine wpOne_one ?_
       go_simp
       refine hK _ _ (Or.inl rfl) ?_
       clear hK k2 q2
       refine Fall3.tree_nil ?_
       have FX:=zq (FX.o.cell 0 rfl 7 (.slice ava mva cva))
       obtain⟨wT,hwT⟩:∃ s,s=wS.setCell ⟨b,7,none⟩ (.slice ava mva cva):=⟨_,rfl⟩
       rw[<- hwT] at FX ⊢
       clear hwT
       have y3:wT.cell? ⟨b,3,none⟩=some (.slice avi mvi cvi):=FX.o.at_.cell 0 rfl 3 rfl
       obtain rfl:=HMvi.o
       have hb2:=HLT.o
       go_wp2_with fail
       go_ret
       refine adm_ret (V:={ V with instrs:=.slice avi (n3+1) cvi,avail:=.slice ava mva cva }) (L:={ L with instrs:=L.instrs++[x'],avail:=L.avail++[0] }) ?_ FX.o
       unfold instrS
       rw[if_pos (by have:=N3.o;have:=HLT.o;omega),if_pos HOK.o,if_pos HE.o,MK.o,if_pos rfl,if_pos HMX.o,EX.o,<- N3.o]
     ·obtain⟨w8,hw⟩:∃ s,s=w7.alloc (.cells #[.int .i64 0] 3):=⟨_,rfl⟩
      obtain⟨gC,hgC⟩:∃ g,g=w7.heap.size:=⟨_,rfl⟩
      have RC:=zq (reads_one (f:=icell) w7 3 (0:Int) #[.int .i64 0] rfl rfl)
      have hNC:=zq (show ∀ k,V.instrs.ownBlock=some k -> k<gC from fun k hk=>by rw[hgC];exact (FX.o.own.instrs.lt k hk).2)
      have MB:=zq (show Below w7.heap.size w7 w8 from by rw[hw];exact (Below.refl _ _).alloc (Nat.le_refl _) _)
      have FX:=zq (FX.o.go MB.o)
      have CX:=zq (CF.o _ _ _ FX.o)
      refine Fall3.tree_eff (by kernel_rfl) rfl (fun K hK=>?_)
      simp only[pickL,nth]
      refine wpOne_one ?_
      go_simp
      rw[<- hw,<- hgC]
      rw[<- hw,<- hgC] at RC
      clear hw hgC MB
      refine hK _ _ (fun _ _=>Or.inr ⟨⟨_,CX.o⟩,rfl⟩) ?_
      clear hK
      obtain⟨w9,hw⟩:∃ s,s=w8.alloc (.cells #[.int .i64 i.kind,.int .i64 i.under,.int .i64 i.mult,.int .i64 i.strike,.int .i64 i.expiry,.bool i.call,.int .i64 mk] 35):=⟨_,rfl⟩
      obtain⟨gA,hgA⟩:∃ g,g=w8.heap.size:=⟨_,rfl⟩
      have RA:=zq (reads_one (f:=Ins.cells) w8 35 x' #[.int .i64 i.kind,.int .i64 i.under,.int .i64 i.mult,.int .i64 i.strike,.int .i64 i.expiry,.bool i.call,.int .i64 mk] ex.o rfl)
      have MB:=zq (show Below w8.heap.size w8 w9 from by rw[hw];exact (Below.refl _ _).alloc (Nat.le_refl _) _)
      have FX:=zq (FX.o.go MB.o)
      have CX:=zq (CF.o _ _ _ FX.o)
      have RC:=zq (RC.o.kept (Mod.of_below MB.o) (fun _ _ h=>h))
      refine Fall3.tree_eff (by kernel_rfl) rfl (fun K hK=>?_)
      simp only[pickL,nth]
      refine wpOne_one ?_
      go_simp
      rw[<- hw,<- hgA]
      rw[<- hw,<- hgA] at RA
      clear hw hgA MB
      refine hK _ _ (fun _ _=>Or.inr ⟨⟨_,CX.o⟩,rfl⟩) ?_
      clear hK
      obtain⟨vi,w10,hrun,ho,hm,hbk⟩:=appr_instr w9 R0 V.instrs L.instrs FX.o.own.instrs FX.o.rb (.slice (some ⟨gA,0,none⟩) 1 1) [x'] RA.o (by have:=U6.o;simp;omega)
      obtain⟨avi,cvi,hv',_⟩:=ho.form
      obtain⟨mvi,hm'⟩:∃ m,m=(L.instrs++[x']).length:=⟨_,rfl⟩
      have HMvi:=zq (show mvi=n3+1 from by rw[hm',N3.o];simp)
      rw[<- hm'] at hv'
      clear hm'
      subst hv'
      have RC:=zq (RC.o.kept hm (fun k hk e=>by have:=hNC.o k e;simp[Value.ownBlock] at hk;omega))
      have FX:=zq (FX.o.newrow (FX.o.own.new_instrs hm ho (fun k hk=>(hbk k hk).imp id (fun h=>Nat.le_of_eq h.symm))) hm (q:=2) rfl rfl (fun k hk=>(hbk k hk).imp id (fun h=>Nat.le_of_eq h.symm)))
      have CX:=zq (CF.o _ _ _ FX.o)
      have RUN:=zq hrun
      clear hrun ho hm hbk
      rw[E3.o,<- N3.o] at RUN
      refine Fall3.tree_eff (by kernel_rfl) rfl (fun K hK=>?_)
      simp only[pickL,nth]
      refine wpOne_one ?_
      refine wp_append_run (.tmp 64) (.tmp 66) 24 rfl rfl rfl RUN.o ?_
      refine hK _ _ (fun _ _=>Or.inr ⟨⟨_,CX.o⟩,rfl⟩) ?_
      clear hK
      go_simp
      obtain⟨va,w11,hrun,ho,hm,hbk⟩:=appr_int w10 R0 V.avail L.avail FX.o.own.avail FX.o.rb (.slice (some ⟨gC,0,none⟩) 1 1) [(0:Int)] RC.o (by have:=U6.o;simp;omega)
      obtain⟨ava,cva,hv',_⟩:=ho.form
      obtain⟨mva,hm'⟩:∃ m,m=(L.avail++[(0:Int)]).length:=⟨_,rfl⟩
      have HMva:=zq (show mva=n7+1 from by rw[hm',N7.o];simp)
      rw[<- hm'] at hv'
      clear hm'
      subst hv'
      have FX:=zq (FX.o.newrow (FX.o.own.new_avail hm ho (fun k hk=>(hbk k hk).imp id (fun h=>Nat.le_of_eq h.symm))) hm (q:=6) rfl rfl (fun k hk=>(hbk k hk).imp id (fun h=>Nat.le_of_eq h.symm)))
      have CX:=zq (CF.o _ _ _ FX.o)
      have RUN:=zq hrun
      clear hrun ho hm hbk
      rw[E7.o,<- N7.o] at RUN
      refine Fall3.tree_eff (by kernel_rfl) rfl (fun K hK=>?_)
      simp only[pickL,nth]
      refine wpOne_one ?_
      refine wp_append_run (.tmp 71) (.tmp 72) 28 rfl rfl rfl RUN.o ?_
      refine hK _ _ (fun _ _=>Or.inr ⟨⟨_,CX.o⟩,rfl⟩) ?_
      clear hK
      go_simp
      refine Fall3.tree_still [15,16] (by kernel_rfl) ?_
      simp only[pickL,nth]
      repeat (go_big_quiet_step (fail))
      refine wpQuiet_nil ?_
      have k2:=CX.o.1
      have q2:=FX.o.at_.free 0 rfl 3
      refine Fall3.tree_only (x:=1) (by kernel_rfl) rfl (by kernel_rfl) (fun K hK=>?_)
      simp only[pickL,nth]
      refine wpOne_one ?_
      go_simp
      refine hK _ _ (Or.inl rfl) ?_
      clear hK k2 q2
      have FX:=zq (FX.o.cell 0 rfl 3 (.slice avi mvi cvi))
      obtain⟨wS,hwS⟩:∃ s,s=w11.setCell ⟨b,3,none⟩ (.slice avi mvi cvi):=⟨_,rfl⟩
      rw[<- hwS] at FX ⊢
      clear hwS
      refine Fall3.tree_still [18,19] (by kernel_rfl) ?_
      simp only[pickL,nth]
      repeat (go_big_quiet_step (fail))
      refine wpQuiet_nil ?_
      have k2:wS.cell? ⟨b,7,none⟩=some (.slice a7 n7 c7):=FX.o.at_.cell 0 rfl 7 (by rw[N7.o,<- E7.o];rfl)
      have q2:=FX.o.at_.free 0 rfl 7
      refine Fall3.tree_only (x:=1) (by kernel_rfl) rfl (by kernel_rfl) (fun K hK=>?_)
      simp only[pickL,nth]
      refine wpOne_one ?_
      go_simp
      refine hK _ _ (Or.inl rfl) ?_
      clear hK k2 q2
      refine Fall3.tree_nil ?_
      have FX:=zq (FX.o.cell 0 rfl 7 (.slice ava mva cva))
      obtain⟨wT,hwT⟩:∃ s,s=wS.setCell ⟨b,7,none⟩ (.slice ava mva cva):=⟨_,rfl⟩
      rw[<- hwT] at FX ⊢
      clear hwT
      have y3:wT.cell? ⟨b,3,none⟩=some (.slice avi mvi cvi):=FX.o.at_.cell 0 rfl 3 rfl
      obtain rfl:=HMvi.o
      have hb2:=HLT.o
      go_wp2_with fail
      go_ret
      refine adm_ret (V:={ V with instrs:=.slice avi (n3+1) cvi,avail:=.slice ava mva cva }) (L:={ L with instrs:=L.instrs++[x'],avail:=L.avail++[0] }) ?_ FX.o
      unfold instrS
      rw[if_pos (by have:=N3.o;have:=HLT.o;omega),if_pos HOK.o,if_pos HE.o,MK.o,if_pos rfl,if_pos HMX.o,EX.o,<- N3.o]
end Go.Proofs.YtnkpdfjnjmmleaaGreatDoor

/- Joined: AdmC, AdmN, AdmO, AdmPu. -/
import Derived.Test.YtnkpdfjnjmmleaaGreatDoorGn
import Derived.Test.YtnkpdfjnjmmleaaGreatDoorGk
import Derived.Test.YtnkpdfjnjmmleaaGreatDoorGg
import Derived.Test.YtnkpdfjnjmmleaaGreatDoorGa
import Derived.Test.YtnkpdfjnjmmleaaGreatDoorGh
import Derived.Defers
import Derived.Recover
import Derived.Laws.Pointers
import Derived.Test.YtnkpdfjnjmmleaaGreatDoorGe
import Derived.Laws.OwnMore
set_option linter.unusedVariables false
set_option linter.unusedSimpArgs false
set_option maxRecDepth 100000
set_option maxHeartbeats 4000000
namespace Go.Proofs.YtnkpdfjnjmmleaaGreatDoor
open Go.RowKit Go.Bw Go.Maps Go.Shelf Go.Bw.Fall
def stopAdm (er:Int):List PanicEntry:=[{ v:=.iface 109 (.agg #[.int .i64 er]),recovered:=false }]
theorem unless_yes (er:Int) (w:World):Calls Tryz.prog 39 #[.bool true,.int .i64 er] w fun e w'=>e=.returned (.tuple #[]) /\ w=w':=by
 go_enter Tryz.func39,Tryz.ntmps39
 go_wp2_with fail
 go_end0
 exact⟨rfl,rfl⟩
theorem unless_no (er:Int) (w:World):Calls Tryz.prog 39 #[.bool false,.int .i64 er] w fun e w'=>e=.panicked (stopAdm er) /\ w=w':=by
 go_enter Tryz.func39,Tryz.ntmps39
 go_wp2_with fail
 exact⟨rfl,rfl,rfl⟩
theorem unless_dec (p:Prop) [Decidable p] (er:Int) (w:World):Calls Tryz.prog 39 #[.bool (decide p),.int .i64 er] w fun e w'=>((p /\ e=.returned (.tuple #[])) \/ (¬ p /\ e=.panicked (stopAdm er))) /\ w=w':=by
 by_cases h:p
 ·rw[decide_eq_true h];exact (unless_yes er w).mono fun e w' h'=>⟨Or.inl ⟨h,h'.1⟩,h'.2⟩
 ·rw[decide_eq_false h];exact (unless_no er w).mono fun e w' h'=>⟨Or.inr ⟨h,h'.1⟩,h'.2⟩
theorem fail_ok (w:World):Calls Tryz.prog 51 #[.int .i64 0] w fun e w'=>e=.returned (.tuple #[]) /\ w=w':=by
 go_enter Tryz.func51,Tryz.ntmps51
 go_wp2_with fail
 go_end0
 exact⟨rfl,rfl⟩
theorem fail_bad (er:Int) (h:er≠0) (w:World):Calls Tryz.prog 51 #[.int .i64 er] w fun e w'=>e=.panicked (stopAdm er) /\ w=w':=by
 have h':(er != 0)=true:=by rw[bne_iff_ne];exact h
 clear h
 go_enter Tryz.func51,Tryz.ntmps51
 go_wp2_with fail
 exact⟨rfl,rfl,rfl⟩
theorem led_store1 {K:Act -> World -> Prop} {Q:Exit -> Act -> World -> Prop} {o:Oper} {a:Act} {W:World} {x y:Operand} {b:Nat} {old cs:Array Value} (hb:W.heap[b]?=some (.cells old 31 (0,0))) (h0:LedC old) (hc:LedC cs)
 (ho:o.op=.store 31 x y) (hx:a.eval x=.pointer (some ⟨b,0,none⟩)) (hy:a.eval y=.agg cs) (h:K (a.put o.dst undef) (W.setRow b cs)):wpOne Tryz.prog K Q [o] a W :=
 wp_store_row 31 x y ho b cs hx hy 31 old hb (by rw[led_size,hc.size]) (by rw[h0.size,hc.size]) hc.one h
theorem quiet_build0 {P:Program} {ops:Array Oper} {C:World -> Prop} {Q:Act -> Prop} {a:Act} {o:Oper} {rest:List Oper} (hgd:o.guard=none) (t:TypeId) (ho:o.op=.build t #[]) (cs:Array Value) (hb:∀ W,(Instr.build t #[]).run P W=.ok (.agg cs) W)
 (h:wpQuiet P ops C Q rest (a.put o.dst (.agg cs))):wpQuiet P ops C Q (o::rest) a:=by
 refine wpQuiet_step (fun K hK=>?_)
 rw[if_pos (by simp[Region.wanted,hgd])]
 refine⟨.agg cs,fun w hw=>?_,hK _ h⟩
 unfold Oper.quietAt execOp
 simp[ho,hb]
 exact⟨rfl,rfl⟩
theorem quiet_led {ops:Array Oper} {C:World -> Prop} {Q:Act -> Prop} {a:Act} {o:Oper} {rest:List Oper} {x:Operand} {b:Nat} {cs:Array Value} (hb:∀ W,C W -> W.heap[b]?=some (.cells cs 31 (0,0))) (hc:LedC cs)
 (hgd:o.guard=none) (ho:o.op=.load 31 x) (hx:a.eval x=.pointer (some ⟨b,0,none⟩)) (h:wpQuiet Tryz.prog ops C Q rest (a.put o.dst (.agg cs))):wpQuiet Tryz.prog ops C Q (o::rest) a:=by
 obtain⟨d,hu,hd⟩:=led_under
 exact quiet_load_row hgd 31 x ho b hx 31 cs (0,0) d hb hu (by cases d <;> first|rfl|exact hd) (by rw[led_size,hc.size]) h
structure Res3 (w:World) (po pn pe:Nat) (cs:Array Value) (n e:Int):Prop where
 a:w.heap[po]?=some (.cells cs 31 (0,0))
 b:w.heap[pn]?=some (.cells #[.int .i64 n] 3 (0,0))
 c:w.heap[pe]?=some (.cells #[.int .i64 e] 38 (0,0))
theorem Res3.mod {w w':World} {po pn pe:Nat} {cs:Array Value} {n e:Int} (h:Res3 w po pn pe cs n e) {S:Nat -> Prop} (hm:Mod S w w') (h1:¬ S po) (h2:¬ S pn) (h3:¬ S pe):Res3 w' po pn pe cs n e:=⟨hm.heap h.a h1,hm.heap h.b h2,hm.heap h.c h3⟩
theorem Res3.all {w:World} {po pn pe:Nat} {cs:Array Value} {n e:Int} (h:Res3 w po pn pe cs n e) (h1:pn≠po) (h2:pe≠po) (h3:pe≠pn) (cs':Array Value) (n' e':Int) :
 Res3 (((w.setRow po cs').setCell ⟨pn,0,none⟩ (.int .i64 n')).setCell ⟨pe,0,none⟩ (.int .i64 e')) po pn pe cs' n' e' /\ Mod (fun k=>k=po \/ k=pn \/ k=pe) w (((w.setRow po cs').setCell ⟨pn,0,none⟩ (.int .i64 n')).setCell ⟨pe,0,none⟩ (.int .i64 e')):=by
 have M1:=(mod_setRow' (w:=w) po cs')
 have a1:=setRow_heap _ _ _ cs' _ _ h.a
 have b1:=M1.heap h.b h1
 have c1:=M1.heap h.c h2
 have M2:=(Mod.refl (fun k=>k=pn) (w.setRow po cs')).setCell (p:=⟨pn,0,none⟩) (.int .i64 n') (fun _=>rfl)
 have a2:=M2.heap a1 (Ne.symm h1)
 have b2:=heap_setCell_at b1 0 (.int .i64 n')
 have c2:=M2.heap c1 h3
 have M3:=(Mod.refl (fun k=>k=pe) ((w.setRow po cs').setCell ⟨pn,0,none⟩ (.int .i64 n'))).setCell (p:=⟨pe,0,none⟩) (.int .i64 e') (fun _=>rfl)
 refine⟨⟨M3.heap a2 (Ne.symm h2),M3.heap (by simpa using b2) (Ne.symm h3),by simpa using heap_setCell_at c2 0 (.int .i64 e')⟩,?_⟩
 exact ((M1.mono (T:=fun k=>k=po \/ k=pn \/ k=pe) (fun _ _ h=>Or.inl h)).trans (M2.mono (T:=fun k=>k=po \/ k=pn \/ k=pe) (fun _ _ h=>Or.inr (Or.inl h))) (fun _ _ h=>h)).trans M3 (fun _ _ h=>Or.inr (Or.inr h))
theorem changed_ok (po pn pe:Nat) (w:World) :
 CallsD Tryz.prog 97 #[.pointer (some ⟨po,0,none⟩),.pointer (some ⟨pn,0,none⟩),.pointer (some ⟨pe,0,none⟩)] .returning w fun e u' w'=>e=.returned (.tuple #[]) /\ u'=.returning /\ w'=w:=by
 refine callsD_of_wpS Tryz.func97 rfl fun c₀ cs hu=>?_
 apply wpS_seq
 apply wpS_region
 simp[wpOpsS,go_sem,recoverD,hu,Tryz.ntmps97,Exit.thenS]
 refine wpS_of_wp ?_
 go_wp2_with fail
 cases c₀
 simp_all [bodyPostS,results,Tryz.results97]
theorem changed_stop (po pn pe:Nat) (h1:pn≠po) (h2:pe≠po) (h3:pe≠pn) (w:World) (er:Int) (C:Array Value) (hC:LedC C) (x y:Int) (h:Res3 w po pn pe C x y) :
 CallsD Tryz.prog 97 #[.pointer (some ⟨po,0,none⟩),.pointer (some ⟨pn,0,none⟩),.pointer (some ⟨pe,0,none⟩)] (.panicking (stopAdm er)) w fun e u' w'=>e=.returned (.tuple #[]) /\ u'=.panicking [{ v:=.iface 109 (.agg #[.int .i64 er]),recovered:=true }] /\ Res3 w' po pn pe led0 0 er /\ Mod (fun k=>k=po \/ k=pn \/ k=pe) w w':=by
 unfold stopAdm
 have hta:∀ (W:World) (v:Value),(Instr.typeAssert (.iface 109 v) 20 109 true).run Tryz.prog W=.ok (.tuple #[v,.bool true]) W:=fun W v=>by kernel_rfl
 have hbl:∀ W,(Instr.build 31 #[]).run Tryz.prog W=.ok (.agg led0) W:=fun W=>by kernel_rfl
 have HR:=zq (And.intro h hC)
 have HN:=zq (And.intro h1 (And.intro h2 h3))
 clear h hC h1 h2 h3
 refine callsD_of_wpS Tryz.func97 rfl fun c₀ cs hu=>?_
 apply wpS_seq
 apply wpS_region
 simp[wpOpsS,go_sem,recoverD,hu,Tryz.ntmps97,Exit.thenS]
 refine wpS_of_wp ?_
 rw[show (#[.pointer (some ⟨po,0,none⟩),.pointer (some ⟨pn,0,none⟩),.pointer (some ⟨pe,0,none⟩)]++(Array.replicate 12 undef).setIfInBounds 3 (.iface 109 (.agg #[.int .i64 er])):Array Value)=#[.pointer (some ⟨po,0,none⟩),.pointer (some ⟨pn,0,none⟩),.pointer (some ⟨pe,0,none⟩),undef,undef,undef,.iface 109 (.agg #[.int .i64 er]),undef,undef,undef,undef,undef,undef,undef,undef] from rfl]
 go_upto_region 7 with (fail)
 obtain⟨W0,hW0⟩:∃ s,s=w.alloc (.cells #[.int .i64 er] 109):=⟨_,rfl⟩
 obtain⟨q,hq⟩:∃ q,q=w.heap.size:=⟨_,rfl⟩
 have M0:=zq (show Mod (fun _=>False) w W0 from by rw[hW0];exact (Mod.refl _ w).alloc _)
 have Q0:=zq (show W0.heap[q]?=some (.cells #[.int .i64 er] 109 (0,0)) from by rw[hW0,hq];exact heap_alloc_new _ _)
 have QN:=zq (show q≠po /\ q≠pn /\ q≠pe from by have h1:=lt_of_heap HR.o.1.a;have h2:=lt_of_heap HR.o.1.b;have h3:=lt_of_heap HR.o.1.c;omega)
 rw[<- hW0,<- hq]
 clear hW0 hq
 have D0:=zq (show Mod (fun _=>False) w W0.drew from M0.o.drew)
 have R0:=zq (HR.o.1.mod D0.o (fun h=>h) (fun h=>h) (fun h=>h))
 have QD:=zq (((Mod.refl (fun _=>False) W0).drew).heap Q0.o (fun h=>h))
 have y1:∀ z:Cls (fun W=>W.heap[q]?=some (.cells #[.int .i64 er] 109 (0,0))),z.w.cell? ⟨q,0,none⟩=some (.int .i64 er):=fun z=>cell_of_heap z.ok 0
 refine Fall2.wp_region_tree (C:=fun w'=>∃ z:Cls (fun W=>W.heap[q]?=some (.cells #[.int .i64 er] 109 (0,0))),w'=z.w) [3,4,5] [1,2] (.step 0 (.step 1 (.step 2 (.step 3 (.step 4 (.step 5 .leaf)))))) (fun _ _ _=>False) (by kernel_rfl) (fun _ _ _ h=>h.elim) (by kernel_rfl) ⟨⟨W0.drew,QD.o⟩,rfl⟩ ?_
 haveI ne:Nonempty (Cls (fun W=>W.heap[q]?=some (.cells #[.int .i64 er] 109 (0,0)))):=⟨⟨W0,Q0.o⟩⟩
 refine Fall2.tree_still [0] (by kernel_rfl) ?_
 simp only[pickL,nth]
 refine quiet_build0 rfl 31 rfl led0 hbl ?_
 refine wpQuiet_nil ?_
 go_simp
 refine Fall2.tree_pure [1,2] (by kernel_rfl) ?_
 simp only[pickL,nth]
 repeat (go_big_quiet_step (fail))
 refine wpQuiet_nil ?_
 clear y1
 refine Fall2.tree_eff (by kernel_rfl) rfl (fun K hK=>?_)
 simp only[pickL,nth]
 have N1:=zq (mod_setRow' (w:=W0.drew) po led0)
 refine led_store1 R0.o.a HR.o.2 ledc0 rfl rfl rfl ?_
 refine hK _ _ (fun _=>⟨⟨_,N1.o.heap QD.o QN.o.1⟩,rfl⟩) ?_
 clear hK
 have b1:=cell_of_heap (N1.o.heap R0.o.b HN.o.1) 0
 have c1:=free_of_heap (N1.o.heap R0.o.b HN.o.1) 0
 refine Fall2.tree_eff (by kernel_rfl) rfl (fun K hK=>?_)
 simp only[pickL,nth]
 refine wpOne_one ?_
 go_simp
 have N2:=zq ((Mod.refl (fun k=>k=pn) (W0.drew.setRow po led0)).setCell (p:=⟨pn,0,none⟩) (.int .i64 0) (fun _=>rfl))
 refine hK _ _ (fun _=>⟨⟨_,N2.o.heap (N1.o.heap QD.o QN.o.1) QN.o.2.1⟩,rfl⟩) ?_
 clear hK b1 c1
 have b1:=cell_of_heap (N2.o.heap (N1.o.heap R0.o.c HN.o.2.1) HN.o.2.2) 0
 have c1:=free_of_heap (N2.o.heap (N1.o.heap R0.o.c HN.o.2.1) HN.o.2.2) 0
 refine Fall2.tree_last (by kernel_rfl) rfl (by kernel_rfl) (fun K hK=>?_)
 simp only[pickL,nth]
 refine wpOne_one ?_
 go_simp
 refine hK _ _ ?_
 clear hK b1 c1
 refine Fall2.tree_nil ?_
 go_wp2_with fail
 have F:=R0.o.all HN.o.1 HN.o.2.1 HN.o.2.2 led0 0 er
 have FM:=(D0.o.mono (T:=fun k=>k=po \/ k=pn \/ k=pe) (fun _ _ h=>h.elim)).trans F.2 (fun _ _ h=>h)
 cases c₀
 simp_all [bodyPostS,results,Tryz.results97]
theorem results_led3 {fn:Func} {p q r:Tmp} (h:fn.results=#[.cell p 31,.cell q 3,.cell r 38]) (tmps:Array Value) (W:World) {po pn pe:Nat} {cs:Array Value} {n e:Int} (hr:Res3 W po pn pe cs n e) (hc:LedC cs)
 (hp:tmps.getD p undef=.pointer (some ⟨po,0,none⟩)) (hq:tmps.getD q undef=.pointer (some ⟨pn,0,none⟩)) (hr':tmps.getD r undef=.pointer (some ⟨pe,0,none⟩)) :
 (results fn tmps).run Tryz.prog W=.ok (.tuple #[.agg cs,.int .i64 n,.int .i64 e]) W:=by
 obtain⟨d,hu,hd⟩:=led_under
 have hp':tmps[p]?.getD undef=.pointer (some ⟨po,0,none⟩):=by simpa using hp
 have hq':tmps[q]?.getD undef=.pointer (some ⟨pn,0,none⟩):=by simpa using hq
 have hr2:tmps[r]?.getD undef=.pointer (some ⟨pe,0,none⟩):=by simpa using hr'
 have j0:=cell_of_heap hr.b 0
 have j1:=cell_of_heap hr.c 0
 have L:=run_loadVar_row (P:=Tryz.prog) W po 31 31 cs (0,0) d hr.a hu (by cases d <;> first|rfl|exact hd) (by rw[led_size,hc.size])
 have L2:(loadVar 3 ⟨pn,0,none⟩).run Tryz.prog W=.ok (.int .i64 n) W:=by simp[go_sem,j0]
 have L3:(loadVar 38 ⟨pe,0,none⟩).run Tryz.prog W=.ok (.int .i64 e) W:=by simp[go_sem,j1]
 simp[results,h,hp',hq',hr2,asAddr,L,L2,L3]
theorem results_led1 {fn:Func} {p q r:Tmp} (h:fn.results=#[.cell p 31,.tmp q,.tmp r]) (tmps:Array Value) (W:World) {po:Nat} {cs:Array Value} (ha:W.heap[po]?=some (.cells cs 31 (0,0))) (hc:LedC cs)
 (hp:tmps.getD p undef=.pointer (some ⟨po,0,none⟩)):(results fn tmps).run Tryz.prog W=.ok (.tuple #[.agg cs,tmps.getD q undef,tmps.getD r undef]) W:=by
 obtain⟨d,hu,hd⟩:=led_under
 have hp':tmps[p]?.getD undef=.pointer (some ⟨po,0,none⟩):=by simpa using hp
 have L:=run_loadVar_row (P:=Tryz.prog) W po 31 31 cs (0,0) d ha hu (by cases d <;> first|rfl|exact hd) (by rw[led_size,hc.size])
 simp[results,h,hp',asAddr,L]
def AdmOut (r:Adm) (w:World) (R0 b:Nat) (rest:List (Nat×TypeId×Array Value)) (e:Ending) (W':World):Prop :=
 (r.err=0 /\ e=.returned (.int .i64 r.num) /\ ∃ V' bs,FBs w R0 ((b, 31,V'.cells r.led)::bs) V' r.led W' /\ ∀ x∈rest,x∈bs) \/
 (r.err≠0 /\ e=.panicked (stopAdm r.err) /\ ∃ C bs,LedC C /\ At w W' ((b, 31,C)::bs) /\ ∀ x∈rest,x∈bs)
def AdmCalls (w:World) (L:Led) (g:Nat) (lb:Array Value) (bs0:List (Nat×TypeId×Array Value)) (r:Adm):Prop :=
 ∀ W R0 b V rest,FBs w R0 ((b, 31,V.cells L)::(bs0++rest)) V L W -> Calls Tryz.prog g (#[.pointer (some ⟨b,0,none⟩)]++lb) W (AdmOut r w R0 b rest)
theorem At.subset {w W:World} {bs cs:List (Nat×TypeId×Array Value)} (h:At w W bs) (hs:∀ x∈cs,x∈bs) (nd:(cs.map (·.1)).Nodup):At w W cs:=⟨h.low,fun x hx=>h.has x (hs x hx),fun x hx=>h.new x (hs x hx),nd⟩
theorem setRow_same {W:World} {b:Nat} {T:TypeId} {cs:Array Value} (h:W.heap[b]?=some (.cells cs T (0,0))):W.setRow b cs=W:=by
 have hh:(W.setRow b cs).heap=W.heap:=by
  apply Array.ext_getElem?
  intro i
  by_cases hi:i=b
  ·subst hi;rw[setRow_heap _ _ _ cs _ _ h,h]
  ·rcases Nat.lt_or_ge i W.heap.size with hl|hl
   ·exact (mod_setRow' (w:=W) b cs).block i hl hi
   ·have e1:(W.setRow b cs).heap.size=W.heap.size:=by simp[World.setRow]
    rw[Array.getElem?_eq_none (by rw[e1];exact hl),Array.getElem?_eq_none hl]
 have:W.setRow b cs={ W with heap:=(W.setRow b cs).heap }:=rfl
 rw[this,hh]
def ChRet (w W1:World) (bs:List (Nat×TypeId×Array Value)) (a:Led×Int×Int) (e:Ending) (w':World):Prop :=
 (∃ U:LedV,e=.returned (.tuple #[U.val a.1,.int .i64 a.2.1,.int .i64 a.2.2]) /\ LedOwn w' W1.heap.size U a.1) /\ At w w' bs
theorem ends_boxes {α:Type} (B:List α) (x0 x1 x2 x3:α):B.Sublist (x1::(B++[x0]++[x2,x3])) :=
 List.Sublist.cons _ ((List.sublist_append_left B [x0]).trans (List.sublist_append_left _ _))
theorem more_boxes {α:Type} (A B:List α) (x1:α):(x1::B).Sublist (x1::(A++B)):=(List.sublist_append_right A B).cons_cons _
theorem perm_boxes {α:Type} (A B:List α) (x0 x1 x2 x3:α):(((((A++B)++[x0])++[x1])++[x2])++[x3]).Perm (x1::(A++(B++[x0])++[x2,x3])):=by
 have e:((((A++B)++[x0])++[x1])++[x2])++[x3]=(A++(B++[x0]))++x1::[x2,x3]:=by simp
 rw[e]
 exact List.perm_middle
theorem change_any (w W1:World) (V:LedV) (L:Led) (h:LedAt W1 V L) (hL:L.accts.length <= 1024) (hGr:Grd w) (bs0 bs1:List (Nat×TypeId×Array Value)) (hA:At w W1 (bs0++bs1)) (g:Nat) (lb:Array Value) (hg:Enters Tryz.prog g) (r:Adm)
 (hr:L.Good -> AdmCalls w L g lb bs0 r) (hn:L.Good -> r.err=0 -> r.led.accts.length <= 1024) :
 Calls Tryz.prog 37 #[V.val L,.func (.func g) #[] lb] W1 (ChRet w W1 bs1 (admA L r)):=by
 classical
 have GD:=zq (show ∀ W,Below W1.heap.size W1 W -> ∀ B:Bool,decide L.Good=B -> Calls Tryz.prog 34 #[V.val L] W fun e w'=>e=.returned (.bool B) /\ Below W.heap.size W w' from fun W hb B hB=>good_to (h.below hb) hL hB)
 have CP:=zq (fun W (hb:Below W1.heap.size W1 W) (hg:L.Good)=>copy_any W V L (h.below hb) (good_bulk hg).1 (fun a ha=>Nat.le_trans ((good_bulk hg).2.1 a ha) (by omega)))
 have FL:=zq (fun W U (hb:Below w.heap.size w W) (hl:LedAt W U r.led) (hL:r.led.accts.length <= 1024)=>flags_ret W U r.led hl hL (hGr.below hb))
 have LC:=zq (ledc h)
 have HR:=zq hr
 have HN:=zq hn
 have EG:=zq hg
 unfold LedV.val at GD CP FL ⊢
 obtain⟨C,hC⟩:∃ C,C=V.cells L:=⟨_,rfl⟩
 rw[<- hC] at GD CP LC ⊢
 obtain⟨W0,hW0⟩:∃ s,s=(((W1.alloc (.cells C 31)).alloc (.cells #[.int .i64 0,.slice none 0 0,.slice none 0 0,.slice none 0 0,.slice none 0 0,.slice none 0 0,.slice none 0 0,.slice none 0 0,.slice none 0 0] 31)).alloc (.cells #[.int .i64 0] 3)).alloc (.cells #[.int .i64 0] 38):=⟨_,rfl⟩
 obtain⟨b0,hb0⟩:∃ n,n=W1.heap.size:=⟨_,rfl⟩
 obtain⟨P,hP⟩:∃ P,P=bs1++[(b0, 31,C)]:=⟨_,rfl⟩
 have X0:=zq (show At w W0 ((b0+1, 31,led0)::(bs0++(P++[(b0+1+1, 3,#[.int .i64 0]),(b0+1+1+1, 38,#[.int .i64 0])]))) /\ Below W1.heap.size W1 W0 /\ b0+1+1+1<W0.heap.size from by
  have a:=(((hA.alloc 31 C).alloc 31 #[.int .i64 0,.slice none 0 0,.slice none 0 0,.slice none 0 0,.slice none 0 0,.slice none 0 0,.slice none 0 0,.slice none 0 0,.slice none 0 0]).alloc 3 #[.int .i64 0]).alloc 38 #[.int .i64 0]
  have e:∀ (w:World) (o:Obj),(w.alloc o).heap.size=w.heap.size+1:=fun w o=>by simp
  simp only[e] at a
  rw[<- hW0,<- hb0] at a
  refine⟨by rw[hP];exact a.perm (by rw[<- List.append_assoc bs0];exact perm_boxes _ _ _ _ _ _),?_,by rw[hW0,hb0];simp⟩
  rw[hW0]
  exact ((((Below.refl _ _).alloc (Nat.le_refl _) _).alloc (by simp) _).alloc (by simp;omega) _).alloc (by simp;omega) _)
 have HP:=zq hP
 have HB:=zq hb0
 have HA:=zq hA
 have HW:=zq (show w.heap.size <= b0 from by rw[hb0];exact hA.low.size)
 clear h hL hGr hA hr hn hg hC hP
 go_enter_defers Tryz.func37,Tryz.ntmps37
 go_upto_region 2 with (fail)
 rw[<- hW0,<- hb0]
 have X0':=zq X0.o.1
 have HS:=zq X0.o.2.2
 have l0:=zq (show W0.heap[b0]?=some (.cells C 31 (0,0)) from X0.o.1.has (b0, 31,C) (by rw[HP.o];simp))
 clear hW0 hb0
 go_wp2_with (refine led_load l0.o LC.o rfl rfl rfl ?_)
 by_cases hg:L.Good
 ·refine (GD.o W0 X0.o.2.1 true (decide_eq_true hg)).mono ?_
  rintro e w1 ⟨rfl,hb⟩
  have X1:=zq (And.intro (X0.o.1.go hb) (X0.o.2.1.trans (hb.mono X0.o.2.1.size)))
  have HG:=zq hg
  clear hb X0 X0' l0 hg
  have l0:=zq (show w1.heap[b0]?=some (.cells C 31 (0,0)) from X1.o.1.has (b0, 31,C) (by rw[HP.o];simp))
  go_wp2_with fail
  refine (unless_yes 43 _).mono ?_
  rintro e w' ⟨rfl,rfl⟩
  go_wp2_with (refine led_load l0.o LC.o rfl rfl rfl ?_)
  refine (CP.o w1 X1.o.2 HG.o).mono ?_
  rintro e w2 ⟨V2,rfl,own,hb⟩
  have X2:=zq (X1.o.1.go hb)
  have O2:=zq own
  have R2:=zq (show b0+1+1+1<w1.heap.size /\ w1.heap.size <= w2.heap.size from ⟨X1.o.1.lt (b0+1+1+1, 38,#[.int .i64 0]) (by simp),hb.size⟩)
  have L2:=zq (ledc own.led)
  unfold LedV.val
  clear own hb
  go_upto_region 4 with (refine led_store (X2.o.get 0 rfl) ledc0 L2.o rfl rfl rfl rfl ?_)
  obtain⟨W3,hW3⟩:∃ s,s=w2.setRow (b0+1) (V2.cells L):=⟨_,rfl⟩
  obtain⟨rest,hrest⟩:∃ l,l=P++[(b0+1+1, 3,#[.int .i64 0]),(b0+1+1+1, 38,#[.int .i64 0])]:=⟨_,rfl⟩
  have ER:=zq hrest
  have F3:=zq (show FBs w w1.heap.size ((b0+1, 31,V2.cells L)::(bs0++rest)) V2 L W3 from by
   have M:=mod_setRow' (w:=w2) (b0+1) (V2.cells L)
   have a:=X2.o.setRow 0 rfl (V2.cells L)
   have h1:=X1.o.1.lt
   rw[hW3,ER.o]
   refine⟨a,O2.o.mod M (fun k hk _ e=>by have:=R2.o;omega),fun x hx=>O2.o.notin (Or.inl ?_),Nat.le_trans R2.o.2 M.size,X1.o.1.low.size⟩
   rcases List.mem_cons.1 hx with rfl|hx
   ·have:=R2.o;show b0+1<_;omega
   ·exact h1 x (List.mem_cons_of_mem _ hx))
  have ND:=zq (show ((b0+1)::rest.map (·.1)).Nodup from (F3.o.at_.sub (more_boxes bs0 rest _)).nod)
  have CALL:=zq (HR.o HG.o W3 w1.heap.size (b0+1) V2 rest F3.o)
  have HL:=zq (show ∀ x∈bs1,x.1<b0 from fun x hx=>by rw[HB.o];exact HA.o.lt x (List.mem_append_right _ hx))
  have eg:∀ (args:Array Value) (w:World),(callFunc g args).run Tryz.prog w=.ok (.enter g args) w:=EG.o
  rw[<- hW3]
  clear hW3 X2 O2 L2 GD CP HR X1 l0 hrest
  go_wp2_with fail
  refine CALL.o.mono ?_
  rintro e w4 ho
  clear CALL F3 eg EG
  rcases ho with ⟨he,rfl,V4,bs4,F4,hs4⟩|⟨he,rfl,C4,bs4,LC4,A4,hs4⟩
  ·have A4':=zq (show At w w4 ((b0+1, 31,V4.cells r.led)::(P++[(b0+1+1, 3,#[.int .i64 0]),(b0+1+1+1, 38,#[.int .i64 0])])) from by
    rw[<- ER.o]
    refine At.subset F4.at_ (fun x hx=>?_) ND.o
    rcases List.mem_cons.1 hx with rfl|hx
    ·simp
    ·exact List.mem_cons_of_mem _ (hs4 x hx))
   have O4:=zq (And.intro F4.own F4.rb)
   have LN:=zq (HN.o HG.o he)
   have HE:=zq he
   clear F4 he HN hs4
   obtain⟨num,hnum⟩:∃ n,n=r.num:=⟨_,rfl⟩
   have EN:=zq hnum
   rw[<- hnum]
   clear hnum
   have q2:=zq (show w4.heap[b0+1+1]?=some (.cells #[.int .i64 0] 3 (0,0)) from A4'.o.has (b0+1+1, 3,#[.int .i64 0]) (by simp))
   have c2:=cell_of_heap q2.o 0
   have z2:=free_of_heap q2.o 0
   go_upto_region 5 with (fail)
   obtain⟨W5,hW5⟩:∃ s,s=w4.setCell ⟨b0+1+1,0,none⟩ (.int .i64 num):=⟨_,rfl⟩
   have A5:=zq (show At w W5 ((b0+1, 31,V4.cells r.led)::(P++[(b0+1+1, 3,#[.int .i64 num]),(b0+1+1+1, 38,#[.int .i64 0])])) from by
    rw[hW5]
    exact A4'.o.mid 0 (.int .i64 num))
   have O5:=zq (show LedOwn W5 w1.heap.size V4 r.led from by
    rw[hW5]
    exact O4.o.1.mod ((Mod.refl (fun k=>k=b0+1+1) w4).setCell _ (fun _=>rfl)) (fun k hk _ e=>by have:=R2.o;omega))
   have L5:=zq (ledc O5.o.led)
   have S5:=zq (show w1.heap.size <= W5.heap.size from by rw[hW5];exact Nat.le_trans O4.o.2 ((Mod.refl (fun k=>k=b0+1+1) w4).setCell _ (fun _=>rfl)).size)
   rw[<- hW5]
   clear hW5 q2 c2 z2
   go_wp2_with (refine led_load (A5.o.get 0 rfl) L5.o rfl rfl rfl ?_)
   refine (FL.o W5 V4 A5.o.low O5.o.led LN.o).mono ?_
   obtain⟨M,er,hM⟩:∃ M er,flagsA r.led=(M,er):=⟨_,_,rfl⟩
   rw[hM]
   rintro e w6 ⟨U,rfl,own,hb⟩
   have EM:=zq hM
   have A6:=zq (A5.o.go hb)
   have O6:=zq own
   have L6:=zq (ledc own.led)
   have S6:=zq (show b0+1+1+1<W5.heap.size from by have:=R2.o;have:=S5.o;omega)
   unfold LedV.val
   clear own hb hM FL A5 O5 S5
   have q3:=zq (show (w6.setRow (b0+1) (U.cells M)).heap[b0+1+1+1]?=some (.cells #[.int .i64 0] 38 (0,0)) from (mod_setRow' (w:=w6) (b0+1) (U.cells M)).heap (A6.o.has (b0+1+1+1, 38,#[.int .i64 0]) (by simp)) (by omega))
   have c3:=cell_of_heap q3.o 0
   have z3:=free_of_heap q3.o 0
   go_upto_region 6 with (refine led_store (A6.o.get 0 rfl) L5.o L6.o rfl rfl rfl rfl ?_)
   obtain⟨W8,hW8⟩:∃ s,s=(w6.setRow (b0+1) (U.cells M)).setCell ⟨b0+1+1+1,0,none⟩ (.int .i64 er):=⟨_,rfl⟩
   have A8:=zq (show At w W8 ((b0+1, 31,U.cells M)::(P++[(b0+1+1, 3,#[.int .i64 num]),(b0+1+1+1, 38,#[.int .i64 er])])) from by
    have a:=A6.o.setRow 0 rfl (U.cells M)
    have a2:At w (w6.setRow (b0+1) (U.cells M)) ((b0+1, 31,U.cells M)::((P++[(b0+1+1, 3,#[.int .i64 num])])++(b0+1+1+1, 38,#[.int .i64 0])::[])):=by
     rw[List.append_assoc];exact a
    have a3:=a2.mid 0 (.int .i64 er)
    rw[List.append_assoc] at a3
    rw[hW8]
    exact a3)
   have O8:=zq (show LedOwn W8 W5.heap.size U M from by
    rw[hW8]
    have M1:=mod_setRow' (w:=w6) (b0+1) (U.cells M)
    have M2:=(Mod.refl (fun k=>k=b0+1+1+1) (w6.setRow (b0+1) (U.cells M))).setCell (p:=⟨b0+1+1+1,0,none⟩) (.int .i64 er) (fun _=>rfl)
    exact (O6.o.mod M1 (fun k hk _ e=>by have:=S6.o;omega)).mod M2 (fun k hk _ e=>by have:=S6.o;omega))
   rw[<- hW8]
   clear hW8 q3 c3 z3 A6 O6 L5
   have r8:=zq (show Res3 W8 (b0+1) (b0+1+1) (b0+1+1+1) (U.cells M) num er from ⟨A8.o.get 0 rfl,A8.o.has (b0+1+1, 3,#[.int .i64 num]) (by simp),A8.o.has (b0+1+1+1, 38,#[.int .i64 er]) (by simp)⟩)
   have g3:W8.cell? ⟨b0+1+1+1,0,none⟩=some (.int .i64 er):=cell_of_heap r8.o.c 0
   by_cases hz:er=0
   ·subst hz
    go_wp2_with fail
    refine (fail_ok _).mono ?_
    rintro e w' ⟨rfl,rfl⟩
    clear g3
    go_upto_region 7 with (fail)
    have rD:=zq (r8.o.mod ((Mod.refl (fun _=>False) W8).drew) (fun h=>h) (fun h=>h) (fun h=>h))
    obtain⟨WD,hWD⟩:∃ s,s=W8.drew:=⟨_,rfl⟩
    have AD:=zq (show At w WD _ from by rw[hWD];exact A8.o.drew)
    have OD:=zq (show LedOwn WD W5.heap.size U M from by rw[hWD];exact O8.o.below ((Mod.refl (fun _=>False) W8).drew).toBelow)
    rw[<- hWD] at rD
    have y2:∀ z:Cls (fun W=>W=WD),z.w.cell? ⟨b0+1+1,0,none⟩=some (.int .i64 num):=fun z=>by rw[z.ok];exact cell_of_heap rD.o.b 0
    refine Fall2.wp_region_tree (C:=fun w'=>∃ z:Cls (fun W=>W=WD),w'=z.w) [2,3,4] [1] (.step 0 (.step 1 (.step 2 (.step 3 (.step 4 .leaf))))) (fun _ _ _=>False) (by kernel_rfl) (fun _ _ _ h=>h.elim) (by kernel_rfl) ⟨⟨W8.drew,hWD.symm⟩,rfl⟩ ?_
    rw[<- hWD]
    clear hWD
    haveI ne:Nonempty (Cls (fun W=>W=WD)):=⟨⟨WD,rfl⟩⟩
    refine Fall2.tree_still [0] (by kernel_rfl) ?_
    simp only[pickL,nth]
    refine quiet_led (cs:=U.cells M) (fun W hW=>by rw[hW];exact rD.o.a) L6.o rfl rfl rfl ?_
    refine wpQuiet_nil ?_
    go_simp
    refine Fall2.tree_pure [1] (by kernel_rfl) ?_
    simp only[pickL,nth]
    repeat (go_big_quiet_step (fail))
    refine wpQuiet_nil ?_
    clear y2
    refine Fall2.tree_eff (by kernel_rfl) rfl (fun K hK=>?_)
    simp only[pickL,nth]
    refine led_store1 rD.o.a L6.o L6.o rfl rfl rfl ?_
    rw[setRow_same rD.o.a]
    refine hK _ _ (fun _=>⟨⟨WD,rfl⟩,rfl⟩) ?_
    clear hK
    go_simp
    have y2:=cell_of_heap rD.o.b 0
    have z2:=free_of_heap rD.o.b 0
    have k2:=setCell_held (v:=.int .i64 num) y2
    refine Fall2.tree_eff (by kernel_rfl) rfl (fun K hK=>?_)
    simp only[pickL,nth]
    refine wpOne_one ?_
    go_simp
    refine hK _ _ (fun _=>⟨⟨WD,rfl⟩,rfl⟩) ?_
    clear hK y2 z2 k2
    have y2:=cell_of_heap rD.o.c 0
    have z2:=free_of_heap rD.o.c 0
    have k2:=setCell_held (v:=.int .i64 0) y2
    refine Fall2.tree_eff (by kernel_rfl) rfl (fun K hK=>?_)
    simp only[pickL,nth]
    refine wpOne_one ?_
    go_simp
    refine hK _ _ (fun _=>⟨⟨WD,rfl⟩,rfl⟩) ?_
    clear hK y2 z2 k2
    refine Fall2.tree_nil ?_
    go_wp2_with fail
    refine leaves_cons (f := 97) (args:=#[.pointer (some ⟨b0+1,0,none⟩),.pointer (some ⟨b0+1+1,0,none⟩),.pointer (some ⟨b0+1+1+1,0,none⟩)]) (by simp) (by simp[go_sem]) ?_
    refine (changed_ok (b0+1) (b0+1+1) (b0+1+1+1) WD).mono ?_
    rintro e u' w9 ⟨rfl,rfl,rfl⟩
    refine⟨_,results_led3 rfl _ _ rD.o L6.o rfl rfl rfl,?_⟩
    have EA:admA L r=(M,num,0):=by rw[admA_ok HG.o HE.o (by rw[EM.o]),EM.o,EN.o]
    rw[EA]
    refine⟨⟨U,rfl,OD.o.base (by have:=S6.o;have:=HB.o;omega)⟩,?_⟩
    have a:=AD.o
    rw[HP.o] at a
    exact a.sub (ends_boxes bs1 _ _ _ _)
   ·have HZ:=zq hz
    clear hz
    go_wp2_with fail
    refine (fail_bad er HZ.o _).mono ?_
    rintro e w' ⟨rfl,rfl⟩
    clear g3
    go_wp2_with fail
    refine leaves_cons (f := 97) (args:=#[.pointer (some ⟨b0+1,0,none⟩),.pointer (some ⟨b0+1+1,0,none⟩),.pointer (some ⟨b0+1+1+1,0,none⟩)]) (by simp) (by simp[go_sem]) ?_
    refine (changed_stop (b0+1) (b0+1+1) (b0+1+1+1) (by omega) (by omega) (by omega) W8 er (U.cells M) L6.o num er r8.o).mono ?_
    rintro e u' w9 ⟨rfl,rfl,R9,m9⟩
    have A9:=zq (show At w w9 bs1 from by
     have a:=(show At w W8 ((b0+1, 31,U.cells M)::(bs1++[(b0, 31,C)]++[_,_])) from by rw[<- HP.o];exact A8.o)
     refine (a.sub (ends_boxes bs1 _ _ _ _)).mod m9 (fun k hk=>by have:=HW.o;omega) (fun x hx hk=>by have:=HL.o x hx;omega))
    refine⟨_,results_led3 rfl _ _ R9 ledc0 rfl rfl rfl,?_⟩
    rw[show admA L r=(L0,0,er) from by rw[admA_over HG.o HE.o (by rw[EM.o];exact HZ.o),EM.o]]
    exact⟨⟨V0,rfl,own0 _ _⟩,A9.o⟩
  ·have HE:=zq he
   have LC4':=zq LC4
   have A4':=zq (show At w w4 ((b0+1, 31,C4)::(P++[(b0+1+1, 3,#[.int .i64 0]),(b0+1+1+1, 38,#[.int .i64 0])])) from by
    rw[<- ER.o]
    refine At.subset A4 (fun x hx=>?_) ND.o
    rcases List.mem_cons.1 hx with rfl|hx
    ·simp
    ·exact List.mem_cons_of_mem _ (hs4 x hx))
   have r4:=zq (show Res3 w4 (b0+1) (b0+1+1) (b0+1+1+1) C4 0 0 from ⟨A4'.o.get 0 rfl,A4'.o.has (b0+1+1, 3,#[.int .i64 0]) (by simp),A4'.o.has (b0+1+1+1, 38,#[.int .i64 0]) (by simp)⟩)
   clear he LC4 A4 hs4
   go_wp2_with fail
   refine leaves_cons (f := 97) (args:=#[.pointer (some ⟨b0+1,0,none⟩),.pointer (some ⟨b0+1+1,0,none⟩),.pointer (some ⟨b0+1+1+1,0,none⟩)]) (by simp) (by simp[go_sem]) ?_
   refine (changed_stop (b0+1) (b0+1+1) (b0+1+1+1) (by omega) (by omega) (by omega) w4 r.err C4 LC4'.o 0 0 r4.o).mono ?_
   rintro e u' w9 ⟨rfl,rfl,R9,m9⟩
   have A9:=zq (show At w w9 bs1 from by
    have a:=(show At w w4 ((b0+1, 31,C4)::(bs1++[(b0, 31,C)]++[_,_])) from by rw[<- HP.o];exact A4'.o)
    refine (a.sub (ends_boxes bs1 _ _ _ _)).mod m9 (fun k hk=>by have:=HW.o;omega) (fun x hx hk=>by have:=HL.o x hx;omega))
   refine⟨_,results_led3 rfl _ _ R9 ledc0 rfl rfl rfl,?_⟩
   rw[admA_err HG.o HE.o]
   exact⟨⟨V0,rfl,own0 _ _⟩,A9.o⟩
 ·refine (GD.o W0 X0.o.2.1 false (decide_eq_false hg)).mono ?_
  rintro e w1 ⟨rfl,hb⟩
  have X1:=zq (X0.o.1.go hb)
  have HL:=zq (show ∀ x∈bs1,x.1<b0 from fun x hx=>by rw[HB.o];exact HA.o.lt x (List.mem_append_right _ hx))
  have r1:=zq (show Res3 w1 (b0+1) (b0+1+1) (b0+1+1+1) led0 0 0 from ⟨X1.o.get 0 rfl,X1.o.has (b0+1+1, 3,#[.int .i64 0]) (by simp),X1.o.has (b0+1+1+1, 38,#[.int .i64 0]) (by simp)⟩)
  have HG:=zq hg
  clear hb hg X0 X0' l0
  go_wp2_with fail
  refine (unless_no 43 _).mono ?_
  rintro e w' ⟨rfl,rfl⟩
  go_wp2_with fail
  refine leaves_cons (f := 97) (args:=#[.pointer (some ⟨b0+1,0,none⟩),.pointer (some ⟨b0+1+1,0,none⟩),.pointer (some ⟨b0+1+1+1,0,none⟩)]) (by simp) (by simp[go_sem]) ?_
  refine (changed_stop (b0+1) (b0+1+1) (b0+1+1+1) (by omega) (by omega) (by omega) w1 43 led0 ledc0 0 0 r1.o).mono ?_
  rintro e u' w9 ⟨rfl,rfl,R9,m9⟩
  have A9:=zq (show At w w9 bs1 from by
   have a:=(show At w w1 ((b0+1, 31,led0)::(bs1++[(b0, 31,C)]++[_,_])) from by rw[<- HP.o];exact (X1.o.sub (more_boxes bs0 _ _)))
   refine (a.sub (ends_boxes bs1 _ _ _ _)).mod m9 (fun k hk=>by have:=HW.o;omega) (fun x hx hk=>by have:=HL.o x hx;omega))
  refine⟨_,results_led3 rfl _ _ R9 ledc0 rfl rfl rfl,?_⟩
  rw[admA_bad HG.o]
  exact⟨⟨V0,rfl,own0 _ _⟩,A9.o⟩
theorem adm_stop {r:Adm} {w W':World} {R0 b:Nat} {rest bs:List (Nat×TypeId×Array Value)} {V:LedV} {L:Led} {er:Int} (hr:r.err=er) (he:er≠0) (F:FBs w R0 ((b, 31,V.cells L)::bs) V L W') (hs:∀ x∈rest,x∈bs:=by intro x hx;simp[hx]):AdmOut r w R0 b rest (.panicked (stopAdm er)) W' :=
 Or.inr ⟨by rw[hr];exact he,by rw[hr],V.cells L,bs,ledc F.own.led,F.at_,hs⟩
theorem adm_ret {r:Adm} {w W':World} {R0 b:Nat} {rest bs:List (Nat×TypeId×Array Value)} {V:LedV} {L:Led} {n:Int} (hr:r=⟨L,n,0⟩) (F:FBs w R0 ((b, 31,V.cells L)::bs) V L W') (hs:∀ x∈rest,x∈bs:=by intro x hx;simp[hx]):AdmOut r w R0 b rest (.returned (.int .i64 n)) W':=by
 subst hr
 exact Or.inl ⟨rfl,rfl,V,bs,F,hs⟩
theorem _root_.Go.Bw.FBs.drew {w W:World} {R0:Nat} {bs:List (Nat×TypeId×Array Value)} {V:LedV} {l:Led} (h:FBs w R0 bs V l W):FBs w R0 bs V l W.drew:=h.go ((Mod.refl (fun _=>False) W).drew).toBelow
theorem own_made (w:World) (B n:Nat) (hB:B <= w.heap.size) (hn:n <= maxLen):OwnOf (w.alloc (.cells (madeCells #[.int .i64 0] n) 3)) B 3 1 icell (.slice (some ⟨w.heap.size,0,none⟩) n n) (List.replicate n 0):=by
 have hf:(List.replicate n (0:Int)).flatMap icell=List.replicate n (Value.int .i64 0):=by
  induction n with
  | zero=>rfl
  | succ n ih=>rw[List.replicate_succ,List.flatMap_cons,ih (by omega),List.replicate_succ];rfl
 refine⟨by rw[hf];simp,Or.inr ⟨w.heap.size,n,_,by rw[List.length_replicate],hB,heap_alloc_new _ _,by simp,hn,by rw[size_madeCells,Nat.mul_one],?_⟩⟩
 rw[toList_madeCells_one,hf]
 simp
theorem make_ints (n:Nat) (hn:n <= 1000) (W:World):(Instr.makeSlice 28 (.int .i64 (n:Nat)) (.int .i64 (n:Nat))).run Tryz.prog W=.ok (.slice (some ⟨W.heap.size,0,none⟩) n n) (W.alloc (.cells (madeCells #[.int .i64 0] n) 3)):=by
 obtain⟨i0,t1,t2,t3,t4⟩:=info_parts TInt.info
 have:=run_make (P:=Tryz.prog) W 28 3 i0 (.int .i64 0) Tryz.underlying28 t1 t2 .i64 .i64 (n:Nat) (n:Nat) (by omega) (Int.le_refl _) (by rw[t4];omega) (by omega)
 rw[t3,Nat.mul_one] at this
 exact this
theorem bdAcc (p:Int) (n c:Nat) (a:Option Addr) (W:World):(Instr.build 56 #[(0,.int .i64 p),(1,.slice a n c)]).run Tryz.prog W=.ok (.agg #[.int .i64 p,.slice a n c,.bool false,.int .i64 0]) W:=by kernel_rfl
theorem newacct {w W:World} {R0:Nat} {bs:List (Nat×TypeId×Array Value)} {V:LedV} {L:Led} (F:FBs w R0 bs V L W) (n1:Nat) (hn1:n1 <= 1000) (hl:V.ac.length <= 1000) (p:Int) (W1:World) (hW1:W1=(W.alloc (.cells (madeCells #[.int .i64 0] n1) 3)).drew) (g:Nat) (hg:g=W.heap.size) :
 ∃ a' c' w3,(Builtin.append_ #[25, 25] 25 #[V.accts,.slice (some ⟨W1.heap.size,0,none⟩) 1 1]).run Tryz.prog (W1.alloc (.cells #[.int .i64 p,.slice (some ⟨g,0,none⟩) n1 n1,.bool false,.int .i64 0] 56))=.ok (.slice a' (V.ac.length+1) c') w3 /\
  FBs w R0 bs { V with accts:=.slice a' (V.ac.length+1) c',ac:=V.ac++[(⟨p,List.replicate n1 0,false,0⟩,.slice (some ⟨g,0,none⟩) n1 n1)] } { L with accts:=L.accts++[⟨p,List.replicate n1 0,false,0⟩] } w3 /\ FBs w R0 bs V L W1:=by
 have F1:FBs w R0 bs V L W1:=by rw[hW1];exact (F.go ((Below.refl _ _).alloc (Nat.le_refl _) _)).go ((Mod.refl (fun _=>False) _).drew).toBelow
 have O1:OwnOf W1 R0 3 1 icell (.slice (some ⟨g,0,none⟩) n1 n1) (List.replicate n1 0):=by
  rw[hW1,hg];exact (own_made W R0 n1 F.rb (by unfold maxLen;omega)).mod ((Mod.refl (fun _=>False) _).drew) (fun _ _ h=>h)
 have B1:Below W.heap.size W W1:=by rw[hW1];exact ((Mod.of_below ((Below.refl _ _).alloc (Nat.le_refl _) _)).drew).toBelow
 have S1:W1.heap.size=W.heap.size+1:=by rw[hW1];simp
 obtain⟨v',w3,hrun,ho,hm,hbk⟩:=app1_acct W1 R0 V.accts V.ac F1.own.accts F1.rb (⟨p,List.replicate n1 0,false,0⟩,.slice (some ⟨g,0,none⟩) n1 n1) rfl #[.int .i64 p,.slice (some ⟨g,0,none⟩) n1 n1,.bool false,.int .i64 0] rfl (by omega)
 obtain⟨a',c',hv',_⟩:=ho.form
 rw[List.length_append,List.length_singleton] at hv'
 subst hv'
 refine⟨a',c',w3,hrun,?_,F1⟩
 have hM:Mod (fun k=>V.accts.ownBlock=some k) W w3:=((Mod.of_below B1).mono (T:=fun k=>V.accts.ownBlock=some k) (fun _ _ h=>h.elim)).trans hm (fun _ _ h=>h)
 have hb2:∀ k,(Value.slice a' (V.ac.length+1) c').ownBlock=some k -> V.accts.ownBlock=some k \/ W.heap.size <= k:=fun k hk=>(hbk k hk).imp id (fun h=>by omega)
 have hc:OwnOf w3 R0 3 1 icell (.slice (some ⟨g,0,none⟩) n1 n1) (List.replicate n1 0):=O1.mod hm (fun k hk e=>by
  have h1:=(F.own.accts.lt k e).2
  simp[Value.ownBlock] at hk
  omega)
 have hvc:ApartV (.slice a' (V.ac.length+1) c') (.slice (some ⟨g,0,none⟩) n1 n1):=fun k hk hk2=>by
  simp[Value.ownBlock] at hk2
  rcases hbk k hk with h|h
  ·have:=(F.own.accts.lt k h).2;omega
  ·omega
 have o1:=F.own.new_accts (a:=⟨p,List.replicate n1 0,false,0⟩) hM ho hb2 hc (fun k hk=>by simp[Value.ownBlock] at hk;omega) hvc (fun x hx=>by have:=List.eq_of_mem_replicate hx;omega)
 have hlo:=F.lo
 refine⟨F.at_.mod hM (fun k e=>by have:=F.own.accts.lt k e;omega) (fun z hz e=>F.nin z hz V.accts (by simp[LedV.rows]) e),o1,fun z hz x hx=>?_,Nat.le_trans F.rb hM.size,F.lo⟩
 have hlt:=F.at_.lt z hz
 have e:({ V with accts:=.slice a' (V.ac.length+1) c',ac:=V.ac++[(⟨p,List.replicate n1 0,false,0⟩,.slice (some ⟨g,0,none⟩) n1 n1)] }:LedV).rows=(V.rows.set 3 (.slice a' (V.ac.length+1) c'))++[.slice (some ⟨g,0,none⟩) n1 n1]:=by simp[LedV.rows]
 rw[e] at hx
 intro hk
 rcases List.mem_append.1 hx with hx|hx
 ·rcases List.mem_or_eq_of_mem_set hx with hx|rfl
  ·exact F.nin z hz x hx hk
  ·rcases hb2 _ hk with h|h
   ·exact F.nin z hz V.accts (by simp[LedV.rows]) h
   ·omega
 ·obtain rfl:=List.mem_singleton.1 hx
  simp[Value.ownBlock] at hk
  omega
end Go.Proofs.YtnkpdfjnjmmleaaGreatDoor
namespace Go.Bw
open Go.RowKit
theorem LedOwn.growCash {w w':World} {B:Nat} {V:LedV} {l:Led} (h:LedOwn w B V l) {g c k:Nat} (hv:V.accts=.slice (some ⟨g,0,none⟩) V.ac.length c) {p:Acc×Value} {u:Value} {cash:List Int} (hk:V.ac[k]?=some p)
 (hm:Mod (fun b=>p.2.ownBlock=some b) w w') (hu:OwnOf w' B 3 1 icell u cash) (hb:∀ b,u.ownBlock=some b -> p.2.ownBlock=some b \/ w.heap.size <= b) (hn:∀ x∈cash,-9223372036854775808 <= x /\ x <= 9223372036854775807) :
 LedOwn (w'.setCell ⟨g,k*4+1,none⟩ u) B { V with ac:=V.ac.set k ({ p.1 with cash:=cash },u) } { l with accts:=l.accts.set k { p.1 with cash:=cash } } /\ Mod (fun b=>p.2.ownBlock=some b \/ b=g) w (w'.setCell ⟨g,k*4+1,none⟩ u):=by
 have hg:V.accts.ownBlock=some g:=by rw[hv];rfl
 have hy:V.rows[3]?=some V.accts:=rfl
 have hp:V.rows[k+8]?=some p.2:=rows_cash hk
 have hgl:=(h.accts.lt g hg).2
 have hgp:¬ p.2.ownBlock=some g:=fun e=>rows_apart h.sep (i:=k+8) (j:=3) (by omega) hp hy g e hg
 have hA:=h.accts.mod hm (fun b hb' e=>hgp (by rw[hg] at hb';cases hb';exact e))
 rw[hv] at hA
 obtain⟨hs,M⟩:=hA.set (x':=({ p.1 with cash:=cash },u)) (u:=u) (j:=1) acccells_len hk (by decide) rfl
 have MM:Mod (fun b=>p.2.ownBlock=some b \/ b=g) w (w'.setCell ⟨g,k*4+1,none⟩ u):=(hm.mono (T:=fun b=>p.2.ownBlock=some b \/ b=g) (fun _ _ h=>Or.inl h)).trans M (fun _ _ h=>Or.inr h)
 have R:∀ {i:Nat} {x:Value},i≠3 -> i≠k+8 -> V.rows[i]?=some x -> ∀ b,x.ownBlock=some b -> ¬ (p.2.ownBlock=some b \/ b=g):=fun h3 h8 hx b hb' e=>by
  rcases e with e|e
  ·exact rows_apart h.sep h8 hx hp b hb' e
  ·subst e;exact rows_apart h.sep h3 hx hy _ hb' hg
 refine⟨⟨h.curs.mod MM (R (i:=0) (by decide) (by omega) rfl),h.unders.mod MM (R (i:=1) (by decide) (by omega) rfl),h.instrs.mod MM (R (i:=2) (by decide) (by omega) rfl),?_,?_,fun q hq=>?_,h.poss.mod MM (R (i:=4) (by decide) (by omega) rfl),h.orders.mod MM (R (i:=5) (by decide) (by omega) rfl),h.avail.mod MM (R (i:=6) (by decide) (by omega) rfl),h.locs.mod MM (R (i:=7) (by decide) (by omega) rfl),?_,h.names,?_⟩,MM⟩
 ·show l.accts.set k _=(V.ac.set k _).map (·.1)
  rw[List.map_set,h.same]
 ·show OwnOf _ B _ 4 Acc.cells V.accts _
  rw[hv]
  exact hs
 ·obtain⟨m,hm',e⟩:=List.mem_iff_getElem.1 hq
  by_cases hmk:m=k
  ·subst hmk
   rw[List.getElem_set_self] at e
   subst e
   exact hu.mod M (fun b hb' e=>by
    subst e
    rcases hb _ hb' with h1|h1
    ·exact hgp h1
    ·omega)
  ·rw[List.getElem_set_ne (Ne.symm hmk)] at e
   rw[List.length_set] at hm'
   have hq':V.ac[m]?=some q:=by rw[List.getElem?_eq_getElem hm',e]
   exact (h.cash q (List.mem_of_getElem? hq')).mod MM (R (i:=m+8) (by omega) (by omega) (rows_cash hq'))
 ·have e:({ V with ac:=V.ac.set k ({ p.1 with cash:=cash },u) }:LedV).rows=V.rows.set (k+8) u:=by
   show V.curs::V.unders::V.instrs::V.accts::V.poss::V.orders::V.avail::V.locs::(V.ac.set k ({ p.1 with cash:=cash },u)).map (·.2)=V.curs::V.unders::V.instrs::V.accts::V.poss::V.orders::V.avail::V.locs::(V.ac.map (·.2)).set k u
   rw[List.map_set]
  exact rows_set h e (fun y hy b hb'=>by rw[hp] at hy;cases hy;exact hb b hb') (List.getElem?_eq_some_iff.1 hp).1
 ·intro a ha' x hx
  rcases List.mem_or_eq_of_mem_set ha' with ha'|rfl
  ·exact h.nums a ha' x hx
  ·exact hn x hx
theorem FBs.growCash {w W W':World} {R0:Nat} {bs:List (Nat×TypeId×Array Value)} {V:LedV} {l:Led} (h:FBs w R0 bs V l W) {g c k:Nat} (hv:V.accts=.slice (some ⟨g,0,none⟩) V.ac.length c) {p:Acc×Value} {u:Value} {cash:List Int} (hk:V.ac[k]?=some p)
 (hm:Mod (fun b=>p.2.ownBlock=some b) W W') (hu:OwnOf W' R0 3 1 icell u cash) (hb:∀ b,u.ownBlock=some b -> p.2.ownBlock=some b \/ W.heap.size <= b) (hn:∀ x∈cash,-9223372036854775808 <= x /\ x <= 9223372036854775807) :
 FBs w R0 bs { V with ac:=V.ac.set k ({ p.1 with cash:=cash },u) } { l with accts:=l.accts.set k { p.1 with cash:=cash } } (W'.setCell ⟨g,k*4+1,none⟩ u):=by
 obtain⟨o,M⟩:=h.own.growCash hv hk hm hu hb hn
 have hg:V.accts.ownBlock=some g:=by rw[hv];rfl
 have hp:V.rows[k+8]?=some p.2:=rows_cash hk
 have hpm:=List.mem_of_getElem? hp
 have ham:V.accts∈V.rows:=by simp[LedV.rows]
 have hlo:=h.lo
 refine⟨h.at_.mod M (fun b e=>?_) (fun z hz e=>?_),o,fun z hz=>?_,Nat.le_trans h.rb M.size,h.lo⟩
 ·rcases e with e|e
  ·have:=h.own.lts _ hpm b e;omega
  ·subst e;have:=h.own.lts _ ham b hg;omega
 ·rcases e with e|e
  ·exact h.nin z hz _ hpm e
  ·exact h.nin z hz _ ham (by rw[hg,e])
 ·have e:({ V with ac:=V.ac.set k ({ p.1 with cash:=cash },u) }:LedV).rows=V.rows.set (k+8) u:=by
   show V.curs::V.unders::V.instrs::V.accts::V.poss::V.orders::V.avail::V.locs::(V.ac.set k ({ p.1 with cash:=cash },u)).map (·.2)=V.curs::V.unders::V.instrs::V.accts::V.poss::V.orders::V.avail::V.locs::(V.ac.map (·.2)).set k u
   rw[List.map_set]
  refine notin_set (h.nin z hz) e (fun e2=>?_)
  rcases hb _ e2 with h1|h1
  ·exact h.nin z hz _ hpm h1
  ·have:=h.at_.lt z hz;omega
def grown (xs:List Acc) (k:Nat):List Acc:=xs.mapIdx fun i a=>if i<k then { a with cash:=a.cash++[0] } else a
theorem grown_at (xs:List Acc) (k i:Nat):(grown xs k)[i]?=(xs[i]?).map fun a=>if i<k then { a with cash:=a.cash++[0] } else a:=by simp[grown,List.getElem?_mapIdx]
theorem grown_zero (xs:List Acc):grown xs 0=xs:=by
 apply List.ext_getElem?
 intro i
 rw[grown_at]
 simp
theorem grown_len (xs:List Acc) (k:Nat):(grown xs k).length=xs.length:=by simp[grown]
theorem grown_next {xs:List Acc} {k:Nat} {a:Acc} (ha:xs[k]?=some a):grown xs (k+1)=(grown xs k).set k { a with cash:=a.cash++[0] }:=by
 have hk:=(List.getElem?_eq_some_iff.1 ha).1
 apply List.ext_getElem?
 intro i
 by_cases e:k=i
 ·subst e
  rw[List.getElem?_set_self (by rw[grown_len];exact hk),grown_at,ha]
  simp
 ·rw[List.getElem?_set_ne e,grown_at,grown_at]
  congr 1
  funext a
  by_cases hc:i<k
  ·rw[if_pos (by omega),if_pos hc]
  ·rw[if_neg (by omega),if_neg hc]
theorem grown_all (xs:List Acc):grown xs xs.length=xs.map fun a=>{ a with cash:=a.cash++[0] }:=by
 apply List.ext_getElem?
 intro i
 rw[grown_at,List.getElem?_map]
 cases h:xs[i]? with
 | none=>rfl
 | some a=>simp[(List.getElem?_eq_some_iff.1 h).1]
theorem rows_put {V V':LedV} {q:Nat} {v:Value} (h:V.rows.Pairwise ApartV) (hr:V'.rows=V.rows.set q v) (hv:∀ (m:Nat) y,m≠q -> V.rows[m]?=some y -> ApartV y v):V'.rows.Pairwise ApartV:=by
 rw[hr,List.pairwise_iff_getElem]
 intro i j hi hj hij
 rw[List.length_set] at hi hj
 rw[List.getElem_set,List.getElem_set]
 have key:∀ m (hm:m<V.rows.length),m≠q -> ApartV V.rows[m] v:=fun m hm hne=>hv m _ hne (List.getElem?_eq_getElem hm)
 by_cases e1:q=i
 ·rw[if_pos e1,if_neg (by omega)]
  exact (key j hj (by omega)).symm
 ·by_cases e2:q=j
  ·rw[if_neg e1,if_pos e2]
   exact key i hi (by omega)
  ·rw[if_neg e1,if_neg e2]
   exact List.pairwise_iff_getElem.1 h i j hi hj hij
theorem LedOwn.put_avail {w:World} {B:Nat} {V:LedV} {l:Led} (h:LedOwn w B V l) {v:Value} {xs:List Int} (ho:OwnOf w B 3 1 icell v xs) (hv:∀ y∈V.rows,ApartV y v) :
 LedOwn w B { V with avail:=v } { l with avail:=xs } :=
 ⟨h.curs,h.unders,h.instrs,h.same,h.accts,h.cash,h.poss,h.orders,ho,h.locs,rows_put h.sep (q:=6) rfl (fun m y _ hm=>hv y (List.mem_of_getElem? hm)),h.names,h.nums⟩
theorem LedOwn.put_locs {w:World} {B:Nat} {V:LedV} {l:Led} (h:LedOwn w B V l) {v:Value} {xs:List Pos} (ho:OwnOf w B 105 3 Pos.cells v xs) (hv:∀ y∈V.rows,ApartV y v) :
 LedOwn w B { V with locs:=v } { l with locs:=xs } :=
 ⟨h.curs,h.unders,h.instrs,h.same,h.accts,h.cash,h.poss,h.orders,h.avail,ho,rows_put h.sep (q:=7) rfl (fun m y _ hm=>hv y (List.mem_of_getElem? hm)),h.names,h.nums⟩
theorem FBs.put_avail {w W:World} {R0 b:Nat} {bs:List (Nat×TypeId×Array Value)} {V:LedV} {l L:Led} {T:TypeId} (h:FBs w R0 bs V l W) (i:Nat) (hi:bs[i]?=some (b,T,V.cells L)) {v:Value} {xs:List Int} (ho:OwnOf W R0 3 1 icell v xs) (hv:∀ y∈V.rows,ApartV y v) (hn:∀ x∈bs,v.ownBlock≠some x.1) :
 FBs w R0 (bs.set i (b,T,({ V with avail:=v }:LedV).cells L)) { V with avail:=v } { l with avail:=xs } (W.setCell ⟨b,7,none⟩ v):=by
 have f:FBs w R0 bs { V with avail:=v } { l with avail:=xs } W:=⟨h.at_,h.own.put_avail ho hv,fun x hx=>notin_set (h.nin x hx) (q:=6) rfl (hn x hx),h.rb,h.lo⟩
 exact f.cell i hi 7 v
theorem FBs.put_locs {w W:World} {R0 b:Nat} {bs:List (Nat×TypeId×Array Value)} {V:LedV} {l L:Led} {T:TypeId} (h:FBs w R0 bs V l W) (i:Nat) (hi:bs[i]?=some (b,T,V.cells L)) {v:Value} {xs:List Pos} (ho:OwnOf W R0 105 3 Pos.cells v xs) (hv:∀ y∈V.rows,ApartV y v) (hn:∀ x∈bs,v.ownBlock≠some x.1) :
 FBs w R0 (bs.set i (b,T,({ V with locs:=v }:LedV).cells L)) { V with locs:=v } { l with locs:=xs } (W.setCell ⟨b,8,none⟩ v):=by
 have f:FBs w R0 bs { V with locs:=v } { l with locs:=xs } W:=⟨h.at_,h.own.put_locs ho hv,fun x hx=>notin_set (h.nin x hx) (q:=7) rfl (hn x hx),h.rb,h.lo⟩
 exact f.cell i hi 8 v
end Go.Bw

/- life.change: a call is done on a turn made of a copy, the flags are set behind it; what is given up is caught. -/
import Derived.Test.YtcepekniflaoaaaGreatDoorLifB
set_option linter.unusedVariables false
set_option linter.unusedSimpArgs false
set_option maxRecDepth 100000
set_option maxHeartbeats 8000000
namespace Go.Proofs.YtcepekniflaoaaaGreatDoor
open Go.RowKit Go.Bw Go.Maps Go.Shelf Go.Bw.Fall
theorem Cc (po pn pe:Nat) (w:World) :
 CallsD Tryz.prog 59 #[.pointer (some ⟨po,0,none⟩),.pointer (some ⟨pn,0,none⟩),.pointer (some ⟨pe,0,none⟩)] .returning w fun e u' w'=>e=.returned (.tuple #[])/\u'=.returning/\w'=w:=by
 refine callsD_of_wpS Tryz.func59 rfl fun c₀ cs hu=>?_
 apply wpS_seq
 apply wpS_region
 simp[wpOpsS,go_sem,recoverD,hu,Tryz.ntmps59,Exit.thenS];refine wpS_of_wp ?_
 go_wp2_with fail
 cases c₀
 simp_all [bodyPostS,results,Tryz.results59]
theorem mZ (po pn pe:Nat) (h1:pn≠po) (h2:pe≠po) (h3:pe≠pn) (w:World) (er:Int) (C:Array Value) (hC:mO C) (x y:Int) (h:vZ w po pn pe C x y) :
 CallsD Tryz.prog 59 #[.pointer (some ⟨po,0,none⟩),.pointer (some ⟨pn,0,none⟩),.pointer (some ⟨pe,0,none⟩)] (.panicking (jv er)) w fun e u' w'=>e=.returned (.tuple #[])/\u'=.panicking [{ v:=.iface 99 (.agg #[.int .i64 er]),recovered:=true }]/\vZ w' po pn pe aZ 0 er/\Mod (fun k=>k=po\/k=pn\/k=pe) w w':=by
 unfold jv;have hta:∀ (W:World) (v:Value),(Instr.typeAssert (.iface 99 v) 20 99 true).run Tryz.prog W=.ok (.tuple #[v,.bool true]) W:=fun W v=>by kernel_rfl
 have hbl:∀ W,(Instr.build 31 #[]).run Tryz.prog W=.ok (.agg aZ) W:=fun W=>by kernel_rfl
 have HR:=zq (And.intro h hC);have HN:=zq (And.intro h1 (And.intro h2 h3));clear h hC h1 h2 h3;refine callsD_of_wpS Tryz.func59 rfl fun c₀ cs hu=>?_
 apply wpS_seq
 apply wpS_region
 simp[wpOpsS,go_sem,recoverD,hu,Tryz.ntmps59,Exit.thenS];refine wpS_of_wp ?_;rw[show (#[.pointer (some ⟨po,0,none⟩),.pointer (some ⟨pn,0,none⟩),.pointer (some ⟨pe,0,none⟩)]++(Array.replicate 12 undef).setIfInBounds 3 (.iface 99 (.agg #[.int .i64 er])):Array Value)=#[.pointer (some ⟨po,0,none⟩),.pointer (some ⟨pn,0,none⟩),.pointer (some ⟨pe,0,none⟩),undef,undef,undef,.iface 99 (.agg #[.int .i64 er]),undef,undef,undef,undef,undef,undef,undef,undef] from rfl]
 go_upto_region 7 with (fail)
 obtain⟨W0,hW0⟩:=Zn (w.alloc (.cells #[.int .i64 er] 99));obtain⟨q,hq⟩:=Zn w.heap.size;have M0:=zq (show Mod (fun _=>False) w W0 from by rw[hW0];exact (Mod.refl _ w).alloc _);have Q0:=zq (show W0.heap[q]?=some (.cells #[.int .i64 er] 99 (0,0)) from by rw[hW0,hq];exact heap_alloc_new _ _);have QN:=zq (show q≠po/\q≠pn/\q≠pe from by have h1:=lt_of_heap HR.o.1.a;have h2:=lt_of_heap HR.o.1.b;have h3:=lt_of_heap HR.o.1.c;omega);rw[<-hW0,<-hq];clear hW0 hq;have D0:=zq (show Mod (fun _=>False) w W0.drew from M0.o.drew);have R0:=zq (HR.o.1.mod D0.o (fun h=>h) (fun h=>h) (fun h=>h));have QD:=zq (((Mod.refl (fun _=>False) W0).drew).heap Q0.o (fun h=>h));have y1:∀ z:dh (fun W=>W.heap[q]?=some (.cells #[.int .i64 er] 99 (0,0))),z.w.cell? ⟨q,0,none⟩=some (.int .i64 er):=fun z=>cell_of_heap z.ok 0
 refine aI.aX (C:=fun w'=>∃ z:dh (fun W=>W.heap[q]?=some (.cells #[.int .i64 er] 99 (0,0))),w'=z.w) [3,4,5] [1,2] (.step 0 (.step 1 (.step 2 (.step 3 (.step 4 (.step 5 .leaf)))))) (fun _ _ _=>False) (by kernel_rfl) (fun _ _ _ h=>h.elim) (by kernel_rfl) ⟨⟨W0.drew,QD.o⟩,rfl⟩ ?_
 haveI ne:Nonempty (dh (fun W=>W.heap[q]?=some (.cells #[.int .i64 er] 99 (0,0)))):=⟨⟨W0,Q0.o⟩⟩
 refine aI.aC [0] (by kernel_rfl) ?_
 simp only[ay,nth]
 refine Ak rfl 31 rfl aZ hbl ?_;refine wpQuiet_nil ?_;go_simp;refine aI.bM [1,2] (by kernel_rfl) ?_
 simp only[ay,nth]
 repeat (go_big_quiet_step (fail))
 refine wpQuiet_nil ?_;clear y1;refine aI.aK (by kernel_rfl) rfl (fun K hK=>?_)
 simp only[ay,nth]
 have N1:=zq (bJ (w:=W0.drew) po aZ);refine oL R0.o.a HR.o.2 bG rfl rfl rfl ?_;refine hK _ _ (fun _=>⟨⟨_,N1.o.heap QD.o QN.o.1⟩,rfl⟩) ?_;clear hK;have b1:=cell_of_heap (N1.o.heap R0.o.b HN.o.1) 0;have c1:=aP (N1.o.heap R0.o.b HN.o.1) 0;refine aI.aK (by kernel_rfl) rfl (fun K hK=>?_)
 simp only[ay,nth]
 refine aA ?_;go_simp;have N2:=zq ((Mod.refl (fun k=>k=pn) (W0.drew.setRow po aZ)).setCell (p:=⟨pn,0,none⟩) (.int .i64 0) (fun _=>rfl));refine hK _ _ (fun _=>⟨⟨_,N2.o.heap (N1.o.heap QD.o QN.o.1) QN.o.2.1⟩,rfl⟩) ?_;clear hK b1 c1;have b1:=cell_of_heap (N2.o.heap (N1.o.heap R0.o.c HN.o.2.1) HN.o.2.2) 0;have c1:=aP (N2.o.heap (N1.o.heap R0.o.c HN.o.2.1) HN.o.2.2) 0;refine aI.dm (by kernel_rfl) rfl (by kernel_rfl) (fun K hK=>?_)
 simp only[ay,nth]
 refine aA ?_;go_simp;refine hK _ _ ?_;clear hK b1 c1;refine aI.bH ?_
 go_wp2_with fail
 have F:=R0.o.all HN.o.1 HN.o.2.1 HN.o.2.2 aZ 0 er;have FM:=(D0.o.mono (T:=fun k=>k=po\/k=pn\/k=pe) (fun _ _ h=>h.elim)).trans F.2 (fun _ _ h=>h)
 cases c₀
 simp_all [bodyPostS,results,Tryz.results59]
def jO (r:yP) (w:World) (R0 b:Nat) (rest:List (Nat×TypeId×Array Value)) (e:Ending) (W':World):Prop :=
 (r.err=0/\e=.returned (.int .i64 r.num)/\∃ V' bs,dB w R0 ((b, 57,V'.cells r.led)::bs) V' r.led W'/\∀ x∈rest,x∈bs) \/
 (r.err≠0/\e=.panicked (jv r.err)/\∃ bs,At w W' bs/\∀ x∈rest,x∈bs)
def pX (w:World) (L:aH) (g:Nat) (lb:Array Value) (bs0:List (Nat×TypeId×Array Value)) (r:yP):Prop :=
 ∀ W R0 b V rest,dB w R0 ((b, 57,V.cells L)::(bs0++rest)) V L W->Calls Tryz.prog g (#[.pointer (some ⟨b,0,none⟩)]++lb) W (jO r w R0 b rest)
theorem dS {r:yP} {w W':World} {R0 b:Nat} {rest bs:List (Nat×TypeId×Array Value)} {er:Int} (hr:r.err=er) (he:er≠0) (A:At w W' bs) (hs:∀ x∈rest,x∈bs:=by intro x hx;simp[hx]):jO r w R0 b rest (.panicked (jv er)) W' :=
 Or.inr ⟨by rw[hr];exact he,by rw[hr],bs,A,hs⟩
theorem Iq {r:yP} {w W':World} {R0 b:Nat} {rest bs:List (Nat×TypeId×Array Value)} {V:aB} {L:aH} {n:Int} (hr:r=⟨L,n,0⟩) (F:dB w R0 ((b, 57,V.cells L)::bs) V L W') (hs:∀ x∈rest,x∈bs:=by intro x hx;simp[hx]):jO r w R0 b rest (.returned (.int .i64 n)) W':=by
 subst hr;exact Or.inl ⟨rfl,rfl,V,bs,F,hs⟩
theorem Jq {w W W2:World} {T:TypeId} {bs:List (Nat×TypeId×Array Value)} {V:aB} {L:aH} (A:At w W bs) (own:bF W2 W.heap.size V L) (hb:Below W.heap.size W W2) :
 dB w W.heap.size ((W2.heap.size,T,V.cells L)::bs) V L (W2.alloc (.cells (V.cells L) T)):=by
 have ha:Below W2.heap.size W2 (W2.alloc (.cells (V.cells L) T)):=Zb;refine⟨((A.go hb).alloc _ _).perm List.perm_append_comm,own.below ha,fun x hx=>?_,Nat.le_trans hb.size ha.size,A.low.size⟩;rcases List.mem_cons.1 hx with rfl|hx
 ·exact own.zu (Or.inr (Nat.le_refl _))
 exact own.zu (Or.inl (A.lt x hx))
theorem Qd (V:aB) (L:aH) (W:World):(Instr.build 57 #[(0,.agg (V.cells L))]).run Tryz.prog W=.ok (.agg (V.cells L)) W:=by kernel_rfl
theorem yO {P:Program} {ops:Array Oper} {rest:List Oper} {o:Oper} {a:Act} {W:World} {Q:Exit->Act->World->Prop} {t:TypeId} {i:Nat} {x:Operand} {v:Value} {cs:Array Value} (hgd:o.guard=none) (ho:o.op=.build t #[(i,x)]) (hx:a.eval x=v)
 (hb:∀ W,(Instr.build t #[(i,v)]).run P W=.ok (.agg cs) W) (h:wpList P ops Q rest (a.put o.dst (.agg cs)) W):wpList P ops Q (o::rest) a W:=by
 refine wpList_step (fun K hK=>?_);rw[if_pos (by simp[Region.wanted,hgd])];have hb':=hb W;have e:(#[(i,x)].map fun ((i,x):Nat×Operand)=>(i,a.eval x))=#[(i,v)]:=by simp[hx]
 unfold Oper.wp execOp
 simp only[ho,e,Sem.run_bind,hb',Result.andThen_ok]
 exact hK _ _ h
theorem NP {α:Type} (A B:List α) (x0 x1 x2 x3:α):(((((A++B)++[x0])++[x1])++[x2])++[x3]).Perm (A++(x1::x2::x3::(B++[x0]))):=by
 have e:((((A++B)++[x0])++[x1])++[x2])++[x3]=A++((B++[x0])++[x1,x2,x3]):=by simp
 rw[e];exact List.Perm.append_left A (List.perm_append_comm (l₁:=B++[x0]) (l₂:=[x1,x2,x3]))
theorem vI (w W1:World) (V:aB) (L:aH) (h:bK W1 V L) (hL:L.ai.length<=1024) (hGr:rF w) (bs0 bs1:List (Nat×TypeId×Array Value)) (hA:At w W1 (bs0++bs1)) (g:Nat) (lb:Array Value) (hg:Enters Tryz.prog g) (r:yP)
 (hr:L.Good->pX w L g lb bs0 r) (hn:L.Good->r.err=0->r.led.ai.length<=1024) :
 Calls Tryz.prog 18 #[V.val L,.func (.func g) #[] lb] W1 (QU w W1 bs1 (jM L r)):=by
 classical
 have GD:=zq (show ∀ W,Below W1.heap.size W1 W->∀ B:Bool,decide L.Good=B->Calls Tryz.prog 60 #[V.val L] W fun e w'=>e=.returned (.bool B)/\Below W.heap.size W w' from fun W hb B hB=>qU (h.below hb) hL hB);have CP:=zq (fun W (hb:Below W1.heap.size W1 W) (hg:L.Good)=>wS W V L (h.below hb) (iq hg).1 (fun a ha=>Nat.le_trans ((iq hg).2.1 a ha) (by omega)));have FL:=zq (fun W U (hb:Below w.heap.size w W) (hl:bK W U r.led) (hL:r.led.ai.length<=1024)=>Jt W U r.led hl hL (hGr.below hb));have LC:=zq (iC h);have HR:=zq hr;have HN:=zq hn;have EG:=zq hg;unfold aB.val at GD CP FL ⊢;obtain⟨C,hC⟩:=Zn (V.cells L);rw[<-hC] at GD CP LC ⊢;obtain⟨W0,hW0⟩:=Zn ((((W1.alloc (.cells C 31)).alloc (.cells #[.int .i64 0,.slice none 0 0,.slice none 0 0,.slice none 0 0,.slice none 0 0,.slice none 0 0,.slice none 0 0,.slice none 0 0,.slice none 0 0] 31)).alloc (.cells #[.int .i64 0] 3)).alloc (.cells #[.int .i64 0] 35));obtain⟨b0,hb0⟩:=Zn W1.heap.size;obtain⟨Q,hQ⟩:=Zn ((b0+1, 31,aZ)::(b0+1+1, 3,(#[.int .i64 0]:Array Value))::(b0+1+1+1, 35,#[.int .i64 0])::(bs1++[(b0, 31,C)]));have X0:=zq (show At w W0 (bs0++Q)/\Below W1.heap.size W1 W0/\b0+1+1+1<W0.heap.size from by
  have a:=(((hA.alloc 31 C).alloc 31 #[.int .i64 0,.slice none 0 0,.slice none 0 0,.slice none 0 0,.slice none 0 0,.slice none 0 0,.slice none 0 0,.slice none 0 0,.slice none 0 0]).alloc 3 #[.int .i64 0]).alloc 35 #[.int .i64 0];have e:∀ (w:World) (o:Obj),(w.alloc o).heap.size=w.heap.size+1:=fun w o=>by simp
  simp only[e] at a
  rw[<-hW0,<-hb0] at a;refine⟨by rw[hQ];exact a.perm (NP _ _ _ _ _ _),?_,by rw[hW0,hb0];simp⟩;rw[hW0];exact (((Zb).alloc (by simp) _).alloc (by simp;omega) _).alloc (by simp;omega) _)
 have HQ:=zq hQ;have HB:=zq hb0;have HA:=zq hA;have HW:=zq (show w.heap.size<=b0 from by rw[hb0];exact hA.low.size);have HL:=zq (show ∀ x∈bs1,x.1<b0 from fun x hx=>by rw[hb0];exact hA.lt x (List.mem_append_right _ hx));clear h hL hGr hA hr hn hg hC hQ
 go_enter_defers Tryz.func18,Tryz.ntmps18
 go_upto_region 2 with (fail)
 rw[<-hW0,<-hb0];have l0:=zq (show W0.heap[b0]?=some (.cells C 31 (0,0)) from X0.o.1.has (b0, 31,C) (by rw[HQ.o];simp));clear hW0 hb0
 go_wp2_with (refine bW l0.o LC.o rfl rfl rfl ?_)
 by_cases hg:L.Good
 ·refine (GD.o W0 X0.o.2.1 true (decide_eq_true hg)).mono ?_;rintro e w1 ⟨rfl,hb⟩;have X1:=zq (show At w w1 (bs0++Q)/\Below W1.heap.size W1 w1/\b0+1+1+1<w1.heap.size from ⟨X0.o.1.go hb,X0.o.2.1.trans (hb.mono X0.o.2.1.size),Nat.lt_of_lt_of_le X0.o.2.2 hb.size⟩);have HG:=zq hg;clear hb X0 l0 hg;have l0:=zq (show w1.heap[b0]?=some (.cells C 31 (0,0)) from X1.o.1.has (b0, 31,C) (by rw[HQ.o];simp))
  go_wp2_with fail
  refine (kU 43 _).mono ?_;rintro e w' ⟨rfl,rfl⟩
  go_wp2_with (refine bW l0.o LC.o rfl rfl rfl ?_)
  refine (CP.o w1 X1.o.2.1 HG.o).mono ?_;rintro e w2 ⟨V2,rfl,own,hb⟩;have F3:=zq (Jq (T := 57) X1.o.1 own hb);have R2:=zq (show b0+1+1+1<w1.heap.size/\w1.heap.size<=w2.heap.size from ⟨X1.o.2.2,hb.size⟩);have L2:=zq (iC own.led);have b2:=zq (Qd V2 L);unfold aB.val;clear own hb
  go_upto_region 4 with (go_big_may;refine yO (P:=Tryz.prog) (t := 57) (i:=0) (v:=.agg (V2.cells L)) (cs:=V2.cells L) rfl rfl rfl b2.o ?_)
  obtain⟨W3,hW3⟩:=Zn (w2.alloc (.cells (V2.cells L) 57));obtain⟨b4,hb4⟩:=Zn w2.heap.size;rw[<-hW3,<-hb4] at F3;have HB4:=zq hb4;have ND:=zq (show (b4::Q.map (·.1)).Nodup from (F3.o.at_.sub ((List.sublist_append_right bs0 Q).cons_cons _)).Qr);have CALL:=zq (HR.o HG.o W3 w1.heap.size b4 V2 Q F3.o);have eg:∀ (args:Array Value) (w:World),(callFunc g args).run Tryz.prog w=.ok (.enter g args) w:=EG.o;rw[<-hW3,<-hb4];clear hW3 hb4 b2 GD CP HR X1 l0
  go_wp2_with fail
  refine CALL.o.mono ?_;rintro e w4 ho;clear CALL F3 eg EG;rcases ho with ⟨he,rfl,V4,bs4,F4,hs4⟩|⟨he,rfl,bs4,A4,hs4⟩
  ·have A4':=zq (show At w w4 ((b4, 57,V4.cells r.led)::(b0+1, 31,aZ)::(b0+1+1, 3,#[.int .i64 0])::(b0+1+1+1, 35,#[.int .i64 0])::(bs1++[(b0, 31,C)])) from by
    rw[<-HQ.o];refine At.subset F4.at_ (fun x hx=>?_) ND.o;rcases List.mem_cons.1 hx with rfl|hx
    ·simp
    exact List.mem_cons_of_mem _ (hs4 x hx))
   have O4:=zq (And.intro F4.own F4.rb);have LN:=zq (HN.o HG.o he);have HE:=zq he;clear F4 he HN hs4;obtain⟨num,hnum⟩:=Zn r.num;have EN:=zq hnum;rw[<-hnum];clear hnum;have c2:=A4'.o.cell 2 rfl 0 rfl;have z2:=A4'.o.free 2 rfl 0
   go_upto_region 5 with (fail)
   obtain⟨W5,hW5⟩:=Zn (w4.setCell ⟨b0+1+1,0,none⟩ (.int .i64 num));have A5:=zq (show At w W5 ((b4, 57,V4.cells r.led)::(b0+1, 31,aZ)::(b0+1+1, 3,#[.int .i64 num])::(b0+1+1+1, 35,#[.int .i64 0])::(bs1++[(b0, 31,C)])) from by
    rw[hW5];exact A4'.o.setCell 2 rfl 0 (.int .i64 num))
   have O5:=zq (show bF W5 w1.heap.size V4 r.led from by
    rw[hW5];exact O4.o.1.mod ((Mod.refl (fun k=>k=b0+1+1) w4).setCell _ (fun _=>rfl)) (fun k hk _ e=>by have:=R2.o;omega))
   have L5:=zq (iC O5.o.led);have S5:=zq (show w1.heap.size<=W5.heap.size from by rw[hW5];exact Nat.le_trans O4.o.2 ((Mod.refl (fun k=>k=b0+1+1) w4).setCell _ (fun _=>rfl)).size);rw[<-hW5];clear hW5 c2 z2
   go_wp2_with (refine zk (A5.o.get 0 rfl) L5.o rfl rfl rfl ?_)
   refine (FL.o W5 V4 A5.o.low O5.o.led LN.o).mono ?_;obtain⟨M,er,hM⟩:∃ M er,gJ r.led=(M,er):=⟨_,_,rfl⟩;rw[hM];rintro e w6 ⟨U,rfl,own,hb⟩;have EM:=zq hM;have A6:=zq (A5.o.go hb);have O6:=zq own;have L6:=zq (iC own.led);have S6:=zq (show b0+1+1+1<W5.heap.size from by have:=R2.o;have:=S5.o;omega);unfold aB.val;clear own hb hM FL A5 O5 S5;have A7:=zq (A6.o.setRow 1 rfl (U.cells M));have c3:=A7.o.cell 3 rfl 0 rfl;have z3:=A7.o.free 3 rfl 0
   go_upto_region 6 with (refine aW (A6.o.get 1 rfl) bG L6.o rfl rfl rfl rfl ?_)
   obtain⟨W8,hW8⟩:=Zn ((w6.setRow (b0+1) (U.cells M)).setCell ⟨b0+1+1+1,0,none⟩ (.int .i64 er));have A8:=zq (show At w W8 ((b4, 57,V4.cells r.led)::(b0+1, 31,U.cells M)::(b0+1+1, 3,#[.int .i64 num])::(b0+1+1+1, 35,#[.int .i64 er])::(bs1++[(b0, 31,C)])) from by
    rw[hW8];exact A7.o.setCell 3 rfl 0 (.int .i64 er))
   have O8:=zq (show bF W8 W5.heap.size U M from by
    rw[hW8];have M1:=bJ (w:=w6) (b0+1) (U.cells M);have M2:=(Mod.refl (fun k=>k=b0+1+1+1) (w6.setRow (b0+1) (U.cells M))).setCell (p:=⟨b0+1+1+1,0,none⟩) (.int .i64 er) (fun _=>rfl);exact (O6.o.mod M1 (fun k hk _ e=>by have:=S6.o;omega)).mod M2 (fun k hk _ e=>by have:=S6.o;omega))
   rw[<-hW8];clear hW8 c3 z3 A6 A7 O6 L5;have r8:=zq (show vZ W8 (b0+1) (b0+1+1) (b0+1+1+1) (U.cells M) num er from ⟨A8.o.get 1 rfl,A8.o.get 2 rfl,A8.o.get 3 rfl⟩);have g3:W8.cell? ⟨b0+1+1+1,0,none⟩=some (.int .i64 er):=cell_of_heap r8.o.c 0;by_cases hz:er=0
   ·subst hz
    go_wp2_with fail
    refine (xA _).mono ?_;rintro e w' ⟨rfl,rfl⟩;clear g3
    go_upto_region 7 with (fail)
    have rD:=zq (r8.o.mod ((Mod.refl (fun _=>False) W8).drew) (fun h=>h) (fun h=>h) (fun h=>h));obtain⟨WD,hWD⟩:=Zn W8.drew;have AD:=zq (show At w WD _ from by rw[hWD];exact A8.o.drew);have OD:=zq (show bF WD W5.heap.size U M from by rw[hWD];exact O8.o.below ((Mod.refl (fun _=>False) W8).drew).aU);rw[<-hWD] at rD;have y2:∀ z:dh (fun W=>W=WD),z.w.cell? ⟨b0+1+1,0,none⟩=some (.int .i64 num):=fun z=>by rw[z.ok];exact cell_of_heap rD.o.b 0
    refine aI.aX (C:=fun w'=>∃ z:dh (fun W=>W=WD),w'=z.w) [2,3,4] [1] (.step 0 (.step 1 (.step 2 (.step 3 (.step 4 .leaf))))) (fun _ _ _=>False) (by kernel_rfl) (fun _ _ _ h=>h.elim) (by kernel_rfl) ⟨⟨W8.drew,hWD.symm⟩,rfl⟩ ?_;rw[<-hWD];clear hWD
    haveI ne:Nonempty (dh (fun W=>W=WD)):=⟨⟨WD,rfl⟩⟩
    refine aI.aC [0] (by kernel_rfl) ?_
    simp only[ay,nth]
    refine oh (cs:=U.cells M) (fun W hW=>by rw[hW];exact rD.o.a) L6.o rfl rfl rfl ?_;refine wpQuiet_nil ?_;go_simp;refine aI.bM [1] (by kernel_rfl) ?_
    simp only[ay,nth]
    repeat (go_big_quiet_step (fail))
    refine wpQuiet_nil ?_;clear y2;refine aI.aK (by kernel_rfl) rfl (fun K hK=>?_)
    simp only[ay,nth]
    refine oL rD.o.a L6.o L6.o rfl rfl rfl ?_;rw[DY rD.o.a];refine hK _ _ (fun _=>⟨⟨WD,rfl⟩,rfl⟩) ?_;clear hK;go_simp;have y2:=cell_of_heap rD.o.b 0;have z2:=aP rD.o.b 0;have k2:=dP (v:=.int .i64 num) y2;refine aI.aK (by kernel_rfl) rfl (fun K hK=>?_)
    simp only[ay,nth]
    refine aA ?_;go_simp;refine hK _ _ (fun _=>⟨⟨WD,rfl⟩,rfl⟩) ?_;clear hK y2 z2 k2;have y2:=cell_of_heap rD.o.c 0;have z2:=aP rD.o.c 0;have k2:=dP (v:=.int .i64 0) y2;refine aI.aK (by kernel_rfl) rfl (fun K hK=>?_)
    simp only[ay,nth]
    refine aA ?_;go_simp;refine hK _ _ (fun _=>⟨⟨WD,rfl⟩,rfl⟩) ?_;clear hK y2 z2 k2;refine aI.bH ?_
    go_wp2_with fail
    refine leaves_cons (f := 59) (args:=#[.pointer (some ⟨b0+1,0,none⟩),.pointer (some ⟨b0+1+1,0,none⟩),.pointer (some ⟨b0+1+1+1,0,none⟩)]) (by simp) (by simp[go_sem]) ?_;refine (Cc (b0+1) (b0+1+1) (b0+1+1+1) WD).mono ?_;rintro e u' w9 ⟨rfl,rfl,rfl⟩;refine⟨_,lH rfl _ _ rD.o L6.o rfl rfl rfl,?_⟩;have EA:jM L r=(M,num,0):=by rw[sG HG.o HE.o (by rw[EM.o]),EM.o,EN.o]
    rw[EA];refine⟨⟨U,rfl,OD.o.base (by have:=S6.o;have:=HB.o;omega)⟩,?_⟩;exact AD.o.sub (((List.sublist_append_left bs1 _).cons _).cons _ |>.cons _ |>.cons _)
   have HZ:=zq hz;clear hz
   go_wp2_with fail
   refine (uJ er HZ.o _).mono ?_;rintro e w' ⟨rfl,rfl⟩;clear g3
   go_wp2_with fail
   refine leaves_cons (f := 59) (args:=#[.pointer (some ⟨b0+1,0,none⟩),.pointer (some ⟨b0+1+1,0,none⟩),.pointer (some ⟨b0+1+1+1,0,none⟩)]) (by simp) (by simp[go_sem]) ?_;refine (mZ (b0+1) (b0+1+1) (b0+1+1+1) (by omega) (by omega) (by omega) W8 er (U.cells M) L6.o num er r8.o).mono ?_;rintro e u' w9 ⟨rfl,rfl,R9,m9⟩;have A9:=zq (show At w w9 bs1 from (A8.o.sub (((List.sublist_append_left bs1 _).cons _).cons _ |>.cons _ |>.cons _)).mod m9 (fun k hk=>by have:=HW.o;omega) (fun x hx hk=>by have:=HL.o x hx;omega));refine⟨_,lH rfl _ _ R9 bG rfl rfl rfl,?_⟩;rw[show jM L r=(L0,0,er) from by rw[uz HG.o HE.o (by rw[EM.o];exact HZ.o),EM.o]];exact⟨⟨V0,rfl,FW _ _⟩,A9.o⟩
  have HE:=zq he;have A4':=zq (show At w w4 ((b0+1, 31,aZ)::(b0+1+1, 3,#[.int .i64 0])::(b0+1+1+1, 35,#[.int .i64 0])::(bs1++[(b0, 31,C)])) from by
   rw[<-HQ.o];exact At.subset A4 hs4 (List.nodup_cons.1 ND.o).2)
  have r4:=zq (show vZ w4 (b0+1) (b0+1+1) (b0+1+1+1) aZ 0 0 from ⟨A4'.o.get 0 rfl,A4'.o.get 1 rfl,A4'.o.get 2 rfl⟩);clear he A4 hs4
  go_wp2_with fail
  refine leaves_cons (f := 59) (args:=#[.pointer (some ⟨b0+1,0,none⟩),.pointer (some ⟨b0+1+1,0,none⟩),.pointer (some ⟨b0+1+1+1,0,none⟩)]) (by simp) (by simp[go_sem]) ?_;refine (mZ (b0+1) (b0+1+1) (b0+1+1+1) (by omega) (by omega) (by omega) w4 r.err aZ bG 0 0 r4.o).mono ?_;rintro e u' w9 ⟨rfl,rfl,R9,m9⟩;have A9:=zq (show At w w9 bs1 from (A4'.o.sub (((List.sublist_append_left bs1 _).cons _).cons _ |>.cons _)).mod m9 (fun k hk=>by have:=HW.o;omega) (fun x hx hk=>by have:=HL.o x hx;omega));refine⟨_,lH rfl _ _ R9 bG rfl rfl rfl,?_⟩;rw[jk HG.o HE.o];exact⟨⟨V0,rfl,FW _ _⟩,A9.o⟩
 refine (GD.o W0 X0.o.2.1 false (decide_eq_false hg)).mono ?_;rintro e w1 ⟨rfl,hb⟩;have X1:=zq (show At w w1 ((b0+1, 31,aZ)::(b0+1+1, 3,#[.int .i64 0])::(b0+1+1+1, 35,#[.int .i64 0])::(bs1++[(b0, 31,C)])) from by
  rw[<-HQ.o];exact (X0.o.1.go hb).sub (List.sublist_append_right _ _))
 have r1:=zq (show vZ w1 (b0+1) (b0+1+1) (b0+1+1+1) aZ 0 0 from ⟨X1.o.get 0 rfl,X1.o.get 1 rfl,X1.o.get 2 rfl⟩);have HG:=zq hg;clear hb hg X0 l0
 go_wp2_with fail
 refine (fZ 43 _).mono ?_;rintro e w' ⟨rfl,rfl⟩
 go_wp2_with fail
 refine leaves_cons (f := 59) (args:=#[.pointer (some ⟨b0+1,0,none⟩),.pointer (some ⟨b0+1+1,0,none⟩),.pointer (some ⟨b0+1+1+1,0,none⟩)]) (by simp) (by simp[go_sem]) ?_;refine (mZ (b0+1) (b0+1+1) (b0+1+1+1) (by omega) (by omega) (by omega) w1 43 aZ bG 0 0 r1.o).mono ?_;rintro e u' w9 ⟨rfl,rfl,R9,m9⟩;have A9:=zq (show At w w9 bs1 from (X1.o.sub (((List.sublist_append_left bs1 _).cons _).cons _ |>.cons _)).mod m9 (fun k hk=>by have:=HW.o;omega) (fun x hx hk=>by have:=HL.o x hx;omega));refine⟨_,lH rfl _ _ R9 bG rfl rfl rfl,?_⟩;rw[sF HG.o];exact⟨⟨V0,rfl,FW _ _⟩,A9.o⟩
end Go.Proofs.YtcepekniflaoaaaGreatDoor

/- Joined: RCopy, SameS, RSame, RFlags, FlagsA. -/
import Derived.Test.YtcepekniflaoaaaGreatDoorGk
import Derived.Test.YtcepekniflaoaaaGreatDoorGa
import Derived.Laws.StructEq
import Derived.Test.YtcepekniflaoaaaGreatDoorGh
import Derived.Test.YtcepekniflaoaaaGreatDoorGp
import Derived.Test.YtcepekniflaoaaaGreatDoorGi
set_option linter.unusedVariables false
set_option linter.unusedSimpArgs false
set_option maxRecDepth 100000
set_option maxHeartbeats 16000000
namespace Go.Proofs.YtcepekniflaoaaaGreatDoor
open Go.RowKit Go.Bw Go.Maps Go.Shelf Go.Bw.Fall
theorem dM.swap {w w':World} {B:Nat} {l1 l2:List Value} {u u':Value} (h:dM w B (l1++u::l2)) (hs:w.heap.size<=w'.heap.size) (hB:B<=w.heap.size) (hu:∀ b,u'.ownBlock=some b->(u.ownBlock=some b\/w.heap.size<=b)/\b<w'.heap.size):dM w' B (l1++u'::l2):=by
 have hp:=h.pair;rw[List.pairwise_append,List.pairwise_cons] at hp;obtain⟨p1,⟨p2,p3⟩,p4⟩:=hp;have key:∀ x,x∈l1++u::l2->gW x u->gW x u':=fun x hx ha b h1 h2=>by
  rcases (hu b h2).1 with h3|h3
  ·exact ha b h1 h3
  have:=(h.lt x hx b h1).2;omega
 refine⟨?_,fun x hx b hb=>?_⟩
 ·rw[List.pairwise_append,List.pairwise_cons];refine⟨p1,⟨fun x hx=>(key x (by simp[hx]) (p2 x hx).symm).symm,p3⟩,fun x hx y hy=>?_⟩;rcases List.mem_cons.1 hy with rfl|hy
  ·exact key x (by simp[hx]) (p4 x hx u (by simp))
  exact p4 x hx y (by simp[hy])
 rcases List.mem_append.1 hx with hx|hx
 ·have:=h.lt x (by simp[hx]) b hb;omega
 rcases List.mem_cons.1 hx with rfl|hx
 ·have h1:=hu b hb;rcases h1.1 with h2|h2
  ·have:=h.lt u (by simp) b h2;omega
  omega
 have:=h.lt x (by simp[hx]) b hb;omega
structure KO (w:World) (R0 b1 b2 b3:Nat) (C1:Array Value) (L:aH) (v1 v2 v3:Value) (ac:List (Acc×Value)) (k:Nat) (va:Value) (acs:List (Acc×Value)) (W:World):Prop where
 at_:At w W [(b1, 31,C1),(b2, 31,aZ),(b3, 31,#[.int .i64 L.day,v1,v2,v3,va,.slice none 0 0,.slice none 0 0,.slice none 0 0,.slice none 0 0])]
 rb:R0<=W.heap.size
 aQ:aV W R0 86 2 gu.cells v1 L.aQ
 ah:aV W R0 48 4 dX.cells v2 L.ah
 af:aV W R0 66 7 Ins.cells v3 L.af
 ai:aV W R0 52 4 Acc.cells va acs
 same:acs.map (·.1)=(ac.take k).map (·.1)
 aT:∀ p∈acs,aV W R0 3 1 dw p.2 p.1.aT
 sep:dM W R0 ([v1,v2,v3]++va::acs.map (·.2))
theorem KO.next {w W Wm Wn:World} {R0 b1 b2 b3 k:Nat} {C1:Array Value} {L:aH} {v1 v2 v3 va va' x:Value} {ac acs:List (Acc×Value)} {p:Acc×Value} (h:KO w R0 b1 b2 b3 C1 L v1 v2 v3 ac k va acs W) (hk:ac[k]?=some p) (hR:b3<R0/\w.heap.size<=R0) (hb:Below W.heap.size W Wm)
 (ho:aV Wm W.heap.size 3 1 dw x p.1.aT) (hn:aV Wn R0 52 4 Acc.cells va' (acs++[(p.1,x)])) (hm:Mod (fun k=>va.ownBlock=some k) Wm Wn) (hbk:∀ k,va'.ownBlock=some k->va.ownBlock=some k\/Wm.heap.size<=k) (hbs:∀ y∈[b1,b2,b3],y<R0) :
 KO w R0 b1 b2 b3 C1 L v1 v2 v3 ac (k+1) va' (acs++[(p.1,x)]) (Wn.setCell ⟨b3,4,none⟩ va'):=by
 have M1:=Mod.of_below hb;have M2:Mod (fun k=>k=b3\/va.ownBlock=some k) Wm (Wn.setCell ⟨b3,4,none⟩ va'):=(hm.mono (fun _ _ h=>Or.inr h)).setCell _ (fun _=>Or.inl rfl);have low:∀ k,va.ownBlock=some k->R0<=k:=fun k hk=>(h.ai.lt k hk).1
 have s0:=(h.sep.add ho h.rb hb.size);rw[List.append_assoc,List.cons_append] at s0;have kp:∀ {α:Type} {n:Nat} {e:TypeId} {f:α->List Value} {u:Value} {l:List α},aV W R0 e n f u l->gW u va->aV (Wn.setCell ⟨b3,4,none⟩ va') R0 e n f u l:=fun o ha =>
  (o.mod M1 (fun _ _ h=>h)).mod M2 (fun k hk e=>by
   rcases e with rfl|e
   ·have:=(o.lt k hk).1;omega
   exact ha k hk e)
 obtain⟨_,q23,q4⟩:=List.pairwise_append.1 h.sep.pair;obtain⟨q2,_⟩:=List.pairwise_cons.1 q23;have OA:=h.at_.go hb;have at2:At w Wn [(b1, 31,C1),(b2, 31,aZ),(b3, 31,#[.int .i64 L.day,v1,v2,v3,va,.slice none 0 0,.slice none 0 0,.slice none 0 0,.slice none 0 0])]:=OA.mod hm (fun k hk=>by have:=low k hk;omega) (fun y hy e=>by
  have h1:=low _ e;have h2:=hbs y.1 (by simp at hy ⊢;rcases hy with rfl|rfl|rfl <;> simp);omega)
 have at3:=at2.setCell 2 rfl 4 va';refine⟨at3,Nat.le_trans h.rb (Nat.le_trans hb.size M2.size),kp h.aQ (q4 v1 (by simp) va (by simp)),kp h.ah (q4 v2 (by simp) va (by simp)),kp h.af (q4 v3 (by simp) va (by simp)),?_,?_,?_,?_⟩
 ·exact hn.mod ((Mod.refl (fun k=>k=b3) Wn).setCell _ (fun _=>rfl)) (fun k hk e=>by have:=(hn.lt k hk).1;omega)
 ·rw[List.map_append,h.same,List.take_add_one,hk];simp
 ·intro q hq;rcases List.mem_append.1 hq with hq|hq
  ·exact kp (h.aT q hq) (q2 q.2 (List.mem_map.2 ⟨q,hq,rfl⟩)).symm
  obtain rfl:=List.mem_singleton.1 hq;exact (ho.base h.rb).mod M2 (fun k hk e=>by
   have:=(ho.lt k hk).1;have hb:=h.rb;rcases e with rfl|e
   ·omega
   have:=(h.ai.lt k e).2;omega)
 rw[List.map_append];refine s0.swap M2.size (Nat.le_trans h.rb hb.size) (fun b hb'=>⟨hbk b hb',?_⟩);exact Nat.lt_of_lt_of_le (hn.lt b hb').2 (by simp[World.setCell])
theorem yK:Tryz.f48.results=#[.cell 2 31]:=by kernel_rfl
theorem qX (w:World) (V:aB) (L:aH) (h:bK w V L) (hb:L.bulk<=1000000) (hca:∀ a∈L.ai,a.aT.length*8<=140737488355328):Calls Tryz.prog 48 #[V.val L] w (wG w L):=by
 have HL:=zq (show L.ai=V.ac.map (·.1)/\(∀ u∈L.ah,u.name.size<=maxLen)/\(∀ a∈L.ai,∀ x∈a.aT,-9223372036854775808<=x/\x<=9223372036854775807) from ⟨h.same,h.names,h.nums⟩);have CS:=zq h.iV;have CH:=zq h.aT;have CA:=zq hca;have AL:=zq (show L.ai.length=V.ac.length from by have:=h.same;rw[this,List.length_map]);have HA:=zq (fun W (hW:Below w.heap.size w W)=>(h.below hW).ai);have G1:=zq (fun W (hW:Below w.heap.size w W)=>Lc W V.aQ L.aQ (h.below hW).aQ (by unfold aH.bulk at hb;omega));have G2:=zq (fun W (hW:Below w.heap.size w W)=>Eu W V.ah L.ah (h.below hW).ah (by unfold aH.bulk at hb;omega));have G3:=zq (fun W (hW:Below w.heap.size w W)=>Es W V.af L.af (h.below hW).af (by unfold aH.bulk at hb;omega));have G5:=zq (fun W (hW:Below w.heap.size w W)=>Le W V.au L.au (h.below hW).au (by unfold aH.bulk at hb;omega));have G6:=zq (fun W (hW:Below w.heap.size w W)=>Et W V.orders L.orders (h.below hW).orders (by unfold aH.bulk at hb;omega));have G7:=zq (fun W (hW:Below w.heap.size w W)=>AU W V.aG L.aG (h.below hW).aG (by unfold aH.bulk at hb;omega));have G8:=zq (fun W (hW:Below w.heap.size w W)=>Ld W V.aJ L.aJ (h.below hW).aJ (by unfold aH.bulk at hb;omega));obtain⟨a1,c1,a2,c2,a3,c3,a4,c4,a5,c5,a6,c6,a7,c7,a8,c8,e1,e2,e3,e4,e5,e6,e7,e8⟩:=bK.opened h;have m4:L.ai.length<=1000000:=by unfold aH.bulk at hb;omega
 unfold aB.val aB.cells;rw[e4] at HA;rw[e1,e2,e3,e4,e5,e6,e7,e8];rw[e1] at G1;rw[e2] at G2;rw[e3] at G3;rw[e5] at G5;rw[e6] at G6;rw[e7] at G7;rw[e8] at G8;obtain⟨n1,hn1⟩:=Zn L.aQ.length;rw[<-hn1] at G1;have LN1:=zq hn1;obtain⟨n2,hn2⟩:=Zn L.ah.length;rw[<-hn2] at G2;have LN2:=zq hn2;obtain⟨n3,hn3⟩:=Zn L.af.length;rw[<-hn3] at G3;have LN3:=zq hn3;obtain⟨n4,hn4⟩:=Zn L.ai.length;have LN4:=zq hn4;obtain⟨n5,hn5⟩:=Zn L.au.length;rw[<-hn5] at G5;have LN5:=zq hn5;obtain⟨n6,hn6⟩:=Zn L.orders.length;rw[<-hn6] at G6;have LN6:=zq hn6;obtain⟨n7,hn7⟩:=Zn L.aG.length;rw[<-hn7] at G7;have LN7:=zq hn7;obtain⟨n8,hn8⟩:=Zn L.aJ.length;rw[<-hn8] at G8;have LN8:=zq hn8;rw[<-hn1,<-hn2,<-hn3,<-hn4,<-hn5,<-hn6,<-hn7,<-hn8];rw[<-hn4] at m4 HA;have LCD:=zq (show mO #[.int .i64 L.day,.slice none 0 0,.slice none 0 0,.slice none 0 0,.slice none 0 0,.slice none 0 0,.slice none 0 0,.slice none 0 0,.slice none 0 0] from ⟨rfl,by simp[Value.oneCell']⟩);have A0:=zq ((((At.start w).alloc 31 #[.int .i64 L.day,.slice a1 n1 c1,.slice a2 n2 c2,.slice a3 n3 c3,.slice a4 n4 c4,.slice a5 n5 c5,.slice a6 n6 c6,.slice a7 n7 c7,.slice a8 n8 c8]).alloc 31 #[.int .i64 0,.slice none 0 0,.slice none 0 0,.slice none 0 0,.slice none 0 0,.slice none 0 0,.slice none 0 0,.slice none 0 0,.slice none 0 0]).alloc 31 #[.int .i64 L.day,.slice none 0 0,.slice none 0 0,.slice none 0 0,.slice none 0 0,.slice none 0 0,.slice none 0 0,.slice none 0 0,.slice none 0 0]);clear h hb hca e1 e2 e3 e4 e5 e6 e7 e8 hn1 hn2 hn3 hn4 hn5 hn6 hn7 hn8
 go_enter Tryz.func48,Tryz.ntmps48
 go_upto_region 2 with (refine aW (heap_alloc_last _ _) bG LCD.o rfl rfl rfl rfl ?_;rw[World.setRow_alloc_new])
 obtain⟨W0,hW0⟩:=Zn (((w.alloc (.cells #[.int .i64 L.day,.slice a1 n1 c1,.slice a2 n2 c2,.slice a3 n3 c3,.slice a4 n4 c4,.slice a5 n5 c5,.slice a6 n6 c6,.slice a7 n7 c7,.slice a8 n8 c8] 31)).alloc (.cells #[.int .i64 0,.slice none 0 0,.slice none 0 0,.slice none 0 0,.slice none 0 0,.slice none 0 0,.slice none 0 0,.slice none 0 0,.slice none 0 0] 31)).alloc (.cells #[.int .i64 L.day,.slice none 0 0,.slice none 0 0,.slice none 0 0,.slice none 0 0,.slice none 0 0,.slice none 0 0,.slice none 0 0,.slice none 0 0] 31));obtain⟨b1,hb1⟩:=Zn w.heap.size;obtain⟨b2,hb2⟩:=Zn (w.heap.size+1);obtain⟨b3,hb3⟩:=Zn (w.heap.size+1+1);obtain⟨R0,hR0⟩:=Zn W0.heap.size;have RL:=zq (show b1<R0/\b2<R0/\b3<R0/\R0=w.heap.size+3/\b1=w.heap.size/\b2=w.heap.size+1/\b3=w.heap.size+2 from by have:W0.heap.size=w.heap.size+3:=(by rw[hW0];simp);omega);rw[<-hW0,<-hb3,<-hb2,<-hb1];have XW0:=zq (show At w W0 [(b1, 31,#[.int .i64 L.day,.slice a1 n1 c1,.slice a2 n2 c2,.slice a3 n3 c3,.slice a4 n4 c4,.slice a5 n5 c5,.slice a6 n6 c6,.slice a7 n7 c7,.slice a8 n8 c8]),(b2, 31,aZ),(b3, 31,#[.int .i64 L.day,.slice none 0 0,.slice none 0 0,.slice none 0 0,.slice none 0 0,.slice none 0 0,.slice none 0 0,.slice none 0 0,.slice none 0 0])] from by
  have h:=A0.o;rw[<-hW0] at h
  simp at h
  rw[hb1,hb2,hb3];exact h)
 have PW0:=zq (dM.nil W0 R0);have RW0:=zq (show R0<=W0.heap.size from Nat.le_of_eq hR0);clear A0 hW0 hb1 hb2 hb3 hR0;obtain⟨v',w1,hrun,ho,hbb⟩:=G1.o W0 XW0.o.low;obtain⟨x1,k1,rfl,_⟩:=ho.form;rw[<-LN1.o] at ho hrun;have HR:=zq hrun;have XA:=zq (show At w (W0.alloc (.cells #[] 86)) [(b1, 31,#[.int .i64 L.day,.slice a1 n1 c1,.slice a2 n2 c2,.slice a3 n3 c3,.slice a4 n4 c4,.slice a5 n5 c5,.slice a6 n6 c6,.slice a7 n7 c7,.slice a8 n8 c8]),(b2, 31,aZ),(b3, 31,#[.int .i64 L.day,.slice none 0 0,.slice none 0 0,.slice none 0 0,.slice none 0 0,.slice none 0 0,.slice none 0 0,.slice none 0 0,.slice none 0 0])] from XW0.o.go (Zb));have yl:(W0.alloc (.cells #[] 86)).cell? ⟨b1,1,none⟩=some (.slice a1 n1 c1):=XA.o.cell 0 rfl 1 rfl;have XB:=zq (show At w w1 [(b1, 31,#[.int .i64 L.day,.slice a1 n1 c1,.slice a2 n2 c2,.slice a3 n3 c3,.slice a4 n4 c4,.slice a5 n5 c5,.slice a6 n6 c6,.slice a7 n7 c7,.slice a8 n8 c8]),(b2, 31,aZ),(b3, 31,#[.int .i64 L.day,.slice none 0 0,.slice none 0 0,.slice none 0 0,.slice none 0 0,.slice none 0 0,.slice none 0 0,.slice none 0 0,.slice none 0 0])] from XW0.o.go hbb);have yb:w1.cell? ⟨b3,1,none⟩=some (.slice none 0 0):=XB.o.cell 2 rfl 1 rfl;have zb:=XB.o.free 2 rfl 1;have HO:=zq ho;have HB:=zq hbb;clear ho hbb hrun
 go_upto_region 3 with (at_builtin;refine wpList_append_run rfl (.tmp 9) (.tmp 11) 22 rfl rfl rfl HR.o ?_)
 obtain⟨W1,hN⟩:=Zn (w1.setCell ⟨b3,1,none⟩ (.slice x1 n1 k1));rw[<-hN];have M1:=(Mod.refl (fun k=>k=b3) w1).setCell (p:=⟨b3,1,none⟩) (.slice x1 n1 k1) (fun _=>rfl);rw[<-hN] at M1;have M2:=zq (show Mod (fun k=>k=b3) W0 W1 from (Mod.mono (Mod.of_below HB.o) (fun _ _ h=>h.elim)).trans M1 (fun _ _ h=>h));have XW1:=zq (show At w W1 [(b1, 31,#[.int .i64 L.day,.slice a1 n1 c1,.slice a2 n2 c2,.slice a3 n3 c3,.slice a4 n4 c4,.slice a5 n5 c5,.slice a6 n6 c6,.slice a7 n7 c7,.slice a8 n8 c8]),(b2, 31,aZ),(b3, 31,#[.int .i64 L.day,.slice x1 n1 k1,.slice none 0 0,.slice none 0 0,.slice none 0 0,.slice none 0 0,.slice none 0 0,.slice none 0 0,.slice none 0 0])] from by rw[hN];exact XB.o.setCell 2 rfl 1 (.slice x1 n1 k1));have RW1:=zq (show R0<=W1.heap.size from Nat.le_trans RW0.o M2.o.size);have O1:=zq (show aV W1 R0 86 2 gu.cells (.slice x1 n1 k1) L.aQ from (HO.o.base RW0.o).mod M1 (fun k hk e=>by have h1:=(HO.o.lt k hk).1;have:=RW0.o;have:=RL.o;omega));have PW1:=zq (show dM W1 R0 ([.slice x1 n1 k1]) from dM.more (dM.add PW0.o HO.o RW0.o HB.o.size) M1.size);clear hN M1 XA yl XB yb zb HR HO HB M2 XW0 PW0 G1;obtain⟨v',w2,hrun,ho,hbb⟩:=G2.o W1 XW1.o.low;obtain⟨x2,k2,rfl,_⟩:=ho.form;rw[<-LN2.o] at ho hrun;have HR:=zq hrun;have XA:=zq (show At w (W1.alloc (.cells #[] 48)) [(b1, 31,#[.int .i64 L.day,.slice a1 n1 c1,.slice a2 n2 c2,.slice a3 n3 c3,.slice a4 n4 c4,.slice a5 n5 c5,.slice a6 n6 c6,.slice a7 n7 c7,.slice a8 n8 c8]),(b2, 31,aZ),(b3, 31,#[.int .i64 L.day,.slice x1 n1 k1,.slice none 0 0,.slice none 0 0,.slice none 0 0,.slice none 0 0,.slice none 0 0,.slice none 0 0,.slice none 0 0])] from XW1.o.go (Zb));have yl:(W1.alloc (.cells #[] 48)).cell? ⟨b1,2,none⟩=some (.slice a2 n2 c2):=XA.o.cell 0 rfl 2 rfl;have XB:=zq (show At w w2 [(b1, 31,#[.int .i64 L.day,.slice a1 n1 c1,.slice a2 n2 c2,.slice a3 n3 c3,.slice a4 n4 c4,.slice a5 n5 c5,.slice a6 n6 c6,.slice a7 n7 c7,.slice a8 n8 c8]),(b2, 31,aZ),(b3, 31,#[.int .i64 L.day,.slice x1 n1 k1,.slice none 0 0,.slice none 0 0,.slice none 0 0,.slice none 0 0,.slice none 0 0,.slice none 0 0,.slice none 0 0])] from XW1.o.go hbb);have yb:w2.cell? ⟨b3,2,none⟩=some (.slice none 0 0):=XB.o.cell 2 rfl 2 rfl;have zb:=XB.o.free 2 rfl 2;have HO:=zq ho;have HB:=zq hbb;clear ho hbb hrun
 go_upto_region 4 with (at_builtin;refine wpList_append_run rfl (.tmp 14) (.tmp 16) 23 rfl rfl rfl HR.o ?_)
 obtain⟨W2,hN⟩:=Zn (w2.setCell ⟨b3,2,none⟩ (.slice x2 n2 k2));rw[<-hN];have M1:=(Mod.refl (fun k=>k=b3) w2).setCell (p:=⟨b3,2,none⟩) (.slice x2 n2 k2) (fun _=>rfl);rw[<-hN] at M1;have M2:=zq (show Mod (fun k=>k=b3) W1 W2 from (Mod.mono (Mod.of_below HB.o) (fun _ _ h=>h.elim)).trans M1 (fun _ _ h=>h));have XW2:=zq (show At w W2 [(b1, 31,#[.int .i64 L.day,.slice a1 n1 c1,.slice a2 n2 c2,.slice a3 n3 c3,.slice a4 n4 c4,.slice a5 n5 c5,.slice a6 n6 c6,.slice a7 n7 c7,.slice a8 n8 c8]),(b2, 31,aZ),(b3, 31,#[.int .i64 L.day,.slice x1 n1 k1,.slice x2 n2 k2,.slice none 0 0,.slice none 0 0,.slice none 0 0,.slice none 0 0,.slice none 0 0,.slice none 0 0])] from by rw[hN];exact XB.o.setCell 2 rfl 2 (.slice x2 n2 k2));have RW2:=zq (show R0<=W2.heap.size from Nat.le_trans RW1.o M2.o.size);have O1:=zq (O1.o.mod M2.o (fun k hk e=>by have h1:=(O1.o.lt k hk).1;have:=RL.o;omega));have O2:=zq (show aV W2 R0 48 4 dX.cells (.slice x2 n2 k2) L.ah from (HO.o.base RW1.o).mod M1 (fun k hk e=>by have h1:=(HO.o.lt k hk).1;have:=RW1.o;have:=RL.o;omega));have PW2:=zq (show dM W2 R0 ([.slice x1 n1 k1,.slice x2 n2 k2]) from dM.more (dM.add PW1.o HO.o RW1.o HB.o.size) M1.size);clear hN M1 XA yl XB yb zb HR HO HB M2 XW1 PW1 G2;obtain⟨v',w3,hrun,ho,hbb⟩:=G3.o W2 XW2.o.low;obtain⟨x3,k3,rfl,_⟩:=ho.form;rw[<-LN3.o] at ho hrun;have HR:=zq hrun;have XA:=zq (show At w (W2.alloc (.cells #[] 66)) [(b1, 31,#[.int .i64 L.day,.slice a1 n1 c1,.slice a2 n2 c2,.slice a3 n3 c3,.slice a4 n4 c4,.slice a5 n5 c5,.slice a6 n6 c6,.slice a7 n7 c7,.slice a8 n8 c8]),(b2, 31,aZ),(b3, 31,#[.int .i64 L.day,.slice x1 n1 k1,.slice x2 n2 k2,.slice none 0 0,.slice none 0 0,.slice none 0 0,.slice none 0 0,.slice none 0 0,.slice none 0 0])] from XW2.o.go (Zb));have yl:(W2.alloc (.cells #[] 66)).cell? ⟨b1,3,none⟩=some (.slice a3 n3 c3):=XA.o.cell 0 rfl 3 rfl;have XB:=zq (show At w w3 [(b1, 31,#[.int .i64 L.day,.slice a1 n1 c1,.slice a2 n2 c2,.slice a3 n3 c3,.slice a4 n4 c4,.slice a5 n5 c5,.slice a6 n6 c6,.slice a7 n7 c7,.slice a8 n8 c8]),(b2, 31,aZ),(b3, 31,#[.int .i64 L.day,.slice x1 n1 k1,.slice x2 n2 k2,.slice none 0 0,.slice none 0 0,.slice none 0 0,.slice none 0 0,.slice none 0 0,.slice none 0 0])] from XW2.o.go hbb);have yb:w3.cell? ⟨b3,3,none⟩=some (.slice none 0 0):=XB.o.cell 2 rfl 3 rfl;have zb:=XB.o.free 2 rfl 3;have HO:=zq ho;have HB:=zq hbb;clear ho hbb hrun
 go_upto_region 5 with (at_builtin;refine wpList_append_run rfl (.tmp 19) (.tmp 21) 24 rfl rfl rfl HR.o ?_)
 obtain⟨W3,hN⟩:=Zn (w3.setCell ⟨b3,3,none⟩ (.slice x3 n3 k3));rw[<-hN];have M1:=(Mod.refl (fun k=>k=b3) w3).setCell (p:=⟨b3,3,none⟩) (.slice x3 n3 k3) (fun _=>rfl);rw[<-hN] at M1;have M2:=zq (show Mod (fun k=>k=b3) W2 W3 from (Mod.mono (Mod.of_below HB.o) (fun _ _ h=>h.elim)).trans M1 (fun _ _ h=>h));have XW3:=zq (show At w W3 [(b1, 31,#[.int .i64 L.day,.slice a1 n1 c1,.slice a2 n2 c2,.slice a3 n3 c3,.slice a4 n4 c4,.slice a5 n5 c5,.slice a6 n6 c6,.slice a7 n7 c7,.slice a8 n8 c8]),(b2, 31,aZ),(b3, 31,#[.int .i64 L.day,.slice x1 n1 k1,.slice x2 n2 k2,.slice x3 n3 k3,.slice none 0 0,.slice none 0 0,.slice none 0 0,.slice none 0 0,.slice none 0 0])] from by rw[hN];exact XB.o.setCell 2 rfl 3 (.slice x3 n3 k3));have RW3:=zq (show R0<=W3.heap.size from Nat.le_trans RW2.o M2.o.size);have O1:=zq (O1.o.mod M2.o (fun k hk e=>by have h1:=(O1.o.lt k hk).1;have:=RL.o;omega));have O2:=zq (O2.o.mod M2.o (fun k hk e=>by have h1:=(O2.o.lt k hk).1;have:=RL.o;omega));have O3:=zq (show aV W3 R0 66 7 Ins.cells (.slice x3 n3 k3) L.af from (HO.o.base RW2.o).mod M1 (fun k hk e=>by have h1:=(HO.o.lt k hk).1;have:=RW2.o;have:=RL.o;omega));have PW3:=zq (show dM W3 R0 ([.slice x1 n1 k1,.slice x2 n2 k2,.slice x3 n3 k3]) from dM.more (dM.add PW2.o HO.o RW2.o HB.o.size) M1.size);clear hN M1 XA yl XB yb zb HR HO HB M2 XW2 PW2 G3;have y4:W3.cell? ⟨b1,4,none⟩=some (.slice a4 n4 c4):=XW3.o.cell 0 rfl 4 rfl;have RC:=zq (show KO w R0 b1 b2 b3 #[.int .i64 L.day,.slice a1 n1 c1,.slice a2 n2 c2,.slice a3 n3 c3,.slice a4 n4 c4,.slice a5 n5 c5,.slice a6 n6 c6,.slice a7 n7 c7,.slice a8 n8 c8] L (.slice x1 n1 k1) (.slice x2 n2 k2) (.slice x3 n3 k3) V.ac 0 (.slice none 0 0) [] W3 from ⟨XW3.o,RW3.o,O1.o,O2.o,O3.o,aV.nil _ _ _ _ _,rfl,by simp,by
  have h:=PW3.o;refine⟨?_,fun u hu b hb=>?_⟩
  ·rw[List.pairwise_append];exact⟨h.pair,by simp,fun x hx y hy b _ hb=>by simp at hy;subst hy;simp[Value.ownBlock] at hb⟩
  rcases List.mem_append.1 hu with hu|hu
  ·exact h.lt u hu b hb
  simp at hu;subst hu;simp[Value.ownBlock] at hb⟩)
 clear O1 O2 O3 XW3 RW3 PW3 RW0 RW1 RW2
 go_wp2_with fail
 go_loopw [27] (fun i wr=>∃ k:Nat,k<=n4/\i=.int .i64 k/\∃ va acs W,W=wr/\Hid (KO w R0 b1 b2 b3 #[.int .i64 L.day,.slice a1 n1 c1,.slice a2 n2 c2,.slice a3 n3 c3,.slice a4 n4 c4,.slice a5 n5 c5,.slice a6 n6 c6,.slice a7 n7 c7,.slice a8 n8 c8] L (.slice x1 n1 k1) (.slice x2 n2 k2) (.slice x3 n3 k3) V.ac k va acs W)) (fun i _=>n4 - (intOf i).toNat)
 case atStart=>exact⟨0,Nat.zero_le _,rfl,_,_,_,rfl,RC⟩
 clear RC y4;obtain⟨k,hk,rfl,va,acs,W,rfl,RC⟩:=hrel;by_cases hlt:k<n4
 ·have hlt':(k:Int)<(n4:Int):=by omega
  have LT:=zq hlt;obtain⟨p,hp⟩:∃ p,V.ac[k]?=some p:=⟨_,Zg (by have:=AL.o;have:=LN4.o;omega)⟩;have HP:=zq hp;have CR:=zq (CH.o p (List.mem_of_getElem? hp));have CN:=zq (CA.o p.1 (by rw[HL.o.1];exact List.mem_map.2 ⟨p,List.mem_of_getElem? hp,rfl⟩));obtain⟨pa,pn,pc,hpv⟩:=CS.o p (List.mem_of_getElem? hp);obtain⟨q,pv⟩:=p;obtain rfl:pv=.slice pa pn pc:=hpv;obtain⟨b,o,e,hbl,hc⟩:=(HA.o W RC.o.at_.low).at_ hp;have cc0:=hc 0 (.int .i64 q.parent) rfl;have cc1:=hc 1 (.slice pa pn pc) rfl;have cc2:=hc 2 (.bool q.flag) rfl;have cc3:=hc 3 (.int .i64 q.last) rfl;rw[Nat.add_zero] at cc0;subst e;clear hc hbl hp;obtain⟨xa,ka,rfl,_⟩:=RC.o.ai.form;obtain⟨na,hna⟩:=Zn acs.length;rw[<-hna] at RC;have LA:=zq (show na=k from by have h1:=congrArg List.length RC.o.same;simp at h1;have:=AL.o;have:=LN4.o;have:=LT.o;omega);have NA:=zq hna;clear hna
  go_upto_region 8 with (fail)
  obtain⟨b5,hb5⟩:=Zn W.heap.size;obtain⟨W5,hW5⟩:=Zn (W.alloc (.cells #[.int .i64 q.parent,.slice pa pn pc,.bool q.flag,.int .i64 q.last] 52));have X5:=zq (show At w W5 [(b1, 31,#[.int .i64 L.day,.slice a1 n1 c1,.slice a2 n2 c2,.slice a3 n3 c3,.slice (some ⟨b,o,none⟩) n4 c4,.slice a5 n5 c5,.slice a6 n6 c6,.slice a7 n7 c7,.slice a8 n8 c8]),(b2, 31,#[.int .i64 0,.slice none 0 0,.slice none 0 0,.slice none 0 0,.slice none 0 0,.slice none 0 0,.slice none 0 0,.slice none 0 0,.slice none 0 0]),(b3, 31,#[.int .i64 L.day,.slice x1 n1 k1,.slice x2 n2 k2,.slice x3 n3 k3,.slice xa na ka,.slice none 0 0,.slice none 0 0,.slice none 0 0,.slice none 0 0]),(b5, 52,#[.int .i64 q.parent,.slice pa pn pc,.bool q.flag,.int .i64 q.last])] from by rw[hW5,hb5];exact RC.o.at_.alloc _ _);have S5:=zq (show Below W.heap.size W W5/\W.heap.size<=W5.heap.size from by rw[hW5];exact⟨Zb,by simp⟩);rw[<-hW5,<-hb5];clear hW5 hb5 cc0 cc1 cc2 cc3;have D5:=zq (show Below W5.heap.size W5 W5.drew from ((Mod.refl (fun _=>False) W5).drew).aU);have CR5:=zq (CR.o.below ((X5.o.go D5.o).low));obtain⟨v',w6,hrun,ho,hbb⟩:=AU W5.drew (.slice pa pn pc) q.aT CR5.o CN.o;obtain⟨x5,k5,rfl,_⟩:=ho.form;obtain⟨n5',hn5'⟩:=Zn q.aT.length;rw[<-hn5'] at ho hrun;have HR:=zq hrun;have HO:=zq ho;have HB:=zq (show Below W5.heap.size W5 w6 from D5.o.trans hbb);have X6:=zq (X5.o.go HB.o);have OA6:=zq ((RC.o.ai.below S5.o.1).below HB.o);have R6:=zq (show R0<=w6.heap.size from Nat.le_trans RC.o.rb (Nat.le_trans S5.o.2 HB.o.size));obtain⟨va7,w7,hrun7,ho7,hm7,hb7⟩:=Jb w6 R0 (.slice xa na ka) acs OA6.o R6.o (q,.slice x5 n5' k5) rfl #[.int .i64 q.parent,.slice x5 n5' k5,.bool q.flag,.int .i64 q.last] rfl (by rw[<-NA.o,LA.o];omega);obtain⟨x7,k7,hv7,_⟩:=ho7.form;rw[List.length_append,<-NA.o] at hv7;subst hv7;have HR7:=zq hrun7;have HO7:=zq ho7;have HM7:=zq hm7;have HB7:=zq hb7;have NXT:=zq (RC.o.next HP.o (by have:=RL.o;omega) (S5.o.1.trans (HB.o.mono S5.o.2)) (HO.o.base S5.o.2) HO7.o HM7.o HB7.o (by intro y hy;have:=RL.o;simp at hy;rcases hy with rfl|rfl|rfl <;> omega));clear ho hbb hrun hn5' hrun7 ho7 hm7 hb7;have X7:=zq (show w7.cell? ⟨b3,4,none⟩=some (.slice xa na ka)/\w7.frozen? ⟨b3,4,none⟩=false from by
   have h1:w7.heap[b3]?=_:=HM7.o.heap (X6.o.get 2 rfl) (fun e=>by have:=(RC.o.ai.lt b3 e).1;have:=RL.o;omega);exact⟨(cell_of_heap h1 4).trans rfl,aP h1 4⟩)
  have y3:∀ z:dh (fun w'=>Below W5.heap.size W5 w'),z.w.cell? ⟨b3,4,none⟩=some (.slice xa na ka):=fun z=>(X5.o.go z.ok).cell 2 rfl 4 rfl
  have z0:∀ z:dh (fun w'=>Below W5.heap.size W5 w'),z.w.cell? ⟨b5,0,none⟩=some (.int .i64 q.parent):=fun z=>(X5.o.go z.ok).cell 3 rfl 0 rfl
  have z1:∀ z:dh (fun w'=>Below W5.heap.size W5 w'),z.w.cell? ⟨b5,1,none⟩=some (.slice pa pn pc):=fun z=>(X5.o.go z.ok).cell 3 rfl 1 rfl
  have z2:∀ z:dh (fun w'=>Below W5.heap.size W5 w'),z.w.cell? ⟨b5,2,none⟩=some (.bool q.flag):=fun z=>(X5.o.go z.ok).cell 3 rfl 2 rfl
  have z3:∀ z:dh (fun w'=>Below W5.heap.size W5 w'),z.w.cell? ⟨b5,3,none⟩=some (.int .i64 q.last):=fun z=>(X5.o.go z.ok).cell 3 rfl 3 rfl
  refine aI.aX (C:=fun w'=>∃ z:dh (fun w'=>Below W5.heap.size W5 w'),w'=z.w) [4,7,13,14,16] [0,1,2,3,5,6,8,9,10,11] (.step 0 (.step 1 (.step 2 (.step 3 (.step 5 (.step 6 (.step 8 (.step 9 (.step 10 (.step 11 (.step 4 (.step 7 (.step 12 (.step 13 (.step 14 (.step 15 (.step 16 .leaf))))))))))))))))) (fun _ _ _=>False) (by kernel_rfl) (fun _ _ _ h=>h.elim) (by kernel_rfl) ⟨⟨W5.drew,D5.o⟩,rfl⟩ ?_
  haveI ne:Nonempty (dh (fun w'=>Below W5.heap.size W5 w')):=⟨⟨W5,Below.refl _ _⟩⟩
  refine aI.bM [0,1,2,3,5,6,8,9,10,11] (by kernel_rfl) ?_
  simp only[ay,nth]
  repeat (go_big_quiet_step (fail))
  refine wpQuiet_nil ?_;clear y3 z0 z1 z2 z3;refine aI.aK (by kernel_rfl) rfl (fun K hK=>?_)
  simp only[ay,nth]
  refine aA ?_;go_simp;refine hK _ _ (fun _=>⟨⟨W5.drew.alloc (.cells #[] 3),D5.o.alloc D5.o.size _⟩,rfl⟩) ?_;clear hK;refine aI.aK (by kernel_rfl) rfl (fun K hK=>?_)
  simp only[ay,nth]
  refine aA ?_;refine wp_append_run (.tmp 35) (.tmp 37) 28 rfl rfl rfl HR.o ?_;go_simp;refine hK _ _ (fun _=>⟨⟨w6,HB.o⟩,rfl⟩) ?_;clear hK;refine aI.aC [12] (by kernel_rfl) ?_
  simp only[ay,nth]
  repeat (go_big_quiet_step (fail))
  refine wpQuiet_nil ?_;refine aI.aK (by kernel_rfl) rfl (fun K hK=>?_)
  simp only[ay,nth]
  refine aA ?_;go_simp;refine hK _ _ (fun _=>⟨⟨w6.alloc (.cells #[.int .i64 q.parent,.slice x5 n5' k5,.bool q.flag,.int .i64 q.last] 52),HB.o.alloc HB.o.size _⟩,rfl⟩) ?_;clear hK;refine aI.dm (by kernel_rfl) rfl (by kernel_rfl) (fun K hK=>?_)
  simp only[ay,nth]
  refine aA ?_;refine wp_append_run (.tmp 32) (.tmp 44) 25 rfl rfl rfl HR7.o ?_;go_simp;refine hK _ _ ?_;clear hK;refine aI.aC [15] (by kernel_rfl) ?_
  simp only[ay,nth]
  repeat (go_big_quiet_step (fail))
  refine wpQuiet_nil ?_;have g:=X7.o.1;have z:=X7.o.2;refine aI.dm (by kernel_rfl) rfl (by kernel_rfl) (fun K hK=>?_)
  simp only[ay,nth]
  refine aA ?_;go_simp;refine hK _ _ ?_;clear hK g z;refine aI.bH ?_
  go_wp2_with fail
  go_roundw
  case rel=>exact⟨k+1,by have:=LT.o;omega,by go_num,_,_,_,rfl,NXT⟩
  case measure=>have:=LT.o;simp[intOf];omega
 have hlt':¬ (k:Int)<(n4:Int):=by omega
 obtain rfl:n4=k:=by omega
 obtain⟨x4,k4,rfl,_⟩:=RC.o.ai.form;have LA:=zq (show acs.length=n4 from by have h1:=congrArg List.length RC.o.same;simp at h1;have:=AL.o;have:=LN4.o;omega);have SA:=zq (show L.ai=acs.map (·.1) from by rw[HL.o.1,RC.o.same,List.take_of_length_le (by have:=AL.o;have:=LN4.o;omega)]);rw[LA.o] at RC;have XW:=zq (show At w W [(b1, 31,#[.int .i64 L.day,.slice a1 n1 c1,.slice a2 n2 c2,.slice a3 n3 c3,.slice a4 n4 c4,.slice a5 n5 c5,.slice a6 n6 c6,.slice a7 n7 c7,.slice a8 n8 c8]),(b2, 31,aZ),(b3, 31,#[.int .i64 L.day,.slice x1 n1 k1,.slice x2 n2 k2,.slice x3 n3 k3,.slice x4 n4 k4,.slice none 0 0,.slice none 0 0,.slice none 0 0,.slice none 0 0])] from RC.o.at_);have RW:=zq RC.o.rb;have O1:=zq RC.o.aQ;have O2:=zq RC.o.ah;have O3:=zq RC.o.af;have O4:=zq RC.o.ai;have OC:=zq RC.o.aT;have PW:=zq RC.o.sep;clear RC;obtain⟨v',w5,hrun,ho,hbb⟩:=G5.o W XW.o.low;obtain⟨x5,k5,rfl,_⟩:=ho.form;rw[<-LN5.o] at ho hrun;have HR:=zq hrun;have XA:=zq (show At w (W.alloc (.cells #[] 50)) [(b1, 31,#[.int .i64 L.day,.slice a1 n1 c1,.slice a2 n2 c2,.slice a3 n3 c3,.slice a4 n4 c4,.slice a5 n5 c5,.slice a6 n6 c6,.slice a7 n7 c7,.slice a8 n8 c8]),(b2, 31,aZ),(b3, 31,#[.int .i64 L.day,.slice x1 n1 k1,.slice x2 n2 k2,.slice x3 n3 k3,.slice x4 n4 k4,.slice none 0 0,.slice none 0 0,.slice none 0 0,.slice none 0 0])] from XW.o.go (Zb));have yl:(W.alloc (.cells #[] 50)).cell? ⟨b1,5,none⟩=some (.slice a5 n5 c5):=XA.o.cell 0 rfl 5 rfl;have XB:=zq (show At w w5 [(b1, 31,#[.int .i64 L.day,.slice a1 n1 c1,.slice a2 n2 c2,.slice a3 n3 c3,.slice a4 n4 c4,.slice a5 n5 c5,.slice a6 n6 c6,.slice a7 n7 c7,.slice a8 n8 c8]),(b2, 31,aZ),(b3, 31,#[.int .i64 L.day,.slice x1 n1 k1,.slice x2 n2 k2,.slice x3 n3 k3,.slice x4 n4 k4,.slice none 0 0,.slice none 0 0,.slice none 0 0,.slice none 0 0])] from XW.o.go hbb);have yb:w5.cell? ⟨b3,5,none⟩=some (.slice none 0 0):=XB.o.cell 2 rfl 5 rfl;have zb:=XB.o.free 2 rfl 5;have HO:=zq ho;have HB:=zq hbb;clear ho hbb hrun
 go_upto_region 11 with (at_builtin;refine wpList_append_run rfl (.tmp 48) (.tmp 50) 26 rfl rfl rfl HR.o ?_)
 obtain⟨W5,hN⟩:=Zn (w5.setCell ⟨b3,5,none⟩ (.slice x5 n5 k5));rw[<-hN];have M1:=(Mod.refl (fun k=>k=b3) w5).setCell (p:=⟨b3,5,none⟩) (.slice x5 n5 k5) (fun _=>rfl);rw[<-hN] at M1;have M2:=zq (show Mod (fun k=>k=b3) W W5 from (Mod.mono (Mod.of_below HB.o) (fun _ _ h=>h.elim)).trans M1 (fun _ _ h=>h));have XW5:=zq (show At w W5 [(b1, 31,#[.int .i64 L.day,.slice a1 n1 c1,.slice a2 n2 c2,.slice a3 n3 c3,.slice a4 n4 c4,.slice a5 n5 c5,.slice a6 n6 c6,.slice a7 n7 c7,.slice a8 n8 c8]),(b2, 31,aZ),(b3, 31,#[.int .i64 L.day,.slice x1 n1 k1,.slice x2 n2 k2,.slice x3 n3 k3,.slice x4 n4 k4,.slice x5 n5 k5,.slice none 0 0,.slice none 0 0,.slice none 0 0])] from by rw[hN];exact XB.o.setCell 2 rfl 5 (.slice x5 n5 k5));have RW5:=zq (show R0<=W5.heap.size from Nat.le_trans RW.o M2.o.size);have O1:=zq (O1.o.mod M2.o (fun k hk e=>by have h1:=(O1.o.lt k hk).1;have:=RL.o;omega));have O2:=zq (O2.o.mod M2.o (fun k hk e=>by have h1:=(O2.o.lt k hk).1;have:=RL.o;omega));have O3:=zq (O3.o.mod M2.o (fun k hk e=>by have h1:=(O3.o.lt k hk).1;have:=RL.o;omega));have O5:=zq (show aV W5 R0 50 3 Pos.cells (.slice x5 n5 k5) L.au from (HO.o.base RW.o).mod M1 (fun k hk e=>by have h1:=(HO.o.lt k hk).1;have:=RW.o;have:=RL.o;omega));have O4:=zq (O4.o.mod M2.o (fun k hk e=>by have h1:=(O4.o.lt k hk).1;have:=RL.o;omega));have OC:=zq (fun p hp=>(OC.o p hp).mod M2.o (fun k hk e=>by have h1:=((OC.o p hp).lt k hk).1;have:=RL.o;omega));have PW5:=zq (dM.more (dM.add PW.o HO.o RW.o HB.o.size) M1.size);clear hN M1 XA yl XB yb zb HR HO HB M2 XW PW G5;obtain⟨v',w6,hrun,ho,hbb⟩:=G6.o W5 XW5.o.low;obtain⟨x6,k6,rfl,_⟩:=ho.form;rw[<-LN6.o] at ho hrun;have HR:=zq hrun;have XA:=zq (show At w (W5.alloc (.cells #[] 74)) [(b1, 31,#[.int .i64 L.day,.slice a1 n1 c1,.slice a2 n2 c2,.slice a3 n3 c3,.slice a4 n4 c4,.slice a5 n5 c5,.slice a6 n6 c6,.slice a7 n7 c7,.slice a8 n8 c8]),(b2, 31,aZ),(b3, 31,#[.int .i64 L.day,.slice x1 n1 k1,.slice x2 n2 k2,.slice x3 n3 k3,.slice x4 n4 k4,.slice x5 n5 k5,.slice none 0 0,.slice none 0 0,.slice none 0 0])] from XW5.o.go (Zb));have yl:(W5.alloc (.cells #[] 74)).cell? ⟨b1,6,none⟩=some (.slice a6 n6 c6):=XA.o.cell 0 rfl 6 rfl;have XB:=zq (show At w w6 [(b1, 31,#[.int .i64 L.day,.slice a1 n1 c1,.slice a2 n2 c2,.slice a3 n3 c3,.slice a4 n4 c4,.slice a5 n5 c5,.slice a6 n6 c6,.slice a7 n7 c7,.slice a8 n8 c8]),(b2, 31,aZ),(b3, 31,#[.int .i64 L.day,.slice x1 n1 k1,.slice x2 n2 k2,.slice x3 n3 k3,.slice x4 n4 k4,.slice x5 n5 k5,.slice none 0 0,.slice none 0 0,.slice none 0 0])] from XW5.o.go hbb);have yb:w6.cell? ⟨b3,6,none⟩=some (.slice none 0 0):=XB.o.cell 2 rfl 6 rfl;have zb:=XB.o.free 2 rfl 6;have HO:=zq ho;have HB:=zq hbb;clear ho hbb hrun
 go_upto_region 12 with (at_builtin;refine wpList_append_run rfl (.tmp 53) (.tmp 55) 27 rfl rfl rfl HR.o ?_)
 obtain⟨W6,hN⟩:=Zn (w6.setCell ⟨b3,6,none⟩ (.slice x6 n6 k6));rw[<-hN];have M1:=(Mod.refl (fun k=>k=b3) w6).setCell (p:=⟨b3,6,none⟩) (.slice x6 n6 k6) (fun _=>rfl);rw[<-hN] at M1;have M2:=zq (show Mod (fun k=>k=b3) W5 W6 from (Mod.mono (Mod.of_below HB.o) (fun _ _ h=>h.elim)).trans M1 (fun _ _ h=>h));have XW6:=zq (show At w W6 [(b1, 31,#[.int .i64 L.day,.slice a1 n1 c1,.slice a2 n2 c2,.slice a3 n3 c3,.slice a4 n4 c4,.slice a5 n5 c5,.slice a6 n6 c6,.slice a7 n7 c7,.slice a8 n8 c8]),(b2, 31,aZ),(b3, 31,#[.int .i64 L.day,.slice x1 n1 k1,.slice x2 n2 k2,.slice x3 n3 k3,.slice x4 n4 k4,.slice x5 n5 k5,.slice x6 n6 k6,.slice none 0 0,.slice none 0 0])] from by rw[hN];exact XB.o.setCell 2 rfl 6 (.slice x6 n6 k6));have RW6:=zq (show R0<=W6.heap.size from Nat.le_trans RW5.o M2.o.size);have O1:=zq (O1.o.mod M2.o (fun k hk e=>by have h1:=(O1.o.lt k hk).1;have:=RL.o;omega));have O2:=zq (O2.o.mod M2.o (fun k hk e=>by have h1:=(O2.o.lt k hk).1;have:=RL.o;omega));have O3:=zq (O3.o.mod M2.o (fun k hk e=>by have h1:=(O3.o.lt k hk).1;have:=RL.o;omega));have O5:=zq (O5.o.mod M2.o (fun k hk e=>by have h1:=(O5.o.lt k hk).1;have:=RL.o;omega));have O6:=zq (show aV W6 R0 74 5 Ord.cells (.slice x6 n6 k6) L.orders from (HO.o.base RW5.o).mod M1 (fun k hk e=>by have h1:=(HO.o.lt k hk).1;have:=RW5.o;have:=RL.o;omega));have O4:=zq (O4.o.mod M2.o (fun k hk e=>by have h1:=(O4.o.lt k hk).1;have:=RL.o;omega));have OC:=zq (fun p hp=>(OC.o p hp).mod M2.o (fun k hk e=>by have h1:=((OC.o p hp).lt k hk).1;have:=RL.o;omega));have PW6:=zq (dM.more (dM.add PW5.o HO.o RW5.o HB.o.size) M1.size);clear hN M1 XA yl XB yb zb HR HO HB M2 XW5 PW5 G6;obtain⟨v',w7,hrun,ho,hbb⟩:=G7.o W6 XW6.o.low;obtain⟨x7,k7,rfl,_⟩:=ho.form;rw[<-LN7.o] at ho hrun;have HR:=zq hrun;have XA:=zq (show At w (W6.alloc (.cells #[] 3)) [(b1, 31,#[.int .i64 L.day,.slice a1 n1 c1,.slice a2 n2 c2,.slice a3 n3 c3,.slice a4 n4 c4,.slice a5 n5 c5,.slice a6 n6 c6,.slice a7 n7 c7,.slice a8 n8 c8]),(b2, 31,aZ),(b3, 31,#[.int .i64 L.day,.slice x1 n1 k1,.slice x2 n2 k2,.slice x3 n3 k3,.slice x4 n4 k4,.slice x5 n5 k5,.slice x6 n6 k6,.slice none 0 0,.slice none 0 0])] from XW6.o.go (Zb));have yl:(W6.alloc (.cells #[] 3)).cell? ⟨b1,7,none⟩=some (.slice a7 n7 c7):=XA.o.cell 0 rfl 7 rfl;have XB:=zq (show At w w7 [(b1, 31,#[.int .i64 L.day,.slice a1 n1 c1,.slice a2 n2 c2,.slice a3 n3 c3,.slice a4 n4 c4,.slice a5 n5 c5,.slice a6 n6 c6,.slice a7 n7 c7,.slice a8 n8 c8]),(b2, 31,aZ),(b3, 31,#[.int .i64 L.day,.slice x1 n1 k1,.slice x2 n2 k2,.slice x3 n3 k3,.slice x4 n4 k4,.slice x5 n5 k5,.slice x6 n6 k6,.slice none 0 0,.slice none 0 0])] from XW6.o.go hbb);have yb:w7.cell? ⟨b3,7,none⟩=some (.slice none 0 0):=XB.o.cell 2 rfl 7 rfl;have zb:=XB.o.free 2 rfl 7;have HO:=zq ho;have HB:=zq hbb;clear ho hbb hrun
 go_upto_region 13 with (at_builtin;refine wpList_append_run rfl (.tmp 58) (.tmp 60) 28 rfl rfl rfl HR.o ?_)
 obtain⟨W7,hN⟩:=Zn (w7.setCell ⟨b3,7,none⟩ (.slice x7 n7 k7));rw[<-hN];have M1:=(Mod.refl (fun k=>k=b3) w7).setCell (p:=⟨b3,7,none⟩) (.slice x7 n7 k7) (fun _=>rfl);rw[<-hN] at M1;have M2:=zq (show Mod (fun k=>k=b3) W6 W7 from (Mod.mono (Mod.of_below HB.o) (fun _ _ h=>h.elim)).trans M1 (fun _ _ h=>h));have XW7:=zq (show At w W7 [(b1, 31,#[.int .i64 L.day,.slice a1 n1 c1,.slice a2 n2 c2,.slice a3 n3 c3,.slice a4 n4 c4,.slice a5 n5 c5,.slice a6 n6 c6,.slice a7 n7 c7,.slice a8 n8 c8]),(b2, 31,aZ),(b3, 31,#[.int .i64 L.day,.slice x1 n1 k1,.slice x2 n2 k2,.slice x3 n3 k3,.slice x4 n4 k4,.slice x5 n5 k5,.slice x6 n6 k6,.slice x7 n7 k7,.slice none 0 0])] from by rw[hN];exact XB.o.setCell 2 rfl 7 (.slice x7 n7 k7));have RW7:=zq (show R0<=W7.heap.size from Nat.le_trans RW6.o M2.o.size);have O1:=zq (O1.o.mod M2.o (fun k hk e=>by have h1:=(O1.o.lt k hk).1;have:=RL.o;omega));have O2:=zq (O2.o.mod M2.o (fun k hk e=>by have h1:=(O2.o.lt k hk).1;have:=RL.o;omega));have O3:=zq (O3.o.mod M2.o (fun k hk e=>by have h1:=(O3.o.lt k hk).1;have:=RL.o;omega));have O5:=zq (O5.o.mod M2.o (fun k hk e=>by have h1:=(O5.o.lt k hk).1;have:=RL.o;omega));have O6:=zq (O6.o.mod M2.o (fun k hk e=>by have h1:=(O6.o.lt k hk).1;have:=RL.o;omega));have O7:=zq (show aV W7 R0 3 1 dw (.slice x7 n7 k7) L.aG from (HO.o.base RW6.o).mod M1 (fun k hk e=>by have h1:=(HO.o.lt k hk).1;have:=RW6.o;have:=RL.o;omega));have O4:=zq (O4.o.mod M2.o (fun k hk e=>by have h1:=(O4.o.lt k hk).1;have:=RL.o;omega));have OC:=zq (fun p hp=>(OC.o p hp).mod M2.o (fun k hk e=>by have h1:=((OC.o p hp).lt k hk).1;have:=RL.o;omega));have PW7:=zq (dM.more (dM.add PW6.o HO.o RW6.o HB.o.size) M1.size);clear hN M1 XA yl XB yb zb HR HO HB M2 XW6 PW6 G7;obtain⟨v',w8,hrun,ho,hbb⟩:=G8.o W7 XW7.o.low;obtain⟨x8,k8,rfl,_⟩:=ho.form;rw[<-LN8.o] at ho hrun;have HR:=zq hrun;have XA:=zq (show At w (W7.alloc (.cells #[] 72)) [(b1, 31,#[.int .i64 L.day,.slice a1 n1 c1,.slice a2 n2 c2,.slice a3 n3 c3,.slice a4 n4 c4,.slice a5 n5 c5,.slice a6 n6 c6,.slice a7 n7 c7,.slice a8 n8 c8]),(b2, 31,aZ),(b3, 31,#[.int .i64 L.day,.slice x1 n1 k1,.slice x2 n2 k2,.slice x3 n3 k3,.slice x4 n4 k4,.slice x5 n5 k5,.slice x6 n6 k6,.slice x7 n7 k7,.slice none 0 0])] from XW7.o.go (Zb));have yl:(W7.alloc (.cells #[] 72)).cell? ⟨b1,8,none⟩=some (.slice a8 n8 c8):=XA.o.cell 0 rfl 8 rfl;have XB:=zq (show At w w8 [(b1, 31,#[.int .i64 L.day,.slice a1 n1 c1,.slice a2 n2 c2,.slice a3 n3 c3,.slice a4 n4 c4,.slice a5 n5 c5,.slice a6 n6 c6,.slice a7 n7 c7,.slice a8 n8 c8]),(b2, 31,aZ),(b3, 31,#[.int .i64 L.day,.slice x1 n1 k1,.slice x2 n2 k2,.slice x3 n3 k3,.slice x4 n4 k4,.slice x5 n5 k5,.slice x6 n6 k6,.slice x7 n7 k7,.slice none 0 0])] from XW7.o.go hbb);have yb:w8.cell? ⟨b3,8,none⟩=some (.slice none 0 0):=XB.o.cell 2 rfl 8 rfl;have zb:=XB.o.free 2 rfl 8;have HO:=zq ho;have HB:=zq hbb;clear ho hbb hrun
 go_upto_region 14 with (at_builtin;refine wpList_append_run rfl (.tmp 63) (.tmp 65) 29 rfl rfl rfl HR.o ?_)
 obtain⟨W8,hN⟩:=Zn (w8.setCell ⟨b3,8,none⟩ (.slice x8 n8 k8));rw[<-hN];have M1:=(Mod.refl (fun k=>k=b3) w8).setCell (p:=⟨b3,8,none⟩) (.slice x8 n8 k8) (fun _=>rfl);rw[<-hN] at M1;have M2:=zq (show Mod (fun k=>k=b3) W7 W8 from (Mod.mono (Mod.of_below HB.o) (fun _ _ h=>h.elim)).trans M1 (fun _ _ h=>h));have XW8:=zq (show At w W8 [(b1, 31,#[.int .i64 L.day,.slice a1 n1 c1,.slice a2 n2 c2,.slice a3 n3 c3,.slice a4 n4 c4,.slice a5 n5 c5,.slice a6 n6 c6,.slice a7 n7 c7,.slice a8 n8 c8]),(b2, 31,aZ),(b3, 31,#[.int .i64 L.day,.slice x1 n1 k1,.slice x2 n2 k2,.slice x3 n3 k3,.slice x4 n4 k4,.slice x5 n5 k5,.slice x6 n6 k6,.slice x7 n7 k7,.slice x8 n8 k8])] from by rw[hN];exact XB.o.setCell 2 rfl 8 (.slice x8 n8 k8));have RW8:=zq (show R0<=W8.heap.size from Nat.le_trans RW7.o M2.o.size);have O1:=zq (O1.o.mod M2.o (fun k hk e=>by have h1:=(O1.o.lt k hk).1;have:=RL.o;omega));have O2:=zq (O2.o.mod M2.o (fun k hk e=>by have h1:=(O2.o.lt k hk).1;have:=RL.o;omega));have O3:=zq (O3.o.mod M2.o (fun k hk e=>by have h1:=(O3.o.lt k hk).1;have:=RL.o;omega));have O5:=zq (O5.o.mod M2.o (fun k hk e=>by have h1:=(O5.o.lt k hk).1;have:=RL.o;omega));have O6:=zq (O6.o.mod M2.o (fun k hk e=>by have h1:=(O6.o.lt k hk).1;have:=RL.o;omega));have O7:=zq (O7.o.mod M2.o (fun k hk e=>by have h1:=(O7.o.lt k hk).1;have:=RL.o;omega));have O8:=zq (show aV W8 R0 72 3 Pos.cells (.slice x8 n8 k8) L.aJ from (HO.o.base RW7.o).mod M1 (fun k hk e=>by have h1:=(HO.o.lt k hk).1;have:=RW7.o;have:=RL.o;omega));have O4:=zq (O4.o.mod M2.o (fun k hk e=>by have h1:=(O4.o.lt k hk).1;have:=RL.o;omega));have OC:=zq (fun p hp=>(OC.o p hp).mod M2.o (fun k hk e=>by have h1:=((OC.o p hp).lt k hk).1;have:=RL.o;omega));have PW8:=zq (dM.more (dM.add PW7.o HO.o RW7.o HB.o.size) M1.size);clear hN M1 XA yl XB yb zb HR HO HB M2 XW7 PW7 G8;have HB3:=zq (XW8.o.get 2 rfl);have HB2:=zq (XW8.o.get 1 rfl);have LC:=zq (show mO #[.int .i64 L.day,.slice x1 n1 k1,.slice x2 n2 k2,.slice x3 n3 k3,.slice x4 n4 k4,.slice x5 n5 k5,.slice x6 n6 k6,.slice x7 n7 k7,.slice x8 n8 k8] from ⟨rfl,by simp[Value.oneCell']⟩)
 go_wp2_with (first|refine bW HB3.o LC.o rfl rfl rfl ?_|refine aW HB2.o bG LC.o rfl rfl rfl rfl ?_)
 try simp only[Exit.inBlock,Exit.then]
 have M:=bJ (w:=W8) b2 #[.int .i64 L.day,.slice x1 n1 k1,.slice x2 n2 k2,.slice x3 n3 k3,.slice x4 n4 k4,.slice x5 n5 k5,.slice x6 n6 k6,.slice x7 n7 k7,.slice x8 n8 k8];refine bodyPost_ret (v:=.agg #[.int .i64 L.day,.slice x1 n1 k1,.slice x2 n2 k2,.slice x3 n3 k3,.slice x4 n4 k4,.slice x5 n5 k5,.slice x6 n6 k6,.slice x7 n7 k7,.slice x8 n8 k8]) ?_ ?_ ?_
 ·exact Nj yK _ _ b2 _ rfl (setRow_heap _ _ _ _ _ _ HB2.o) LC.o
 ·rfl
 have kp:∀ {α:Type} {n:Nat} {e:TypeId} {f:α->List Value} {u:Value} {l:List α},aV W8 R0 e n f u l->aV (W8.setRow b2 #[.int .i64 L.day,.slice x1 n1 k1,.slice x2 n2 k2,.slice x3 n3 k3,.slice x4 n4 k4,.slice x5 n5 k5,.slice x6 n6 k6,.slice x7 n7 k7,.slice x8 n8 k8]) w.heap.size e n f u l:=fun o=>(o.mod M (fun k hk e=>by have h1:=(o.lt k hk).1;have:=RL.o;omega)).base (by have:=RL.o;omega)
 refine⟨⟨.slice x1 n1 k1,.slice x2 n2 k2,.slice x3 n3 k3,.slice x4 n4 k4,.slice x5 n5 k5,.slice x6 n6 k6,.slice x7 n7 k7,.slice x8 n8 k8,acs⟩,rfl,⟨kp O1.o,kp O2.o,kp O3.o,SA.o,kp O4.o,fun p hp=>kp (OC.o p hp),kp O5.o,kp O6.o,kp O7.o,kp O8.o,?_,HL.o.2.1,HL.o.2.2⟩,((Mod.of_below XW8.o.low).trans M (fun k hk e=>by have:=RL.o;omega)).aU⟩;refine (List.Perm.pairwise_iff (fun h=>gW.symm h) ?_).1 PW8.o.pair
 simp only[aB.rows,List.append_assoc,List.cons_append,List.nil_append]
 refine List.Perm.cons _ (List.Perm.cons _ (List.Perm.cons _ (List.Perm.cons _ ?_)));exact (List.perm_append_comm (l₁:=acs.map (·.2)) (l₂:=[.slice x5 n5 k5,.slice x6 n6 k6,.slice x7 n7 k7,.slice x8 n8 k8]))
noncomputable def _root_.Go.Bw.wu {α:Type} (x y:α):Bool:=by classical exact decide (x=y)
theorem _root_.Go.Bw.fE {α:Type} {x y:α} (h:x=y):wu x y=true:=by unfold wu;exact @decide_eq_true _ (Classical.propDecidable _) h
theorem _root_.Go.Bw.dJ {α:Type} {x y:α} (h:x≠y):wu x y=false:=by unfold wu;exact @decide_eq_false _ (Classical.propDecidable _) h
theorem _root_.Go.Bw.wK {α:Type} {x y:α}:wu x y=true↔x=y:=by unfold wu;exact @decide_eq_true_iff _ (Classical.propDecidable _)
theorem uh {α:Type} {l m:List α} (h:l.length≠m.length):wu l m=false:=dJ (fun e=>h (by rw[e]))
theorem kZ {α:Type} {l m:List α} {n:Nat} (h1:l.length=n) (h2:m.length=n) (h:l.take n=m.take n):wu l m=true:=fE (by rwa [List.take_of_length_le (by omega),List.take_of_length_le (by omega)] at h)
theorem uj {α:Type} {l m:List α} {k:Nat} {x y:α} (hx:l[k]?=some x) (hy:m[k]?=some y) (h:x≠y):wu l m=false:=dJ (fun e=>h (by rw[e,hy] at hx;exact (Option.some.inj hx).symm))
theorem jf {α:Type} {l m:List α} {k:Nat} {x:α} (hx:l[k]?=some x) (hy:m[k]?=some x) (h:l.take k=m.take k):l.take (k+1)=m.take (k+1):=by
 rw[List.take_add_one,List.take_add_one,hx,hy,h]
theorem Hr (a b:ByteArray):a.toList=b.toList↔a=b:=by rw[<-mJ,beq_iff_eq]
theorem jJ {P:Program} {ops:Array Oper} {C:World->Prop} {Q:Act->Prop} {a:Act} {o:Oper} {rest:List Oper} (hgd:o.guard=none) (op:BinOp) (t:TypeId) (x y:Operand) (t2:TypeId) (ho:o.op=.binOp op t x y t2)
 (u v r:Value) (hx:a.eval x=u) (hy:a.eval y=v) (hr:∀ w,C w->(eqGuard op t x y u v).run P w=.ok () w/\(binOp op t u v).run P w=.ok r w)
 (h:wpQuiet P ops C Q rest (a.put o.dst r)):wpQuiet P ops C Q (o::rest) a:=by
 refine wpQuiet_step (fun K hK=>?_);rw[if_pos (by simp[Region.wanted,hgd])];refine⟨r,fun w hw=>?_,hK _ h⟩;unfold Oper.quietAt execOp
 simp only[ho,hx,hy,Sem.run_bind,Sem.run_pure,Result.andThen_ok,(hr w hw).1,(hr w hw).2]
 exact⟨rfl,rfl⟩
theorem Qg:Tryz.prog.underlying 86=some (.struct (Tryz.prog.fieldsOf 86)):=by kernel_rfl
theorem Qm:Tryz.prog.stoodInHeld 86=false:=by kernel_rfl
theorem Qj:Tryz.prog.eqGuardType Tryz.prog.depth 86=false:=by kernel_rfl
theorem OU (w:World) (x y:gu) (a b:Operand):(eqGuard .neq 86 a b (.agg #[.int .i64 x.rate,.int .i64 x.dL]) (.agg #[.int .i64 y.rate,.int .i64 y.dL])).run Tryz.prog w=.ok () w/\(binOp .neq 86 (.agg #[.int .i64 x.rate,.int .i64 x.dL]) (.agg #[.int .i64 y.rate,.int .i64 y.dL])).run Tryz.prog w=.ok (.bool (!wu x y)) w:=by
 refine⟨run_eqGuard_agg w .neq 86 a b _ _ Qj,?_⟩;rw[run_neq_struct,show (10000:Nat)=9999+1 from rfl,run_equalIn_agg w 9999 86 _ _ Qg Qm]
 simp only[Program.fieldsOf,Tryz.underlying86]
 go_simp;by_cases h:x=y
 ·rw[fE h];subst h;simp
 rw[dJ h];by_cases h0:x.rate=y.rate;rotate_left
 ·simp[h0]
 by_cases h1:x.dL=y.dL;rotate_left
 ·simp[h1]
 exact absurd (by cases x;cases y;simp_all) h
theorem LQ:Tryz.prog.underlying 48=some (.struct (Tryz.prog.fieldsOf 48)):=by kernel_rfl
theorem MZ:Tryz.prog.stoodInHeld 48=false:=by kernel_rfl
theorem Mc:Tryz.prog.eqGuardType Tryz.prog.depth 48=false:=by kernel_rfl
theorem JK (w:World) (x y:dX) (a b:Operand):(eqGuard .neq 48 a b (.agg #[.string x.name,.int .i64 x.cur,.int .i64 x.price,.int .i64 x.cZ]) (.agg #[.string y.name,.int .i64 y.cur,.int .i64 y.price,.int .i64 y.cZ])).run Tryz.prog w=.ok () w/\(binOp .neq 48 (.agg #[.string x.name,.int .i64 x.cur,.int .i64 x.price,.int .i64 x.cZ]) (.agg #[.string y.name,.int .i64 y.cur,.int .i64 y.price,.int .i64 y.cZ])).run Tryz.prog w=.ok (.bool (!wu x y)) w:=by
 refine⟨run_eqGuard_agg w .neq 48 a b _ _ Mc,?_⟩;rw[run_neq_struct,show (10000:Nat)=9999+1 from rfl,run_equalIn_agg w 9999 48 _ _ LQ MZ]
 simp only[Program.fieldsOf,Tryz.underlying48]
 go_simp;by_cases h:x=y
 ·rw[fE h];subst h;simp
 rw[dJ h];by_cases h0:x.name=y.name;rotate_left
 ·simp[h0,Hr]
 by_cases h1:x.cur=y.cur;rotate_left
 ·simp[h1]
 by_cases h2:x.price=y.price;rotate_left
 ·simp[h2]
 by_cases h3:x.cZ=y.cZ;rotate_left
 ·simp[h3]
 exact absurd (by cases x;cases y;simp_all) h
theorem LH:Tryz.prog.underlying 66=some (.struct (Tryz.prog.fieldsOf 66)):=by kernel_rfl
theorem MH:Tryz.prog.stoodInHeld 66=false:=by kernel_rfl
theorem LX:Tryz.prog.eqGuardType Tryz.prog.depth 66=false:=by kernel_rfl
theorem JI (w:World) (x y:Ins) (a b:Operand):(eqGuard .neq 66 a b (.agg #[.int .i64 x.kind,.int .i64 x.under,.int .i64 x.mult,.int .i64 x.strike,.int .i64 x.aN,.bool x.call,.int .i64 x.mark]) (.agg #[.int .i64 y.kind,.int .i64 y.under,.int .i64 y.mult,.int .i64 y.strike,.int .i64 y.aN,.bool y.call,.int .i64 y.mark])).run Tryz.prog w=.ok () w/\(binOp .neq 66 (.agg #[.int .i64 x.kind,.int .i64 x.under,.int .i64 x.mult,.int .i64 x.strike,.int .i64 x.aN,.bool x.call,.int .i64 x.mark]) (.agg #[.int .i64 y.kind,.int .i64 y.under,.int .i64 y.mult,.int .i64 y.strike,.int .i64 y.aN,.bool y.call,.int .i64 y.mark])).run Tryz.prog w=.ok (.bool (!wu x y)) w:=by
 refine⟨run_eqGuard_agg w .neq 66 a b _ _ LX,?_⟩;rw[run_neq_struct,show (10000:Nat)=9999+1 from rfl,run_equalIn_agg w 9999 66 _ _ LH MH]
 simp only[Program.fieldsOf,Tryz.underlying66]
 go_simp;by_cases h:x=y
 ·rw[fE h];subst h;simp
 rw[dJ h];by_cases h0:x.kind=y.kind;rotate_left
 ·simp[h0]
 by_cases h1:x.under=y.under;rotate_left
 ·simp[h1]
 by_cases h2:x.mult=y.mult;rotate_left
 ·simp[h2]
 by_cases h3:x.strike=y.strike;rotate_left
 ·simp[h3]
 by_cases h4:x.aN=y.aN;rotate_left
 ·simp[h4]
 by_cases h5:x.call=y.call;rotate_left
 ·simp[h5]
 by_cases h6:x.mark=y.mark;rotate_left
 ·simp[h6]
 exact absurd (by cases x;cases y;simp_all) h
theorem Qi:Tryz.prog.underlying 50=some (.struct (Tryz.prog.fieldsOf 50)):=by kernel_rfl
theorem Qo:Tryz.prog.stoodInHeld 50=false:=by kernel_rfl
theorem Ql:Tryz.prog.eqGuardType Tryz.prog.depth 50=false:=by kernel_rfl
theorem OY (w:World) (x y:Pos) (a b:Operand):(eqGuard .neq 50 a b (.agg #[.int .i64 x.ak,.int .i64 x.instr,.int .i64 x.qty]) (.agg #[.int .i64 y.ak,.int .i64 y.instr,.int .i64 y.qty])).run Tryz.prog w=.ok () w/\(binOp .neq 50 (.agg #[.int .i64 x.ak,.int .i64 x.instr,.int .i64 x.qty]) (.agg #[.int .i64 y.ak,.int .i64 y.instr,.int .i64 y.qty])).run Tryz.prog w=.ok (.bool (!wu x y)) w:=by
 refine⟨run_eqGuard_agg w .neq 50 a b _ _ Ql,?_⟩;rw[run_neq_struct,show (10000:Nat)=9999+1 from rfl,run_equalIn_agg w 9999 50 _ _ Qi Qo]
 simp only[Program.fieldsOf,Tryz.underlying50]
 go_simp;by_cases h:x=y
 ·rw[fE h];subst h;simp
 rw[dJ h];by_cases h0:x.ak=y.ak;rotate_left
 ·simp[h0]
 by_cases h1:x.instr=y.instr;rotate_left
 ·simp[h1]
 by_cases h2:x.qty=y.qty;rotate_left
 ·simp[h2]
 exact absurd (by cases x;cases y;simp_all) h
theorem LJ:Tryz.prog.underlying 74=some (.struct (Tryz.prog.fieldsOf 74)):=by kernel_rfl
theorem MJ:Tryz.prog.stoodInHeld 74=false:=by kernel_rfl
theorem LY:Tryz.prog.eqGuardType Tryz.prog.depth 74=false:=by kernel_rfl
theorem JJ (w:World) (x y:Ord) (a b:Operand):(eqGuard .neq 74 a b (.agg #[.int .i64 x.ak,.int .i64 x.id,.int .i64 x.instr,.int .i64 x.qty,.int .i64 x.price]) (.agg #[.int .i64 y.ak,.int .i64 y.id,.int .i64 y.instr,.int .i64 y.qty,.int .i64 y.price])).run Tryz.prog w=.ok () w/\(binOp .neq 74 (.agg #[.int .i64 x.ak,.int .i64 x.id,.int .i64 x.instr,.int .i64 x.qty,.int .i64 x.price]) (.agg #[.int .i64 y.ak,.int .i64 y.id,.int .i64 y.instr,.int .i64 y.qty,.int .i64 y.price])).run Tryz.prog w=.ok (.bool (!wu x y)) w:=by
 refine⟨run_eqGuard_agg w .neq 74 a b _ _ LY,?_⟩;rw[run_neq_struct,show (10000:Nat)=9999+1 from rfl,run_equalIn_agg w 9999 74 _ _ LJ MJ]
 simp only[Program.fieldsOf,Tryz.underlying74]
 go_simp;by_cases h:x=y
 ·rw[fE h];subst h;simp
 rw[dJ h];by_cases h0:x.ak=y.ak;rotate_left
 ·simp[h0]
 by_cases h1:x.id=y.id;rotate_left
 ·simp[h1]
 by_cases h2:x.instr=y.instr;rotate_left
 ·simp[h2]
 by_cases h3:x.qty=y.qty;rotate_left
 ·simp[h3]
 by_cases h4:x.price=y.price;rotate_left
 ·simp[h4]
 exact absurd (by cases x;cases y;simp_all) h
theorem Qh:Tryz.prog.underlying 72=some (.struct (Tryz.prog.fieldsOf 72)):=by kernel_rfl
theorem Qn:Tryz.prog.stoodInHeld 72=false:=by kernel_rfl
theorem Qk:Tryz.prog.eqGuardType Tryz.prog.depth 72=false:=by kernel_rfl
theorem OX (w:World) (x y:Pos) (a b:Operand):(eqGuard .neq 72 a b (.agg #[.int .i64 x.ak,.int .i64 x.instr,.int .i64 x.qty]) (.agg #[.int .i64 y.ak,.int .i64 y.instr,.int .i64 y.qty])).run Tryz.prog w=.ok () w/\(binOp .neq 72 (.agg #[.int .i64 x.ak,.int .i64 x.instr,.int .i64 x.qty]) (.agg #[.int .i64 y.ak,.int .i64 y.instr,.int .i64 y.qty])).run Tryz.prog w=.ok (.bool (!wu x y)) w:=by
 refine⟨run_eqGuard_agg w .neq 72 a b _ _ Qk,?_⟩;rw[run_neq_struct,show (10000:Nat)=9999+1 from rfl,run_equalIn_agg w 9999 72 _ _ Qh Qn]
 simp only[Program.fieldsOf,Tryz.underlying72]
 go_simp;by_cases h:x=y
 ·rw[fE h];subst h;simp
 rw[dJ h];by_cases h0:x.ak=y.ak;rotate_left
 ·simp[h0]
 by_cases h1:x.instr=y.instr;rotate_left
 ·simp[h1]
 by_cases h2:x.qty=y.qty;rotate_left
 ·simp[h2]
 exact absurd (by cases x;cases y;simp_all) h
theorem xZ (w:World) (u v:Value) (l m:List Int) (h1:RowOf w 1 dw u l) (h2:RowOf w 1 dw v m) (hl:l.length<=140737488355328) :
 Calls Tryz.prog 40 #[u,v] w fun e w'=>e=.returned (.bool (wu l m))/\Below w.heap.size w w':=by
 obtain⟨a1,c1,rfl⟩:=h1.form;obtain⟨a2,c2,rfl⟩:=h2.form;have H1:=zq h1;have H2:=zq h2;obtain⟨R,hR⟩:=Zn (wu l m);rw[<-hR];have ER:=zq hR;obtain⟨n1,hn1⟩:=Zn l.length;obtain⟨n2,hn2⟩:=Zn m.length;have LN1:=zq hn1;have LN2:=zq hn2;rw[<-hn1] at hl H1 ⊢;rw[<-hn2] at H2 ⊢;clear h1 h2 hR hn1 hn2;by_cases hne:n1=n2
 ·subst hne;have TK:=zq (show l.take 0=m.take 0/\Below w.heap.size w w from ⟨rfl,Below.refl _ _⟩)
  go_enter Tryz.func40,Tryz.ntmps40
  go_wp2_with fail
  go_loopw [13] (fun i wr=>∃ k:Nat,k<=n1/\i=.int .i64 k/\∃ W,W=wr/\Hid (l.take k=m.take k/\Below w.heap.size w W)) (fun i _=>n1 - (intOf i).toNat)
  case atStart=>exact⟨0,Nat.zero_le _,rfl,_,rfl,TK⟩
  clear TK;obtain⟨k,hk,rfl,W,rfl,TK⟩:=hrel;by_cases hlt:k<n1
  ·have hlt':(k:Int)<(n1:Int):=by omega
   have LT:=zq hlt;obtain⟨x,hx⟩:∃ x,l[k]?=some x:=⟨_,Zg (by rw[<-LN1.o];exact hlt)⟩;obtain⟨y,hy⟩:∃ y,m[k]?=some y:=⟨_,Zg (by rw[<-LN2.o];exact hlt)⟩;obtain⟨b,o,e1,_,hcx⟩:=(H1.o.below TK.o.2).at_ hx;obtain⟨b',o',e2,_,hcy⟩:=(H2.o.below TK.o.2).at_ hy;subst e1;subst e2;have cx0:=hcx 0 (.int .i64 x) rfl;have cy0:=hcy 0 (.int .i64 y) rfl
   simp only[Nat.add_zero,Nat.mul_one] at cx0 cy0
   have HX:=zq hx;have HY:=zq hy;clear hx hy hcx hcy
   go_upto_region 6 with (fail)
   have DW:=zq (show Below W.heap.size W W.drew from ((Mod.refl (fun _=>False) W).drew).aU);have BW:=zq (show Below w.heap.size w W.drew from TK.o.2.trans (DW.o.mono TK.o.2.size));refine aI.wz [] [] (.step 0 (.step 1 (.step 2 (.step 3 (.step 4 (.step 5 (.step 6 (.step 7 (.step 8 .leaf))))))))) (by kernel_rfl) (by kernel_rfl) ?_;refine aI.aC [0,1,2,3,4,5,6,7,8] (by kernel_rfl) ?_
   simp only[ay,nth]
   repeat (go_big_quiet_step (fail))
   refine wpQuiet_nil ?_;refine aI.bH ?_;go_simp;by_cases hxy:x=y
   ·subst hxy;skip;have TQ:=zq (show l.take (k+1)=m.take (k+1)/\Below w.heap.size w W.drew from ⟨jf HX.o HY.o TK.o.1,BW.o⟩);clear cx0
    go_wp2_with fail
    go_roundw
    case rel=>exact⟨k+1,by have:=LT.o;omega,by go_num,_,rfl,TQ⟩
    case measure=>have:=LT.o;simp[intOf];omega
   obtain rfl:R=false:=by rw[ER.o];exact uj HX.o HY.o hxy
   skip
   go_wp2_with fail
   go_ret;exact⟨rfl,BW.o⟩
  have hlt':¬ (k:Int)<(n1:Int):=by omega
  obtain rfl:n1=k:=by omega
  obtain rfl:R=true:=by rw[ER.o];exact kZ LN1.o.symm LN2.o.symm TK.o.1
  go_wp2_with fail
  go_ret;exact⟨rfl,TK.o.2⟩
 have hne':¬ (n1:Int)=(n2:Int):=by omega
 obtain rfl:R=false:=by rw[ER.o];exact uh (by rw[<-LN1.o,<-LN2.o];exact hne)
 go_enter Tryz.func40,Tryz.ntmps40
 go_wp2_with fail
 go_ret;exact⟨rfl,Below.refl _ _⟩
theorem Gz (w:World) (u v:Value) (l m:List Pos) (h1:RowOf w 3 Pos.cells u l) (h2:RowOf w 3 Pos.cells v m) (hl:l.length<=140737488355328) :
 Calls Tryz.prog 41 #[u,v] w fun e w'=>e=.returned (.bool (wu l m))/\Below w.heap.size w w':=by
 obtain⟨a1,c1,rfl⟩:=h1.form;obtain⟨a2,c2,rfl⟩:=h2.form;have H1:=zq h1;have H2:=zq h2;obtain⟨R,hR⟩:=Zn (wu l m);rw[<-hR];have ER:=zq hR;obtain⟨n1,hn1⟩:=Zn l.length;obtain⟨n2,hn2⟩:=Zn m.length;have LN1:=zq hn1;have LN2:=zq hn2;rw[<-hn1] at hl H1 ⊢;rw[<-hn2] at H2 ⊢;clear h1 h2 hR hn1 hn2;by_cases hne:n1=n2
 ·subst hne;have TK:=zq (show l.take 0=m.take 0/\Below w.heap.size w w from ⟨rfl,Below.refl _ _⟩)
  go_enter Tryz.func41,Tryz.ntmps41
  go_wp2_with fail
  go_loopw [13] (fun i wr=>∃ k:Nat,k<=n1/\i=.int .i64 k/\∃ W,W=wr/\Hid (l.take k=m.take k/\Below w.heap.size w W)) (fun i _=>n1 - (intOf i).toNat)
  case atStart=>exact⟨0,Nat.zero_le _,rfl,_,rfl,TK⟩
  clear TK;obtain⟨k,hk,rfl,W,rfl,TK⟩:=hrel;by_cases hlt:k<n1
  ·have hlt':(k:Int)<(n1:Int):=by omega
   have LT:=zq hlt;obtain⟨x,hx⟩:∃ x,l[k]?=some x:=⟨_,Zg (by rw[<-LN1.o];exact hlt)⟩;obtain⟨y,hy⟩:∃ y,m[k]?=some y:=⟨_,Zg (by rw[<-LN2.o];exact hlt)⟩;obtain⟨b,o,e1,_,hcx⟩:=(H1.o.below TK.o.2).at_ hx;obtain⟨b',o',e2,_,hcy⟩:=(H2.o.below TK.o.2).at_ hy;subst e1;subst e2;have cx0:=hcx 0 (.int .i64 x.ak) rfl;have cx1:=hcx 1 (.int .i64 x.instr) rfl;have cx2:=hcx 2 (.int .i64 x.qty) rfl;have cy0:=hcy 0 (.int .i64 y.ak) rfl;have cy1:=hcy 1 (.int .i64 y.instr) rfl;have cy2:=hcy 2 (.int .i64 y.qty) rfl
   simp only[Nat.add_zero] at cx0 cy0
   have HX:=zq hx;have HY:=zq hy;clear hx hy hcx hcy
   go_upto_region 6 with (fail)
   have DW:=zq (show Below W.heap.size W W.drew from ((Mod.refl (fun _=>False) W).drew).aU);have BW:=zq (show Below w.heap.size w W.drew from TK.o.2.trans (DW.o.mono TK.o.2.size));refine aI.wz [] [] (.step 0 (.step 1 (.step 2 (.step 3 (.step 4 (.step 5 (.step 6 (.step 7 (.step 8 .leaf))))))))) (by kernel_rfl) (by kernel_rfl) ?_;refine aI.aC [0,1,2,3,4,5,6,7,8] (by kernel_rfl) ?_
   simp only[ay,nth]
   repeat (go_big_quiet_step (fail))
   refine jJ rfl .neq 50 (.tmp 19) (.tmp 23) 50 rfl _ _ _ rfl rfl (fun w _=>OY w x y _ _) ?_;refine wpQuiet_nil ?_;refine aI.bH ?_;go_simp;by_cases hxy:x=y
   ·subst hxy;rw[fE rfl];have TQ:=zq (show l.take (k+1)=m.take (k+1)/\Below w.heap.size w W.drew from ⟨jf HX.o HY.o TK.o.1,BW.o⟩);clear cx0
    go_wp2_with fail
    go_roundw
    case rel=>exact⟨k+1,by have:=LT.o;omega,by go_num,_,rfl,TQ⟩
    case measure=>have:=LT.o;simp[intOf];omega
   obtain rfl:R=false:=by rw[ER.o];exact uj HX.o HY.o hxy
   rw[dJ hxy]
   go_wp2_with fail
   go_ret;exact⟨rfl,BW.o⟩
  have hlt':¬ (k:Int)<(n1:Int):=by omega
  obtain rfl:n1=k:=by omega
  obtain rfl:R=true:=by rw[ER.o];exact kZ LN1.o.symm LN2.o.symm TK.o.1
  go_wp2_with fail
  go_ret;exact⟨rfl,TK.o.2⟩
 have hne':¬ (n1:Int)=(n2:Int):=by omega
 obtain rfl:R=false:=by rw[ER.o];exact uh (by rw[<-LN1.o,<-LN2.o];exact hne)
 go_enter Tryz.func41,Tryz.ntmps41
 go_wp2_with fail
 go_ret;exact⟨rfl,Below.refl _ _⟩
theorem Ar (w:World) (u v:Value) (l m:List Ord) (h1:RowOf w 5 Ord.cells u l) (h2:RowOf w 5 Ord.cells v m) (hl:l.length<=140737488355328) :
 Calls Tryz.prog 42 #[u,v] w fun e w'=>e=.returned (.bool (wu l m))/\Below w.heap.size w w':=by
 obtain⟨a1,c1,rfl⟩:=h1.form;obtain⟨a2,c2,rfl⟩:=h2.form;have H1:=zq h1;have H2:=zq h2;obtain⟨R,hR⟩:=Zn (wu l m);rw[<-hR];have ER:=zq hR;obtain⟨n1,hn1⟩:=Zn l.length;obtain⟨n2,hn2⟩:=Zn m.length;have LN1:=zq hn1;have LN2:=zq hn2;rw[<-hn1] at hl H1 ⊢;rw[<-hn2] at H2 ⊢;clear h1 h2 hR hn1 hn2;by_cases hne:n1=n2
 ·subst hne;have TK:=zq (show l.take 0=m.take 0/\Below w.heap.size w w from ⟨rfl,Below.refl _ _⟩)
  go_enter Tryz.func42,Tryz.ntmps42
  go_wp2_with fail
  go_loopw [13] (fun i wr=>∃ k:Nat,k<=n1/\i=.int .i64 k/\∃ W,W=wr/\Hid (l.take k=m.take k/\Below w.heap.size w W)) (fun i _=>n1 - (intOf i).toNat)
  case atStart=>exact⟨0,Nat.zero_le _,rfl,_,rfl,TK⟩
  clear TK;obtain⟨k,hk,rfl,W,rfl,TK⟩:=hrel;by_cases hlt:k<n1
  ·have hlt':(k:Int)<(n1:Int):=by omega
   have LT:=zq hlt;obtain⟨x,hx⟩:∃ x,l[k]?=some x:=⟨_,Zg (by rw[<-LN1.o];exact hlt)⟩;obtain⟨y,hy⟩:∃ y,m[k]?=some y:=⟨_,Zg (by rw[<-LN2.o];exact hlt)⟩;obtain⟨b,o,e1,_,hcx⟩:=(H1.o.below TK.o.2).at_ hx;obtain⟨b',o',e2,_,hcy⟩:=(H2.o.below TK.o.2).at_ hy;subst e1;subst e2;have cx0:=hcx 0 (.int .i64 x.ak) rfl;have cx1:=hcx 1 (.int .i64 x.id) rfl;have cx2:=hcx 2 (.int .i64 x.instr) rfl;have cx3:=hcx 3 (.int .i64 x.qty) rfl;have cx4:=hcx 4 (.int .i64 x.price) rfl;have cy0:=hcy 0 (.int .i64 y.ak) rfl;have cy1:=hcy 1 (.int .i64 y.id) rfl;have cy2:=hcy 2 (.int .i64 y.instr) rfl;have cy3:=hcy 3 (.int .i64 y.qty) rfl;have cy4:=hcy 4 (.int .i64 y.price) rfl
   simp only[Nat.add_zero] at cx0 cy0
   have HX:=zq hx;have HY:=zq hy;clear hx hy hcx hcy
   go_upto_region 6 with (fail)
   have DW:=zq (show Below W.heap.size W W.drew from ((Mod.refl (fun _=>False) W).drew).aU);have BW:=zq (show Below w.heap.size w W.drew from TK.o.2.trans (DW.o.mono TK.o.2.size));refine aI.wz [] [] (.step 0 (.step 1 (.step 2 (.step 3 (.step 4 (.step 5 (.step 6 (.step 7 (.step 8 .leaf))))))))) (by kernel_rfl) (by kernel_rfl) ?_;refine aI.aC [0,1,2,3,4,5,6,7,8] (by kernel_rfl) ?_
   simp only[ay,nth]
   repeat (go_big_quiet_step (fail))
   refine jJ rfl .neq 74 (.tmp 19) (.tmp 23) 74 rfl _ _ _ rfl rfl (fun w _=>JJ w x y _ _) ?_;refine wpQuiet_nil ?_;refine aI.bH ?_;go_simp;by_cases hxy:x=y
   ·subst hxy;rw[fE rfl];have TQ:=zq (show l.take (k+1)=m.take (k+1)/\Below w.heap.size w W.drew from ⟨jf HX.o HY.o TK.o.1,BW.o⟩);clear cx0
    go_wp2_with fail
    go_roundw
    case rel=>exact⟨k+1,by have:=LT.o;omega,by go_num,_,rfl,TQ⟩
    case measure=>have:=LT.o;simp[intOf];omega
   obtain rfl:R=false:=by rw[ER.o];exact uj HX.o HY.o hxy
   rw[dJ hxy]
   go_wp2_with fail
   go_ret;exact⟨rfl,BW.o⟩
  have hlt':¬ (k:Int)<(n1:Int):=by omega
  obtain rfl:n1=k:=by omega
  obtain rfl:R=true:=by rw[ER.o];exact kZ LN1.o.symm LN2.o.symm TK.o.1
  go_wp2_with fail
  go_ret;exact⟨rfl,TK.o.2⟩
 have hne':¬ (n1:Int)=(n2:Int):=by omega
 obtain rfl:R=false:=by rw[ER.o];exact uh (by rw[<-LN1.o,<-LN2.o];exact hne)
 go_enter Tryz.func42,Tryz.ntmps42
 go_wp2_with fail
 go_ret;exact⟨rfl,Below.refl _ _⟩
theorem Gy (w:World) (u v:Value) (l m:List Pos) (h1:RowOf w 3 Pos.cells u l) (h2:RowOf w 3 Pos.cells v m) (hl:l.length<=140737488355328) :
 Calls Tryz.prog 43 #[u,v] w fun e w'=>e=.returned (.bool (wu l m))/\Below w.heap.size w w':=by
 obtain⟨a1,c1,rfl⟩:=h1.form;obtain⟨a2,c2,rfl⟩:=h2.form;have H1:=zq h1;have H2:=zq h2;obtain⟨R,hR⟩:=Zn (wu l m);rw[<-hR];have ER:=zq hR;obtain⟨n1,hn1⟩:=Zn l.length;obtain⟨n2,hn2⟩:=Zn m.length;have LN1:=zq hn1;have LN2:=zq hn2;rw[<-hn1] at hl H1 ⊢;rw[<-hn2] at H2 ⊢;clear h1 h2 hR hn1 hn2;by_cases hne:n1=n2
 ·subst hne;have TK:=zq (show l.take 0=m.take 0/\Below w.heap.size w w from ⟨rfl,Below.refl _ _⟩)
  go_enter Tryz.func43,Tryz.ntmps43
  go_wp2_with fail
  go_loopw [13] (fun i wr=>∃ k:Nat,k<=n1/\i=.int .i64 k/\∃ W,W=wr/\Hid (l.take k=m.take k/\Below w.heap.size w W)) (fun i _=>n1 - (intOf i).toNat)
  case atStart=>exact⟨0,Nat.zero_le _,rfl,_,rfl,TK⟩
  clear TK;obtain⟨k,hk,rfl,W,rfl,TK⟩:=hrel;by_cases hlt:k<n1
  ·have hlt':(k:Int)<(n1:Int):=by omega
   have LT:=zq hlt;obtain⟨x,hx⟩:∃ x,l[k]?=some x:=⟨_,Zg (by rw[<-LN1.o];exact hlt)⟩;obtain⟨y,hy⟩:∃ y,m[k]?=some y:=⟨_,Zg (by rw[<-LN2.o];exact hlt)⟩;obtain⟨b,o,e1,_,hcx⟩:=(H1.o.below TK.o.2).at_ hx;obtain⟨b',o',e2,_,hcy⟩:=(H2.o.below TK.o.2).at_ hy;subst e1;subst e2;have cx0:=hcx 0 (.int .i64 x.ak) rfl;have cx1:=hcx 1 (.int .i64 x.instr) rfl;have cx2:=hcx 2 (.int .i64 x.qty) rfl;have cy0:=hcy 0 (.int .i64 y.ak) rfl;have cy1:=hcy 1 (.int .i64 y.instr) rfl;have cy2:=hcy 2 (.int .i64 y.qty) rfl
   simp only[Nat.add_zero] at cx0 cy0
   have HX:=zq hx;have HY:=zq hy;clear hx hy hcx hcy
   go_upto_region 6 with (fail)
   have DW:=zq (show Below W.heap.size W W.drew from ((Mod.refl (fun _=>False) W).drew).aU);have BW:=zq (show Below w.heap.size w W.drew from TK.o.2.trans (DW.o.mono TK.o.2.size));refine aI.wz [] [] (.step 0 (.step 1 (.step 2 (.step 3 (.step 4 (.step 5 (.step 6 (.step 7 (.step 8 .leaf))))))))) (by kernel_rfl) (by kernel_rfl) ?_;refine aI.aC [0,1,2,3,4,5,6,7,8] (by kernel_rfl) ?_
   simp only[ay,nth]
   repeat (go_big_quiet_step (fail))
   refine jJ rfl .neq 72 (.tmp 19) (.tmp 23) 72 rfl _ _ _ rfl rfl (fun w _=>OX w x y _ _) ?_;refine wpQuiet_nil ?_;refine aI.bH ?_;go_simp;by_cases hxy:x=y
   ·subst hxy;rw[fE rfl];have TQ:=zq (show l.take (k+1)=m.take (k+1)/\Below w.heap.size w W.drew from ⟨jf HX.o HY.o TK.o.1,BW.o⟩);clear cx0
    go_wp2_with fail
    go_roundw
    case rel=>exact⟨k+1,by have:=LT.o;omega,by go_num,_,rfl,TQ⟩
    case measure=>have:=LT.o;simp[intOf];omega
   obtain rfl:R=false:=by rw[ER.o];exact uj HX.o HY.o hxy
   rw[dJ hxy]
   go_wp2_with fail
   go_ret;exact⟨rfl,BW.o⟩
  have hlt':¬ (k:Int)<(n1:Int):=by omega
  obtain rfl:n1=k:=by omega
  obtain rfl:R=true:=by rw[ER.o];exact kZ LN1.o.symm LN2.o.symm TK.o.1
  go_wp2_with fail
  go_ret;exact⟨rfl,TK.o.2⟩
 have hne':¬ (n1:Int)=(n2:Int):=by omega
 obtain rfl:R=false:=by rw[ER.o];exact uh (by rw[<-LN1.o,<-LN2.o];exact hne)
 go_enter Tryz.func43,Tryz.ntmps43
 go_wp2_with fail
 go_ret;exact⟨rfl,Below.refl _ _⟩
theorem Og {A B:aH} (h0:A.day=B.day) (h1:A.aQ=B.aQ) (h2:A.ah=B.ah) (h3:A.af=B.af) (h4:A.ai=B.ai) (h5:A.au=B.au) (h6:A.orders=B.orders) (h7:A.aG=B.aG) (h8:A.aJ=B.aJ):A=B:=by
 cases A;cases B;simp_all
theorem DT {x y:Acc} (h0:x.parent=y.parent) (h1:x.aT=y.aT) (h2:x.flag=y.flag) (h3:x.last=y.last):x=y:=by cases x;cases y;simp_all
theorem qP:(Tryz.prog.info? 52).map (·.size)=some 4:=by kernel_rfl
theorem iE {α:Type} {l m:List α} {k:Nat} {x y:α} (hx:l[k]?=some x) (hy:m[k]?=some y) (h:x≠y):l≠m:=fun e=>h (by rw[e,hy] at hx;exact (Option.some.inj hx).symm)
theorem J9 (w:World) (V U:aB) (A B:aH) (h:bK w V A) (h':bK w U B) (hs:A.Short) :
 Calls Tryz.prog 10 #[V.val A,U.val B] w fun e w'=>e=.returned (.bool (wu A B))/\Below w.heap.size w w':=by
 have HA:=zq (fun W (hW:Below w.heap.size w W)=>h.below hW);have HB:=zq (fun W (hW:Below w.heap.size w W)=>h'.below hW);have SH:=zq hs;obtain⟨R,hR⟩:=Zn (wu A B);rw[<-hR];have ER:=zq hR;clear hR;obtain⟨a1,c1,a2,c2,a3,c3,a4,c4,a5,c5,a6,c6,a7,c7,a8,c8,f1,f2,f3,f4,f5,f6,f7,f8⟩:=bK.opened h;obtain⟨b1,e1,b2,e2,b3,e3,b4,e4,b5,e5,b6,e6,b7,e7,b8,e8,g1,g2,g3,g4,g5,g6,g7,g8⟩:=bK.opened h';have FA:=zq (show V.aQ=.slice a1 A.aQ.length c1/\V.ah=.slice a2 A.ah.length c2/\V.af=.slice a3 A.af.length c3/\V.ai=.slice a4 A.ai.length c4/\V.au=.slice a5 A.au.length c5/\V.orders=.slice a6 A.orders.length c6/\V.aG=.slice a7 A.aG.length c7/\V.aJ=.slice a8 A.aJ.length c8 from ⟨f1,f2,f3,f4,f5,f6,f7,f8⟩);have FB:=zq (show U.aQ=.slice b1 B.aQ.length e1/\U.ah=.slice b2 B.ah.length e2/\U.af=.slice b3 B.af.length e3/\U.ai=.slice b4 B.ai.length e4/\U.au=.slice b5 B.au.length e5/\U.orders=.slice b6 B.orders.length e6/\U.aG=.slice b7 B.aG.length e7/\U.aJ=.slice b8 B.aJ.length e8 from ⟨g1,g2,g3,g4,g5,g6,g7,g8⟩);unfold aB.val aB.cells;rw[f1,f2,f3,f4,f5,f6,f7,f8,g1,g2,g3,g4,g5,g6,g7,g8];clear h h' hs f1 g1 f2 g2 f3 g3 f4 g4 f5 g5 f6 g6 f7 g7 f8 g8;obtain⟨n1,hn1⟩:=Zn A.aQ.length;obtain⟨m1,hm1⟩:=Zn B.aQ.length;have LA1:=zq hn1;have LB1:=zq hm1;rw[<-hn1,<-hm1];obtain⟨n2,hn2⟩:=Zn A.ah.length;obtain⟨m2,hm2⟩:=Zn B.ah.length;have LA2:=zq hn2;have LB2:=zq hm2;rw[<-hn2,<-hm2];obtain⟨n3,hn3⟩:=Zn A.af.length;obtain⟨m3,hm3⟩:=Zn B.af.length;have LA3:=zq hn3;have LB3:=zq hm3;rw[<-hn3,<-hm3];obtain⟨n4,hn4⟩:=Zn A.ai.length;obtain⟨m4,hm4⟩:=Zn B.ai.length;have LA4:=zq hn4;have LB4:=zq hm4;rw[<-hn4,<-hm4];obtain⟨n5,hn5⟩:=Zn A.au.length;obtain⟨m5,hm5⟩:=Zn B.au.length;have LA5:=zq hn5;have LB5:=zq hm5;rw[<-hn5,<-hm5];obtain⟨n6,hn6⟩:=Zn A.orders.length;obtain⟨m6,hm6⟩:=Zn B.orders.length;have LA6:=zq hn6;have LB6:=zq hm6;rw[<-hn6,<-hm6];obtain⟨n7,hn7⟩:=Zn A.aG.length;obtain⟨m7,hm7⟩:=Zn B.aG.length;have LA7:=zq hn7;have LB7:=zq hm7;rw[<-hn7,<-hm7];obtain⟨n8,hn8⟩:=Zn A.aJ.length;obtain⟨m8,hm8⟩:=Zn B.aJ.length;have LA8:=zq hn8;have LB8:=zq hm8;rw[<-hn8,<-hm8];rw[<-hn1] at FA;rw[<-hm1] at FB;rw[<-hn2] at FA;rw[<-hm2] at FB;rw[<-hn3] at FA;rw[<-hm3] at FB;rw[<-hn4] at FA;rw[<-hm4] at FB;rw[<-hn5] at FA;rw[<-hm5] at FB;rw[<-hn6] at FA;rw[<-hm6] at FB;rw[<-hn7] at FA;rw[<-hm7] at FB;rw[<-hn8] at FA;rw[<-hm8] at FB;have z4:n1<=140737488355328/\n2<=140737488355328/\n3<=140737488355328/\n4<=140737488355328/\n5<=140737488355328/\n6<=140737488355328/\n7<=140737488355328/\n8<=140737488355328:=⟨by rw[hn1];exact SH.o.b1,by rw[hn2];exact SH.o.b2,by rw[hn3];exact SH.o.b3,by rw[hn4];exact SH.o.b4,by rw[hn5];exact SH.o.b5,by rw[hn6];exact SH.o.b6,by rw[hn7];exact SH.o.b7,by rw[hn8];exact SH.o.b8⟩;obtain⟨s1,s2,s3,s4,s5,s6,s7,s8⟩:=z4;clear hn1 hm1 hn2 hm2 hn3 hm3 hn4 hm4 hn5 hm5 hn6 hm6 hn7 hm7 hn8 hm8;obtain⟨d,hd⟩:=Zn A.day;obtain⟨d2,hd2⟩:=Zn B.day;have DA:=zq hd;have DB:=zq hd2;rw[<-hd,<-hd2];clear hd hd2;by_cases D0:d=d2;rotate_left
 ·obtain rfl:R=false:=by rw[ER.o];exact dJ (fun e=>D0 (by rw[DA.o,DB.o,e]))
  have q:(d==d2)=false:=beq_false_of_ne D0;have X0:=zq (show Below w.heap.size w ((w.alloc (.cells #[.int .i64 d,.slice a1 n1 c1,.slice a2 n2 c2,.slice a3 n3 c3,.slice a4 n4 c4,.slice a5 n5 c5,.slice a6 n6 c6,.slice a7 n7 c7,.slice a8 n8 c8] 31)).alloc (.cells #[.int .i64 d2,.slice b1 m1 e1,.slice b2 m2 e2,.slice b3 m3 e3,.slice b4 m4 e4,.slice b5 m5 e5,.slice b6 m6 e6,.slice b7 m7 e7,.slice b8 m8 e8] 31)) from (Zb).alloc (by simp) _)
  go_enter Tryz.func10,Tryz.ntmps10
  go_wp2_with fail
  go_ret;exact⟨rfl,X0.o⟩
 subst D0;by_cases D1:n1=m1;rotate_left
 ·obtain rfl:R=false:=by rw[ER.o];exact dJ (fun e=>D1 (by rw[LA1.o,LB1.o,e]))
  have q:¬ (n1:Int)=(m1:Int):=by omega
  have X0:=zq (show Below w.heap.size w ((w.alloc (.cells #[.int .i64 d,.slice a1 n1 c1,.slice a2 n2 c2,.slice a3 n3 c3,.slice a4 n4 c4,.slice a5 n5 c5,.slice a6 n6 c6,.slice a7 n7 c7,.slice a8 n8 c8] 31)).alloc (.cells #[.int .i64 d,.slice b1 m1 e1,.slice b2 m2 e2,.slice b3 m3 e3,.slice b4 m4 e4,.slice b5 m5 e5,.slice b6 m6 e6,.slice b7 m7 e7,.slice b8 m8 e8] 31)) from (Zb).alloc (by simp) _)
  go_enter Tryz.func10,Tryz.ntmps10
  go_wp2_with fail
  go_ret;exact⟨rfl,X0.o⟩
 subst D1;by_cases D2:n2=m2;rotate_left
 ·obtain rfl:R=false:=by rw[ER.o];exact dJ (fun e=>D2 (by rw[LA2.o,LB2.o,e]))
  have q:¬ (n2:Int)=(m2:Int):=by omega
  have X0:=zq (show Below w.heap.size w ((w.alloc (.cells #[.int .i64 d,.slice a1 n1 c1,.slice a2 n2 c2,.slice a3 n3 c3,.slice a4 n4 c4,.slice a5 n5 c5,.slice a6 n6 c6,.slice a7 n7 c7,.slice a8 n8 c8] 31)).alloc (.cells #[.int .i64 d,.slice b1 n1 e1,.slice b2 m2 e2,.slice b3 m3 e3,.slice b4 m4 e4,.slice b5 m5 e5,.slice b6 m6 e6,.slice b7 m7 e7,.slice b8 m8 e8] 31)) from (Zb).alloc (by simp) _)
  go_enter Tryz.func10,Tryz.ntmps10
  go_wp2_with fail
  go_ret;exact⟨rfl,X0.o⟩
 subst D2;by_cases D3:n3=m3;rotate_left
 ·obtain rfl:R=false:=by rw[ER.o];exact dJ (fun e=>D3 (by rw[LA3.o,LB3.o,e]))
  have q:¬ (n3:Int)=(m3:Int):=by omega
  have X0:=zq (show Below w.heap.size w ((w.alloc (.cells #[.int .i64 d,.slice a1 n1 c1,.slice a2 n2 c2,.slice a3 n3 c3,.slice a4 n4 c4,.slice a5 n5 c5,.slice a6 n6 c6,.slice a7 n7 c7,.slice a8 n8 c8] 31)).alloc (.cells #[.int .i64 d,.slice b1 n1 e1,.slice b2 n2 e2,.slice b3 m3 e3,.slice b4 m4 e4,.slice b5 m5 e5,.slice b6 m6 e6,.slice b7 m7 e7,.slice b8 m8 e8] 31)) from (Zb).alloc (by simp) _)
  go_enter Tryz.func10,Tryz.ntmps10
  go_wp2_with fail
  go_ret;exact⟨rfl,X0.o⟩
 subst D3;by_cases D4:n4=m4;rotate_left
 ·obtain rfl:R=false:=by rw[ER.o];exact dJ (fun e=>D4 (by rw[LA4.o,LB4.o,e]))
  have q:¬ (n4:Int)=(m4:Int):=by omega
  have X0:=zq (show Below w.heap.size w ((w.alloc (.cells #[.int .i64 d,.slice a1 n1 c1,.slice a2 n2 c2,.slice a3 n3 c3,.slice a4 n4 c4,.slice a5 n5 c5,.slice a6 n6 c6,.slice a7 n7 c7,.slice a8 n8 c8] 31)).alloc (.cells #[.int .i64 d,.slice b1 n1 e1,.slice b2 n2 e2,.slice b3 n3 e3,.slice b4 m4 e4,.slice b5 m5 e5,.slice b6 m6 e6,.slice b7 m7 e7,.slice b8 m8 e8] 31)) from (Zb).alloc (by simp) _)
  go_enter Tryz.func10,Tryz.ntmps10
  go_wp2_with fail
  go_ret;exact⟨rfl,X0.o⟩
 subst D4;have X0:=zq (((At.start w).alloc 31 #[.int .i64 d,.slice a1 n1 c1,.slice a2 n2 c2,.slice a3 n3 c3,.slice a4 n4 c4,.slice a5 n5 c5,.slice a6 n6 c6,.slice a7 n7 c7,.slice a8 n8 c8]).alloc 31 #[.int .i64 d,.slice b1 n1 e1,.slice b2 n2 e2,.slice b3 n3 e3,.slice b4 n4 e4,.slice b5 m5 e5,.slice b6 m6 e6,.slice b7 m7 e7,.slice b8 m8 e8])
 go_enter Tryz.func10,Tryz.ntmps10
 go_upto_region 1 with (fail)
 obtain⟨W,hW⟩:=Zn ((w.alloc (.cells #[.int .i64 d,.slice a1 n1 c1,.slice a2 n2 c2,.slice a3 n3 c3,.slice a4 n4 c4,.slice a5 n5 c5,.slice a6 n6 c6,.slice a7 n7 c7,.slice a8 n8 c8] 31)).alloc (.cells #[.int .i64 d,.slice b1 n1 e1,.slice b2 n2 e2,.slice b3 n3 e3,.slice b4 n4 e4,.slice b5 m5 e5,.slice b6 m6 e6,.slice b7 m7 e7,.slice b8 m8 e8] 31));obtain⟨q1,hq1⟩:=Zn w.heap.size;obtain⟨q2,hq2⟩:=Zn (w.heap.size+1);rw[<-hW,<-hq2,<-hq1];have X:=zq (show At w W [(q1, 31,#[.int .i64 d,.slice a1 n1 c1,.slice a2 n2 c2,.slice a3 n3 c3,.slice a4 n4 c4,.slice a5 n5 c5,.slice a6 n6 c6,.slice a7 n7 c7,.slice a8 n8 c8]),(q2, 31,#[.int .i64 d,.slice b1 n1 e1,.slice b2 n2 e2,.slice b3 n3 e3,.slice b4 n4 e4,.slice b5 m5 e5,.slice b6 m6 e6,.slice b7 m7 e7,.slice b8 m8 e8])] from by
  have h:=X0.o;rw[<-hW] at h
  simp at h
  rw[hq1,hq2];exact h)
 clear X0 hW hq1 hq2;have y0:W.cell? ⟨q1,0,none⟩=some (.int .i64 d):=X.o.cell 0 rfl 0 rfl;have x0:W.cell? ⟨q2,0,none⟩=some (.int .i64 d):=X.o.cell 1 rfl 0 rfl;have y1:W.cell? ⟨q1,1,none⟩=some (.slice a1 n1 c1):=X.o.cell 0 rfl 1 rfl;have x1:W.cell? ⟨q2,1,none⟩=some (.slice b1 n1 e1):=X.o.cell 1 rfl 1 rfl;have y2:W.cell? ⟨q1,2,none⟩=some (.slice a2 n2 c2):=X.o.cell 0 rfl 2 rfl;have x2:W.cell? ⟨q2,2,none⟩=some (.slice b2 n2 e2):=X.o.cell 1 rfl 2 rfl;have y3:W.cell? ⟨q1,3,none⟩=some (.slice a3 n3 c3):=X.o.cell 0 rfl 3 rfl;have x3:W.cell? ⟨q2,3,none⟩=some (.slice b3 n3 e3):=X.o.cell 1 rfl 3 rfl;have y4:W.cell? ⟨q1,4,none⟩=some (.slice a4 n4 c4):=X.o.cell 0 rfl 4 rfl;have x4:W.cell? ⟨q2,4,none⟩=some (.slice b4 n4 e4):=X.o.cell 1 rfl 4 rfl
 go_upto_region 3 with (fail)
 clear y0 x0 y1 x1 y2 x2 y3 x3 y4 x4;have y1:W.cell? ⟨q1,1,none⟩=some (.slice a1 n1 c1):=X.o.cell 0 rfl 1 rfl;have x1:W.cell? ⟨q2,1,none⟩=some (.slice b1 n1 e1):=X.o.cell 1 rfl 1 rfl
 go_wp2_with fail
 go_loopw [55] (fun i wr=>∃ k:Nat,k<=n1/\i=.int .i64 k/\∃ W,W=wr/\Hid (A.aQ.take k=B.aQ.take k/\At w W [(q1, 31,#[.int .i64 d,.slice a1 n1 c1,.slice a2 n2 c2,.slice a3 n3 c3,.slice a4 n4 c4,.slice a5 n5 c5,.slice a6 n6 c6,.slice a7 n7 c7,.slice a8 n8 c8]),(q2, 31,#[.int .i64 d,.slice b1 n1 e1,.slice b2 n2 e2,.slice b3 n3 e3,.slice b4 n4 e4,.slice b5 m5 e5,.slice b6 m6 e6,.slice b7 m7 e7,.slice b8 m8 e8])])) (fun i _=>n1 - (intOf i).toNat)
 case atStart=>exact⟨0,Nat.zero_le _,rfl,_,rfl,zq ⟨rfl,X.o⟩⟩
 clear X y1 x1;obtain⟨k,hk,rfl,W,rfl,TK⟩:=hrel;by_cases hlt:k<n1
 ·have hlt':(k:Int)<(n1:Int):=by omega
  have LT:=zq hlt;obtain⟨x,hx⟩:∃ x,A.aQ[k]?=some x:=⟨_,Zg (by rw[<-LA1.o];exact hlt)⟩;obtain⟨y,hy⟩:∃ y,B.aQ[k]?=some y:=⟨_,Zg (by rw[<-LB1.o];exact hlt)⟩;have h1:=(HA.o W TK.o.2.low).aQ;have h2:=(HB.o W TK.o.2.low).aQ;rw[FA.o.1] at h1;rw[FB.o.1] at h2;obtain⟨g,o,eg,_,hcx⟩:=h1.at_ hx;obtain⟨g',o',eg',_,hcy⟩:=h2.at_ hy;clear h1 h2;subst eg;subst eg';have cx0:=hcx 0 (.int .i64 x.rate) rfl;have cy0:=hcy 0 (.int .i64 y.rate) rfl;have cx1:=hcx 1 (.int .i64 x.dL) rfl;have cy1:=hcy 1 (.int .i64 y.dL) rfl
  simp only[Nat.add_zero] at cx0 cy0
  have HX:=zq hx;have HY:=zq hy;clear hx hy hcx hcy;have y1:W.cell? ⟨q1,1,none⟩=some (.slice (some ⟨g,o,none⟩) n1 c1):=TK.o.2.cell 0 rfl 1 rfl;have y2:W.cell? ⟨q2,1,none⟩=some (.slice (some ⟨g',o',none⟩) n1 e1):=TK.o.2.cell 1 rfl 1 rfl
  go_upto_region 6 with (fail)
  have BW:=zq TK.o.2.drew;refine aI.wz [] [] (.step 0 (.step 1 (.step 2 (.step 3 (.step 4 (.step 5 (.step 6 (.step 7 (.step 8 (.step 9 (.step 10 .leaf))))))))))) (by kernel_rfl) (by kernel_rfl) ?_;refine aI.aC [0,1,2,3,4,5,6,7,8,9,10] (by kernel_rfl) ?_
  simp only[ay,nth]
  repeat (go_big_quiet_step (fail))
  refine jJ rfl .neq 86 (.tmp 62) (.tmp 67) 86 rfl _ _ _ rfl rfl (fun w _=>OU w x y _ _) ?_;refine wpQuiet_nil ?_;refine aI.bH ?_;clear y1 y2 cx0 cy0 cx1 cy1;go_simp;by_cases hxy:x=y
  ·subst hxy;rw[fE rfl];have TQ:=zq (show A.aQ.take (k+1)=B.aQ.take (k+1)/\At w W.drew [(q1, 31,#[.int .i64 d,.slice (some ⟨g,o,none⟩) n1 c1,.slice a2 n2 c2,.slice a3 n3 c3,.slice a4 n4 c4,.slice a5 n5 c5,.slice a6 n6 c6,.slice a7 n7 c7,.slice a8 n8 c8]),(q2, 31,#[.int .i64 d,.slice (some ⟨g',o',none⟩) n1 e1,.slice b2 n2 e2,.slice b3 n3 e3,.slice b4 n4 e4,.slice b5 m5 e5,.slice b6 m6 e6,.slice b7 m7 e7,.slice b8 m8 e8])] from ⟨jf HX.o HY.o TK.o.1,BW.o⟩)
   go_wp2_with fail
   go_roundw
   case rel=>exact⟨k+1,by have:=LT.o;omega,by go_num,_,rfl,TQ⟩
   case measure=>have:=LT.o;simp[intOf];omega
  obtain rfl:R=false:=by rw[ER.o];exact dJ (fun e=>iE HX.o HY.o hxy (by rw[e]))
  rw[dJ hxy]
  go_wp2_with fail
  go_ret;exact⟨rfl,BW.o.low⟩
 have hlt':¬ (k:Int)<(n1:Int):=by omega
 obtain rfl:n1=k:=by omega
 have EQ1:=zq (show A.aQ=B.aQ from wK.1 (kZ LA1.o.symm LB1.o.symm TK.o.1));have X:=zq TK.o.2;clear TK;have y2:W.cell? ⟨q1,2,none⟩=some (.slice a2 n2 c2):=X.o.cell 0 rfl 2 rfl;have x2:W.cell? ⟨q2,2,none⟩=some (.slice b2 n2 e2):=X.o.cell 1 rfl 2 rfl
 go_wp2_with fail
 go_loopw [73] (fun i wr=>∃ k:Nat,k<=n2/\i=.int .i64 k/\∃ W,W=wr/\Hid (A.ah.take k=B.ah.take k/\At w W [(q1, 31,#[.int .i64 d,.slice a1 n1 c1,.slice a2 n2 c2,.slice a3 n3 c3,.slice a4 n4 c4,.slice a5 n5 c5,.slice a6 n6 c6,.slice a7 n7 c7,.slice a8 n8 c8]),(q2, 31,#[.int .i64 d,.slice b1 n1 e1,.slice b2 n2 e2,.slice b3 n3 e3,.slice b4 n4 e4,.slice b5 m5 e5,.slice b6 m6 e6,.slice b7 m7 e7,.slice b8 m8 e8])])) (fun i _=>n2 - (intOf i).toNat)
 case atStart=>exact⟨0,Nat.zero_le _,rfl,_,rfl,zq ⟨rfl,X.o⟩⟩
 clear X y2 x2;obtain⟨k,hk,rfl,W,rfl,TK⟩:=hrel;by_cases hlt:k<n2
 ·have hlt':(k:Int)<(n2:Int):=by omega
  have LT:=zq hlt;obtain⟨x,hx⟩:∃ x,A.ah[k]?=some x:=⟨_,Zg (by rw[<-LA2.o];exact hlt)⟩;obtain⟨y,hy⟩:∃ y,B.ah[k]?=some y:=⟨_,Zg (by rw[<-LB2.o];exact hlt)⟩;have h1:=(HA.o W TK.o.2.low).ah;have h2:=(HB.o W TK.o.2.low).ah;rw[FA.o.2.1] at h1;rw[FB.o.2.1] at h2;obtain⟨g,o,eg,_,hcx⟩:=h1.at_ hx;obtain⟨g',o',eg',_,hcy⟩:=h2.at_ hy;clear h1 h2;subst eg;subst eg';have cx0:=hcx 0 (.string x.name) rfl;have cy0:=hcy 0 (.string y.name) rfl;have cx1:=hcx 1 (.int .i64 x.cur) rfl;have cy1:=hcy 1 (.int .i64 y.cur) rfl;have cx2:=hcx 2 (.int .i64 x.price) rfl;have cy2:=hcy 2 (.int .i64 y.price) rfl;have cx3:=hcx 3 (.int .i64 x.cZ) rfl;have cy3:=hcy 3 (.int .i64 y.cZ) rfl
  simp only[Nat.add_zero] at cx0 cy0
  have HX:=zq hx;have HY:=zq hy;clear hx hy hcx hcy;have y1:W.cell? ⟨q1,2,none⟩=some (.slice (some ⟨g,o,none⟩) n2 c2):=TK.o.2.cell 0 rfl 2 rfl;have y2:W.cell? ⟨q2,2,none⟩=some (.slice (some ⟨g',o',none⟩) n2 e2):=TK.o.2.cell 1 rfl 2 rfl
  go_upto_region 12 with (fail)
  have BW:=zq TK.o.2.drew;refine aI.wz [] [] (.step 0 (.step 1 (.step 2 (.step 3 (.step 4 (.step 5 (.step 6 (.step 7 (.step 8 (.step 9 (.step 10 .leaf))))))))))) (by kernel_rfl) (by kernel_rfl) ?_;refine aI.aC [0,1,2,3,4,5,6,7,8,9,10] (by kernel_rfl) ?_
  simp only[ay,nth]
  repeat (go_big_quiet_step (fail))
  refine jJ rfl .neq 48 (.tmp 80) (.tmp 85) 48 rfl _ _ _ rfl rfl (fun w _=>JK w x y _ _) ?_;refine wpQuiet_nil ?_;refine aI.bH ?_;clear y1 y2 cx0 cy0 cx1 cy1 cx2 cy2 cx3 cy3;go_simp;by_cases hxy:x=y
  ·subst hxy;rw[fE rfl];have TQ:=zq (show A.ah.take (k+1)=B.ah.take (k+1)/\At w W.drew [(q1, 31,#[.int .i64 d,.slice a1 n1 c1,.slice (some ⟨g,o,none⟩) n2 c2,.slice a3 n3 c3,.slice a4 n4 c4,.slice a5 n5 c5,.slice a6 n6 c6,.slice a7 n7 c7,.slice a8 n8 c8]),(q2, 31,#[.int .i64 d,.slice b1 n1 e1,.slice (some ⟨g',o',none⟩) n2 e2,.slice b3 n3 e3,.slice b4 n4 e4,.slice b5 m5 e5,.slice b6 m6 e6,.slice b7 m7 e7,.slice b8 m8 e8])] from ⟨jf HX.o HY.o TK.o.1,BW.o⟩)
   go_wp2_with fail
   go_roundw
   case rel=>exact⟨k+1,by have:=LT.o;omega,by go_num,_,rfl,TQ⟩
   case measure=>have:=LT.o;simp[intOf];omega
  obtain rfl:R=false:=by rw[ER.o];exact dJ (fun e=>iE HX.o HY.o hxy (by rw[e]))
  rw[dJ hxy]
  go_wp2_with fail
  go_ret;exact⟨rfl,BW.o.low⟩
 have hlt':¬ (k:Int)<(n2:Int):=by omega
 obtain rfl:n2=k:=by omega
 have EQ2:=zq (show A.ah=B.ah from wK.1 (kZ LA2.o.symm LB2.o.symm TK.o.1));have X:=zq TK.o.2;clear TK;have y3:W.cell? ⟨q1,3,none⟩=some (.slice a3 n3 c3):=X.o.cell 0 rfl 3 rfl;have x3:W.cell? ⟨q2,3,none⟩=some (.slice b3 n3 e3):=X.o.cell 1 rfl 3 rfl
 go_wp2_with fail
 go_loopw [91] (fun i wr=>∃ k:Nat,k<=n3/\i=.int .i64 k/\∃ W,W=wr/\Hid (A.af.take k=B.af.take k/\At w W [(q1, 31,#[.int .i64 d,.slice a1 n1 c1,.slice a2 n2 c2,.slice a3 n3 c3,.slice a4 n4 c4,.slice a5 n5 c5,.slice a6 n6 c6,.slice a7 n7 c7,.slice a8 n8 c8]),(q2, 31,#[.int .i64 d,.slice b1 n1 e1,.slice b2 n2 e2,.slice b3 n3 e3,.slice b4 n4 e4,.slice b5 m5 e5,.slice b6 m6 e6,.slice b7 m7 e7,.slice b8 m8 e8])])) (fun i _=>n3 - (intOf i).toNat)
 case atStart=>exact⟨0,Nat.zero_le _,rfl,_,rfl,zq ⟨rfl,X.o⟩⟩
 clear X y3 x3;obtain⟨k,hk,rfl,W,rfl,TK⟩:=hrel;by_cases hlt:k<n3
 ·have hlt':(k:Int)<(n3:Int):=by omega
  have LT:=zq hlt;obtain⟨x,hx⟩:∃ x,A.af[k]?=some x:=⟨_,Zg (by rw[<-LA3.o];exact hlt)⟩;obtain⟨y,hy⟩:∃ y,B.af[k]?=some y:=⟨_,Zg (by rw[<-LB3.o];exact hlt)⟩;have h1:=(HA.o W TK.o.2.low).af;have h2:=(HB.o W TK.o.2.low).af;rw[FA.o.2.2.1] at h1;rw[FB.o.2.2.1] at h2;obtain⟨g,o,eg,_,hcx⟩:=h1.at_ hx;obtain⟨g',o',eg',_,hcy⟩:=h2.at_ hy;clear h1 h2;subst eg;subst eg';have cx0:=hcx 0 (.int .i64 x.kind) rfl;have cy0:=hcy 0 (.int .i64 y.kind) rfl;have cx1:=hcx 1 (.int .i64 x.under) rfl;have cy1:=hcy 1 (.int .i64 y.under) rfl;have cx2:=hcx 2 (.int .i64 x.mult) rfl;have cy2:=hcy 2 (.int .i64 y.mult) rfl;have cx3:=hcx 3 (.int .i64 x.strike) rfl;have cy3:=hcy 3 (.int .i64 y.strike) rfl;have cx4:=hcx 4 (.int .i64 x.aN) rfl;have cy4:=hcy 4 (.int .i64 y.aN) rfl;have cx5:=hcx 5 (.bool x.call) rfl;have cy5:=hcy 5 (.bool y.call) rfl;have cx6:=hcx 6 (.int .i64 x.mark) rfl;have cy6:=hcy 6 (.int .i64 y.mark) rfl
  simp only[Nat.add_zero] at cx0 cy0
  have HX:=zq hx;have HY:=zq hy;clear hx hy hcx hcy;have y1:W.cell? ⟨q1,3,none⟩=some (.slice (some ⟨g,o,none⟩) n3 c3):=TK.o.2.cell 0 rfl 3 rfl;have y2:W.cell? ⟨q2,3,none⟩=some (.slice (some ⟨g',o',none⟩) n3 e3):=TK.o.2.cell 1 rfl 3 rfl
  go_upto_region 18 with (fail)
  have BW:=zq TK.o.2.drew;refine aI.wz [] [] (.step 0 (.step 1 (.step 2 (.step 3 (.step 4 (.step 5 (.step 6 (.step 7 (.step 8 (.step 9 (.step 10 .leaf))))))))))) (by kernel_rfl) (by kernel_rfl) ?_;refine aI.aC [0,1,2,3,4,5,6,7,8,9,10] (by kernel_rfl) ?_
  simp only[ay,nth]
  repeat (go_big_quiet_step (fail))
  refine jJ rfl .neq 66 (.tmp 98) (.tmp 103) 66 rfl _ _ _ rfl rfl (fun w _=>JI w x y _ _) ?_;refine wpQuiet_nil ?_;refine aI.bH ?_;clear y1 y2 cx0 cy0 cx1 cy1 cx2 cy2 cx3 cy3 cx4 cy4 cx5 cy5 cx6 cy6;go_simp;by_cases hxy:x=y
  ·subst hxy;rw[fE rfl];have TQ:=zq (show A.af.take (k+1)=B.af.take (k+1)/\At w W.drew [(q1, 31,#[.int .i64 d,.slice a1 n1 c1,.slice a2 n2 c2,.slice (some ⟨g,o,none⟩) n3 c3,.slice a4 n4 c4,.slice a5 n5 c5,.slice a6 n6 c6,.slice a7 n7 c7,.slice a8 n8 c8]),(q2, 31,#[.int .i64 d,.slice b1 n1 e1,.slice b2 n2 e2,.slice (some ⟨g',o',none⟩) n3 e3,.slice b4 n4 e4,.slice b5 m5 e5,.slice b6 m6 e6,.slice b7 m7 e7,.slice b8 m8 e8])] from ⟨jf HX.o HY.o TK.o.1,BW.o⟩)
   go_wp2_with fail
   go_roundw
   case rel=>exact⟨k+1,by have:=LT.o;omega,by go_num,_,rfl,TQ⟩
   case measure=>have:=LT.o;simp[intOf];omega
  obtain rfl:R=false:=by rw[ER.o];exact dJ (fun e=>iE HX.o HY.o hxy (by rw[e]))
  rw[dJ hxy]
  go_wp2_with fail
  go_ret;exact⟨rfl,BW.o.low⟩
 have hlt':¬ (k:Int)<(n3:Int):=by omega
 obtain rfl:n3=k:=by omega
 have EQ3:=zq (show A.af=B.af from wK.1 (kZ LA3.o.symm LB3.o.symm TK.o.1));have X:=zq TK.o.2;clear TK;have y4:W.cell? ⟨q1,4,none⟩=some (.slice a4 n4 c4):=X.o.cell 0 rfl 4 rfl;have x4:W.cell? ⟨q2,4,none⟩=some (.slice b4 n4 e4):=X.o.cell 1 rfl 4 rfl
 go_wp2_with fail
 go_loopw [109] (fun i wr=>∃ k:Nat,k<=n4/\i=.int .i64 k/\∃ W,W=wr/\Hid (A.ai.take k=B.ai.take k/\At w W [(q1, 31,#[.int .i64 d,.slice a1 n1 c1,.slice a2 n2 c2,.slice a3 n3 c3,.slice a4 n4 c4,.slice a5 n5 c5,.slice a6 n6 c6,.slice a7 n7 c7,.slice a8 n8 c8]),(q2, 31,#[.int .i64 d,.slice b1 n1 e1,.slice b2 n2 e2,.slice b3 n3 e3,.slice b4 n4 e4,.slice b5 m5 e5,.slice b6 m6 e6,.slice b7 m7 e7,.slice b8 m8 e8])])) (fun i _=>n4 - (intOf i).toNat)
 case atStart=>exact⟨0,Nat.zero_le _,rfl,_,rfl,zq ⟨rfl,X.o⟩⟩
 clear X y4 x4;obtain⟨k,hk,rfl,W,rfl,TK⟩:=hrel;by_cases hlt:k<n4
 ·have hlt':(k:Int)<(n4:Int):=by omega
  have LT:=zq hlt;have SA:=(HA.o W TK.o.2.low).same;have SB:=(HB.o W TK.o.2.low).same;obtain⟨p,hp⟩:∃ p,V.ac[k]?=some p:=⟨_,Zg (by have h:=congrArg List.length SA;simp at h;have:=LA4.o;omega)⟩;obtain⟨r,hr⟩:∃ p,U.ac[k]?=some p:=⟨_,Zg (by have h:=congrArg List.length SB;simp at h;have:=LB4.o;omega)⟩;have hx:A.ai[k]?=some p.1:=by rw[SA,List.getElem?_map,hp];rfl
  have hy:B.ai[k]?=some r.1:=by rw[SB,List.getElem?_map,hr];rfl
  have CX:=zq (fun W2 (hW:Below w.heap.size w W2)=>(HA.o W2 hW).aT p (List.mem_of_getElem? hp));have CY:=zq (fun W2 (hW:Below w.heap.size w W2)=>(HB.o W2 hW).aT r (List.mem_of_getElem? hr));have CL:=zq (show p.1.aT.length<=140737488355328 from by have:=SH.o.aT p.1 (List.mem_of_getElem? hx);omega);have h1:=fun W2 (hW:Below w.heap.size w W2)=>(HA.o W2 hW).ai
  have h2:=fun W2 (hW:Below w.heap.size w W2)=>(HB.o W2 hW).ai
  rw[FA.o.2.2.2.1] at h1;rw[FB.o.2.2.2.1] at h2;obtain⟨pa,pc,hpv⟩:=(CX.o W TK.o.2.low).form;obtain⟨ra,rc,hrv⟩:=(CY.o W TK.o.2.low).form;obtain⟨x,pv⟩:=p;obtain⟨y,rv⟩:=r;obtain⟨pn,hpn⟩:=Zn x.aT.length;obtain⟨rn,hrn⟩:=Zn y.aT.length;obtain rfl:pv=.slice pa pn pc:=by rw[hpn];exact hpv
  obtain rfl:rv=.slice ra rn rc:=by rw[hrn];exact hrv
  obtain⟨g,o,eg,_,_⟩:=(h1 W TK.o.2.low).at_ hp;obtain⟨g',o',eg',_,_⟩:=(h2 W TK.o.2.low).at_ hr;subst eg;subst eg';have HX:=zq hx;have HY:=zq hy;have QX:=zq (show ∀ W2,Below w.heap.size w W2->∀ (j:Nat) u,(Acc.cells (x,.slice pa pn pc))[j]?=some u->W2.cell? ⟨g,o+k*4+j,none⟩=some u from fun W2 hW=>by
   obtain⟨_,_,e,_,hc⟩:=(h1 W2 hW).at_ hp
   cases e
   exact hc)
  have QY:=zq (show ∀ W2,Below w.heap.size w W2->∀ (j:Nat) u,(Acc.cells (y,.slice ra rn rc))[j]?=some u->W2.cell? ⟨g',o'+k*4+j,none⟩=some u from fun W2 hW=>by
   obtain⟨_,_,e,_,hc⟩:=(h2 W2 hW).at_ hr
   cases e
   exact hc)
  have SI:=zq (fun W2 (hW:Below w.heap.size w W2)=>xZ W2 (.slice pa pn pc) (.slice ra rn rc) x.aT y.aT (CX.o W2 hW) (CY.o W2 hW) CL.o);clear hx hy hp hr h1 h2 hpv hrv SA SB CX CY CL hpn hrn
  go_upto_region 24 with (fail)
  have DW:=zq (show Below W.heap.size W W.drew from ((Mod.refl (fun _=>False) W).drew).aU);have lowz:∀ z:dh (fun w'=>Below W.heap.size W w'),Below w.heap.size w z.w:=fun z=>TK.o.2.low.trans (z.ok.mono TK.o.2.low.size)
  have y1:∀ z:dh (fun w'=>Below W.heap.size W w'),z.w.cell? ⟨q1,4,none⟩=some (.slice (some ⟨g,o,none⟩) n4 c4):=fun z=>(TK.o.2.go z.ok).cell 0 rfl 4 rfl
  have y2:∀ z:dh (fun w'=>Below W.heap.size W w'),z.w.cell? ⟨q2,4,none⟩=some (.slice (some ⟨g',o',none⟩) n4 e4):=fun z=>(TK.o.2.go z.ok).cell 1 rfl 4 rfl
  have cx0:∀ z:dh (fun w'=>Below W.heap.size W w'),z.w.cell? ⟨g,o+k*4,none⟩=some (.int .i64 x.parent):=fun z=>QX.o z.w (lowz z) 0 _ rfl
  have cx1:∀ z:dh (fun w'=>Below W.heap.size W w'),z.w.cell? ⟨g,o+k*4+1,none⟩=some (.slice pa pn pc):=fun z=>QX.o z.w (lowz z) 1 _ rfl
  have cx2:∀ z:dh (fun w'=>Below W.heap.size W w'),z.w.cell? ⟨g,o+k*4+2,none⟩=some (.bool x.flag):=fun z=>QX.o z.w (lowz z) 2 _ rfl
  have cx3:∀ z:dh (fun w'=>Below W.heap.size W w'),z.w.cell? ⟨g,o+k*4+3,none⟩=some (.int .i64 x.last):=fun z=>QX.o z.w (lowz z) 3 _ rfl
  have cy0:∀ z:dh (fun w'=>Below W.heap.size W w'),z.w.cell? ⟨g',o'+k*4,none⟩=some (.int .i64 y.parent):=fun z=>QY.o z.w (lowz z) 0 _ rfl
  have cy1:∀ z:dh (fun w'=>Below W.heap.size W w'),z.w.cell? ⟨g',o'+k*4+1,none⟩=some (.slice ra rn rc):=fun z=>QY.o z.w (lowz z) 1 _ rfl
  have cy2:∀ z:dh (fun w'=>Below W.heap.size W w'),z.w.cell? ⟨g',o'+k*4+2,none⟩=some (.bool y.flag):=fun z=>QY.o z.w (lowz z) 2 _ rfl
  have cy3:∀ z:dh (fun w'=>Below W.heap.size W w'),z.w.cell? ⟨g',o'+k*4+3,none⟩=some (.int .i64 y.last):=fun z=>QY.o z.w (lowz z) 3 _ rfl
  clear lowz;refine aI.aX (C:=fun w'=>∃ z:dh (fun w'=>Below W.heap.size W w'),w'=z.w) [10,11,12,13] [0,1,2,3,4,5,6,7,8,9] (.step 0 (.step 1 (.step 2 (.step 3 (.step 4 (.step 5 (.step 6 (.step 7 (.step 8 (.step 9 (.fork 10 (.step 11 (.step 12 (.step 13 .leaf))) 11 (.step 10 (.step 12 (.step 13 .leaf)))))))))))))) (fun _ _ _=>False) (by kernel_rfl) (fun _ _ _ h=>h.elim) (by kernel_rfl) ⟨⟨W.drew,DW.o⟩,rfl⟩ ?_
  haveI ne:Nonempty (dh (fun w'=>Below W.heap.size W w')):=⟨⟨W,Below.refl _ _⟩⟩
  refine aI.bM [0,1,2,3,4,5,6,7,8,9] (by kernel_rfl) ?_
  simp only[ay,nth]
  repeat (go_big_quiet_step (fail))
  refine wpQuiet_nil ?_;clear y1 y2 cx0 cx1 cx2 cx3 cy0 cy1 cy2 cy3;obtain⟨g9,hg9⟩:=Zn W.heap.size;obtain⟨g10,hg10⟩:=Zn (W.heap.size+1);have BX:=zq (show At w ((W.alloc (.cells #[.int .i64 0,.slice none 0 0,.bool false,.int .i64 0] 52)).alloc (.cells #[.int .i64 0,.slice none 0 0,.bool false,.int .i64 0] 52)).drew ([(q1, 31,#[.int .i64 d,.slice a1 n1 c1,.slice a2 n2 c2,.slice a3 n3 c3,.slice (some ⟨g,o,none⟩) n4 c4,.slice a5 n5 c5,.slice a6 n6 c6,.slice a7 n7 c7,.slice a8 n8 c8]),(q2, 31,#[.int .i64 d,.slice b1 n1 e1,.slice b2 n2 e2,.slice b3 n3 e3,.slice (some ⟨g',o',none⟩) n4 e4,.slice b5 m5 e5,.slice b6 m6 e6,.slice b7 m7 e7,.slice b8 m8 e8])]++[(g9, 52,#[.int .i64 0,.slice none 0 0,.bool false,.int .i64 0]),(g10, 52,#[.int .i64 0,.slice none 0 0,.bool false,.int .i64 0])]) from by
   have h:=((TK.o.2.alloc 52 #[.int .i64 0,.slice none 0 0,.bool false,.int .i64 0]).alloc 52 #[.int .i64 0,.slice none 0 0,.bool false,.int .i64 0]).drew;have e1:W.heap.size=g9:=hg9.symm;have e2:(W.alloc (.cells #[.int .i64 0,.slice none 0 0,.bool false,.int .i64 0] 52)).heap.size=g10:=by rw[hg10];simp
   rw[e1,e2] at h;exact h)
  have BL:=zq (show Below W.heap.size W ((W.alloc (.cells #[.int .i64 0,.slice none 0 0,.bool false,.int .i64 0] 52)).alloc (.cells #[.int .i64 0,.slice none 0 0,.bool false,.int .i64 0] 52)).drew from ((((Mod.refl (fun _=>False) W).alloc _).alloc _).drew).aU);have G9:=zq (show g9=W.heap.size/\g10=W.heap.size+1 from ⟨hg9,hg10⟩);refine aI.lQ ?_ ?_
  ·refine aI.aK (by kernel_rfl) rfl (fun K hK=>?_)
   simp only[ay,nth]
   refine aA ?_;go_simp;refine hK _ _ (fun _=>⟨⟨W.drew.alloc (.cells #[.int .i64 0,.slice none 0 0,.bool false,.int .i64 0] 52),DW.o.alloc DW.o.size _⟩,rfl⟩) ?_;clear hK;refine aI.aK (by kernel_rfl) rfl (fun K hK=>?_)
   simp only[ay,nth]
   refine aA ?_;go_simp;refine hK _ _ (fun _=>⟨⟨((W.alloc (.cells #[.int .i64 0,.slice none 0 0,.bool false,.int .i64 0] 52)).alloc (.cells #[.int .i64 0,.slice none 0 0,.bool false,.int .i64 0] 52)).drew,BL.o⟩,rfl⟩) ?_;clear hK;rw[<-hg10,<-hg9];clear hg9 hg10;refine aI.aK (by kernel_rfl) rfl (fun K hK=>?_)
   simp only[ay,nth]
   refine aA ?_;refine wp_store_row 52 (.tmp 9) (.tmp 116) rfl g9 #[.int .i64 x.parent,.slice pa pn pc,.bool x.flag,.int .i64 x.last] rfl rfl 52 #[.int .i64 0,.slice none 0 0,.bool false,.int .i64 0] (BX.o.get 2 rfl) qP rfl (by simp[Value.oneCell']) ?_;go_simp;obtain⟨W5,hW5⟩:=Zn (((W.alloc (.cells #[.int .i64 0,.slice none 0 0,.bool false,.int .i64 0] 52)).alloc (.cells #[.int .i64 0,.slice none 0 0,.bool false,.int .i64 0] 52)).drew.setRow g9 #[.int .i64 x.parent,.slice pa pn pc,.bool x.flag,.int .i64 x.last]);have BY:=zq (show At w W5 ([(q1, 31,#[.int .i64 d,.slice a1 n1 c1,.slice a2 n2 c2,.slice a3 n3 c3,.slice (some ⟨g,o,none⟩) n4 c4,.slice a5 n5 c5,.slice a6 n6 c6,.slice a7 n7 c7,.slice a8 n8 c8]),(q2, 31,#[.int .i64 d,.slice b1 n1 e1,.slice b2 n2 e2,.slice b3 n3 e3,.slice (some ⟨g',o',none⟩) n4 e4,.slice b5 m5 e5,.slice b6 m6 e6,.slice b7 m7 e7,.slice b8 m8 e8])]++[(g9, 52,#[.int .i64 x.parent,.slice pa pn pc,.bool x.flag,.int .i64 x.last]),(g10, 52,#[.int .i64 0,.slice none 0 0,.bool false,.int .i64 0])]) from by rw[hW5];exact BX.o.setRow 2 rfl #[.int .i64 x.parent,.slice pa pn pc,.bool x.flag,.int .i64 x.last]);have BL5:=zq (show Below g9 W W5 from by rw[hW5];have h:=((Mod.of_below BL.o).trans (bJ g9 #[.int .i64 x.parent,.slice pa pn pc,.bool x.flag,.int .i64 x.last]) (fun k hk e=>by have:=G9.o;omega)).aU;rw[<-G9.o.1] at h;exact h);rw[<-hW5];refine hK _ _ (fun _=>⟨⟨W5,BL5.o⟩,rfl⟩) ?_;clear hK hW5;refine aI.aK (by kernel_rfl) rfl (fun K hK=>?_)
   simp only[ay,nth]
   refine aA ?_;refine wp_store_row 52 (.tmp 10) (.tmp 121) rfl g10 #[.int .i64 y.parent,.slice ra rn rc,.bool y.flag,.int .i64 y.last] rfl rfl 52 #[.int .i64 0,.slice none 0 0,.bool false,.int .i64 0] (BY.o.get 3 rfl) qP rfl (by simp[Value.oneCell']) ?_;go_simp;obtain⟨W6,hW6⟩:=Zn (W5.setRow g10 #[.int .i64 y.parent,.slice ra rn rc,.bool y.flag,.int .i64 y.last]);have BZ:=zq (show At w W6 ([(q1, 31,#[.int .i64 d,.slice a1 n1 c1,.slice a2 n2 c2,.slice a3 n3 c3,.slice (some ⟨g,o,none⟩) n4 c4,.slice a5 n5 c5,.slice a6 n6 c6,.slice a7 n7 c7,.slice a8 n8 c8]),(q2, 31,#[.int .i64 d,.slice b1 n1 e1,.slice b2 n2 e2,.slice b3 n3 e3,.slice (some ⟨g',o',none⟩) n4 e4,.slice b5 m5 e5,.slice b6 m6 e6,.slice b7 m7 e7,.slice b8 m8 e8])]++[(g9, 52,#[.int .i64 x.parent,.slice pa pn pc,.bool x.flag,.int .i64 x.last]),(g10, 52,#[.int .i64 y.parent,.slice ra rn rc,.bool y.flag,.int .i64 y.last])]) from by rw[hW6];exact BY.o.setRow 3 rfl #[.int .i64 y.parent,.slice ra rn rc,.bool y.flag,.int .i64 y.last]);have BL6:=zq (show Below W.heap.size W W6 from by rw[hW6];exact ((Mod.of_below (G9.o.1▸BL5.o)).trans (bJ g10 #[.int .i64 y.parent,.slice ra rn rc,.bool y.flag,.int .i64 y.last]) (fun k hk e=>by have:=G9.o;omega)).aU);rw[<-hW6];refine hK _ _ (fun _=>⟨⟨W6,by rw[G9.o.1];exact BL6.o⟩,rfl⟩) ?_;clear hK hW6 BX BY BL BL5;refine aI.bH ?_;have X6:=zq (show At w W6 [(q1, 31,#[.int .i64 d,.slice a1 n1 c1,.slice a2 n2 c2,.slice a3 n3 c3,.slice (some ⟨g,o,none⟩) n4 c4,.slice a5 n5 c5,.slice a6 n6 c6,.slice a7 n7 c7,.slice a8 n8 c8]),(q2, 31,#[.int .i64 d,.slice b1 n1 e1,.slice b2 n2 e2,.slice b3 n3 e3,.slice (some ⟨g',o',none⟩) n4 e4,.slice b5 m5 e5,.slice b6 m6 e6,.slice b7 m7 e7,.slice b8 m8 e8])] from TK.o.2.go BL6.o);have k0:W6.cell? ⟨g9,0,none⟩=some (.int .i64 x.parent):=BZ.o.cell 2 rfl 0 rfl;have k1:W6.cell? ⟨g9,1,none⟩=some (.slice pa pn pc):=BZ.o.cell 2 rfl 1 rfl;have k2:W6.cell? ⟨g9,2,none⟩=some (.bool x.flag):=BZ.o.cell 2 rfl 2 rfl;have k3:W6.cell? ⟨g9,3,none⟩=some (.int .i64 x.last):=BZ.o.cell 2 rfl 3 rfl;have j0:W6.cell? ⟨g10,0,none⟩=some (.int .i64 y.parent):=BZ.o.cell 3 rfl 0 rfl;have j1:W6.cell? ⟨g10,1,none⟩=some (.slice ra rn rc):=BZ.o.cell 3 rfl 1 rfl;have j2:W6.cell? ⟨g10,2,none⟩=some (.bool y.flag):=BZ.o.cell 3 rfl 2 rfl;have j3:W6.cell? ⟨g10,3,none⟩=some (.int .i64 y.last):=BZ.o.cell 3 rfl 3 rfl;by_cases t0:x.parent=y.parent;rotate_left
   ·obtain rfl:R=false:=by rw[ER.o];exact dJ (fun e=>iE HX.o HY.o (fun e2=>t0 (congrArg (fun a:Go.Bw.Acc=>a.parent) e2)) (by rw[e]))
    have t0':(x.parent==y.parent)=false:=beq_false_of_ne t0
    go_wp2_with fail
    go_ret;exact⟨rfl,X6.o.low⟩
   by_cases t2:x.flag=y.flag;rotate_left
   ·obtain rfl:R=false:=by rw[ER.o];exact dJ (fun e=>iE HX.o HY.o (fun e2=>t2 (congrArg (fun a:Go.Bw.Acc=>a.flag) e2)) (by rw[e]))
    have t2':(x.flag==y.flag)=false:=beq_false_of_ne t2
    go_wp2_with fail
    go_ret;exact⟨rfl,X6.o.low⟩
   by_cases t3:x.last=y.last;rotate_left
   ·obtain rfl:R=false:=by rw[ER.o];exact dJ (fun e=>iE HX.o HY.o (fun e2=>t3 (congrArg (fun a:Go.Bw.Acc=>a.last) e2)) (by rw[e]))
    have t3':(x.last==y.last)=false:=beq_false_of_ne t3
    go_wp2_with fail
    go_ret;exact⟨rfl,X6.o.low⟩
   go_wp2_with fail
   refine (SI.o W6 X6.o.low).mono ?_;rintro e w7 ⟨rfl,hb⟩;have X7:=zq (X6.o.go hb);clear hb;by_cases t1:x.aT=y.aT
   ·rw[fE t1];obtain rfl:x=y:=DT t0 t1 t2 t3;have TQ:=zq (show A.ai.take (k+1)=B.ai.take (k+1)/\At w w7 [(q1, 31,#[.int .i64 d,.slice a1 n1 c1,.slice a2 n2 c2,.slice a3 n3 c3,.slice (some ⟨g,o,none⟩) n4 c4,.slice a5 n5 c5,.slice a6 n6 c6,.slice a7 n7 c7,.slice a8 n8 c8]),(q2, 31,#[.int .i64 d,.slice b1 n1 e1,.slice b2 n2 e2,.slice b3 n3 e3,.slice (some ⟨g',o',none⟩) n4 e4,.slice b5 m5 e5,.slice b6 m6 e6,.slice b7 m7 e7,.slice b8 m8 e8])] from ⟨jf HX.o HY.o TK.o.1,X7.o⟩)
    go_wp2_with fail
    go_roundw
    case rel=>exact⟨k+1,by have:=LT.o;omega,by go_num,_,rfl,TQ⟩
    case measure=>have:=LT.o;simp[intOf];omega
   rw[dJ t1];obtain rfl:R=false:=by rw[ER.o];exact dJ (fun e=>iE HX.o HY.o (fun e2=>t1 (congrArg (fun a:Go.Bw.Acc=>a.aT) e2)) (by rw[e]))
   go_wp2_with fail
   go_ret;exact⟨rfl,X7.o.low⟩
  refine aI.aK (by kernel_rfl) rfl (fun K hK=>?_)
  simp only[ay,nth]
  refine aA ?_;go_simp;refine hK _ _ (fun _=>⟨⟨W.drew.alloc (.cells #[.int .i64 0,.slice none 0 0,.bool false,.int .i64 0] 52),DW.o.alloc DW.o.size _⟩,rfl⟩) ?_;clear hK;refine aI.aK (by kernel_rfl) rfl (fun K hK=>?_)
  simp only[ay,nth]
  refine aA ?_;go_simp;refine hK _ _ (fun _=>⟨⟨((W.alloc (.cells #[.int .i64 0,.slice none 0 0,.bool false,.int .i64 0] 52)).alloc (.cells #[.int .i64 0,.slice none 0 0,.bool false,.int .i64 0] 52)).drew,BL.o⟩,rfl⟩) ?_;clear hK;rw[<-hg10,<-hg9];clear hg9 hg10;refine aI.aK (by kernel_rfl) rfl (fun K hK=>?_)
  simp only[ay,nth]
  refine aA ?_;refine wp_store_row 52 (.tmp 9) (.tmp 116) rfl g10 #[.int .i64 x.parent,.slice pa pn pc,.bool x.flag,.int .i64 x.last] rfl rfl 52 #[.int .i64 0,.slice none 0 0,.bool false,.int .i64 0] (BX.o.get 3 rfl) qP rfl (by simp[Value.oneCell']) ?_;go_simp;obtain⟨W5,hW5⟩:=Zn (((W.alloc (.cells #[.int .i64 0,.slice none 0 0,.bool false,.int .i64 0] 52)).alloc (.cells #[.int .i64 0,.slice none 0 0,.bool false,.int .i64 0] 52)).drew.setRow g10 #[.int .i64 x.parent,.slice pa pn pc,.bool x.flag,.int .i64 x.last]);have BY:=zq (show At w W5 ([(q1, 31,#[.int .i64 d,.slice a1 n1 c1,.slice a2 n2 c2,.slice a3 n3 c3,.slice (some ⟨g,o,none⟩) n4 c4,.slice a5 n5 c5,.slice a6 n6 c6,.slice a7 n7 c7,.slice a8 n8 c8]),(q2, 31,#[.int .i64 d,.slice b1 n1 e1,.slice b2 n2 e2,.slice b3 n3 e3,.slice (some ⟨g',o',none⟩) n4 e4,.slice b5 m5 e5,.slice b6 m6 e6,.slice b7 m7 e7,.slice b8 m8 e8])]++[(g9, 52,#[.int .i64 0,.slice none 0 0,.bool false,.int .i64 0]),(g10, 52,#[.int .i64 x.parent,.slice pa pn pc,.bool x.flag,.int .i64 x.last])]) from by rw[hW5];exact BX.o.setRow 3 rfl #[.int .i64 x.parent,.slice pa pn pc,.bool x.flag,.int .i64 x.last]);have BL5:=zq (show Below g9 W W5 from by rw[hW5];have h:=((Mod.of_below BL.o).trans (bJ g10 #[.int .i64 x.parent,.slice pa pn pc,.bool x.flag,.int .i64 x.last]) (fun k hk e=>by have:=G9.o;omega)).aU;rw[<-G9.o.1] at h;exact h);rw[<-hW5];refine hK _ _ (fun _=>⟨⟨W5,BL5.o⟩,rfl⟩) ?_;clear hK hW5;refine aI.aK (by kernel_rfl) rfl (fun K hK=>?_)
  simp only[ay,nth]
  refine aA ?_;refine wp_store_row 52 (.tmp 10) (.tmp 121) rfl g9 #[.int .i64 y.parent,.slice ra rn rc,.bool y.flag,.int .i64 y.last] rfl rfl 52 #[.int .i64 0,.slice none 0 0,.bool false,.int .i64 0] (BY.o.get 2 rfl) qP rfl (by simp[Value.oneCell']) ?_;go_simp;obtain⟨W6,hW6⟩:=Zn (W5.setRow g9 #[.int .i64 y.parent,.slice ra rn rc,.bool y.flag,.int .i64 y.last]);have BZ:=zq (show At w W6 ([(q1, 31,#[.int .i64 d,.slice a1 n1 c1,.slice a2 n2 c2,.slice a3 n3 c3,.slice (some ⟨g,o,none⟩) n4 c4,.slice a5 n5 c5,.slice a6 n6 c6,.slice a7 n7 c7,.slice a8 n8 c8]),(q2, 31,#[.int .i64 d,.slice b1 n1 e1,.slice b2 n2 e2,.slice b3 n3 e3,.slice (some ⟨g',o',none⟩) n4 e4,.slice b5 m5 e5,.slice b6 m6 e6,.slice b7 m7 e7,.slice b8 m8 e8])]++[(g9, 52,#[.int .i64 y.parent,.slice ra rn rc,.bool y.flag,.int .i64 y.last]),(g10, 52,#[.int .i64 x.parent,.slice pa pn pc,.bool x.flag,.int .i64 x.last])]) from by rw[hW6];exact BY.o.setRow 2 rfl #[.int .i64 y.parent,.slice ra rn rc,.bool y.flag,.int .i64 y.last]);have BL6:=zq (show Below W.heap.size W W6 from by rw[hW6];exact ((Mod.of_below (G9.o.1▸BL5.o)).trans (bJ g9 #[.int .i64 y.parent,.slice ra rn rc,.bool y.flag,.int .i64 y.last]) (fun k hk e=>by have:=G9.o;omega)).aU);rw[<-hW6];refine hK _ _ (fun _=>⟨⟨W6,by rw[G9.o.1];exact BL6.o⟩,rfl⟩) ?_;clear hK hW6 BX BY BL BL5;refine aI.bH ?_;have X6:=zq (show At w W6 [(q1, 31,#[.int .i64 d,.slice a1 n1 c1,.slice a2 n2 c2,.slice a3 n3 c3,.slice (some ⟨g,o,none⟩) n4 c4,.slice a5 n5 c5,.slice a6 n6 c6,.slice a7 n7 c7,.slice a8 n8 c8]),(q2, 31,#[.int .i64 d,.slice b1 n1 e1,.slice b2 n2 e2,.slice b3 n3 e3,.slice (some ⟨g',o',none⟩) n4 e4,.slice b5 m5 e5,.slice b6 m6 e6,.slice b7 m7 e7,.slice b8 m8 e8])] from TK.o.2.go BL6.o);have k0:W6.cell? ⟨g10,0,none⟩=some (.int .i64 x.parent):=BZ.o.cell 3 rfl 0 rfl;have k1:W6.cell? ⟨g10,1,none⟩=some (.slice pa pn pc):=BZ.o.cell 3 rfl 1 rfl;have k2:W6.cell? ⟨g10,2,none⟩=some (.bool x.flag):=BZ.o.cell 3 rfl 2 rfl;have k3:W6.cell? ⟨g10,3,none⟩=some (.int .i64 x.last):=BZ.o.cell 3 rfl 3 rfl;have j0:W6.cell? ⟨g9,0,none⟩=some (.int .i64 y.parent):=BZ.o.cell 2 rfl 0 rfl;have j1:W6.cell? ⟨g9,1,none⟩=some (.slice ra rn rc):=BZ.o.cell 2 rfl 1 rfl;have j2:W6.cell? ⟨g9,2,none⟩=some (.bool y.flag):=BZ.o.cell 2 rfl 2 rfl;have j3:W6.cell? ⟨g9,3,none⟩=some (.int .i64 y.last):=BZ.o.cell 2 rfl 3 rfl;by_cases t0:x.parent=y.parent;rotate_left
  ·obtain rfl:R=false:=by rw[ER.o];exact dJ (fun e=>iE HX.o HY.o (fun e2=>t0 (congrArg (fun a:Go.Bw.Acc=>a.parent) e2)) (by rw[e]))
   have t0':(x.parent==y.parent)=false:=beq_false_of_ne t0
   go_wp2_with fail
   go_ret;exact⟨rfl,X6.o.low⟩
  by_cases t2:x.flag=y.flag;rotate_left
  ·obtain rfl:R=false:=by rw[ER.o];exact dJ (fun e=>iE HX.o HY.o (fun e2=>t2 (congrArg (fun a:Go.Bw.Acc=>a.flag) e2)) (by rw[e]))
   have t2':(x.flag==y.flag)=false:=beq_false_of_ne t2
   go_wp2_with fail
   go_ret;exact⟨rfl,X6.o.low⟩
  by_cases t3:x.last=y.last;rotate_left
  ·obtain rfl:R=false:=by rw[ER.o];exact dJ (fun e=>iE HX.o HY.o (fun e2=>t3 (congrArg (fun a:Go.Bw.Acc=>a.last) e2)) (by rw[e]))
   have t3':(x.last==y.last)=false:=beq_false_of_ne t3
   go_wp2_with fail
   go_ret;exact⟨rfl,X6.o.low⟩
  go_wp2_with fail
  refine (SI.o W6 X6.o.low).mono ?_;rintro e w7 ⟨rfl,hb⟩;have X7:=zq (X6.o.go hb);clear hb;by_cases t1:x.aT=y.aT
  ·rw[fE t1];obtain rfl:x=y:=DT t0 t1 t2 t3;have TQ:=zq (show A.ai.take (k+1)=B.ai.take (k+1)/\At w w7 [(q1, 31,#[.int .i64 d,.slice a1 n1 c1,.slice a2 n2 c2,.slice a3 n3 c3,.slice (some ⟨g,o,none⟩) n4 c4,.slice a5 n5 c5,.slice a6 n6 c6,.slice a7 n7 c7,.slice a8 n8 c8]),(q2, 31,#[.int .i64 d,.slice b1 n1 e1,.slice b2 n2 e2,.slice b3 n3 e3,.slice (some ⟨g',o',none⟩) n4 e4,.slice b5 m5 e5,.slice b6 m6 e6,.slice b7 m7 e7,.slice b8 m8 e8])] from ⟨jf HX.o HY.o TK.o.1,X7.o⟩)
   go_wp2_with fail
   go_roundw
   case rel=>exact⟨k+1,by have:=LT.o;omega,by go_num,_,rfl,TQ⟩
   case measure=>have:=LT.o;simp[intOf];omega
  rw[dJ t1];obtain rfl:R=false:=by rw[ER.o];exact dJ (fun e=>iE HX.o HY.o (fun e2=>t1 (congrArg (fun a:Go.Bw.Acc=>a.aT) e2)) (by rw[e]))
  go_wp2_with fail
  go_ret;exact⟨rfl,X7.o.low⟩
 have hlt':¬ (k:Int)<(n4:Int):=by omega
 obtain rfl:n4=k:=by omega
 have EQ4:=zq (show A.ai=B.ai from wK.1 (kZ LA4.o.symm LB4.o.symm TK.o.1));have X:=zq TK.o.2;clear TK;have SP:=zq (fun W2 (hW:Below w.heap.size w W2)=>Gz W2 _ _ A.au B.au (HA.o W2 hW).au (HB.o W2 hW).au SH.o.b5);have SO:=zq (fun W2 (hW:Below w.heap.size w W2)=>Ar W2 _ _ A.orders B.orders (HA.o W2 hW).orders (HB.o W2 hW).orders SH.o.b6);have SV:=zq (fun W2 (hW:Below w.heap.size w W2)=>xZ W2 _ _ A.aG B.aG (HA.o W2 hW).aG (HB.o W2 hW).aG SH.o.b7);have SL:=zq (fun W2 (hW:Below w.heap.size w W2)=>Gy W2 _ _ A.aJ B.aJ (HA.o W2 hW).aJ (HB.o W2 hW).aJ SH.o.b8);rw[FA.o.2.2.2.2.1,FB.o.2.2.2.2.1] at SP;rw[FA.o.2.2.2.2.2.1,FB.o.2.2.2.2.2.1] at SO;rw[FA.o.2.2.2.2.2.2.1,FB.o.2.2.2.2.2.2.1] at SV;rw[FA.o.2.2.2.2.2.2.2,FB.o.2.2.2.2.2.2.2] at SL;have y5:W.cell? ⟨q1,5,none⟩=some (.slice a5 n5 c5):=X.o.cell 0 rfl 5 rfl;have x5:W.cell? ⟨q2,5,none⟩=some (.slice b5 m5 e5):=X.o.cell 1 rfl 5 rfl
 go_wp2_with fail
 refine (SP.o W X.o.low).mono ?_;rintro e w5 ⟨rfl,hb⟩;have X5:=zq (X.o.go hb);clear hb y5 x5;by_cases p5:A.au=B.au;rotate_left
 ·rw[dJ p5];obtain rfl:R=false:=by rw[ER.o];exact dJ (fun e=>p5 (by rw[e]))
  go_wp2_with fail
  go_ret;exact⟨rfl,X5.o.low⟩
 rw[fE p5];have y6:w5.cell? ⟨q1,6,none⟩=some (.slice a6 n6 c6):=X5.o.cell 0 rfl 6 rfl;have x6:w5.cell? ⟨q2,6,none⟩=some (.slice b6 m6 e6):=X5.o.cell 1 rfl 6 rfl
 go_wp2_with fail
 refine (SO.o w5 X5.o.low).mono ?_;rintro e w6 ⟨rfl,hb⟩;have X6:=zq (X5.o.go hb);clear hb y6 x6;by_cases p6:A.orders=B.orders;rotate_left
 ·rw[dJ p6];obtain rfl:R=false:=by rw[ER.o];exact dJ (fun e=>p6 (by rw[e]))
  go_wp2_with fail
  go_ret;exact⟨rfl,X6.o.low⟩
 rw[fE p6];have y7:w6.cell? ⟨q1,7,none⟩=some (.slice a7 n7 c7):=X6.o.cell 0 rfl 7 rfl;have x7:w6.cell? ⟨q2,7,none⟩=some (.slice b7 m7 e7):=X6.o.cell 1 rfl 7 rfl
 go_wp2_with fail
 refine (SV.o w6 X6.o.low).mono ?_;rintro e w7 ⟨rfl,hb⟩;have X7:=zq (X6.o.go hb);clear hb y7 x7;by_cases p7:A.aG=B.aG;rotate_left
 ·rw[dJ p7];obtain rfl:R=false:=by rw[ER.o];exact dJ (fun e=>p7 (by rw[e]))
  go_wp2_with fail
  go_ret;exact⟨rfl,X7.o.low⟩
 rw[fE p7];have y8:w7.cell? ⟨q1,8,none⟩=some (.slice a8 n8 c8):=X7.o.cell 0 rfl 8 rfl;have x8:w7.cell? ⟨q2,8,none⟩=some (.slice b8 m8 e8):=X7.o.cell 1 rfl 8 rfl
 go_wp2_with fail
 refine (SL.o w7 X7.o.low).mono ?_;rintro e w8 ⟨rfl,hb⟩;have X8:=zq (X7.o.go hb);clear hb y8 x8;by_cases p8:A.aJ=B.aJ;rotate_left
 ·rw[dJ p8];obtain rfl:R=false:=by rw[ER.o];exact dJ (fun e=>p8 (by rw[e]))
  go_wp2_with fail
  go_ret;exact⟨rfl,X8.o.low⟩
 rw[fE p8];obtain rfl:R=true:=by rw[ER.o];exact fE (Og (by rw[<-DA.o,<-DB.o]) EQ1.o EQ2.o EQ3.o EQ4.o p5 p6 p7 p8)
 go_wp2_with fail
 go_ret;exact⟨rfl,X8.o.low⟩
theorem qI:Tryz.f85.results=#[.cell 2 31,.tmp 3]:=by kernel_rfl
theorem Gv (w:World) (V:aB) (L:aH) (h:bK w V L) (hg:L.Good):Calls Tryz.prog 85 #[V.val L] w (pW w L):=by
 obtain⟨hb,hca,hL⟩:=iq hg;have CP:=zq (fun W (hW:Below w.heap.size w W)=>qX W V L (h.below hW) hb (fun a ha=>by have:=hca a ha;omega));have EX:=zq (fun W (hW:Below w.heap.size w W) (a:Nat)=>Dv W V L (h.below hW) hg a);obtain⟨ex,hex⟩:∃ ex:Int->Int×Int,ex=fun a=>pR L a (retA (dN L a.toNat)):=⟨_,rfl⟩
 have HEX:=zq (show ∀ a:Int,ex a=pR L a (retA (dN L a.toNat)) from fun a=>by rw[hex]);have HGG:=zq hg;have LC:=zq (iC h);obtain⟨a4,c4,e4⟩:=h.ai.form;obtain⟨n4,hn4⟩:=Zn L.ai.length;have e4:V.ai=.slice a4 n4 c4:=by rw[e4,hn4,h.same,List.length_map]
 have LN4:=zq hn4;unfold aB.val at CP EX ⊢;obtain⟨C,hC⟩:=Zn (V.cells L);have C4:=zq (show C[4]?=some (.slice a4 n4 c4) from by rw[hC,<-e4];rfl);rw[<-hC] at CP EX LC ⊢;have A0:=zq (((At.start w).alloc 31 C).alloc 31 aZ);have m4:n4<=1024:=by omega
 clear h hg hb hca hL hex e4 hn4 hC
 go_enter Tryz.func85,Tryz.ntmps85
 go_upto_region 1 with (fail)
 obtain⟨W0,hW0⟩:=Zn ((w.alloc (.cells C 31)).alloc (.cells #[.int .i64 0,.slice none 0 0,.slice none 0 0,.slice none 0 0,.slice none 0 0,.slice none 0 0,.slice none 0 0,.slice none 0 0,.slice none 0 0] 31));obtain⟨b1,hb1⟩:=Zn w.heap.size;obtain⟨b2,hb2⟩:=Zn (w.heap.size+1);have X0:=zq (show At w W0 [(b1, 31,C),(b2, 31,aZ)] from by
  have h:=A0.o
  simp at h
  rw[hW0,hb1,hb2];exact h)
 have S0:=zq (show w.heap.size<=W0.heap.size/\b1<W0.heap.size/\b2<W0.heap.size/\w.heap.size<=b2 from ⟨X0.o.low.size,X0.o.lt (b1, 31,C) (by simp),X0.o.lt (b2, 31,aZ) (by simp),by omega⟩);rw[<-hW0,<-hb2,<-hb1];clear A0 hW0 hb1 hb2
 go_wp2_with (first|refine bW (X0.o.get 0 rfl) LC.o rfl rfl rfl ?_)
 refine (CP.o W0 X0.o.low).mono ?_;rintro e u ⟨V2,rfl,own,hb⟩;have X1:=zq (X0.o.go hb);have OW:=zq own;have LC2:=zq (iC own.led);obtain⟨x4,k4,f4⟩:=own.led.ai.form;have F4:=zq (show V2.ai=.slice x4 n4 k4 from by rw[f4,LN4.o,own.same,List.length_map]);clear own hb f4;unfold aB.val
 go_upto_region 2 with (refine aW (heap_alloc_last _ _) bG LC2.o rfl rfl rfl rfl ?_;rw[World.setRow_alloc_new])
 obtain⟨U,hU⟩:=Zn (u.alloc (.cells (V2.cells L) 31));obtain⟨b4,hb4⟩:=Zn u.heap.size;have X2:=zq (show At w U [(b1, 31,C),(b2, 31,aZ)] from by rw[hU];exact X1.o.go (Zb));have FA:=zq (show nG w W0.heap.size b4 L ex V2 2 U from by
  have h0:nG w W0.heap.size b4 L ex V2 0 U:=⟨X2.o.low,⟨V2.ac,by rw[sU];exact OW.o.below (by rw[hU];exact Zb)⟩,⟨by rw[hU,hb4];exact heap_alloc_new u _⟩,fun i h1 h2=>by omega⟩;exact (h0.low (by omega)).low (by omega))
 have GL:=zq (show ∀ g,V2.ai.ownBlock=some g->W0.heap.size<=g/\g<b4 from fun g hg=>by rw[hb4];exact OW.o.ai.lt g hg);rw[<-hU,<-hb4];clear hU hb4 X0 X1 OW CP;have n2:2<=n4:=by rw[LN4.o];have:=HGG.o.accounts.tree.lo;simpa [aH.parents] using this
 go_wp2_with fail
 go_loopw [5] (fun i wr=>∃ k:Nat,2<=k/\k<=n4/\i=.int .i64 k/\∃ W,W=wr/\Hid (nG w W0.heap.size b4 L ex V2 k W/\At w W [(b1, 31,C),(b2, 31,aZ)])) (fun i _=>n4 - (intOf i).toNat)
 case atStart=>exact⟨2,Nat.le_refl _,n2,rfl,_,rfl,zq ⟨FA.o,X2.o⟩⟩
 clear FA X2;obtain⟨k,h2,hk,rfl,W,rfl,FA⟩:=hrel;have H2:=zq h2;clear h2;have y4:W.cell? ⟨b1,4,none⟩=some (.slice a4 n4 c4):=FA.o.2.cell 0 rfl 4 C4.o;by_cases hlt:k<n4
 ·have hlt':(k:Int)<(n4:Int):=by omega
  have LT_:=zq hlt
  go_wp2_with (first|refine bW (FA.o.2.get 0 rfl) LC.o rfl rfl rfl ?_)
  refine (EX.o W FA.o.1.below k).mono ?_;rintro e w3 ⟨rfl,hb3⟩;have FB:=zq (show nG w W0.heap.size b4 L ex V2 k w3/\At w w3 [(b1, 31,C),(b2, 31,aZ)] from ⟨FA.o.1.go hb3,FA.o.2.go hb3⟩);obtain⟨q,hq⟩:=Zn (retA (dN L k));have hqe:q=ex k:=by rw[HEX.o,zS HGG.o (by rw[<-LN4.o];exact hlt)];exact hq
  obtain⟨xx,er⟩:=q;rw[<-hq];have EQ:=zq hqe;clear hq hqe hb3 FA y4;by_cases he:er=0
  ·subst he;obtain⟨a0,ha0⟩:∃ a,L.ai[k]?=some a:=⟨_,Zg (by rw[<-LN4.o];exact hlt)⟩;obtain⟨ac,o⟩:=FB.o.1.own;have hl:ac.length=n4:=by have h1:gy L ex k=ac.map (·.1):=o.same;have h1:=congrArg List.length h1;rw[kR] at h1;simp at h1;rw[LN4.o];exact h1.symm
   obtain⟨p,hp⟩:∃ p,ac[k]?=some p:=⟨_,Zg (by rw[hl];exact hlt)⟩;obtain⟨g,c,hv,_,_,_,hfr⟩:=o.ai.block hp;obtain rfl:x4=some ⟨g,0,none⟩:=by have hv':V2.ai=.slice (some ⟨g,0,none⟩) ac.length c:=hv;rw[F4.o] at hv';injection hv'
   have hR:RowOf w3 4 Acc.cells V2.ai ac:=o.ai.row eG (by decide);rw[F4.o] at hR;obtain⟨b',o',e',_,hc⟩:=hR.at_ hp
   cases e'
   obtain⟨vp,np,cp,hcash⟩:∃ a n c,p.2=.slice a n c:=by obtain⟨a,c,h⟩:=(o.aT p (List.mem_of_getElem? hp)).form;exact⟨a,_,c,h.1⟩
   obtain⟨pa,pv⟩:=p;obtain rfl:pv=.slice vp np cp:=hcash;have c0:=hc 0 (.int .i64 pa.parent) rfl;have c1:=hc 1 (.slice vp np cp) rfl;have c2:=hc 2 (.bool pa.flag) rfl;have c3:=hc 3 (.int .i64 pa.last) rfl
   simp only[Nat.zero_add,Nat.add_zero] at c0 c1 c2 c3
   have ZF:=zq (fun j=>hfr j);have CC:=zq (And.intro c0 (And.intro c1 (And.intro c2 c3)));have HP:=zq hp;have yb:w3.cell? ⟨b4,4,none⟩=some (.slice (some ⟨g,0,none⟩) n4 k4):=(cell_of_heap FB.o.1.box.at_ 4).trans (by rw[F4.o];rfl);have HA0:=zq ha0;clear hv hfr hc hR hp hl ha0
   go_upto_region 10 with (fail)
   obtain⟨b8,hb8⟩:=Zn w3.heap.size;obtain⟨U5,hU5⟩:=Zn (w3.alloc (.cells #[.int .i64 pa.parent,.slice vp np cp,.bool (decide (xx<0)),.int .i64 pa.last] 52));have M5:=zq (show Mod (fun _=>False) w3 U5 from by rw[hU5];exact (Mod.refl (fun _=>False) w3).alloc _);have N5:=zq (show U5.heap[b8]?=some (.cells #[.int .i64 pa.parent,.slice vp np cp,.bool (decide (xx<0)),.int .i64 pa.last] 52 (0,0)) from by rw[hU5,hb8];exact heap_alloc_new w3 _);have FC:=zq (show nG w W0.heap.size b4 L ex V2 k U5/\At w U5 [(b1, 31,C),(b2, 31,aZ)] from ⟨FB.o.1.go M5.o.aU,FB.o.2.go M5.o.aU⟩);rw[<-hU5,<-hb8];clear c0 c1 c2 c3 yb hU5 hb8;have yb:U5.cell? ⟨b4,4,none⟩=some (.slice (some ⟨g,0,none⟩) n4 k4):=(cell_of_heap FC.o.1.box.at_ 4).trans (by rw[F4.o];rfl);have c0:=M5.o.cell CC.o.1 (fun h=>h);have c1:=M5.o.cell CC.o.2.1 (fun h=>h);have c2:=M5.o.cell CC.o.2.2.1 (fun h=>h);have c3:=M5.o.cell CC.o.2.2.2 (fun h=>h);have d0:U5.cell? ⟨b8,0,none⟩=some (.int .i64 pa.parent):=cell_of_heap N5.o 0;have d1:U5.cell? ⟨b8,1,none⟩=some (.slice vp np cp):=cell_of_heap N5.o 1;have d2:U5.cell? ⟨b8,2,none⟩=some (.bool (decide (xx<0))):=cell_of_heap N5.o 2;have d3:U5.cell? ⟨b8,3,none⟩=some (.int .i64 pa.last):=cell_of_heap N5.o 3;have zf:∀ j,U5.frozen? ⟨g,j,none⟩=false:=fun j=>by
    obtain⟨ac',o'⟩:=FC.o.1.own;have hl:0<ac'.length:=by have h1:gy L ex k=ac'.map (·.1):=o'.same;have h1:=congrArg List.length h1;rw[kR] at h1;simp at h1;have:=LN4.o;omega
    obtain⟨g',c',hv,_,_,_,hfr⟩:=o'.ai.block (List.getElem?_eq_getElem hl);have hv':V2.ai=.slice (some ⟨g',0,none⟩) ac'.length c':=hv;rw[F4.o] at hv';injection hv' with e1 _ _;injection e1 with e1;injection e1 with e1;rw[e1];exact hfr j
   have WE:=zq (show (((U5.setCell ⟨g,k*4,none⟩ (.int .i64 pa.parent)).setCell ⟨g,k*4+1,none⟩ (.slice vp np cp)).setCell ⟨g,k*4+2,none⟩ (.bool (decide (xx<0)))).setCell ⟨g,k*4+3,none⟩ (.int .i64 pa.last)=U5.setCell ⟨g,k*4+2,none⟩ (.bool (decide (xx<0))) from by
    rw[dP c0,dP c1];exact dP ((World.cell?_setCell_other _ _ _ _ (by simp)).trans c3))
   have FQ:=zq (show nG w W0.heap.size b4 L ex V2 (k+1) (U5.setCell ⟨g,k*4+2,none⟩ (.bool (decide (xx<0))))/\At w (U5.setCell ⟨g,k*4+2,none⟩ (.bool (decide (xx<0)))) [(b1, 31,C),(b2, 31,aZ)] from by
    have hgl:=GL.o g (by rw[F4.o];rfl);have h1:=FC.o.1.put (g:=g) (c:=k4) H2.o HA0.o (by rw[<-EQ.o]) (by rw[<-LN4.o];exact F4.o) hgl.1 S0.o.1 (Or.inr (by omega));rw[<-EQ.o] at h1;have M:=(Mod.refl (fun k=>k=g) U5).setCell (p:=⟨g,k*4+2,none⟩) (.bool (decide (xx<0))) (fun _=>rfl);exact⟨h1,FC.o.2.mod M (fun k hk=>by have:=S0.o;omega) (fun x hx e=>by have:=S0.o;simp at hx;rcases hx with rfl|rfl <;> simp at e <;> omega)⟩)
   go_wp2_with fail
   rw[WE.o];go_roundw
   case rel=>exact⟨k+1,by have:=H2.o;omega,by have:=LT_.o;omega,by go_num,_,rfl,FQ⟩
   case measure=>have:=LT_.o;simp[intOf];omega
  have FN:=zq (wZ HGG.o HEX.o H2.o (by rw[<-LN4.o];exact LT_.o) (by rw[<-EQ.o];exact he));obtain rfl:er=4:=by have:=FN.o.2;rw[<-EQ.o] at this;exact this
  clear he
  go_wp2_with (refine aW (FB.o.2.get 1 rfl) bG bG rfl rfl rfl rfl ?_)
  refine bodyPost_ret (v:=.tuple #[.agg aZ,.int .i64 4]) ?_ ?_ ?_
  ·exact eF (q:=3) qI _ _ b2 aZ rfl (setRow_heap _ _ _ _ _ _ (FB.o.2.get 1 rfl)) bG
  ·rfl
  exact⟨Or.inr (Or.inl ⟨HGG.o,FN.o.1,rfl⟩),(FB.o.2.setRow 1 rfl aZ).low⟩
 have hlt':¬ (k:Int)<(n4:Int):=by omega
 obtain rfl:k=n4:=by omega
 go_wp2_with (first|refine bW FA.o.1.box.at_ LC2.o rfl rfl rfl ?_|refine aW (FA.o.2.get 1 rfl) bG LC2.o rfl rfl rfl rfl ?_)
 try simp only[Exit.inBlock,Exit.then]
 refine bodyPost_ret (v:=.tuple #[.agg (V2.cells L),.int .i64 0]) ?_ ?_ ?_
 ·exact eF (q:=3) qI _ _ b2 _ rfl (setRow_heap _ _ _ _ _ _ (FA.o.2.get 1 rfl)) LC2.o
 ·rfl
 obtain⟨ac,o⟩:=FA.o.1.own;have M:=bJ (w:=W) b2 (V2.cells L);refine⟨Or.inr (Or.inr ⟨HGG.o,_,{ V2 with ac:=ac },xg HGG.o HEX.o (fun i h1 h2=>FA.o.1.good i h1 (by rw[LN4.o];exact h2)),rfl,?_⟩),(FA.o.2.setRow 1 rfl (V2.cells L)).low⟩;rw[<-LN4.o];exact (o.mod M (fun k hk _ e=>by have:=S0.o;omega)).base S0.o.1
theorem Gw (w:World) (V:aB) (L:aH) (h:bK w V L) (hg:L.Good):Calls Tryz.prog 85 #[V.val L] w (Eh w (gJ L)):=(Gv w V L h hg).mono fun e w' h=>h.ret
end Go.Proofs.YtcepekniflaoaaaGreatDoor

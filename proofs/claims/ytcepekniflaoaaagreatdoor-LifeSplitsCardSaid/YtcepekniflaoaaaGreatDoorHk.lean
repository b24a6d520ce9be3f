/- Joined: LifK, AdmI. -/
import Derived.Test.YtcepekniflaoaaaGreatDoorHd
import Derived.Test.YtcepekniflaoaaaGreatDoorGn
import Derived.Test.YtcepekniflaoaaaGreatDoorHb
import Derived.Test.YtcepekniflaoaaaGreatDoorGe
set_option linter.unusedVariables false
set_option linter.unusedSimpArgs false
set_option maxRecDepth 100000
set_option maxHeartbeats 4000000
namespace Go.Proofs.YtcepekniflaoaaaGreatDoor
open Go.RowKit Go.Bw Go.Maps Go.Shelf Go.Bw.Fall
theorem zH {α:Type} {l:List α} {k:Nat} {x:α} (h:l[k]?=some x) (f:α->Bool):(l.take (k+1)).filter f=(l.take k).filter f++if f x=true then [x] else []:=by
 rw[List.take_add_one,h,List.filter_append]
 simp only[Option.toList,List.filter_cons,List.filter_nil]
structure Ef (w W:World) (R0 b:Nat) (bs:List (Nat×TypeId×Array Value)) (V:aB) (L:aH) (f:Pos->Bool) (k:Nat) (o:Value) (W':World):Prop where
 jl:dB w R0 ((b, 57,V.cells L)::bs) V L W'
 low:Below W.heap.size W W'
 own:aV W' W.heap.size 50 3 Pos.cells o ((L.au.take k).filter f)
theorem JD (w W:World) (R0 b:Nat) (bs:List (Nat×TypeId×Array Value)) (V:aB) (L:aH) (F:dB w R0 ((b, 57,V.cells L)::bs) V L W) (hl:L.au.length<=1000) (g:Nat) (lb:Array Value) (hg:Enters Tryz.prog g) (f:Pos->Bool)
 (hf:∀ W',dB w R0 ((b, 57,V.cells L)::bs) V L W'->∀ p∈L.au,Calls Tryz.prog g (#[.agg #[.int .i64 p.ak,.int .i64 p.instr,.int .i64 p.qty]]++lb) W' fun e w'=>e=.returned (.bool (f p))/\Below W'.heap.size W' w') :
 Calls Tryz.prog 29 #[.pointer (some ⟨b,0,none⟩),.func (.func g) #[] lb] W fun e W'=>e=.returned (.tuple #[])/\∃ V',dB w R0 ((b, 57,V'.cells L)::bs) V' { L with au:=L.au.filter f } W':=by
 have FF:=zq F;have HF:=zq hf;have HL:=zq hl;have eg:∀ (args:Array Value) (w:World),(callFunc g args).run Tryz.prog w=.ok (.enter g args) w:=hg;obtain⟨a5,c5,e5⟩:=F.own.led.au.form;have E5:=zq e5;obtain⟨n5,hn5⟩:=Zn L.au.length;have N5:=zq hn5;have y5:W.cell? ⟨b,5,none⟩=some (.slice a5 n5 c5):=by rw[hn5,<-e5];exact F.at_.cell 0 rfl 5 rfl
 clear F hf hl hg e5 hn5
 go_enter Tryz.func29,Tryz.ntmps29
 go_wp2_with fail
 go_loopw [4,13] (fun o i wr=>∃ k:Nat,k<=n5/\i=.int .i64 k/\∃ a n c,o=.slice a n c/\∃ W',W'=wr/\Hid (Ef w W R0 b bs V L f k (.slice a n c) W')) (fun _ i _=>n5 - (intOf i).toNat)
 case atStart=>exact⟨0,Nat.zero_le _,rfl,none,0,0,rfl,_,rfl,zq ⟨FF.o,Below.refl _ _,by simpa using aV.nil _ _ _ _ _⟩⟩
 clear y5;obtain⟨k,hk,rfl,a,n,c,rfl,W',rfl,IV⟩:=hrel;by_cases hlt:k<n5
 ·have hlt':(k:Int)<(n5:Int):=by omega
  have n64:n5<=1000:=by rw[N5.o];exact HL.o
  have LT:=zq hlt;obtain⟨p,hp⟩:∃ p,L.au[k]?=some p:=⟨_,Zg (by rw[<-N5.o];exact hlt)⟩;have HP:=zq hp;obtain⟨bp,op,cp,ep,hc⟩:=IV.o.jl.own.led.au.place hp;have ea:a5=some ⟨bp,op,none⟩:=by have:=E5.o;rw[ep] at this;injection this with h _ _;exact h.symm
  have q0:W'.cell? ⟨bp,op+k*3,none⟩=some (.int .i64 p.ak):=by have:=hc 0 _ rfl;simpa using this
  have q1:=hc 1 _ rfl;have q2:=hc 2 _ rfl;subst ea;have CF:=zq (fun W' h=>HF.o W' h p (List.mem_of_getElem? hp));obtain⟨B,hB⟩:=Zn (f p);have EB:=zq hB;rw[<-hB] at CF;clear hp hc ep hlt hk hB
  go_upto_region 4 with (fail)
  obtain⟨W1,hW1⟩:=Zn (W'.alloc (.cells #[.int .i64 p.ak,.int .i64 p.instr,.int .i64 p.qty] 50));obtain⟨b1,hb1⟩:=Zn W'.heap.size;have B1:=zq (show Below W'.heap.size W' W1 from by rw[hW1];exact Zb);have g1:=zq (show W1.heap[b1]?=some (.cells #[.int .i64 p.ak,.int .i64 p.instr,.int .i64 p.qty] 50 (0,0)) from by rw[hW1,hb1];exact heap_alloc_last _ _);rw[<-hW1,<-hb1];clear hW1 hb1 q0 q1 q2;have q0:W1.cell? ⟨b1,0,none⟩=some (.int .i64 p.ak):=cell_of_heap g1.o 0;have q1:W1.cell? ⟨b1,1,none⟩=some (.int .i64 p.instr):=cell_of_heap g1.o 1;have q2:W1.cell? ⟨b1,2,none⟩=some (.int .i64 p.qty):=cell_of_heap g1.o 2;have C1:=zq (CF.o W1 (IV.o.jl.go B1.o))
  go_wp2_with fail
  refine C1.o.mono ?_;rintro e w2 ⟨rfl,hb⟩;have B2:=zq (B1.o.trans (hb.mono B1.o.size));have g2:=zq (((Mod.of_below hb)).heap g1.o (fun h=>h));clear hb q0 q1 q2 C1
  cases hB:B with
  | true =>
    subst hB;have q0:w2.cell? ⟨b1,0,none⟩=some (.int .i64 p.ak):=cell_of_heap g2.o 0;have q1:w2.cell? ⟨b1,1,none⟩=some (.int .i64 p.instr):=cell_of_heap g2.o 1;have q2:w2.cell? ⟨b1,2,none⟩=some (.int .i64 p.qty):=cell_of_heap g2.o 2;obtain⟨v',w3,hrun,ho,hm,hbk⟩:=wR w2 W.heap.size (.slice a n c) _ (IV.o.own.mod (Mod.of_below B2.o) (fun _ _ h=>h)) (Nat.le_trans IV.o.low.size B2.o.size) p #[.int .i64 p.ak,.int .i64 p.instr,.int .i64 p.qty] rfl (by
     have h1:=List.length_filter_le f (L.au.take k);have h2:=List.length_take_le k L.au;have h3:=LT.o;have h4:=HL.o;have h5:=N5.o;omega)
    obtain⟨a',c',hv',_⟩:=ho.form;obtain⟨n',hn'⟩:∃ n',n'=((L.au.take k).filter f++[p]).length:=⟨_,rfl⟩;rw[<-hn'] at hv';subst hv';have RUN:=zq hrun;have NX:=zq (show Ef w W R0 b bs V L f (k+1) (.slice a' n' c') w3 from by
     have hm2:Mod (fun k=>W.heap.size<=k) W' w3:=((Mod.of_below B2.o).mono (T:=fun k=>W.heap.size<=k) (fun _ _ h=>h.elim)).trans hm (fun i _ h=>(IV.o.own.lt i h).1);have low3:Below W.heap.size W w3:=((Mod.of_below IV.o.low).trans hm2 (fun i hi h=>absurd h (by omega))).aU;refine⟨FF.o.go low3,low3,?_⟩;rw[zH HP.o,<-EB.o];exact ho)
    clear hrun ho hm hbk hn'
    go_wp2_with (at_builtin;refine wpList_append_run rfl (.tmp 20) (.tmp 22) 26 rfl rfl rfl RUN.o ?_)
    go_roundw
    case rel=>exact⟨k+1,by have:=LT.o;omega,by go_num,a',n',c',rfl,_,rfl,NX⟩
    case measure=>have:=LT.o;simp[intOf];omega
  | false =>
    subst hB;have NX:=zq (show Ef w W R0 b bs V L f (k+1) (.slice a n c) w2 from
     ⟨IV.o.jl.go B2.o,IV.o.low.trans (B2.o.mono IV.o.low.size),by rw[zH HP.o,<-EB.o];simpa using IV.o.own.mod (Mod.of_below B2.o) (fun _ _ h=>h)⟩)
    go_wp2_with fail
    go_roundw
    case rel=>exact⟨k+1,by have:=LT.o;omega,by go_num,a,n,c,rfl,_,rfl,NX⟩
    case measure=>have:=LT.o;simp[intOf];omega
 have hlt':¬ (k:Int)<(n5:Int):=by omega
 obtain rfl:n5=k:=by omega
 have KA:=zq IV.o;have z5:=IV.o.jl.at_.free 0 rfl 5;have y5:W'.cell? ⟨b,5,none⟩=some (.slice a5 L.au.length c5):=by rw[<-E5.o];exact IV.o.jl.at_.cell 0 rfl 5 rfl
 clear IV hlt hk
 go_wp2_with fail
 go_end0
 refine⟨rfl,{ V with au:=.slice a n c },?_⟩;have o:=KA.o.own;rw[N5.o,List.take_length] at o;exact FF.o.Po (Mod.of_below KA.o.low) (o.base FF.o.rb) (fun k hk=>(o.lt k hk).1)
end Go.Proofs.YtcepekniflaoaaaGreatDoor

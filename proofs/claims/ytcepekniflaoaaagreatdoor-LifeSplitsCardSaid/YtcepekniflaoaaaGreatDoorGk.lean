/- Joined: Clone, CpAt, Copy, FlAt, FlP, AtP, GoodB, AppO, LedG, Flags. -/
import Derived.Test.YtcepekniflaoaaaGreatDoorGe
import Derived.Lib.SliceRun
import Derived.Test.YtcepekniflaoaaaGreatDoorGh
import Derived.Test.YtcepekniflaoaaaGreatDoorGa
import Derived.Test.YtcepekniflaoaaaGreatDoorGg
set_option linter.unusedVariables false
set_option linter.unusedSimpArgs false
set_option maxRecDepth 100000
set_option maxHeartbeats 16000000
namespace Go.Proofs.YtcepekniflaoaaaGreatDoor
open Go.RowKit Go.Bw Go.Maps Go.Shelf
def kM {α:Type} (w:World) (e:TypeId) (n:Nat) (f:α->List Value) (l:List α) (x:Ending) (w':World):Prop:=∃ v,x=.returned v/\aV w' w.heap.size e n f v l/\Below w.heap.size w w'
theorem fD {α:Type} (t e:TypeId) (i0:TypeInfo) (z:Value) (n bytes:Nat) (ht:Tryz.prog.underlying t=some (.slice e)) (hi:Tryz.prog.info? e=some i0) (hz:i0.zero=some z) (hs:i0.size=n) (hy:i0.bytes=bytes) (hzs:z.cells.size=n) (h0:0<n)
 (f:α->List Value) (hf:∀ x,(f x).length=n) (w:World) (v:Value) (l:List α) (hR:RowOf w n f v l) (h1:∀ x∈l,∀ u∈f x,u.oneCell'=true) (hl:l.length*bytes<=140737488355328) (hm:l.length<=maxLen) :
 ∃ v' w',(Builtin.append_ #[t,t] t #[.slice (some ⟨w.heap.size,0,none⟩) 0 0,v]).run Tryz.prog (w.alloc (.cells #[] e))=.ok v' w'/\aV w' w.heap.size e n f v' l/\Below w.heap.size w w':=by
 have M0:=(Mod.refl (fun _=>False) w).alloc (.cells #[] e);have ho:(w.alloc (.cells #[] e)).ownsRow 0 e n (.slice (some ⟨w.heap.size,0,none⟩) 0 0) 0 [] :=
  ⟨by simp,Or.inr ⟨w.heap.size,0,#[],rfl,Nat.zero_le _,heap_alloc_new w _,Nat.le_refl _,Nat.zero_le _,by simp,by simp⟩⟩
 have hx:Reads (w.alloc (.cells #[] e)) n v l.length (l.flatMap f):=Reads.kept (hR.reads hf) M0 (fun _ _ h=>h);obtain⟨v',w',hrun,ho3,hm3,hb3,_⟩:=kL (P:=Tryz.prog) t t e i0 z n bytes ht hi hz hs hy hzs h0 _ _ _ ho _ _ _ hx (fun u hu=>by
  obtain⟨x,hx,hu⟩:=List.mem_flatMap.1 hu;exact h1 x hx u hu) (by omega) (by rw[Nat.zero_add];exact hl)
 refine⟨v',w',hrun,?_,((M0.mono (T:=fun k=>w.heap.size<=k) (fun _ _ h=>h.elim)).trans hm3 (fun k _ h=>by simp[Value.ownBlock] at h;omega) |>.mono (T:=fun _=>False) (fun k hk h=>by omega)).aU⟩;unfold aV;rw[Nat.zero_add,List.nil_append] at ho3;refine ownsRow_base ho3 (fun k hk=>?_);rcases hb3 k hk with h|h
 ·simp[Value.ownBlock] at h;omega
 rw[h];simp
theorem qg:(Tryz.prog.info? 86).map (fun i=>(i.zero,i.size,i.bytes))=some (some (.agg #[.int .i64 0,.int .i64 0]),2,16):=by kernel_rfl
theorem Jg (w:World) (v:Value) (l:List gu) (hR:RowOf w 2 gu.cells v l) (h1:∀ x∈l,∀ u∈gu.cells x,u.oneCell'=true) (hl:l.length<=1000000000) :
 Calls Tryz.prog 101 #[v] w (kM w 86 2 gu.cells l):=by
 obtain⟨a,c,rfl⟩:=hR.form;have hc:=hR.caps;have eqn:=fun (W:World) (a:Option Addr) (n c:Nat)=>Lib.run_eql_slice_nil (P:=Tryz.prog) W 22 86 a n c 0 0 Tryz.underlying22
 cases a with
 | none =>
   have hz:l.length=0:=by have:=hc.2.2.2 rfl;omega
   have hnil:l=[]:=List.eq_nil_of_length_eq_zero hz;subst hnil;clear hR hc hl h1 hz
   go_enter Tryz.func101,Tryz.ntmps101
   go_wp2_with fail
   go_ret;exact⟨_,rfl,aV.nil _ _ _ _ _,Below.refl _ _⟩
 | some ad =>
   obtain⟨i0,g1,g2,g3,g4⟩:=info_parts qg;obtain⟨v',w',hrun,ho,hb⟩:=fD 22 86 i0 _ 2 16 Tryz.underlying22 g1 g2 g3 g4 rfl (by decide) gu.cells oI w _ l hR h1 (by omega) (by unfold maxLen;omega);obtain⟨n,hn⟩:=Zn l.length;rw[<-hn] at hrun ⊢;have HR:=zq hrun;have HO:=zq (And.intro ho hb);clear hR hc hl h1 hrun ho hb hn g1 g2 g3 g4
   go_enter Tryz.func101,Tryz.ntmps101
   go_wp2_with (at_builtin;refine wpList_append_run rfl (.tmp 5) (.tmp 6) 22 rfl rfl rfl HR.o ?_)
   go_ret;exact⟨_,rfl,HO.o.1,HO.o.2⟩
theorem nI:(Tryz.prog.info? 48).map (fun i=>(i.zero,i.size,i.bytes))=some (some (.agg #[.string ⟨#[]⟩,.int .i64 0,.int .i64 0,.int .i64 0]),4,40):=by kernel_rfl
theorem Bf (w:World) (v:Value) (l:List dX) (hR:RowOf w 4 dX.cells v l) (h1:∀ x∈l,∀ u∈dX.cells x,u.oneCell'=true) (hl:l.length<=1000000000) :
 Calls Tryz.prog 102 #[v] w (kM w 48 4 dX.cells l):=by
 obtain⟨a,c,rfl⟩:=hR.form;have hc:=hR.caps;have eqn:=fun (W:World) (a:Option Addr) (n c:Nat)=>Lib.run_eql_slice_nil (P:=Tryz.prog) W 23 48 a n c 0 0 Tryz.underlying23
 cases a with
 | none =>
   have hz:l.length=0:=by have:=hc.2.2.2 rfl;omega
   have hnil:l=[]:=List.eq_nil_of_length_eq_zero hz;subst hnil;clear hR hc hl h1 hz
   go_enter Tryz.func102,Tryz.ntmps102
   go_wp2_with fail
   go_ret;exact⟨_,rfl,aV.nil _ _ _ _ _,Below.refl _ _⟩
 | some ad =>
   obtain⟨i0,g1,g2,g3,g4⟩:=info_parts nI;obtain⟨v',w',hrun,ho,hb⟩:=fD 23 48 i0 _ 4 40 Tryz.underlying23 g1 g2 g3 g4 rfl (by decide) dX.cells iJ w _ l hR h1 (by omega) (by unfold maxLen;omega);obtain⟨n,hn⟩:=Zn l.length;rw[<-hn] at hrun ⊢;have HR:=zq hrun;have HO:=zq (And.intro ho hb);clear hR hc hl h1 hrun ho hb hn g1 g2 g3 g4
   go_enter Tryz.func102,Tryz.ntmps102
   go_wp2_with (at_builtin;refine wpList_append_run rfl (.tmp 5) (.tmp 6) 23 rfl rfl rfl HR.o ?_)
   go_ret;exact⟨_,rfl,HO.o.1,HO.o.2⟩
theorem kD:(Tryz.prog.info? 66).map (fun i=>(i.zero,i.size,i.bytes))=some (some (.agg #[.int .i64 0,.int .i64 0,.int .i64 0,.int .i64 0,.int .i64 0,.bool false,.int .i64 0]),7,56):=by kernel_rfl
theorem Bd (w:World) (v:Value) (l:List Ins) (hR:RowOf w 7 Ins.cells v l) (h1:∀ x∈l,∀ u∈Ins.cells x,u.oneCell'=true) (hl:l.length<=1000000000) :
 Calls Tryz.prog 103 #[v] w (kM w 66 7 Ins.cells l):=by
 obtain⟨a,c,rfl⟩:=hR.form;have hc:=hR.caps;have eqn:=fun (W:World) (a:Option Addr) (n c:Nat)=>Lib.run_eql_slice_nil (P:=Tryz.prog) W 24 66 a n c 0 0 Tryz.underlying24
 cases a with
 | none =>
   have hz:l.length=0:=by have:=hc.2.2.2 rfl;omega
   have hnil:l=[]:=List.eq_nil_of_length_eq_zero hz;subst hnil;clear hR hc hl h1 hz
   go_enter Tryz.func103,Tryz.ntmps103
   go_wp2_with fail
   go_ret;exact⟨_,rfl,aV.nil _ _ _ _ _,Below.refl _ _⟩
 | some ad =>
   obtain⟨i0,g1,g2,g3,g4⟩:=info_parts kD;obtain⟨v',w',hrun,ho,hb⟩:=fD 24 66 i0 _ 7 56 Tryz.underlying24 g1 g2 g3 g4 rfl (by decide) Ins.cells dU w _ l hR h1 (by omega) (by unfold maxLen;omega);obtain⟨n,hn⟩:=Zn l.length;rw[<-hn] at hrun ⊢;have HR:=zq hrun;have HO:=zq (And.intro ho hb);clear hR hc hl h1 hrun ho hb hn g1 g2 g3 g4
   go_enter Tryz.func103,Tryz.ntmps103
   go_wp2_with (at_builtin;refine wpList_append_run rfl (.tmp 5) (.tmp 6) 24 rfl rfl rfl HR.o ?_)
   go_ret;exact⟨_,rfl,HO.o.1,HO.o.2⟩
theorem pz:(Tryz.prog.info? 52).map (fun i=>(i.zero,i.size,i.bytes))=some (some (.agg #[.int .i64 0,.slice none 0 0,.bool false,.int .i64 0]),4,48):=by kernel_rfl
theorem Ey (w:World) (v:Value) (l:List (Acc×Value)) (hR:RowOf w 4 Acc.cells v l) (h1:∀ x∈l,∀ u∈Acc.cells x,u.oneCell'=true) (hl:l.length<=1000000000) :
 Calls Tryz.prog 104 #[v] w (kM w 52 4 Acc.cells l):=by
 obtain⟨a,c,rfl⟩:=hR.form;have hc:=hR.caps;have eqn:=fun (W:World) (a:Option Addr) (n c:Nat)=>Lib.run_eql_slice_nil (P:=Tryz.prog) W 25 52 a n c 0 0 Tryz.underlying25
 cases a with
 | none =>
   have hz:l.length=0:=by have:=hc.2.2.2 rfl;omega
   have hnil:l=[]:=List.eq_nil_of_length_eq_zero hz;subst hnil;clear hR hc hl h1 hz
   go_enter Tryz.func104,Tryz.ntmps104
   go_wp2_with fail
   go_ret;exact⟨_,rfl,aV.nil _ _ _ _ _,Below.refl _ _⟩
 | some ad =>
   obtain⟨i0,g1,g2,g3,g4⟩:=info_parts pz;obtain⟨v',w',hrun,ho,hb⟩:=fD 25 52 i0 _ 4 48 Tryz.underlying25 g1 g2 g3 g4 rfl (by decide) Acc.cells eG w _ l hR h1 (by omega) (by unfold maxLen;omega);obtain⟨n,hn⟩:=Zn l.length;rw[<-hn] at hrun ⊢;have HR:=zq hrun;have HO:=zq (And.intro ho hb);clear hR hc hl h1 hrun ho hb hn g1 g2 g3 g4
   go_enter Tryz.func104,Tryz.ntmps104
   go_wp2_with (at_builtin;refine wpList_append_run rfl (.tmp 5) (.tmp 6) 25 rfl rfl rfl HR.o ?_)
   go_ret;exact⟨_,rfl,HO.o.1,HO.o.2⟩
theorem lX:(Tryz.prog.info? 50).map (fun i=>(i.zero,i.size,i.bytes))=some (some (.agg #[.int .i64 0,.int .i64 0,.int .i64 0]),3,24):=by kernel_rfl
theorem Ji (w:World) (v:Value) (l:List Pos) (hR:RowOf w 3 Pos.cells v l) (h1:∀ x∈l,∀ u∈Pos.cells x,u.oneCell'=true) (hl:l.length<=1000000000) :
 Calls Tryz.prog 105 #[v] w (kM w 50 3 Pos.cells l):=by
 obtain⟨a,c,rfl⟩:=hR.form;have hc:=hR.caps;have eqn:=fun (W:World) (a:Option Addr) (n c:Nat)=>Lib.run_eql_slice_nil (P:=Tryz.prog) W 26 50 a n c 0 0 Tryz.underlying26
 cases a with
 | none =>
   have hz:l.length=0:=by have:=hc.2.2.2 rfl;omega
   have hnil:l=[]:=List.eq_nil_of_length_eq_zero hz;subst hnil;clear hR hc hl h1 hz
   go_enter Tryz.func105,Tryz.ntmps105
   go_wp2_with fail
   go_ret;exact⟨_,rfl,aV.nil _ _ _ _ _,Below.refl _ _⟩
 | some ad =>
   obtain⟨i0,g1,g2,g3,g4⟩:=info_parts lX;obtain⟨v',w',hrun,ho,hb⟩:=fD 26 50 i0 _ 3 24 Tryz.underlying26 g1 g2 g3 g4 rfl (by decide) Pos.cells fH w _ l hR h1 (by omega) (by unfold maxLen;omega);obtain⟨n,hn⟩:=Zn l.length;rw[<-hn] at hrun ⊢;have HR:=zq hrun;have HO:=zq (And.intro ho hb);clear hR hc hl h1 hrun ho hb hn g1 g2 g3 g4
   go_enter Tryz.func105,Tryz.ntmps105
   go_wp2_with (at_builtin;refine wpList_append_run rfl (.tmp 5) (.tmp 6) 26 rfl rfl rfl HR.o ?_)
   go_ret;exact⟨_,rfl,HO.o.1,HO.o.2⟩
theorem kE:(Tryz.prog.info? 74).map (fun i=>(i.zero,i.size,i.bytes))=some (some (.agg #[.int .i64 0,.int .i64 0,.int .i64 0,.int .i64 0,.int .i64 0]),5,40):=by kernel_rfl
theorem Be (w:World) (v:Value) (l:List Ord) (hR:RowOf w 5 Ord.cells v l) (h1:∀ x∈l,∀ u∈Ord.cells x,u.oneCell'=true) (hl:l.length<=1000000000) :
 Calls Tryz.prog 106 #[v] w (kM w 74 5 Ord.cells l):=by
 obtain⟨a,c,rfl⟩:=hR.form;have hc:=hR.caps;have eqn:=fun (W:World) (a:Option Addr) (n c:Nat)=>Lib.run_eql_slice_nil (P:=Tryz.prog) W 27 74 a n c 0 0 Tryz.underlying27
 cases a with
 | none =>
   have hz:l.length=0:=by have:=hc.2.2.2 rfl;omega
   have hnil:l=[]:=List.eq_nil_of_length_eq_zero hz;subst hnil;clear hR hc hl h1 hz
   go_enter Tryz.func106,Tryz.ntmps106
   go_wp2_with fail
   go_ret;exact⟨_,rfl,aV.nil _ _ _ _ _,Below.refl _ _⟩
 | some ad =>
   obtain⟨i0,g1,g2,g3,g4⟩:=info_parts kE;obtain⟨v',w',hrun,ho,hb⟩:=fD 27 74 i0 _ 5 40 Tryz.underlying27 g1 g2 g3 g4 rfl (by decide) Ord.cells lG w _ l hR h1 (by omega) (by unfold maxLen;omega);obtain⟨n,hn⟩:=Zn l.length;rw[<-hn] at hrun ⊢;have HR:=zq hrun;have HO:=zq (And.intro ho hb);clear hR hc hl h1 hrun ho hb hn g1 g2 g3 g4
   go_enter Tryz.func106,Tryz.ntmps106
   go_wp2_with (at_builtin;refine wpList_append_run rfl (.tmp 5) (.tmp 6) 27 rfl rfl rfl HR.o ?_)
   go_ret;exact⟨_,rfl,HO.o.1,HO.o.2⟩
theorem qi:(Tryz.prog.info? 3).map (fun i=>(i.zero,i.size,i.bytes))=some (some (.int .i64 0),1,8):=by kernel_rfl
theorem yU (w:World) (v:Value) (l:List Int) (hR:RowOf w 1 dw v l) (h1:∀ x∈l,∀ u∈dw x,u.oneCell'=true) (hl:l.length<=1000000000) :
 Calls Tryz.prog 107 #[v] w (kM w 3 1 dw l):=by
 obtain⟨a,c,rfl⟩:=hR.form;have hc:=hR.caps;have eqn:=fun (W:World) (a:Option Addr) (n c:Nat)=>Lib.run_eql_slice_nil (P:=Tryz.prog) W 28 3 a n c 0 0 Tryz.underlying28
 cases a with
 | none =>
   have hz:l.length=0:=by have:=hc.2.2.2 rfl;omega
   have hnil:l=[]:=List.eq_nil_of_length_eq_zero hz;subst hnil;clear hR hc hl h1 hz
   go_enter Tryz.func107,Tryz.ntmps107
   go_wp2_with fail
   go_ret;exact⟨_,rfl,aV.nil _ _ _ _ _,Below.refl _ _⟩
 | some ad =>
   obtain⟨i0,g1,g2,g3,g4⟩:=info_parts qi;obtain⟨v',w',hrun,ho,hb⟩:=fD 28 3 i0 _ 1 8 Tryz.underlying28 g1 g2 g3 g4 rfl (by decide) dw iM w _ l hR h1 (by omega) (by unfold maxLen;omega);obtain⟨n,hn⟩:=Zn l.length;rw[<-hn] at hrun ⊢;have HR:=zq hrun;have HO:=zq (And.intro ho hb);clear hR hc hl h1 hrun ho hb hn g1 g2 g3 g4
   go_enter Tryz.func107,Tryz.ntmps107
   go_wp2_with (at_builtin;refine wpList_append_run rfl (.tmp 5) (.tmp 6) 28 rfl rfl rfl HR.o ?_)
   go_ret;exact⟨_,rfl,HO.o.1,HO.o.2⟩
theorem lW:(Tryz.prog.info? 72).map (fun i=>(i.zero,i.size,i.bytes))=some (some (.agg #[.int .i64 0,.int .i64 0,.int .i64 0]),3,24):=by kernel_rfl
theorem Jh (w:World) (v:Value) (l:List Pos) (hR:RowOf w 3 Pos.cells v l) (h1:∀ x∈l,∀ u∈Pos.cells x,u.oneCell'=true) (hl:l.length<=1000000000) :
 Calls Tryz.prog 108 #[v] w (kM w 72 3 Pos.cells l):=by
 obtain⟨a,c,rfl⟩:=hR.form;have hc:=hR.caps;have eqn:=fun (W:World) (a:Option Addr) (n c:Nat)=>Lib.run_eql_slice_nil (P:=Tryz.prog) W 29 72 a n c 0 0 Tryz.underlying29
 cases a with
 | none =>
   have hz:l.length=0:=by have:=hc.2.2.2 rfl;omega
   have hnil:l=[]:=List.eq_nil_of_length_eq_zero hz;subst hnil;clear hR hc hl h1 hz
   go_enter Tryz.func108,Tryz.ntmps108
   go_wp2_with fail
   go_ret;exact⟨_,rfl,aV.nil _ _ _ _ _,Below.refl _ _⟩
 | some ad =>
   obtain⟨i0,g1,g2,g3,g4⟩:=info_parts lW;obtain⟨v',w',hrun,ho,hb⟩:=fD 29 72 i0 _ 3 24 Tryz.underlying29 g1 g2 g3 g4 rfl (by decide) Pos.cells fH w _ l hR h1 (by omega) (by unfold maxLen;omega);obtain⟨n,hn⟩:=Zn l.length;rw[<-hn] at hrun ⊢;have HR:=zq hrun;have HO:=zq (And.intro ho hb);clear hR hc hl h1 hrun ho hb hn g1 g2 g3 g4
   go_enter Tryz.func108,Tryz.ntmps108
   go_wp2_with (at_builtin;refine wpList_append_run rfl (.tmp 5) (.tmp 6) 29 rfl rfl rfl HR.o ?_)
   go_ret;exact⟨_,rfl,HO.o.1,HO.o.2⟩
end Go.Proofs.YtcepekniflaoaaaGreatDoor
namespace Go.Proofs.YtcepekniflaoaaaGreatDoor
open Go.RowKit Go.Bw
def qf (L:aH) (v1 v2 v3 v4 v5 v6 v7 v8:Value):Array Value:=#[.int .i64 L.day,v1,v2,v3,v4,v5,v6,v7,v8]
structure gB (w:World) (b:Nat) (L:aH) (v1 v2 v3 v4 v5 v6 v7 v8:Value):Prop where
 at_:w.heap[b]?=some (.cells (qf L v1 v2 v3 v4 v5 v6 v7 v8) 31 (0,0))
theorem gB.mod {w w':World} {b:Nat} {L:aH} {v1 v2 v3 v4 v5 v6 v7 v8:Value} {S:Nat->Prop} (h:gB w b L v1 v2 v3 v4 v5 v6 v7 v8) (hm:Mod S w w') (hS:¬ S b):gB w' b L v1 v2 v3 v4 v5 v6 v7 v8:=⟨hm.heap h.at_ hS⟩
theorem gB.set {w:World} {b:Nat} {L:aH} {v1 v2 v3 v4 v5 v6 v7 v8 u1 u2 u3 u4 u5 u6 u7 u8:Value} (h:gB w b L v1 v2 v3 v4 v5 v6 v7 v8) (o:Nat) (x:Value) (he:(qf L v1 v2 v3 v4 v5 v6 v7 v8).setIfInBounds o x=qf L u1 u2 u3 u4 u5 u6 u7 u8):gB (w.setCell ⟨b,o,none⟩ x) b L u1 u2 u3 u4 u5 u6 u7 u8 :=
 ⟨by rw[<-he];exact bC h.at_ o x⟩
structure dM (w:World) (B:Nat) (vs:List Value):Prop where
 pair:vs.Pairwise gW
 lt:∀ u∈vs,∀ b,u.ownBlock=some b->B<=b/\b<w.heap.size
theorem dM.nil (w:World) (B:Nat):dM w B []:=⟨List.Pairwise.nil,by simp⟩
theorem dM.more {w w':World} {B:Nat} {vs:List Value} (h:dM w B vs) (hs:w.heap.size<=w'.heap.size):dM w' B vs:=⟨h.pair,fun u hu b hb=>⟨(h.lt u hu b hb).1,Nat.lt_of_lt_of_le (h.lt u hu b hb).2 hs⟩⟩
theorem dM.add {α:Type} {w w':World} {B n:Nat} {e:TypeId} {f:α->List Value} {v:Value} {l:List α} {vs:List Value} (h:dM w B vs) (ho:aV w' w.heap.size e n f v l) (hB:B<=w.heap.size) (hs:w.heap.size<=w'.heap.size):dM w' B (vs++[v]):=by
 refine⟨?_,fun u hu b hb=>?_⟩
 ·rw[List.pairwise_append];refine⟨h.pair,List.pairwise_singleton _ _,fun u hu x hx=>?_⟩;obtain rfl:=List.mem_singleton.1 hx;intro b h1 h2;have:=(h.lt u hu b h1).2;have:=(ho.lt b h2).1;omega
 rcases List.mem_append.1 hu with hu|hu
 ·exact⟨(h.lt u hu b hb).1,Nat.lt_of_lt_of_le (h.lt u hu b hb).2 hs⟩
 obtain rfl:=List.mem_singleton.1 hu;exact⟨Nat.le_trans hB (ho.lt b hb).1,(ho.lt b hb).2⟩
def wG (w:World) (L:aH) (e:Ending) (w':World):Prop:=∃ V,e=.returned (V.val L)/\bF w' w.heap.size V L/\Below w.heap.size w w'
structure yw (w:World) (R0 b1 b2:Nat) (L:aH) (v:aB) (ac ac':List (Acc×Value)) (k:Nat) (W:World):Prop where
 below:Below w.heap.size w W
 rb:R0<=W.heap.size
 box:gB W b1 L v.aQ v.ah v.af v.ai v.au v.orders v.aG v.aJ
 res:W.heap[b2]?=some (.cells #[.int .i64 0,.slice none 0 0,.slice none 0 0,.slice none 0 0,.slice none 0 0,.slice none 0 0,.slice none 0 0,.slice none 0 0,.slice none 0 0] 31 (0,0))
 aQ:aV W R0 86 2 gu.cells v.aQ L.aQ
 ah:aV W R0 48 4 dX.cells v.ah L.ah
 af:aV W R0 66 7 Ins.cells v.af L.af
 au:aV W R0 50 3 Pos.cells v.au L.au
 orders:aV W R0 74 5 Ord.cells v.orders L.orders
 aG:aV W R0 3 1 dw v.aG L.aG
 aJ:aV W R0 72 3 Pos.cells v.aJ L.aJ
 ai:aV W R0 52 4 Acc.cells v.ai ac'
 same:ac'.map (·.1)=ac.map (·.1)
 rest:∀ i,k<=i->ac'[i]?=ac[i]?
 aT:∀ (i:Nat) p,i<k->ac'[i]?=some p->aV W R0 3 1 dw p.2 p.1.aT
 sep:dM W R0 ([v.aQ,v.ah,v.af,v.ai,v.au,v.orders,v.aG,v.aJ]++(ac'.take k).map (·.2))
theorem yw.go {w W W':World} {R0 b1 b2 k:Nat} {L:aH} {v:aB} {ac ac':List (Acc×Value)} (h:yw w R0 b1 b2 L v ac ac' k W) (hm:Mod (fun _=>False) W W'):yw w R0 b1 b2 L v ac ac' k W' :=
 ⟨((Mod.of_below h.below).trans hm (fun k hk h=>h)).aU,Nat.le_trans h.rb hm.size,h.box.mod hm (fun h=>h),hm.heap h.res (fun h=>h),h.aQ.mod hm (fun _ _ h=>h),h.ah.mod hm (fun _ _ h=>h),h.af.mod hm (fun _ _ h=>h),h.au.mod hm (fun _ _ h=>h),h.orders.mod hm (fun _ _ h=>h),h.aG.mod hm (fun _ _ h=>h),h.aJ.mod hm (fun _ _ h=>h),
  h.ai.mod hm (fun _ _ h=>h),h.same,h.rest,fun i p hi hp=>(h.aT i p hi hp).mod hm (fun _ _ h=>h),h.sep.more hm.size⟩
theorem yw.put {w W W1:World} {R0 b1 b2 k g c:Nat} {L:aH} {v:aB} {ac ac':List (Acc×Value)} {p:Acc×Value} {x:Value} (h:yw w R0 b1 b2 L v ac ac' k W) (hk:ac'[k]?=some p) (hv:v.ai=.slice (some ⟨g,0,none⟩) ac'.length c) (hb:Below W.heap.size W W1) (ho:aV W1 W.heap.size 3 1 dw x p.1.aT) (hR:b1<R0/\b2<R0/\w.heap.size<=R0) :
 yw w R0 b1 b2 L v ac (ac'.set k (p.1,x)) (k+1) (W1.setCell ⟨g,k*4+1,none⟩ x):=by
 have hkl:=(List.getElem?_eq_some_iff.1 hk).1;have h1:=h.go (Mod.of_below hb);have ha:=h1.ai;rw[hv] at ha;have hs:=aV.set ha eG hk (j:=1) (x':=(p.1,x)) (u:=x) (by omega) rfl;have hg:=h.ai.lt g (by rw[hv];rfl);have s:=h1.sep.pair
 simp only[List.cons_append,List.nil_append,List.pairwise_cons,List.mem_cons] at s
 obtain⟨s1,s2,s3,s4,s5,s6,s7,s8,s9⟩:=s;have e:(ac'.set k (p.1,x)).take (k+1)=ac'.take k++[(p.1,x)]:=by
  rw[List.take_add_one,List.take_set_of_le (Nat.le_refl k),List.getElem?_set];simp[hkl]
 refine⟨((Mod.of_below h1.below).trans hs.2 (fun k hk e=>by omega)).aU,Nat.le_trans h1.rb hs.2.size,h1.box.mod hs.2 (by omega),hs.2.heap h1.res (by omega),
  h1.aQ.mod hs.2 (fun k hk e=>by subst e;exact s1 v.ai (by simp) k hk (by rw[hv];rfl)),h1.ah.mod hs.2 (fun k hk e=>by subst e;exact s2 v.ai (by simp) k hk (by rw[hv];rfl)),h1.af.mod hs.2 (fun k hk e=>by subst e;exact s3 v.ai (by simp) k hk (by rw[hv];rfl)),h1.au.mod hs.2 (fun k hk e=>by subst e;exact s4 v.au (by simp) k (by rw[hv];rfl) hk),h1.orders.mod hs.2 (fun k hk e=>by subst e;exact s4 v.orders (by simp) k (by rw[hv];rfl) hk),h1.aG.mod hs.2 (fun k hk e=>by subst e;exact s4 v.aG (by simp) k (by rw[hv];rfl) hk),h1.aJ.mod hs.2 (fun k hk e=>by subst e;exact s4 v.aJ (by simp) k (by rw[hv];rfl) hk),
  by rw[hv];exact hs.1,?_,?_,?_,?_⟩
 ·rw[jb (fun q:Acc×Value=>q.1) (x':=(p.1,x)) hk rfl];exact h1.same
 ·intro i hi;rw[List.getElem?_set_ne (by omega)];exact h1.rest i (by omega)
 ·intro i q hi hq;by_cases e:k=i
  ·subst e;rw[List.getElem?_set_self hkl] at hq;cases hq;exact (ho.base h.rb).mod hs.2 (fun j hj e=>by have:=(ho.lt j hj).1;omega)
  rw[List.getElem?_set_ne e] at hq;refine (h1.aT i q (by omega) hq).mod hs.2 (fun j hj e=>?_);subst e;refine s4 q.2 ?_ j (by rw[hv];rfl) hj;refine Or.inr (Or.inr (Or.inr (Or.inr (List.mem_map.2 ⟨q,?_,rfl⟩))));exact List.mem_of_getElem? (i:=i) (by rw[List.getElem?_take_of_lt (by omega)];exact hq)
 rw[e,List.map_append,<-List.append_assoc];exact (h.sep.add ho h.rb hb.size).more hs.2.size
theorem yw.done {w W W':World} {R0 b1 b2:Nat} {L:aH} {v:aB} {ac ac':List (Acc×Value)} (h:yw w R0 b1 b2 L v ac ac' ac.length W) (hs:L.ai=ac.map (·.1)) (hn:∀ u∈L.ah,u.name.size<=maxLen) (hu:∀ a∈L.ai,∀ x∈a.aT,-9223372036854775808<=x/\x<=9223372036854775807) (hm:Mod (fun k=>k=b2) W W') (hR:b1<R0/\b2<R0/\w.heap.size<=R0) (hb2:w.heap.size<=b2) :
 bF W' w.heap.size { v with ac:=ac' } L/\Below w.heap.size w W':=by
 have hl:ac'.length=ac.length:=by have:=congrArg List.length h.same;simpa using this
 have e:ac'.take ac.length=ac':=List.take_of_length_le (by omega);have s:=h.sep.pair;rw[e] at s;have M:∀ {α:Type} {e:TypeId} {n:Nat} {f:α->List Value} {u:Value} {l:List α},aV W R0 e n f u l->aV W' w.heap.size e n f u l:=fun o=>(o.mod hm (fun k hk e=>by have:=(o.lt k hk).1;omega)).base hR.2.2
 refine⟨⟨M h.aQ,M h.ah,M h.af,hs.trans h.same.symm,M h.ai,fun p hp=>?_,M h.au,M h.orders,M h.aG,M h.aJ,s,hn,hu⟩,((Mod.of_below h.below).trans hm (fun k hk e=>by omega)).aU⟩;obtain⟨i,hi,e⟩:=List.mem_iff_getElem.1 hp;exact M (h.aT i p (by rw[<-hl];exact hi) (by rw[List.getElem?_eq_getElem hi,e]))
end Go.Proofs.YtcepekniflaoaaaGreatDoor
namespace Go.Proofs.YtcepekniflaoaaaGreatDoor
open Go.RowKit Go.Bw Go.Maps Go.Shelf Go.Bw.Fall
theorem bJ {w:World} (g:Nat) (cs:Array Value):Mod (fun k=>k=g) w (w.setRow g cs) :=
 ⟨rfl,rfl,rfl,by simp,fun i _ hi=>setRow_other w g i cs hi⟩
theorem Nh:(Tryz.prog.underlying 31).map (fun d=>match d with|.struct _|.array _ _=>true|_=>false)=some true:=by kernel_rfl
theorem iO:∃ d,Tryz.prog.underlying 31=some d/\(match d with|.struct _|.array _ _=>true|_=>false)=true:=by
 have h:=Nh
 cases e:Tryz.prog.underlying 31 with
 | none=>rw[e] at h;cases h
 | some d=>rw[e] at h;exact⟨d,rfl,Option.some.inj h⟩
theorem zW:Tryz.f61.results=#[.cell 2 31]:=by kernel_rfl
theorem AZ (L:aH) (v1 v2 v3 v4 v5 v6 v7 v8:Value) (h1:v1.oneCell'=true) (h2:v2.oneCell'=true) (h3:v3.oneCell'=true) (h4:v4.oneCell'=true) (h5:v5.oneCell'=true) (h6:v6.oneCell'=true) (h7:v7.oneCell'=true) (h8:v8.oneCell'=true):(qf L v1 v2 v3 v4 v5 v6 v7 v8).all (·.oneCell')=true:=by
 simp[qf,h1,h2,h3,h4,h5,h6,h7,h8];rfl
theorem fO:(Tryz.prog.info? 31).map (·.size)=some 9:=by kernel_rfl
theorem rJ {P:Program} {fn:Func} {p:Tmp} {ty:TypeId} (h:fn.results=#[.cell p ty]) (tmps:Array Value) (w:World) (g:Nat) (t:TypeId) (cs:Array Value) (fr:Nat×Nat) (d:TypeDesc)
 (hp:tmps.getD p undef=.pointer (some ⟨g,0,none⟩)) (hg:w.heap[g]?=some (.cells cs t fr))
 (hu:P.underlying ty=some d) (hd:(match d with|.struct _|.array _ _=>true|_=>false)=true) (hi:(P.info? ty).map (·.size)=some cs.size) :
 (results fn tmps).run P w=.ok (.agg cs) w:=by
 have hp':tmps[p]?.getD undef=.pointer (some ⟨g,0,none⟩):=by simpa using hp
 simp[results,h,hp',asAddr,run_loadVar_row w g t ty cs fr d hg hu hd hi]
theorem wS (w:World) (V:aB) (L:aH) (h:bK w V L) (hb:L.bulk<=1000000) (hca:∀ a∈L.ai,a.aT.length<=1000000000):Calls Tryz.prog 61 #[V.val L] w (wG w L):=by
 have HL:=zq (show True/\L.ai=V.ac.map (·.1)/\(∀ u∈L.ah,u.name.size<=maxLen)/\(∀ a∈L.ai,∀ x∈a.aT,-9223372036854775808<=x/\x<=9223372036854775807) from ⟨trivial,h.same,h.names,h.nums⟩);have CS:=zq h.iV;have CH:=zq h.aT;have CA:=zq hca;have AL:=zq (show L.ai.length=V.ac.length from by have:=h.same;rw[this,List.length_map]);have G1:=zq (fun W (hW:Below w.heap.size w W)=>Jg W V.aQ L.aQ (h.below hW).aQ (fun x hx u hu=>by simp[gu.cells] at hu;rcases hu with rfl|rfl <;> rfl) (by unfold aH.bulk at hb;have:=AL.o;omega));have G2:=zq (fun W (hW:Below w.heap.size w W)=>Bf W V.ah L.ah (h.below hW).ah (fun x hx u hu=>by simp[dX.cells] at hu;rcases hu with rfl|rfl|rfl|rfl <;> rfl) (by unfold aH.bulk at hb;have:=AL.o;omega));have G3:=zq (fun W (hW:Below w.heap.size w W)=>Bd W V.af L.af (h.below hW).af (fun x hx u hu=>by simp[Ins.cells] at hu;rcases hu with rfl|rfl|rfl|rfl|rfl|rfl|rfl <;> rfl) (by unfold aH.bulk at hb;have:=AL.o;omega));have G4:=zq (fun W (hW:Below w.heap.size w W)=>Ey W V.ai V.ac (h.below hW).ai (fun x hx u hu=>by obtain⟨va,vn,vc,hv⟩:=CS.o x hx;simp[Acc.cells,hv] at hu;rcases hu with rfl|rfl|rfl|rfl <;> rfl) (by unfold aH.bulk at hb;have:=AL.o;omega));have G5:=zq (fun W (hW:Below w.heap.size w W)=>Ji W V.au L.au (h.below hW).au (fun x hx u hu=>by simp[Pos.cells] at hu;rcases hu with rfl|rfl|rfl <;> rfl) (by unfold aH.bulk at hb;have:=AL.o;omega));have G6:=zq (fun W (hW:Below w.heap.size w W)=>Be W V.orders L.orders (h.below hW).orders (fun x hx u hu=>by simp[Ord.cells] at hu;rcases hu with rfl|rfl|rfl|rfl|rfl <;> rfl) (by unfold aH.bulk at hb;have:=AL.o;omega));have G7:=zq (fun W (hW:Below w.heap.size w W)=>yU W V.aG L.aG (h.below hW).aG (fun x hx u hu=>by simp[dw] at hu;subst hu;rfl) (by unfold aH.bulk at hb;have:=AL.o;omega));have G8:=zq (fun W (hW:Below w.heap.size w W)=>Jh W V.aJ L.aJ (h.below hW).aJ (fun x hx u hu=>by simp[Pos.cells] at hu;rcases hu with rfl|rfl|rfl <;> rfl) (by unfold aH.bulk at hb;have:=AL.o;omega));obtain⟨a1,c1,a2,c2,a3,c3,a4,c4,a5,c5,a6,c6,a7,c7,a8,c8,e1,e2,e3,e4,e5,e6,e7,e8⟩:=bK.opened h;have m4:L.ai.length<=1000000:=by unfold aH.bulk at hb;omega
 unfold aB.val aB.cells;rw[e1] at G1;rw[e2] at G2;rw[e3] at G3;rw[e4] at G4;rw[e5] at G5;rw[e6] at G6;rw[e7] at G7;rw[e8] at G8;rw[e1,e2,e3,e4,e5,e6,e7,e8];obtain⟨n1,hn1⟩:=Zn L.aQ.length;rw[<-hn1] at G1;have LN1:=zq hn1;obtain⟨n2,hn2⟩:=Zn L.ah.length;rw[<-hn2] at G2;have LN2:=zq hn2;obtain⟨n3,hn3⟩:=Zn L.af.length;rw[<-hn3] at G3;have LN3:=zq hn3;obtain⟨n4,hn4⟩:=Zn L.ai.length;rw[<-hn4] at G4;have LN4:=zq hn4;obtain⟨n5,hn5⟩:=Zn L.au.length;rw[<-hn5] at G5;have LN5:=zq hn5;obtain⟨n6,hn6⟩:=Zn L.orders.length;rw[<-hn6] at G6;have LN6:=zq hn6;obtain⟨n7,hn7⟩:=Zn L.aG.length;rw[<-hn7] at G7;have LN7:=zq hn7;obtain⟨n8,hn8⟩:=Zn L.aJ.length;rw[<-hn8] at G8;have LN8:=zq hn8;rw[<-hn1,<-hn2,<-hn3,<-hn4,<-hn5,<-hn6,<-hn7,<-hn8];rw[<-hn4] at m4;obtain⟨W0,hW0⟩:=Zn ((w.alloc (.cells #[.int .i64 L.day,.slice a1 n1 c1,.slice a2 n2 c2,.slice a3 n3 c3,.slice a4 n4 c4,.slice a5 n5 c5,.slice a6 n6 c6,.slice a7 n7 c7,.slice a8 n8 c8] 31)).alloc (.cells #[.int .i64 0,.slice none 0 0,.slice none 0 0,.slice none 0 0,.slice none 0 0,.slice none 0 0,.slice none 0 0,.slice none 0 0,.slice none 0 0] 31));have X0:=zq (show Below w.heap.size w W0/\gB W0 w.heap.size L (.slice a1 n1 c1) (.slice a2 n2 c2) (.slice a3 n3 c3) (.slice a4 n4 c4) (.slice a5 n5 c5) (.slice a6 n6 c6) (.slice a7 n7 c7) (.slice a8 n8 c8)/\W0.heap[w.heap.size+1]?=some (.cells #[.int .i64 0,.slice none 0 0,.slice none 0 0,.slice none 0 0,.slice none 0 0,.slice none 0 0,.slice none 0 0,.slice none 0 0,.slice none 0 0] 31 (0,0))/\W0.heap.size=w.heap.size+2 from by
  rw[hW0];exact⟨(Zb).alloc (by simp) _,⟨((Mod.refl (fun _=>False) _).alloc _).heap (heap_alloc_new w _) (fun h=>h)⟩,by simpa using heap_alloc_new (w.alloc (.cells #[.int .i64 L.day,.slice a1 n1 c1,.slice a2 n2 c2,.slice a3 n3 c3,.slice a4 n4 c4,.slice a5 n5 c5,.slice a6 n6 c6,.slice a7 n7 c7,.slice a8 n8 c8] 31)) _,by simp⟩)
 clear h hb hca e1 e2 e3 e4 e5 e6 e7 e8 hn1 hn2 hn3 hn4 hn5 hn6 hn7 hn8
 go_enter Tryz.func61,Tryz.ntmps61
 go_upto_region 1 with (fail)
 rw[<-hW0];obtain⟨b1,hb1⟩:=Zn w.heap.size;obtain⟨b2,hb2⟩:=Zn (w.heap.size+1);have HBS:=zq (show b1=w.heap.size/\b2=w.heap.size+1/\b1<W0.heap.size/\b2<W0.heap.size/\W0.heap.size=w.heap.size+2 from by have:=X0.o.2.2.2;omega);rw[<-hb2,<-hb1] at X0 ⊢;have BW:=zq (show Below w.heap.size w W0 from by rw[<-hb1];exact X0.o.1);have SP:=zq (dM.nil W0 W0.heap.size);clear hW0 hb1 hb2;obtain⟨R0,hR0⟩:=Zn W0.heap.size;have RB:=zq (show R0<=W0.heap.size from Nat.le_of_eq hR0);have RL:=zq (show b1<R0/\b2<R0/\R0=w.heap.size+2/\b1=w.heap.size/\b2=w.heap.size+1 from by have:=HBS.o;omega);rw[<-hR0] at SP;clear hR0;have HX:=zq X0.o.2.1;have D0:=zq (show Below W0.heap.size W0 W0.drew from ((Mod.refl (fun _=>False) W0).drew).aU);have y1:W0.cell? ⟨b1,1,none⟩=some (.slice a1 n1 c1):=(cell_of_heap HX.o.at_ 1).trans rfl;have y2:∀ z:dh (fun W=>Below W0.heap.size W0 W),z.w.cell? ⟨b1,2,none⟩=some (.slice a2 n2 c2):=fun z=>(cell_of_heap ((HX.o.mod (Mod.of_below z.ok) (fun h=>h)).at_) 2).trans rfl
 have y3:∀ z:dh (fun W=>Below W0.heap.size W0 W),z.w.cell? ⟨b1,3,none⟩=some (.slice a3 n3 c3):=fun z=>(cell_of_heap ((HX.o.mod (Mod.of_below z.ok) (fun h=>h)).at_) 3).trans rfl
 have y4:∀ z:dh (fun W=>Below W0.heap.size W0 W),z.w.cell? ⟨b1,4,none⟩=some (.slice a4 n4 c4):=fun z=>(cell_of_heap ((HX.o.mod (Mod.of_below z.ok) (fun h=>h)).at_) 4).trans rfl
 refine aI.aX (C:=fun w'=>∃ z:dh (fun W=>Below W0.heap.size W0 W),w'=z.w) [2,5,8,11,13,15,17,19] [3,4,6,7,9,10,12] (.step 0 (.step 1 (.step 3 (.step 4 (.step 6 (.step 7 (.step 9 (.step 10 (.step 2 (.step 12 (.step 5 (.step 8 (.step 11 (.step 13 (.step 14 (.step 15 (.step 16 (.step 17 (.step 18 (.step 19 .leaf)))))))))))))))))))) (fun _ _ _=>False) (by kernel_rfl) (fun _ _ _ h=>h.elim) (by kernel_rfl) ⟨⟨W0.drew,D0.o⟩,rfl⟩ ?_
 haveI ne:Nonempty (dh (fun W=>Below W0.heap.size W0 W)):=⟨⟨W0,Below.refl _ _⟩⟩
 refine aI.aC [0,1] (by kernel_rfl) ?_
 simp only[ay,nth]
 repeat (go_big_quiet_step (fail))
 refine wpQuiet_nil ?_;refine aI.bM [3,4,6,7,9,10] (by kernel_rfl) ?_
 simp only[ay,nth]
 repeat (go_big_quiet_step (fail))
 refine wpQuiet_nil ?_;clear y1 y2 y3 y4;refine aI.aK (by kernel_rfl) rfl (fun K hK=>?_)
 simp only[ay,nth]
 refine aA ?_;go_simp;refine (G1.o _ (BW.o.trans (D0.o.mono BW.o.size))).mono ?_;rintro e u1 ⟨v,rfl,ho,hbb⟩;obtain⟨x1,k1,rfl,_⟩:=ho.form;rw[<-LN1.o] at ho ⊢;have B1:=zq (show Below W0.heap.size W0 u1 from D0.o.trans (hbb.mono D0.o.size));have P1:=zq (show dM u1 R0 ([(.slice x1 n1 k1)]) from dM.add (SP.o.more (Nat.le_refl _)) ho (Nat.le_trans RB.o D0.o.size) hbb.size);have O1:=zq (ho.base (B':=R0) (Nat.le_trans RB.o D0.o.size));clear ho hbb;go_simp;refine hK _ _ (fun _=>⟨⟨u1,B1.o⟩,rfl⟩) ?_;clear hK;refine aI.bM [12] (by kernel_rfl) ?_
 simp only[ay,nth]
 repeat (go_big_quiet_step (fail))
 refine wpQuiet_nil ?_;refine aI.aK (by kernel_rfl) rfl (fun K hK=>?_)
 simp only[ay,nth]
 refine aA ?_;go_simp;refine (G2.o _ (BW.o.trans (B1.o.mono BW.o.size))).mono ?_;rintro e u2 ⟨v,rfl,ho,hbb⟩;obtain⟨x2,k2,rfl,_⟩:=ho.form;rw[<-LN2.o] at ho ⊢;have B2:=zq (show Below W0.heap.size W0 u2 from B1.o.trans (hbb.mono B1.o.size));have P2:=zq (show dM u2 R0 ([(.slice x1 n1 k1),(.slice x2 n2 k2)]) from dM.add (P1.o.more (Nat.le_refl _)) ho (Nat.le_trans RB.o B1.o.size) hbb.size);have O2:=zq (ho.base (B':=R0) (Nat.le_trans RB.o B1.o.size));have O1:=zq (O1.o.mod (Mod.of_below hbb) (fun _ _ h=>h));clear ho hbb;go_simp;refine hK _ _ (fun _=>⟨⟨u2,B2.o⟩,rfl⟩) ?_;clear hK;refine aI.aK (by kernel_rfl) rfl (fun K hK=>?_)
 simp only[ay,nth]
 refine aA ?_;go_simp;refine (G3.o _ (BW.o.trans (B2.o.mono BW.o.size))).mono ?_;rintro e u3 ⟨v,rfl,ho,hbb⟩;obtain⟨x3,k3,rfl,_⟩:=ho.form;rw[<-LN3.o] at ho ⊢;have B3:=zq (show Below W0.heap.size W0 u3 from B2.o.trans (hbb.mono B2.o.size));have P3:=zq (show dM u3 R0 ([(.slice x1 n1 k1),(.slice x2 n2 k2),(.slice x3 n3 k3)]) from dM.add (P2.o.more (Nat.le_refl _)) ho (Nat.le_trans RB.o B2.o.size) hbb.size);have O3:=zq (ho.base (B':=R0) (Nat.le_trans RB.o B2.o.size));have O1:=zq (O1.o.mod (Mod.of_below hbb) (fun _ _ h=>h));have O2:=zq (O2.o.mod (Mod.of_below hbb) (fun _ _ h=>h));clear ho hbb;go_simp;refine hK _ _ (fun _=>⟨⟨u3,B3.o⟩,rfl⟩) ?_;clear hK;refine aI.aK (by kernel_rfl) rfl (fun K hK=>?_)
 simp only[ay,nth]
 refine aA ?_;go_simp;refine (G4.o _ (BW.o.trans (B3.o.mono BW.o.size))).mono ?_;rintro e u4 ⟨v,rfl,ho,hbb⟩;obtain⟨x4,k4,rfl,_⟩:=ho.form;rw[<-AL.o,<-LN4.o] at ho ⊢;have B4:=zq (show Below W0.heap.size W0 u4 from B3.o.trans (hbb.mono B3.o.size));have P4:=zq (show dM u4 R0 ([(.slice x1 n1 k1),(.slice x2 n2 k2),(.slice x3 n3 k3),(.slice x4 n4 k4)]) from dM.add (P3.o.more (Nat.le_refl _)) ho (Nat.le_trans RB.o B3.o.size) hbb.size);have O4:=zq (ho.base (B':=R0) (Nat.le_trans RB.o B3.o.size));have O1:=zq (O1.o.mod (Mod.of_below hbb) (fun _ _ h=>h));have O2:=zq (O2.o.mod (Mod.of_below hbb) (fun _ _ h=>h));have O3:=zq (O3.o.mod (Mod.of_below hbb) (fun _ _ h=>h));clear ho hbb;go_simp;refine hK _ _ (fun _=>⟨⟨u4,B4.o⟩,rfl⟩) ?_;clear hK;have H10:=zq (show gB u4 b1 L (.slice a1 n1 c1) (.slice a2 n2 c2) (.slice a3 n3 c3) (.slice a4 n4 c4) (.slice a5 n5 c5) (.slice a6 n6 c6) (.slice a7 n7 c7) (.slice a8 n8 c8) from HX.o.mod (Mod.of_below B4.o) (fun h=>h));have g:u4.cell? ⟨b1,1,none⟩=some (.slice a1 n1 c1):=(cell_of_heap H10.o.at_ 1).trans rfl;have z:=aP H10.o.at_ 1;refine aI.dm (by kernel_rfl) rfl (by kernel_rfl) (fun K hK=>?_)
 simp only[ay,nth]
 refine aA ?_;go_simp;obtain⟨s1,hs⟩:=Zn (u4.setCell ⟨b1,1,none⟩ (.slice x1 n1 k1));have H1n:=zq (show gB s1 b1 L (.slice x1 n1 k1) (.slice a2 n2 c2) (.slice a3 n3 c3) (.slice a4 n4 c4) (.slice a5 n5 c5) (.slice a6 n6 c6) (.slice a7 n7 c7) (.slice a8 n8 c8) from by rw[hs];exact H10.o.set 1 _ rfl);have N1:=zq (show Mod (fun k=>k=b1) u4 s1 from by rw[hs];exact (Mod.refl (fun k=>k=b1) u4).setCell _ (fun _=>rfl));rw[<-hs];refine hK _ _ ?_;clear hK hs g z;refine aI.aC [14] (by kernel_rfl) ?_
 simp only[ay,nth]
 repeat (go_big_quiet_step (fail))
 refine wpQuiet_nil ?_;have g:s1.cell? ⟨b1,2,none⟩=some (.slice a2 n2 c2):=(cell_of_heap H1n.o.at_ 2).trans rfl;have z:=aP H1n.o.at_ 2;refine aI.dm (by kernel_rfl) rfl (by kernel_rfl) (fun K hK=>?_)
 simp only[ay,nth]
 refine aA ?_;go_simp;obtain⟨s2,hs⟩:=Zn (s1.setCell ⟨b1,2,none⟩ (.slice x2 n2 k2));have H2n:=zq (show gB s2 b1 L (.slice x1 n1 k1) (.slice x2 n2 k2) (.slice a3 n3 c3) (.slice a4 n4 c4) (.slice a5 n5 c5) (.slice a6 n6 c6) (.slice a7 n7 c7) (.slice a8 n8 c8) from by rw[hs];exact H1n.o.set 2 _ rfl);have N2:=zq (show Mod (fun k=>k=b1) u4 s2 from by rw[hs];exact N1.o.setCell _ (fun _=>rfl));rw[<-hs];refine hK _ _ ?_;clear hK hs g z;refine aI.aC [16] (by kernel_rfl) ?_
 simp only[ay,nth]
 repeat (go_big_quiet_step (fail))
 refine wpQuiet_nil ?_;have g:s2.cell? ⟨b1,3,none⟩=some (.slice a3 n3 c3):=(cell_of_heap H2n.o.at_ 3).trans rfl;have z:=aP H2n.o.at_ 3;refine aI.dm (by kernel_rfl) rfl (by kernel_rfl) (fun K hK=>?_)
 simp only[ay,nth]
 refine aA ?_;go_simp;obtain⟨s3,hs⟩:=Zn (s2.setCell ⟨b1,3,none⟩ (.slice x3 n3 k3));have H3n:=zq (show gB s3 b1 L (.slice x1 n1 k1) (.slice x2 n2 k2) (.slice x3 n3 k3) (.slice a4 n4 c4) (.slice a5 n5 c5) (.slice a6 n6 c6) (.slice a7 n7 c7) (.slice a8 n8 c8) from by rw[hs];exact H2n.o.set 3 _ rfl);have N3:=zq (show Mod (fun k=>k=b1) u4 s3 from by rw[hs];exact N2.o.setCell _ (fun _=>rfl));rw[<-hs];refine hK _ _ ?_;clear hK hs g z;refine aI.aC [18] (by kernel_rfl) ?_
 simp only[ay,nth]
 repeat (go_big_quiet_step (fail))
 refine wpQuiet_nil ?_;have g:s3.cell? ⟨b1,4,none⟩=some (.slice a4 n4 c4):=(cell_of_heap H3n.o.at_ 4).trans rfl;have z:=aP H3n.o.at_ 4;refine aI.dm (by kernel_rfl) rfl (by kernel_rfl) (fun K hK=>?_)
 simp only[ay,nth]
 refine aA ?_;go_simp;obtain⟨s4,hs⟩:=Zn (s3.setCell ⟨b1,4,none⟩ (.slice x4 n4 k4));have H4n:=zq (show gB s4 b1 L (.slice x1 n1 k1) (.slice x2 n2 k2) (.slice x3 n3 k3) (.slice x4 n4 k4) (.slice a5 n5 c5) (.slice a6 n6 c6) (.slice a7 n7 c7) (.slice a8 n8 c8) from by rw[hs];exact H3n.o.set 4 _ rfl);have N4:=zq (show Mod (fun k=>k=b1) u4 s4 from by rw[hs];exact N3.o.setCell _ (fun _=>rfl));rw[<-hs];refine hK _ _ ?_;clear hK hs g z;refine aI.bH ?_;have Z5:=zq (show Below w.heap.size w s4/\Mod (fun k=>k=b1) W0 s4 from by
  have m:=(((Mod.of_below B4.o).mono (T:=fun k=>k=b1) (fun _ _ h=>h.elim)).trans N4.o (fun _ _ h=>h));exact⟨((Mod.of_below BW.o).trans m (fun k hk h=>by have:=RL.o;omega)).aU,m⟩)
 have O1:=zq (O1.o.mod N4.o (fun k hk e=>by have h1:=(O1.o.lt k hk).1;have:=RL.o;omega));have O2:=zq (O2.o.mod N4.o (fun k hk e=>by have h1:=(O2.o.lt k hk).1;have:=RL.o;omega));have O3:=zq (O3.o.mod N4.o (fun k hk e=>by have h1:=(O3.o.lt k hk).1;have:=RL.o;omega));have O4:=zq (O4.o.mod N4.o (fun k hk e=>by have h1:=(O4.o.lt k hk).1;have:=RL.o;omega));have SP:=zq (P4.o.more N4.o.size);have HX:=zq H4n.o;have BW:=zq Z5.o.1;have RB:=zq (show R0<=s4.heap.size from Nat.le_trans RB.o Z5.o.2.size)
 go_upto_region 2 with (fail)
 obtain⟨W1,hW1⟩:=Zn s4;rw[<-hW1] at O1 O2 O3 O4 SP HX BW RB Z5 ⊢;clear hW1;have D1:=zq (show Mod (fun _=>False) W1 W1.drew from (Mod.refl (fun _=>False) W1).drew);have O1:=zq (O1.o.mod D1.o (fun _ _ h=>h));have O2:=zq (O2.o.mod D1.o (fun _ _ h=>h));have O3:=zq (O3.o.mod D1.o (fun _ _ h=>h));have O4:=zq (O4.o.mod D1.o (fun _ _ h=>h));have D0:=zq (show Below W1.heap.size W1 W1.drew from ((Mod.refl (fun _=>False) W1).drew).aU);have y5:W1.cell? ⟨b1,5,none⟩=some (.slice a5 n5 c5):=(cell_of_heap HX.o.at_ 5).trans rfl;have y6:∀ z:dh (fun W=>Below W1.heap.size W1 W),z.w.cell? ⟨b1,6,none⟩=some (.slice a6 n6 c6):=fun z=>(cell_of_heap ((HX.o.mod (Mod.of_below z.ok) (fun h=>h)).at_) 6).trans rfl
 have y7:∀ z:dh (fun W=>Below W1.heap.size W1 W),z.w.cell? ⟨b1,7,none⟩=some (.slice a7 n7 c7):=fun z=>(cell_of_heap ((HX.o.mod (Mod.of_below z.ok) (fun h=>h)).at_) 7).trans rfl
 have y8:∀ z:dh (fun W=>Below W1.heap.size W1 W),z.w.cell? ⟨b1,8,none⟩=some (.slice a8 n8 c8):=fun z=>(cell_of_heap ((HX.o.mod (Mod.of_below z.ok) (fun h=>h)).at_) 8).trans rfl
 refine aI.aX (C:=fun w'=>∃ z:dh (fun W=>Below W1.heap.size W1 W),w'=z.w) [2,5,8,11,13,15,17,19] [3,4,6,7,9,10,12] (.step 0 (.step 1 (.step 3 (.step 4 (.step 6 (.step 7 (.step 9 (.step 10 (.step 2 (.step 12 (.step 5 (.step 8 (.step 11 (.step 13 (.step 14 (.step 15 (.step 16 (.step 17 (.step 18 (.step 19 .leaf)))))))))))))))))))) (fun _ _ _=>False) (by kernel_rfl) (fun _ _ _ h=>h.elim) (by kernel_rfl) ⟨⟨W1.drew,D0.o⟩,rfl⟩ ?_
 haveI ne:Nonempty (dh (fun W=>Below W1.heap.size W1 W)):=⟨⟨W1,Below.refl _ _⟩⟩
 refine aI.aC [0,1] (by kernel_rfl) ?_
 simp only[ay,nth]
 repeat (go_big_quiet_step (fail))
 refine wpQuiet_nil ?_;refine aI.bM [3,4,6,7,9,10] (by kernel_rfl) ?_
 simp only[ay,nth]
 repeat (go_big_quiet_step (fail))
 refine wpQuiet_nil ?_;clear y5 y6 y7 y8;refine aI.aK (by kernel_rfl) rfl (fun K hK=>?_)
 simp only[ay,nth]
 refine aA ?_;go_simp;refine (G5.o _ (BW.o.trans (D0.o.mono BW.o.size))).mono ?_;rintro e u5 ⟨v,rfl,ho,hbb⟩;obtain⟨x5,k5,rfl,_⟩:=ho.form;rw[<-LN5.o] at ho ⊢;have B5:=zq (show Below W1.heap.size W1 u5 from D0.o.trans (hbb.mono D0.o.size));have P5:=zq (show dM u5 R0 ([(.slice x1 n1 k1),(.slice x2 n2 k2),(.slice x3 n3 k3),(.slice x4 n4 k4),(.slice x5 n5 k5)]) from dM.add (SP.o.more (Nat.le_refl _)) ho (Nat.le_trans RB.o D0.o.size) hbb.size);have O5:=zq (ho.base (B':=R0) (Nat.le_trans RB.o D0.o.size));have O1:=zq (O1.o.mod (Mod.of_below hbb) (fun _ _ h=>h));have O2:=zq (O2.o.mod (Mod.of_below hbb) (fun _ _ h=>h));have O3:=zq (O3.o.mod (Mod.of_below hbb) (fun _ _ h=>h));have O4:=zq (O4.o.mod (Mod.of_below hbb) (fun _ _ h=>h));clear ho hbb;go_simp;refine hK _ _ (fun _=>⟨⟨u5,B5.o⟩,rfl⟩) ?_;clear hK;refine aI.bM [12] (by kernel_rfl) ?_
 simp only[ay,nth]
 repeat (go_big_quiet_step (fail))
 refine wpQuiet_nil ?_;refine aI.aK (by kernel_rfl) rfl (fun K hK=>?_)
 simp only[ay,nth]
 refine aA ?_;go_simp;refine (G6.o _ (BW.o.trans (B5.o.mono BW.o.size))).mono ?_;rintro e u6 ⟨v,rfl,ho,hbb⟩;obtain⟨x6,k6,rfl,_⟩:=ho.form;rw[<-LN6.o] at ho ⊢;have B6:=zq (show Below W1.heap.size W1 u6 from B5.o.trans (hbb.mono B5.o.size));have P6:=zq (show dM u6 R0 ([(.slice x1 n1 k1),(.slice x2 n2 k2),(.slice x3 n3 k3),(.slice x4 n4 k4),(.slice x5 n5 k5),(.slice x6 n6 k6)]) from dM.add (P5.o.more (Nat.le_refl _)) ho (Nat.le_trans RB.o B5.o.size) hbb.size);have O6:=zq (ho.base (B':=R0) (Nat.le_trans RB.o B5.o.size));have O1:=zq (O1.o.mod (Mod.of_below hbb) (fun _ _ h=>h));have O2:=zq (O2.o.mod (Mod.of_below hbb) (fun _ _ h=>h));have O3:=zq (O3.o.mod (Mod.of_below hbb) (fun _ _ h=>h));have O4:=zq (O4.o.mod (Mod.of_below hbb) (fun _ _ h=>h));have O5:=zq (O5.o.mod (Mod.of_below hbb) (fun _ _ h=>h));clear ho hbb;go_simp;refine hK _ _ (fun _=>⟨⟨u6,B6.o⟩,rfl⟩) ?_;clear hK;refine aI.aK (by kernel_rfl) rfl (fun K hK=>?_)
 simp only[ay,nth]
 refine aA ?_;go_simp;refine (G7.o _ (BW.o.trans (B6.o.mono BW.o.size))).mono ?_;rintro e u7 ⟨v,rfl,ho,hbb⟩;obtain⟨x7,k7,rfl,_⟩:=ho.form;rw[<-LN7.o] at ho ⊢;have B7:=zq (show Below W1.heap.size W1 u7 from B6.o.trans (hbb.mono B6.o.size));have P7:=zq (show dM u7 R0 ([(.slice x1 n1 k1),(.slice x2 n2 k2),(.slice x3 n3 k3),(.slice x4 n4 k4),(.slice x5 n5 k5),(.slice x6 n6 k6),(.slice x7 n7 k7)]) from dM.add (P6.o.more (Nat.le_refl _)) ho (Nat.le_trans RB.o B6.o.size) hbb.size);have O7:=zq (ho.base (B':=R0) (Nat.le_trans RB.o B6.o.size));have O1:=zq (O1.o.mod (Mod.of_below hbb) (fun _ _ h=>h));have O2:=zq (O2.o.mod (Mod.of_below hbb) (fun _ _ h=>h));have O3:=zq (O3.o.mod (Mod.of_below hbb) (fun _ _ h=>h));have O4:=zq (O4.o.mod (Mod.of_below hbb) (fun _ _ h=>h));have O5:=zq (O5.o.mod (Mod.of_below hbb) (fun _ _ h=>h));have O6:=zq (O6.o.mod (Mod.of_below hbb) (fun _ _ h=>h));clear ho hbb;go_simp;refine hK _ _ (fun _=>⟨⟨u7,B7.o⟩,rfl⟩) ?_;clear hK;refine aI.aK (by kernel_rfl) rfl (fun K hK=>?_)
 simp only[ay,nth]
 refine aA ?_;go_simp;refine (G8.o _ (BW.o.trans (B7.o.mono BW.o.size))).mono ?_;rintro e u8 ⟨v,rfl,ho,hbb⟩;obtain⟨x8,k8,rfl,_⟩:=ho.form;rw[<-LN8.o] at ho ⊢;have B8:=zq (show Below W1.heap.size W1 u8 from B7.o.trans (hbb.mono B7.o.size));have P8:=zq (show dM u8 R0 ([(.slice x1 n1 k1),(.slice x2 n2 k2),(.slice x3 n3 k3),(.slice x4 n4 k4),(.slice x5 n5 k5),(.slice x6 n6 k6),(.slice x7 n7 k7),(.slice x8 n8 k8)]) from dM.add (P7.o.more (Nat.le_refl _)) ho (Nat.le_trans RB.o B7.o.size) hbb.size);have O8:=zq (ho.base (B':=R0) (Nat.le_trans RB.o B7.o.size));have O1:=zq (O1.o.mod (Mod.of_below hbb) (fun _ _ h=>h));have O2:=zq (O2.o.mod (Mod.of_below hbb) (fun _ _ h=>h));have O3:=zq (O3.o.mod (Mod.of_below hbb) (fun _ _ h=>h));have O4:=zq (O4.o.mod (Mod.of_below hbb) (fun _ _ h=>h));have O5:=zq (O5.o.mod (Mod.of_below hbb) (fun _ _ h=>h));have O6:=zq (O6.o.mod (Mod.of_below hbb) (fun _ _ h=>h));have O7:=zq (O7.o.mod (Mod.of_below hbb) (fun _ _ h=>h));clear ho hbb;go_simp;refine hK _ _ (fun _=>⟨⟨u8,B8.o⟩,rfl⟩) ?_;clear hK;have H50:=zq (show gB u8 b1 L (.slice x1 n1 k1) (.slice x2 n2 k2) (.slice x3 n3 k3) (.slice x4 n4 k4) (.slice a5 n5 c5) (.slice a6 n6 c6) (.slice a7 n7 c7) (.slice a8 n8 c8) from HX.o.mod (Mod.of_below B8.o) (fun h=>h));have g:u8.cell? ⟨b1,5,none⟩=some (.slice a5 n5 c5):=(cell_of_heap H50.o.at_ 5).trans rfl;have z:=aP H50.o.at_ 5;refine aI.dm (by kernel_rfl) rfl (by kernel_rfl) (fun K hK=>?_)
 simp only[ay,nth]
 refine aA ?_;go_simp;obtain⟨s5,hs⟩:=Zn (u8.setCell ⟨b1,5,none⟩ (.slice x5 n5 k5));have H5n:=zq (show gB s5 b1 L (.slice x1 n1 k1) (.slice x2 n2 k2) (.slice x3 n3 k3) (.slice x4 n4 k4) (.slice x5 n5 k5) (.slice a6 n6 c6) (.slice a7 n7 c7) (.slice a8 n8 c8) from by rw[hs];exact H50.o.set 5 _ rfl);have N5:=zq (show Mod (fun k=>k=b1) u8 s5 from by rw[hs];exact (Mod.refl (fun k=>k=b1) u8).setCell _ (fun _=>rfl));rw[<-hs];refine hK _ _ ?_;clear hK hs g z;refine aI.aC [14] (by kernel_rfl) ?_
 simp only[ay,nth]
 repeat (go_big_quiet_step (fail))
 refine wpQuiet_nil ?_;have g:s5.cell? ⟨b1,6,none⟩=some (.slice a6 n6 c6):=(cell_of_heap H5n.o.at_ 6).trans rfl;have z:=aP H5n.o.at_ 6;refine aI.dm (by kernel_rfl) rfl (by kernel_rfl) (fun K hK=>?_)
 simp only[ay,nth]
 refine aA ?_;go_simp;obtain⟨s6,hs⟩:=Zn (s5.setCell ⟨b1,6,none⟩ (.slice x6 n6 k6));have H6n:=zq (show gB s6 b1 L (.slice x1 n1 k1) (.slice x2 n2 k2) (.slice x3 n3 k3) (.slice x4 n4 k4) (.slice x5 n5 k5) (.slice x6 n6 k6) (.slice a7 n7 c7) (.slice a8 n8 c8) from by rw[hs];exact H5n.o.set 6 _ rfl);have N6:=zq (show Mod (fun k=>k=b1) u8 s6 from by rw[hs];exact N5.o.setCell _ (fun _=>rfl));rw[<-hs];refine hK _ _ ?_;clear hK hs g z;refine aI.aC [16] (by kernel_rfl) ?_
 simp only[ay,nth]
 repeat (go_big_quiet_step (fail))
 refine wpQuiet_nil ?_;have g:s6.cell? ⟨b1,7,none⟩=some (.slice a7 n7 c7):=(cell_of_heap H6n.o.at_ 7).trans rfl;have z:=aP H6n.o.at_ 7;refine aI.dm (by kernel_rfl) rfl (by kernel_rfl) (fun K hK=>?_)
 simp only[ay,nth]
 refine aA ?_;go_simp;obtain⟨s7,hs⟩:=Zn (s6.setCell ⟨b1,7,none⟩ (.slice x7 n7 k7));have H7n:=zq (show gB s7 b1 L (.slice x1 n1 k1) (.slice x2 n2 k2) (.slice x3 n3 k3) (.slice x4 n4 k4) (.slice x5 n5 k5) (.slice x6 n6 k6) (.slice x7 n7 k7) (.slice a8 n8 c8) from by rw[hs];exact H6n.o.set 7 _ rfl);have N7:=zq (show Mod (fun k=>k=b1) u8 s7 from by rw[hs];exact N6.o.setCell _ (fun _=>rfl));rw[<-hs];refine hK _ _ ?_;clear hK hs g z;refine aI.aC [18] (by kernel_rfl) ?_
 simp only[ay,nth]
 repeat (go_big_quiet_step (fail))
 refine wpQuiet_nil ?_;have g:s7.cell? ⟨b1,8,none⟩=some (.slice a8 n8 c8):=(cell_of_heap H7n.o.at_ 8).trans rfl;have z:=aP H7n.o.at_ 8;refine aI.dm (by kernel_rfl) rfl (by kernel_rfl) (fun K hK=>?_)
 simp only[ay,nth]
 refine aA ?_;go_simp;obtain⟨s8,hs⟩:=Zn (s7.setCell ⟨b1,8,none⟩ (.slice x8 n8 k8));have H8n:=zq (show gB s8 b1 L (.slice x1 n1 k1) (.slice x2 n2 k2) (.slice x3 n3 k3) (.slice x4 n4 k4) (.slice x5 n5 k5) (.slice x6 n6 k6) (.slice x7 n7 k7) (.slice x8 n8 k8) from by rw[hs];exact H7n.o.set 8 _ rfl);have N8:=zq (show Mod (fun k=>k=b1) u8 s8 from by rw[hs];exact N7.o.setCell _ (fun _=>rfl));rw[<-hs];refine hK _ _ ?_;clear hK hs g z;refine aI.bH ?_;have Z9:=zq (show Below w.heap.size w s8/\Mod (fun k=>k=b1) W1 s8 from by
  have m:=(((Mod.of_below B8.o).mono (T:=fun k=>k=b1) (fun _ _ h=>h.elim)).trans N8.o (fun _ _ h=>h));exact⟨((Mod.of_below BW.o).trans m (fun k hk h=>by have:=RL.o;omega)).aU,m⟩)
 have O1:=zq (O1.o.mod N8.o (fun k hk e=>by have h1:=(O1.o.lt k hk).1;have:=RL.o;omega));have O2:=zq (O2.o.mod N8.o (fun k hk e=>by have h1:=(O2.o.lt k hk).1;have:=RL.o;omega));have O3:=zq (O3.o.mod N8.o (fun k hk e=>by have h1:=(O3.o.lt k hk).1;have:=RL.o;omega));have O4:=zq (O4.o.mod N8.o (fun k hk e=>by have h1:=(O4.o.lt k hk).1;have:=RL.o;omega));have O5:=zq (O5.o.mod N8.o (fun k hk e=>by have h1:=(O5.o.lt k hk).1;have:=RL.o;omega));have O6:=zq (O6.o.mod N8.o (fun k hk e=>by have h1:=(O6.o.lt k hk).1;have:=RL.o;omega));have O7:=zq (O7.o.mod N8.o (fun k hk e=>by have h1:=(O7.o.lt k hk).1;have:=RL.o;omega));have O8:=zq (O8.o.mod N8.o (fun k hk e=>by have h1:=(O8.o.lt k hk).1;have:=RL.o;omega));have SP:=zq (P8.o.more N8.o.size);have HX:=zq H8n.o;have BW:=zq Z9.o.1;have RB:=zq (show R0<=s8.heap.size from Nat.le_trans RB.o Z9.o.2.size);have HV:=zq (show L.ai=V.ac.map (·.1)/\(∀ u∈L.ah,u.name.size<=maxLen)/\(∀ a∈L.ai,∀ x∈a.aT,-9223372036854775808<=x/\x<=9223372036854775807) from HL.o.2);have CP:=zq (show yw w R0 b1 b2 L ⟨(.slice x1 n1 k1),(.slice x2 n2 k2),(.slice x3 n3 k3),(.slice x4 n4 k4),(.slice x5 n5 k5),(.slice x6 n6 k6),(.slice x7 n7 k7),(.slice x8 n8 k8),V.ac⟩ V.ac V.ac 0 s8 from
  ⟨BW.o,RB.o,HX.o,Z9.o.2.heap (Z5.o.2.heap X0.o.2.2.1 (fun h=>by have:=RL.o;omega)) (fun h=>by have:=RL.o;omega),O1.o,O2.o,O3.o,O5.o,O6.o,O7.o,O8.o,O4.o,rfl,fun _ _=>rfl,fun i p hi=>by omega,by
   have:=SP.o
   simpa using this⟩)
 clear O1 O2 O3 O4 O5 O6 O7 O8 SP HX BW RB Z5 Z9 X0 D0 D1 B1 B2 B3 B4 B5 B6 B7 B8 P1 P2 P3 P4 P5 P6 P7 P8 N1 N2 N3 N4 N5 N6 N7 N8 H10 H1n H2n H3n H4n H50 H5n H6n H7n H8n G1 G2 G3 G4 G5 G6 G8;have y4:s8.cell? ⟨b1,4,none⟩=some (.slice x4 n4 k4):=(cell_of_heap CP.o.box.at_ 4).trans rfl
 go_wp2_with fail
 go_loopw [39] (fun i wr=>∃ k:Nat,k<=n4/\i=.int .i64 k/\∃ ac' W,W=wr/\Hid (yw w R0 b1 b2 L ⟨(.slice x1 n1 k1),(.slice x2 n2 k2),(.slice x3 n3 k3),(.slice x4 n4 k4),(.slice x5 n5 k5),(.slice x6 n6 k6),(.slice x7 n7 k7),(.slice x8 n8 k8),V.ac⟩ V.ac ac' k W)) (fun i _=>n4 - (intOf i).toNat)
 case atStart=>exact⟨0,Nat.zero_le _,rfl,V.ac,_,rfl,CP⟩
 clear CP y4;obtain⟨k,hk,rfl,ac',W,rfl,CP⟩:=hrel;by_cases hlt:k<n4
 ·have hlt':(k:Int)<(n4:Int):=by omega
  have LT:=zq hlt;have LA:=zq (show ac'.length=n4 from by have h1:=congrArg List.length CP.o.same;have:=LN4.o;have:=AL.o;simp at h1;omega);obtain⟨p,hp⟩:∃ p,ac'[k]?=some p:=⟨_,Zg (by rw[LA.o];exact hlt)⟩;obtain⟨g,c,hv,hgc,hgB,hgl,hfr⟩:=CP.o.ai.block hp;obtain rfl:x4=some ⟨g,0,none⟩:=by injection hv
  have hp0:V.ac[k]?=some p:=(CP.o.rest k (Nat.le_refl k)).symm.trans hp;have CR:=zq ((CH.o p (List.mem_of_getElem? hp0)).below CP.o.below);have CN:=zq (CA.o p.1 (by rw[HV.o.1];exact List.mem_map.2 ⟨p,List.mem_of_getElem? hp0,rfl⟩));obtain⟨va,vn,vc,hpv⟩:=CS.o p (List.mem_of_getElem? hp0);obtain⟨pa,pv⟩:=p;obtain rfl:pv=.slice va vn vc:=hpv;obtain⟨b,o,e,hbl,hc⟩:=(CP.o.ai.row eG (by decide)).at_ hp;have cc:=hc 1 (.slice va vn vc) rfl
  cases e
  rw[Nat.zero_add] at cc;have HP:=zq hp;have HVV:=zq hv;have FR:=zq hfr;clear hp hp0 hv hgc hbl hc hfr;have yl:W.cell? ⟨b1,4,none⟩=some (.slice (some ⟨g,0,none⟩) n4 k4):=(cell_of_heap CP.o.box.at_ 4).trans rfl
  go_upto_region 6 with (fail)
  have DW:=zq (show Below W.heap.size W W.drew from ((Mod.refl (fun _=>False) W).drew).aU);have yz:∀ z:dh (fun w'=>Below W.heap.size W w'),z.w.cell? ⟨b1,4,none⟩=some (.slice (some ⟨g,0,none⟩) n4 k4):=fun z=>(cell_of_heap ((CP.o.box.mod (Mod.of_below z.ok) (fun h=>h)).at_) 4).trans rfl
  refine aI.aX (C:=fun w'=>∃ z:dh (fun w'=>Below W.heap.size W w'),w'=z.w) [9,12] [0,1,2] (.step 0 (.step 1 (.step 2 (.step 3 (.step 4 (.step 5 (.step 6 (.step 7 (.step 8 (.step 9 (.step 10 (.step 11 (.step 12 .leaf))))))))))))) (fun _ _ _=>False) (by kernel_rfl) (fun _ _ _ h=>h.elim) (by kernel_rfl) ⟨⟨W.drew,DW.o⟩,rfl⟩ ?_
  haveI ne:Nonempty (dh (fun w'=>Below W.heap.size W w')):=⟨⟨W,Below.refl _ _⟩⟩
  refine aI.bM [0,1,2] (by kernel_rfl) ?_
  simp only[ay,nth]
  repeat (go_big_quiet_step (fail))
  refine wpQuiet_nil ?_;clear yz;refine aI.aC [3,4,5,6,7,8] (by kernel_rfl) ?_
  simp only[ay,nth]
  repeat (go_big_quiet_step (fail))
  refine wpQuiet_nil ?_;clear yl cc;refine aI.aK (by kernel_rfl) rfl (fun K hK=>?_)
  simp only[ay,nth]
  refine aA ?_;go_simp;refine (yU W.drew _ _ (CR.o.below DW.o) (fun x hx u hu=>by simp[dw] at hu;subst hu;rfl) CN.o).mono ?_;rintro e u ⟨v,rfl,ho,hbb⟩;obtain⟨xx,kx,rfl,_⟩:=ho.form;have BU:=zq (show Below W.heap.size W u from DW.o.trans (hbb.mono DW.o.size));have HO:=zq ho;have HBB:=zq hbb;clear ho hbb;go_simp;refine hK _ _ (fun _=>⟨⟨u,BU.o⟩,rfl⟩) ?_;clear hK;refine aI.aC [10,11] (by kernel_rfl) ?_
  simp only[ay,nth]
  repeat (go_big_quiet_step (fail))
  refine wpQuiet_nil ?_;obtain⟨g2,c2',hv2,_,_,_,hfr2⟩:=(CP.o.go (Mod.of_below BU.o)).ai.block HP.o;obtain rfl:g=g2:=by rw[HVV.o] at hv2;injection hv2 with e _ _;injection e with e;injection e
  obtain⟨b',o',e',_,hc2⟩:=((CP.o.go (Mod.of_below BU.o)).ai.row eG (by decide)).at_ HP.o;have cc:=hc2 1 (.slice va vn vc) rfl
  cases e'
  rw[Nat.zero_add] at cc;have z:=hfr2 (k*4+1);refine aI.dm (by kernel_rfl) rfl (by kernel_rfl) (fun K hK=>?_)
  simp only[ay,nth]
  refine aA ?_;go_simp;refine hK _ _ ?_;clear hK hc2 hv2 hfr2;refine aI.bH ?_;have CQ:=zq (CP.o.put HP.o HVV.o BU.o (HO.o.base (show W.heap.size<=W.drew.heap.size from DW.o.size)) (by have:=RL.o;omega))
  go_wp2_with fail
  go_roundw
  case rel=>exact⟨k+1,by have:=LT.o;omega,by go_num,_,_,rfl,CQ⟩
  case measure=>have:=LT.o;simp[intOf];omega
 have hlt':¬ (k:Int)<(n4:Int):=by omega
 have LK:=zq (show k=V.ac.length from by have:=LN4.o;have:=AL.o;omega);have HB1:=zq CP.o.box.at_;have HB2:=zq CP.o.res;obtain⟨DD,hu,hd⟩:=iO
 go_wp2_with (first|(refine wpList_load_row rfl 31 (.tmp 1) rfl b1 rfl 31 _ (0,0) DD HB1.o hu (by cases DD <;> first|rfl|exact hd) fO ?_)|(refine wpList_store_row rfl 31 (.tmp 2) (.tmp 55) rfl b2 (qf L (.slice x1 n1 k1) (.slice x2 n2 k2) (.slice x3 n3 k3) (.slice x4 n4 k4) (.slice x5 n5 k5) (.slice x6 n6 k6) (.slice x7 n7 k7) (.slice x8 n8 k8)) rfl rfl 31 _ HB2.o fO rfl (AZ _ _ _ _ _ _ _ _ _ rfl rfl rfl rfl rfl rfl rfl rfl) ?_))
 have hg:(W.setRow b2 (qf L (.slice x1 n1 k1) (.slice x2 n2 k2) (.slice x3 n3 k3) (.slice x4 n4 k4) (.slice x5 n5 k5) (.slice x6 n6 k6) (.slice x7 n7 k7) (.slice x8 n8 k8))).heap[b2]?=some (.cells (qf L (.slice x1 n1 k1) (.slice x2 n2 k2) (.slice x3 n3 k3) (.slice x4 n4 k4) (.slice x5 n5 k5) (.slice x6 n6 k6) (.slice x7 n7 k7) (.slice x8 n8 k8)) 31 (0,0)):=setRow_heap _ _ _ _ _ _ HB2.o;have DN:=CP.o;rw[LK.o] at DN;obtain⟨d1,d2⟩:=DN.done HV.o.1 HV.o.2.1 HV.o.2.2 (bJ (w:=W) b2 (qf L (.slice x1 n1 k1) (.slice x2 n2 k2) (.slice x3 n3 k3) (.slice x4 n4 k4) (.slice x5 n5 k5) (.slice x6 n6 k6) (.slice x7 n7 k7) (.slice x8 n8 k8))) (by have:=RL.o;omega) (by have:=RL.o;omega)
 try simp only[Exit.inBlock,Exit.then]
 refine bodyPost_ret (v:=.agg (qf L (.slice x1 n1 k1) (.slice x2 n2 k2) (.slice x3 n3 k3) (.slice x4 n4 k4) (.slice x5 n5 k5) (.slice x6 n6 k6) (.slice x7 n7 k7) (.slice x8 n8 k8))) ?_ ?_ ?_
 ·exact rJ zW _ (W.setRow b2 (qf L (.slice x1 n1 k1) (.slice x2 n2 k2) (.slice x3 n3 k3) (.slice x4 n4 k4) (.slice x5 n5 k5) (.slice x6 n6 k6) (.slice x7 n7 k7) (.slice x8 n8 k8))) b2 31 (qf L (.slice x1 n1 k1) (.slice x2 n2 k2) (.slice x3 n3 k3) (.slice x4 n4 k4) (.slice x5 n5 k5) (.slice x6 n6 k6) (.slice x7 n7 k7) (.slice x8 n8 k8)) (0,0) DD rfl hg hu (by cases DD <;> first|rfl|exact hd) fO
 ·rfl
 unfold wG;exact⟨_,rfl,d1,d2⟩
end Go.Proofs.YtcepekniflaoaaaGreatDoor
namespace Go.Proofs.YtcepekniflaoaaaGreatDoor
open Go.RowKit Go.Bw
def gy (L:aH) (ex:Int->Int×Int) (k:Nat):List Acc:=L.ai.mapIdx fun i a=>if 2<=i/\i<k then { a with flag:=decide ((ex i).1<0) } else a
theorem jC (L:aH) (ex:Int->Int×Int) (k i:Nat):(gy L ex k)[i]?=(L.ai[i]?).map fun a=>if 2<=i/\i<k then { a with flag:=decide ((ex i).1<0) } else a:=by
 simp[gy,List.getElem?_mapIdx]
theorem kR (L:aH) (ex:Int->Int×Int) (k:Nat):(gy L ex k).length=L.ai.length:=by simp[gy]
theorem sU (L:aH) (ex:Int->Int×Int):gy L ex 0=L.ai:=by
 apply List.ext_getElem?
 intro i;rw[jC];simp
theorem Bq (L:aH) (ex:Int->Int×Int) {k:Nat} (h:k<2):gy L ex (k+1)=gy L ex k:=by
 apply List.ext_getElem?
 intro i;rw[jC,jC]
 congr 1
 funext a
 rw[if_neg (by omega),if_neg (by omega)]
theorem zZ (L:aH) (ex:Int->Int×Int) {k:Nat} {a:Acc} (h:2<=k) (ha:L.ai[k]?=some a):gy L ex (k+1)=(gy L ex k).set k { a with flag:=decide ((ex k).1<0) }:=by
 have hk:=(List.getElem?_eq_some_iff.1 ha).1
 apply List.ext_getElem?
 intro i;by_cases e:k=i
 ·subst e;rw[List.getElem?_set_self (by rw[kR];exact hk),jC,ha];simp[h]
 rw[List.getElem?_set_ne e,jC,jC]
 congr 1
 funext a
 by_cases hc:2<=i/\i<k
 ·rw[if_pos (by omega),if_pos hc]
 rw[if_neg (by omega),if_neg hc]
structure nG (w:World) (R0 b4:Nat) (L:aH) (ex:Int->Int×Int) (v:aB) (k:Nat) (W:World):Prop where
 below:Below w.heap.size w W
 own:∃ ac,bF W R0 { v with ac:=ac } { L with ai:=gy L ex k }
 box:gB W b4 L v.aQ v.ah v.af v.ai v.au v.orders v.aG v.aJ
 good:∀ i:Nat,2<=i->i<k->(ex i).2=0
theorem nG.go {w W W':World} {R0 b4 k:Nat} {L:aH} {ex:Int->Int×Int} {v:aB} (h:nG w R0 b4 L ex v k W) (hb:Below W.heap.size W W'):nG w R0 b4 L ex v k W' :=
 ⟨((Mod.of_below h.below).trans (Mod.of_below hb) (fun k hk h=>h)).aU,h.own.imp fun ac o=>o.below hb,h.box.mod (Mod.of_below hb) (fun h=>h),h.good⟩
theorem nG.low {w W:World} {R0 b4 k:Nat} {L:aH} {ex:Int->Int×Int} {v:aB} (h:nG w R0 b4 L ex v k W) (hk:k<2):nG w R0 b4 L ex v (k+1) W :=
 ⟨h.below,by rw[Bq L ex hk];exact h.own,h.box,fun i h1 h2=>by omega⟩
theorem nG.put {w W:World} {R0 b4 k g c:Nat} {L:aH} {ex:Int->Int×Int} {v:aB} {a:Acc} (h:nG w R0 b4 L ex v k W) (h2:2<=k) (ha:L.ai[k]?=some a) (he:(ex k).2=0) (hv:v.ai=.slice (some ⟨g,0,none⟩) L.ai.length c) (hg:R0<=g) (hR:w.heap.size<=R0) (h4:b4<R0\/b4≠g) :
 nG w R0 b4 L ex v (k+1) (W.setCell ⟨g,k*4+2,none⟩ (.bool (decide ((ex k).1<0)))):=by
 obtain⟨ac,o⟩:=h.own;have hs:gy L ex k=ac.map (·.1):=o.same;have hl:ac.length=L.ai.length:=by have:=congrArg List.length hs;rw[kR] at this;simpa using this.symm
 have hk:=(List.getElem?_eq_some_iff.1 ha).1;obtain⟨p,hp⟩:∃ p,ac[k]?=some p:=⟨_,Zg (by omega)⟩;have hpa:p.1=a:=by
  have h1:=jC L ex k k;rw[hs,ha,List.getElem?_map,hp] at h1
  simpa using h1
 have A:=o.ak (p:=p) (p':=({ a with flag:=decide ((ex k).1<0) },p.2)) (k:=k) (j:=2) (g:=g) (c:=c) (u:=.bool (decide ((ex k).1<0))) (by show v.ai=_;rw[hv,hl]) hp (by omega) (by rw[<-hpa];rfl) rfl (by rw[<-hpa]);refine⟨((Mod.of_below h.below).trans A.2 (fun j hj e=>by omega)).aU,⟨_,by rw[zZ L ex h2 ha];exact A.1⟩,h.box.mod A.2 (by omega),fun i h1 h3=>?_⟩;by_cases e:i=k
 ·subst e;exact he
 exact h.good i h1 (by omega)
theorem vk {L:aH} (f:Nat->Int):∀ (bs:List Acc) (v:Nat),(∀ k,k<bs.length->2<=v+k->dN L (v+k)=some (f (v+k))) ->
 kJ L v bs=some (bs.mapIdx fun k a=>if 2<=v+k then { a with flag:=decide (f (v+k)<0) } else a)
 | [],v,_=>rfl
 | a::r,v,h=>by
   have ih:=vk f r (v+1) (fun k hk h2=>by have:=h (k+1) (by simpa using hk) (by omega);rwa [show v+(k+1)=v+1+k by omega] at this);have e:(r.mapIdx fun k a=>if 2<=v+1+k then ({ a with flag:=decide (f (v+1+k)<0) }:Acc) else a)=r.mapIdx (fun k a=>if 2<=v+(k+1) then { a with flag:=decide (f (v+(k+1))<0) } else a):=by
    congr 1;funext k a;rw[show v+1+k=v+(k+1) by omega]
   unfold kJ;rw[ih,e,List.mapIdx_cons];by_cases hv:v<2
   ·rw[if_pos hv,if_neg (by omega)];rfl
   have h0:=h 0 (by simp) (by omega);rw[Nat.add_zero] at h0;rw[if_neg hv,h0,if_pos (by omega)];rfl
theorem sV {L:aH}:∀ (bs:List Acc) (v k:Nat),k<bs.length->2<=v+k->dN L (v+k)=none->kJ L v bs=none
 | [],v,k,h,_,_=>by simp at h
 | a::r,v,0,h,h2,he=>by
   rw[Nat.add_zero] at he;unfold kJ;rw[if_neg (by omega),he];rfl
 | a::r,v,k+1,h,h2,he=>by
   have ih:=sV r (v+1) k (by simpa using h) (by omega) (by rw[show v+1+k=v+(k+1) by omega];exact he);unfold kJ;rw[ih];by_cases hv:v<2
   ·rw[if_pos hv];rfl
   rw[if_neg hv];cases dN L v <;> rfl
theorem zS {L:aH} (hg:L.Good) {i:Nat} (hi:i<L.ai.length) (r:Int×Int):pR L (i:Int) r=r:=Ii hg (by omega)
theorem Pq {o:Option Int} (h:(retA o).2=0):o=some (retA o).1:=by cases o with
 | none=>cases h
 | some x=>rfl
theorem NW {o:Option Int} (h:(retA o).2≠0):o=none/\retA o=(0,4):=by cases o with
 | none=>exact⟨rfl,rfl⟩
 | some x=>exact absurd rfl h
theorem xg {L:aH} (hg:L.Good) {ex:Int->Int×Int} (hex:∀ a:Int,ex a=pR L a (retA (dN L a.toNat))) (h:∀ i:Nat,2<=i->i<L.ai.length->(ex i).2=0) :
 jR L=some { L with ai:=gy L ex L.ai.length }:=by
 have hx:∀ i:Nat,i<L.ai.length->ex i=retA (dN L i):=fun i hi=>by rw[hex,zS hg hi];rfl
 unfold jR;rw[vk (fun k=>(ex k).1) L.ai 0 (fun k hk h2=>by
  rw[Nat.zero_add] at h2 ⊢;have:=h k h2 hk;rw[hx k hk] at this ⊢;exact Pq this)]
 show some _=some _
 congr 2
 unfold gy
 apply List.ext_getElem?
 intro i;rw[List.getElem?_mapIdx,List.getElem?_mapIdx];by_cases hi:i<L.ai.length
 ·congr 1;funext a;rw[Nat.zero_add]
  by_cases h2:2<=i
  ·rw[if_pos h2,if_pos ⟨h2,hi⟩]
  rw[if_neg h2,if_neg (fun h=>h2 h.1)]
 rw[List.getElem?_eq_none (by omega)];rfl
theorem wZ {L:aH} (hg:L.Good) {ex:Int->Int×Int} (hex:∀ a:Int,ex a=pR L a (retA (dN L a.toNat))) {i:Nat} (h2:2<=i) (hi:i<L.ai.length) (h:(ex i).2≠0) :
 jR L=none/\(ex i).2=4:=by
 rw[hex,zS hg hi] at h ⊢;obtain⟨e1,e2⟩:=NW h;refine⟨?_,by rw[e2]⟩;unfold jR;rw[sV L.ai 0 i hi (by omega) (by rw[Nat.zero_add];exact e1)];rfl
def aZ:Array Value:=#[.int .i64 0,.slice none 0 0,.slice none 0 0,.slice none 0 0,.slice none 0 0,.slice none 0 0,.slice none 0 0,.slice none 0 0,.slice none 0 0]
def pW (w:World) (L:aH) (e:Ending) (w':World):Prop :=
 ((¬ L.Good/\e=.returned (.tuple #[.agg aZ,.int .i64 43]))\/(L.Good/\jR L=none/\e=.returned (.tuple #[.agg aZ,.int .i64 4])) \/
   (L.Good/\∃ m V,jR L=some m/\e=.returned (.tuple #[V.val m,.int .i64 0])/\bF w' w.heap.size V m))/\Below w.heap.size w w'
end Go.Proofs.YtcepekniflaoaaaGreatDoor
namespace Go.Bw
open Go.RowKit
structure At (w W:World) (bs:List (Nat×TypeId×Array Value)):Prop where
 low:Below w.heap.size w W
 has:∀ x∈bs,W.heap[x.1]?=some (.cells x.2.2 x.2.1 (0,0))
 new:∀ x∈bs,w.heap.size<=x.1
 Qr:(bs.map (·.1)).Nodup
variable {w W W':World} {bs:List (Nat×TypeId×Array Value)} {b:Nat} {T:TypeId} {cs:Array Value}
theorem At.start (w:World):At w w []:=⟨Below.refl _ _,by simp,by simp,by simp⟩
theorem At.get (h:At w W bs) (i:Nat) (hi:bs[i]?=some (b,T,cs)):W.heap[b]?=some (.cells cs T (0,0)):=h.has _ (List.mem_of_getElem? hi)
theorem At.cell (h:At w W bs) (i:Nat) (hi:bs[i]?=some (b,T,cs)) (o:Nat) {v:Value} (ho:cs[o]?=some v):W.cell? ⟨b,o,none⟩=some v:=(cell_of_heap (h.get i hi) o).trans ho
theorem At.free (h:At w W bs) (i:Nat) (hi:bs[i]?=some (b,T,cs)) (o:Nat):W.frozen? ⟨b,o,none⟩=false:=aP (h.get i hi) o
theorem At.lt (h:At w W bs):∀ x∈bs,x.1<W.heap.size:=fun x hx=>lt_of_heap (h.has x hx)
theorem At.mod {S:Nat->Prop} (h:At w W bs) (hm:Mod S W W') (h1:∀ k,S k->w.heap.size<=k) (h2:∀ x∈bs,¬ S x.1):At w W' bs :=
 ⟨((Mod.of_below h.low).trans hm (fun i hi hs=>absurd (h1 i hs) (by omega))).aU,fun x hx=>hm.heap (h.has x hx) (h2 x hx),h.new,h.Qr⟩
theorem At.go (h:At w W bs) (hb:Below W.heap.size W W'):At w W' bs:=h.mod (Mod.of_below hb) (fun _ h=>h.elim) (fun _ _ h=>h)
theorem At.drew (h:At w W bs):At w W.drew bs:=h.go ((Mod.refl (fun _=>False) W).drew).aU
theorem At.alloc (h:At w W bs) (T:TypeId) (cs:Array Value):At w (W.alloc (.cells cs T)) (bs++[(W.heap.size,T,cs)]):=by
 have hm:=(Mod.refl (fun _=>False) W).alloc (.cells cs T);refine⟨(h.go hm.aU).low,fun x hx=>?_,fun x hx=>?_,?_⟩
 ·rcases List.mem_append.1 hx with hx|hx
  ·exact hm.heap (h.has x hx) (fun h=>h)
  obtain rfl:=List.mem_singleton.1 hx;exact heap_alloc_new W _
 ·rcases List.mem_append.1 hx with hx|hx
  ·exact h.new x hx
  obtain rfl:=List.mem_singleton.1 hx;exact h.low.size
 rw[List.map_append,List.nodup_append];refine⟨h.Qr,by simp,fun a ha c hc=>?_⟩;obtain⟨x,hx,rfl⟩:=List.mem_map.1 ha
 simp at hc
 have:=h.lt x hx;omega
theorem JL {bs:List (Nat×TypeId×Array Value)} {i:Nat} (hi:bs[i]?=some (b,T,cs)) (cs':Array Value):(bs.set i (b,T,cs')).map (·.1)=bs.map (·.1):=by
 rw[List.map_set]
 apply List.ext_getElem?
 intro k;rw[List.getElem?_set];by_cases e:i=k
 ·subst e;have:=(List.getElem?_eq_some_iff.1 hi).1;simp[this,hi];rw[(List.getElem?_eq_some_iff.1 hi).2]
 simp[e]
theorem At.change (h:At w W bs) (i:Nat) (hi:bs[i]?=some (b,T,cs)) (cs':Array Value) (hm:Mod (fun k=>k=b) W W') (hh:W'.heap[b]?=some (.cells cs' T (0,0))):At w W' (bs.set i (b,T,cs')):=by
 have hb:=h.new _ (List.mem_of_getElem? hi);refine⟨((Mod.of_below h.low).trans hm (fun k hk e=>by subst e;exact absurd hb (Nat.not_le.2 hk))).aU,fun x hx=>?_,fun x hx=>?_,by rw[JL hi];exact h.Qr⟩
 ·obtain⟨k,hk,e⟩:=List.mem_iff_getElem.1 hx;rw[List.getElem_set] at e;rw[List.length_set] at hk;by_cases hik:i=k
  ·rw[if_pos hik] at e;subst e;exact hh
  rw[if_neg hik] at e;subst e;refine hm.heap (h.has _ (List.getElem_mem hk)) (fun e=>hik ?_);obtain⟨h1,h2⟩:=List.getElem?_eq_some_iff.1 hi;have nd:=List.pairwise_iff_getElem.1 h.Qr;have e1:(bs.map (·.1))[i]'(by simpa using h1)=(bs.map (·.1))[k]'(by simpa using hk):=by simp only[List.getElem_map,h2];exact e.symm
  rcases Nat.lt_trichotomy i k with hlt|heq|hlt
  ·exact absurd e1 (nd i k _ _ hlt)
  ·exact heq
  exact absurd e1.symm (nd k i _ _ hlt)
 rcases List.mem_or_eq_of_mem_set hx with hx|rfl
 ·exact h.new x hx
 exact hb
theorem At.setCell (h:At w W bs) (i:Nat) (hi:bs[i]?=some (b,T,cs)) (o:Nat) (u:Value):At w (W.setCell ⟨b,o,none⟩ u) (bs.set i (b,T,cs.setIfInBounds o u)) :=
 h.change i hi _ ((Mod.refl _ W).setCell u (fun _=>rfl)) (bC (h.get i hi) o u)
theorem dP {w:World} {b o:Nat} {v:Value} (h:w.cell? ⟨b,o,none⟩=some v):w.setCell ⟨b,o,none⟩ v=w:=by
 have hh:(w.setCell ⟨b,o,none⟩ v).heap=w.heap:=by
  apply Array.ext_getElem?
  intro i;by_cases hi:i=b
  ·subst hi
   cases hb:w.heap[i]? with
   | none=>simp[World.cell?,hb] at h
   | some ob =>
     cases ob with
     | cells cs T z =>
       have hv:cs[o]?=some v:=by rw[cell_of_heap hb] at h;exact h
       have e:cs.setIfInBounds o v=cs:=by
        apply Array.ext_getElem?
        intro i;rw[Array.getElem?_setIfInBounds];by_cases hi:o=i
        ·subst hi;rw[if_pos rfl,if_pos (Array.getElem?_eq_some_iff.1 hv).1,hv]
        simp[hi]
       rw[bC hb,e]
     | _=>simp[World.cell?,hb] at h
  exact iL hi
 have:w.setCell ⟨b,o,none⟩ v={ w with heap:=(w.setCell ⟨b,o,none⟩ v).heap }:=rfl;rw[this,hh]
def aB.Az (V:aB) (b:Nat):Prop:=∀ x∈V.rows,x.ownBlock≠some b
theorem bF.PU {w:World} {B:Nat} {V:aB} {l:aH} (h:bF w B V l):∀ x∈V.rows,∀ k,x.ownBlock=some k->B<=k/\k<w.heap.size:=by
 intro x hx k hk
 simp only[aB.rows,List.mem_cons,List.mem_map] at hx
 rcases hx with rfl|rfl|rfl|rfl|rfl|rfl|rfl|rfl|⟨p,hp,rfl⟩
 ·exact h.aQ.lt k hk
 ·exact h.ah.lt k hk
 ·exact h.af.lt k hk
 ·exact h.ai.lt k hk
 ·exact h.au.lt k hk
 ·exact h.orders.lt k hk
 ·exact h.aG.lt k hk
 ·exact h.aJ.lt k hk
 exact (h.aT p hp).lt k hk
theorem bF.zu {w:World} {B:Nat} {V:aB} {l:aH} (h:bF w B V l) {b:Nat} (hb:b<B\/w.heap.size<=b):V.Az b:=fun x hx e=>by
 have:=h.PU x hx b e;omega
theorem bF.keep {w w':World} {B:Nat} {V:aB} {l:aH} {S:Nat->Prop} (h:bF w B V l) (hm:Mod S w w') (hS:∀ k,S k->V.Az k):bF w' B V l:=by
 have hr:∀ x∈V.rows,∀ k,x.ownBlock=some k->¬ S k:=fun x hx k hk hs=>hS k hs x hx hk
 have ha:∀ p∈V.ac,p.2∈V.rows:=fun p hp=>by
  simp only[aB.rows,List.mem_cons,List.mem_map]
  exact Or.inr (Or.inr (Or.inr (Or.inr (Or.inr (Or.inr (Or.inr (Or.inr ⟨p,hp,rfl⟩)))))))
 exact⟨h.aQ.mod hm (hr _ (by simp[aB.rows])),h.ah.mod hm (hr _ (by simp[aB.rows])),h.af.mod hm (hr _ (by simp[aB.rows])),h.same,h.ai.mod hm (hr _ (by simp[aB.rows])),fun p hp=>(h.aT p hp).mod hm (hr _ (ha p hp)),
  h.au.mod hm (hr _ (by simp[aB.rows])),h.orders.mod hm (hr _ (by simp[aB.rows])),h.aG.mod hm (hr _ (by simp[aB.rows])),h.aJ.mod hm (hr _ (by simp[aB.rows])),h.sep,h.names,h.nums⟩
end Go.Bw
namespace Go.Proofs.YtcepekniflaoaaaGreatDoor
open Go.RowKit Go.Bw
structure mO (cs:Array Value):Prop where
 size:cs.size=9
 one:cs.all (·.oneCell')=true
theorem Cf {V:aB} {L:aH} (h1:V.aQ.oneCell'=true) (h2:V.ah.oneCell'=true) (h3:V.af.oneCell'=true) (h4:V.ai.oneCell'=true) (h5:V.au.oneCell'=true) (h6:V.orders.oneCell'=true) (h7:V.aG.oneCell'=true) (h8:V.aJ.oneCell'=true):mO (V.cells L):=by
 refine⟨rfl,?_⟩;simp[aB.cells,h1,h2,h3,h4,h5,h6,h7,h8];rfl
theorem kY {α:Type} {w:World} {n:Nat} {f:α->List Value} {v:Value} {l:List α} (h:RowOf w n f v l):v.oneCell'=true:=by obtain⟨a,c,rfl⟩:=h.form;rfl
theorem iC {w:World} {V:aB} {L:aH} (h:bK w V L):mO (V.cells L) :=
 Cf (kY h.aQ) (kY h.ah) (kY h.af) (kY h.ai) (kY h.au) (kY h.orders) (kY h.aG) (kY h.aJ)
theorem bG:mO aZ:=⟨rfl,by kernel_rfl⟩
theorem bW {ops:Array Oper} {rest:List Oper} {o:Oper} {a:Act} {W:World} {Q:Exit->Act->World->Prop} {x:Operand} {b:Nat} {cs:Array Value} (hb:W.heap[b]?=some (.cells cs 31 (0,0))) (hc:mO cs)
 (hgd:o.guard=none) (ho:o.op=.load 31 x) (hx:a.eval x=.pointer (some ⟨b,0,none⟩)) (h:wpList Tryz.prog ops Q rest (a.put o.dst (.agg cs)) W):wpList Tryz.prog ops Q (o::rest) a W:=by
 obtain⟨d,hu,hd⟩:=iO;exact wpList_load_row hgd 31 x ho b hx 31 cs (0,0) d hb hu (by cases d <;> first|rfl|exact hd) (by rw[fO,hc.size]) h
theorem aW {ops:Array Oper} {rest:List Oper} {o:Oper} {a:Act} {W:World} {Q:Exit->Act->World->Prop} {x y:Operand} {b:Nat} {old cs:Array Value} (hb:W.heap[b]?=some (.cells old 31 (0,0))) (h0:mO old) (hc:mO cs)
 (hgd:o.guard=none) (ho:o.op=.store 31 x y) (hx:a.eval x=.pointer (some ⟨b,0,none⟩)) (hy:a.eval y=.agg cs) (h:wpList Tryz.prog ops Q rest (a.put o.dst undef) (W.setRow b cs)):wpList Tryz.prog ops Q (o::rest) a W :=
 wpList_store_row hgd 31 x y ho b cs hx hy 31 old hb (by rw[fO,hc.size]) (by rw[h0.size,hc.size]) hc.one h
theorem Nj {fn:Func} {p:Tmp} (h:fn.results=#[.cell p 31]) (tmps:Array Value) (W:World) (b:Nat) (cs:Array Value) (hp:tmps.getD p undef=.pointer (some ⟨b,0,none⟩)) (hb:W.heap[b]?=some (.cells cs 31 (0,0))) (hc:mO cs) :
 (results fn tmps).run Tryz.prog W=.ok (.agg cs) W:=by
 obtain⟨d,hu,hd⟩:=iO;exact rJ h tmps W b 31 cs (0,0) d hp hb hu (by cases d <;> first|rfl|exact hd) (by rw[fO,hc.size])
theorem eF {fn:Func} {p q:Tmp} (h:fn.results=#[.cell p 31,.tmp q]) (tmps:Array Value) (W:World) (b:Nat) (cs:Array Value) (hp:tmps.getD p undef=.pointer (some ⟨b,0,none⟩)) (hb:W.heap[b]?=some (.cells cs 31 (0,0))) (hc:mO cs) :
 (results fn tmps).run Tryz.prog W=.ok (.tuple #[.agg cs,tmps.getD q undef]) W:=by
 obtain⟨d,hu,hd⟩:=iO;exact jr h tmps W b 31 cs (0,0) d hp hb hu (by cases d <;> first|rfl|exact hd) (by rw[fO,hc.size])
theorem _root_.Go.Bw.At.setRow {w W:World} {bs:List (Nat×TypeId×Array Value)} {b:Nat} {T:TypeId} {old:Array Value} (h:At w W bs) (i:Nat) (hi:bs[i]?=some (b,T,old)) (cs:Array Value):At w (W.setRow b cs) (bs.set i (b,T,cs)) :=
 h.change i hi _ (bJ b cs) (setRow_heap _ _ _ _ _ _ (h.get i hi))
theorem iq {L:aH} (hg:L.Good):L.bulk<=1000000/\(∀ a∈L.ai,a.aT.length<=4)/\L.ai.length<=16:=by
 have h1:=hg.things;have h2:=hg.accounts.tree.hi;have h3:=hg.au.len;have h4:=hg.orders.len;have h5:=hg.aJ;have ha:L.ai.length<=16:=by simpa [aH.parents] using h2
 refine⟨?_,fun a ha=>?_,ha⟩
 ·unfold aH.bulk;have:=h1.c1;have:=h1.u1;have:=h1.i1;have:=h5.len;have:=h5.Ae;omega
 obtain⟨v,hv,e⟩:=List.mem_iff_getElem.1 ha;have:=(hg.accounts.ai v a (by rw[List.getElem?_eq_getElem hv,e])).1;have:=h1.c1;omega
theorem EW {L:aH} (hg:L.Good):L.Short:=by
 obtain⟨h1,h2,h3⟩:=iq hg;unfold aH.bulk at h1;exact⟨by omega,by omega,by omega,by omega,by omega,by omega,by omega,by omega,fun a ha=>by have:=h2 a ha;omega⟩
theorem cells4 {w:World} {V:aB} {L:aH} (h:bK w V L):∃ a c,(V.cells L)[4]?=some (.slice a L.ai.length c):=by
 obtain⟨a,c,e⟩:=h.ai.form;refine⟨a,c,?_⟩
 show some V.ai=_
 rw[e,h.same,List.length_map]
end Go.Proofs.YtcepekniflaoaaaGreatDoor
namespace Go.Proofs.YtcepekniflaoaaaGreatDoor
open Go.RowKit Go.Bw Go.Maps Go.Shelf
theorem _root_.Go.Bw.aV.below {α:Type} {w w':World} {B n:Nat} {e:TypeId} {f:α->List Value} {v:Value} {l:List α} (h:aV w B e n f v l) (hb:Below w.heap.size w w'):aV w' B e n f v l:=h.mod (Mod.of_below hb) (fun _ _ h=>h)
theorem Ij {α:Type} (t e:TypeId) (i0:TypeInfo) (z:Value) (n bytes:Nat) (ht:Tryz.prog.underlying t=some (.slice e)) (hi:Tryz.prog.info? e=some i0) (hz:i0.zero=some z) (hs:i0.size=n) (hy:i0.bytes=bytes) (hzs:z.cells.size=n) (h0:0<n) (hb0:0<bytes)
 (f:α->List Value) (w:World) (B:Nat) (v:Value) (l:List α) (ho:aV w B e n f v l) (hB:B<=w.heap.size) (xv:Value) (xs:List α) (hx:Reads w n xv xs.length (xs.flatMap f)) (h1:∀ x∈xs,∀ u∈f x,u.oneCell'=true) (hl:(l.length+xs.length)*bytes<=140737488355328) :
 ∃ v' w',(Builtin.append_ #[t,t] t #[v,xv]).run Tryz.prog w=.ok v' w'/\aV w' B e n f v' (l++xs)/\Mod (fun k=>v.ownBlock=some k) w w'/\∀ k,v'.ownBlock=some k->v.ownBlock=some k\/k=w.heap.size:=by
 have hm:l.length+xs.length<=maxLen:=by
  have:(l.length+xs.length)*1<=(l.length+xs.length)*bytes:=Nat.mul_le_mul_left _ hb0;unfold maxLen;omega
 obtain⟨v',w',hrun,ho3,hm3,hb3,_⟩:=kL (P:=Tryz.prog) t t e i0 z n bytes ht hi hz hs hy hzs h0 v _ _ (ho.base (Nat.zero_le B)) _ _ _ hx (fun u hu=>by
  obtain⟨x,hx,hu⟩:=List.mem_flatMap.1 hu;exact h1 x hx u hu) hm hl
 refine⟨v',w',hrun,?_,hm3,hb3⟩;unfold aV;rw[List.length_append,List.flatMap_append];refine ownsRow_base ho3 (fun k hk=>?_);rcases hb3 k hk with h|h
 ·exact (ho.lt k h).1
 omega
theorem wJ {α:Type} (t e:TypeId) (i0:TypeInfo) (z:Value) (n bytes:Nat) (ht:Tryz.prog.underlying t=some (.slice e)) (hi:Tryz.prog.info? e=some i0) (hz:i0.zero=some z) (hs:i0.size=n) (hy:i0.bytes=bytes) (hzs:z.cells.size=n) (h0:0<n) (hb0:0<bytes)
 (f:α->List Value) (hf:∀ x,(f x).length=n) (w:World) (B:Nat) (v:Value) (l:List α) (ho:aV w B e n f v l) (hB:B<=w.heap.size) (x:α) (cs:Array Value) (hcs:cs.toList=f x) (h1:∀ u∈f x,u.oneCell'=true) (hl:(l.length+1)*bytes<=140737488355328) :
 ∃ v' w',(Builtin.append_ #[t,t] t #[v,.slice (some ⟨w.heap.size,0,none⟩) 1 1]).run Tryz.prog (w.alloc (.cells cs e))=.ok v' w'/\aV w' B e n f v' (l++[x])/\Mod (fun k=>v.ownBlock=some k) w w'/\∀ k,v'.ownBlock=some k->v.ownBlock=some k\/w.heap.size<=k:=by
 have M0:=(Mod.refl (fun _=>False) w).alloc (.cells cs e);have hx:Reads (w.alloc (.cells cs e)) n (.slice (some ⟨w.heap.size,0,none⟩) 1 1) [x].length ([x].flatMap f) :=
  ⟨by simp[hf],Or.inr ⟨_,_,rfl,fun j u hj=>by
   rw[add_plain,Nat.zero_add,cell_of_heap (heap_alloc_new w _)];rw[show ([x].flatMap f)=f x from by simp,<-hcs] at hj
   simpa using hj⟩⟩
 obtain⟨v',w',h2,h3,h4,h5⟩:=Ij t e i0 z n bytes ht hi hz hs hy hzs h0 hb0 f (w.alloc (.cells cs e)) B v l (ho.mod M0 (fun _ _ h=>h)) (by simp;omega) _ [x] hx (fun y hy u hu=>by rw[List.mem_singleton.1 hy] at hu;exact h1 u hu) hl;refine⟨v',w',h2,h3,(M0.mono (fun _ _ h=>h.elim)).trans h4 (fun _ _ h=>h),fun k hk=>(h5 k hk).imp id (fun e=>by rw[e];simp)⟩
theorem Nz {p:Acc×Value} (h:p.2.oneCell'=true):∀ u∈Acc.cells p,u.oneCell'=true:=by
 intro u hu;simp[Acc.cells] at hu;rcases hu with rfl|rfl|rfl|rfl <;> first|rfl|exact h
theorem Pg (x:gu):∀ u∈gu.cells x,u.oneCell'=true:=by
 intro u hu;simp[gu.cells] at hu;rcases hu with rfl|rfl <;> rfl
theorem Lc (w:World) (v:Value) (l:List gu) (hR:RowOf w 2 gu.cells v l) (hl:l.length*16<=140737488355328) :
 ∃ v' w',(Builtin.append_ #[22, 22] 22 #[.slice (some ⟨w.heap.size,0,none⟩) 0 0,v]).run Tryz.prog (w.alloc (.cells #[] 86))=.ok v' w'/\aV w' w.heap.size 86 2 gu.cells v' l/\Below w.heap.size w w':=by
 obtain⟨i0,g1,g2,g3,g4⟩:=info_parts qg;exact fD 22 86 i0 _ 2 16 Tryz.underlying22 g1 g2 g3 g4 rfl (by decide) gu.cells oI w v l hR (fun x hx=>Pg x) hl (by unfold maxLen;omega)
theorem JM (x:dX):∀ u∈dX.cells x,u.oneCell'=true:=by
 intro u hu;simp[dX.cells] at hu;rcases hu with rfl|rfl|rfl|rfl <;> rfl
theorem Eu (w:World) (v:Value) (l:List dX) (hR:RowOf w 4 dX.cells v l) (hl:l.length*40<=140737488355328) :
 ∃ v' w',(Builtin.append_ #[23, 23] 23 #[.slice (some ⟨w.heap.size,0,none⟩) 0 0,v]).run Tryz.prog (w.alloc (.cells #[] 48))=.ok v' w'/\aV w' w.heap.size 48 4 dX.cells v' l/\Below w.heap.size w w':=by
 obtain⟨i0,g1,g2,g3,g4⟩:=info_parts nI;exact fD 23 48 i0 _ 4 40 Tryz.underlying23 g1 g2 g3 g4 rfl (by decide) dX.cells iJ w v l hR (fun x hx=>JM x) hl (by unfold maxLen;omega)
theorem zy (x:Ins):∀ u∈Ins.cells x,u.oneCell'=true:=by
 intro u hu;simp[Ins.cells] at hu;rcases hu with rfl|rfl|rfl|rfl|rfl|rfl|rfl <;> rfl
theorem Es (w:World) (v:Value) (l:List Ins) (hR:RowOf w 7 Ins.cells v l) (hl:l.length*56<=140737488355328) :
 ∃ v' w',(Builtin.append_ #[24, 24] 24 #[.slice (some ⟨w.heap.size,0,none⟩) 0 0,v]).run Tryz.prog (w.alloc (.cells #[] 66))=.ok v' w'/\aV w' w.heap.size 66 7 Ins.cells v' l/\Below w.heap.size w w':=by
 obtain⟨i0,g1,g2,g3,g4⟩:=info_parts kD;exact fD 24 66 i0 _ 7 56 Tryz.underlying24 g1 g2 g3 g4 rfl (by decide) Ins.cells dU w v l hR (fun x hx=>zy x) hl (by unfold maxLen;omega)
theorem Jb (w:World) (B:Nat) (v:Value) (l:List (Acc×Value)) (ho:aV w B 52 4 Acc.cells v l) (hB:B<=w.heap.size) (x:(Acc×Value)) (h1:x.2.oneCell'=true) (cs:Array Value) (hcs:cs.toList=Acc.cells x) (hl:(l.length+1)*48<=140737488355328) :
 ∃ v' w',(Builtin.append_ #[25, 25] 25 #[v,.slice (some ⟨w.heap.size,0,none⟩) 1 1]).run Tryz.prog (w.alloc (.cells cs 52))=.ok v' w'/\aV w' B 52 4 Acc.cells v' (l++[x])/\Mod (fun k=>v.ownBlock=some k) w w'/\∀ k,v'.ownBlock=some k->v.ownBlock=some k\/w.heap.size<=k:=by
 obtain⟨i0,g1,g2,g3,g4⟩:=info_parts pz;exact wJ 25 52 i0 _ 4 48 Tryz.underlying25 g1 g2 g3 g4 rfl (by decide) (by decide) Acc.cells eG w B v l ho hB x cs hcs (Nz h1) hl
theorem one_pos (x:Pos):∀ u∈Pos.cells x,u.oneCell'=true:=by
 intro u hu;simp[Pos.cells] at hu;rcases hu with rfl|rfl|rfl <;> rfl
theorem Le (w:World) (v:Value) (l:List Pos) (hR:RowOf w 3 Pos.cells v l) (hl:l.length*24<=140737488355328) :
 ∃ v' w',(Builtin.append_ #[26, 26] 26 #[.slice (some ⟨w.heap.size,0,none⟩) 0 0,v]).run Tryz.prog (w.alloc (.cells #[] 50))=.ok v' w'/\aV w' w.heap.size 50 3 Pos.cells v' l/\Below w.heap.size w w':=by
 obtain⟨i0,g1,g2,g3,g4⟩:=info_parts lX;exact fD 26 50 i0 _ 3 24 Tryz.underlying26 g1 g2 g3 g4 rfl (by decide) Pos.cells fH w v l hR (fun x hx=>one_pos x) hl (by unfold maxLen;omega)
theorem zA (x:Ord):∀ u∈Ord.cells x,u.oneCell'=true:=by
 intro u hu;simp[Ord.cells] at hu;rcases hu with rfl|rfl|rfl|rfl|rfl <;> rfl
theorem Et (w:World) (v:Value) (l:List Ord) (hR:RowOf w 5 Ord.cells v l) (hl:l.length*40<=140737488355328) :
 ∃ v' w',(Builtin.append_ #[27, 27] 27 #[.slice (some ⟨w.heap.size,0,none⟩) 0 0,v]).run Tryz.prog (w.alloc (.cells #[] 74))=.ok v' w'/\aV w' w.heap.size 74 5 Ord.cells v' l/\Below w.heap.size w w':=by
 obtain⟨i0,g1,g2,g3,g4⟩:=info_parts kE;exact fD 27 74 i0 _ 5 40 Tryz.underlying27 g1 g2 g3 g4 rfl (by decide) Ord.cells lG w v l hR (fun x hx=>zA x) hl (by unfold maxLen;omega)
theorem Ph (x:Int):∀ u∈dw x,u.oneCell'=true:=by
 intro u hu;simp[dw] at hu;subst hu;rfl
theorem AU (w:World) (v:Value) (l:List Int) (hR:RowOf w 1 dw v l) (hl:l.length*8<=140737488355328) :
 ∃ v' w',(Builtin.append_ #[28, 28] 28 #[.slice (some ⟨w.heap.size,0,none⟩) 0 0,v]).run Tryz.prog (w.alloc (.cells #[] 3))=.ok v' w'/\aV w' w.heap.size 3 1 dw v' l/\Below w.heap.size w w':=by
 obtain⟨i0,g1,g2,g3,g4⟩:=info_parts qi;exact fD 28 3 i0 _ 1 8 Tryz.underlying28 g1 g2 g3 g4 rfl (by decide) dw iM w v l hR (fun x hx=>Ph x) hl (by unfold maxLen;omega)
theorem IB (x:Pos):∀ u∈Pos.cells x,u.oneCell'=true:=by
 intro u hu;simp[Pos.cells] at hu;rcases hu with rfl|rfl|rfl <;> rfl
theorem Ld (w:World) (v:Value) (l:List Pos) (hR:RowOf w 3 Pos.cells v l) (hl:l.length*24<=140737488355328) :
 ∃ v' w',(Builtin.append_ #[29, 29] 29 #[.slice (some ⟨w.heap.size,0,none⟩) 0 0,v]).run Tryz.prog (w.alloc (.cells #[] 72))=.ok v' w'/\aV w' w.heap.size 72 3 Pos.cells v' l/\Below w.heap.size w w':=by
 obtain⟨i0,g1,g2,g3,g4⟩:=info_parts lW;exact fD 29 72 i0 _ 3 24 Tryz.underlying29 g1 g2 g3 g4 rfl (by decide) Pos.cells fH w v l hR (fun x hx=>IB x) hl (by unfold maxLen;omega)
end Go.Proofs.YtcepekniflaoaaaGreatDoor
namespace Go.Proofs.YtcepekniflaoaaaGreatDoor
open Go.RowKit Go.Bw
end Go.Proofs.YtcepekniflaoaaaGreatDoor
namespace Go.Proofs.YtcepekniflaoaaaGreatDoor
open Go.RowKit Go.Bw Go.Maps Go.Shelf Go.Bw.Fall
theorem Nc:aZ.all (·.oneCell')=true:=by kernel_rfl
theorem mY:Tryz.f62.results=#[.cell 2 31,.tmp 3]:=by kernel_rfl
theorem Js (w:World) (V:aB) (L:aH) (h:bK w V L) (hL:L.ai.length<=1024) (hng:¬ L.Good) :
 Calls Tryz.prog 62 #[V.val L] w fun e w'=>e=.returned (.tuple #[.agg aZ,.int .i64 43])/\Below w.heap.size w w':=by
 classical
 have hG:decide L.Good=false:=decide_eq_false hng;have GD:=zq (show ∀ W,Below w.heap.size w W->Calls Tryz.prog 60 #[V.val L] W fun e w'=>e=.returned (.bool false)/\Below W.heap.size W w' from fun W hb=>qU (h.below hb) hL hG);obtain⟨a1,c1,a2,c2,a3,c3,a4,c4,a5,c5,a6,c6,a7,c7,a8,c8,e1,e2,e3,e4,e5,e6,e7,e8⟩:=bK.opened h;unfold aB.val aB.cells at GD ⊢;rw[e1,e2,e3,e4,e5,e6,e7,e8] at GD ⊢;obtain⟨n1,hn1⟩:=Zn L.aQ.length;obtain⟨n2,hn2⟩:=Zn L.ah.length;obtain⟨n3,hn3⟩:=Zn L.af.length;obtain⟨n4,hn4⟩:=Zn L.ai.length;obtain⟨n5,hn5⟩:=Zn L.au.length;obtain⟨n6,hn6⟩:=Zn L.orders.length;obtain⟨n7,hn7⟩:=Zn L.aG.length;obtain⟨n8,hn8⟩:=Zn L.aJ.length;rw[<-hn1,<-hn2,<-hn3,<-hn4,<-hn5,<-hn6,<-hn7,<-hn8] at GD ⊢;obtain⟨DD,hu,hd⟩:=iO
 go_enter Tryz.func62,Tryz.ntmps62
 clear hn1 hn2 hn3 hn4 hn5 hn6 hn7 hn8 e1 e2 e3 e4 e5 e6 e7 e8 h
 go_wp2_with (fail)
 obtain⟨W0,hW0⟩:=Zn ((w.alloc (.cells #[.int .i64 L.day,.slice a1 n1 c1,.slice a2 n2 c2,.slice a3 n3 c3,.slice a4 n4 c4,.slice a5 n5 c5,.slice a6 n6 c6,.slice a7 n7 c7,.slice a8 n8 c8] 31)).alloc (.cells aZ 31));have X0:=zq (show Below w.heap.size w W0/\W0.heap[w.heap.size+1]?=some (.cells aZ 31 (0,0)) from by
  rw[hW0];exact⟨(Zb).alloc (by simp) _,by simpa using heap_alloc_new (w.alloc (.cells #[.int .i64 L.day,.slice a1 n1 c1,.slice a2 n2 c2,.slice a3 n3 c3,.slice a4 n4 c4,.slice a5 n5 c5,.slice a6 n6 c6,.slice a7 n7 c7,.slice a8 n8 c8] 31)) _⟩)
 change Calls _ _ _ ((w.alloc (.cells #[.int .i64 L.day,.slice a1 n1 c1,.slice a2 n2 c2,.slice a3 n3 c3,.slice a4 n4 c4,.slice a5 n5 c5,.slice a6 n6 c6,.slice a7 n7 c7,.slice a8 n8 c8] 31)).alloc (.cells aZ 31)) _
 rw[<-hW0];clear hW0;refine (GD.o W0 X0.o.1).mono ?_;rintro e u ⟨rfl,hb⟩;have BU:=zq (show Below w.heap.size w u from X0.o.1.trans (hb.mono X0.o.1.size));have HB2:=zq (show u.heap[w.heap.size+1]?=some (.cells aZ 31 (0,0)) from (Mod.of_below hb).heap X0.o.2 (fun h=>h));clear hb;go_simp
 go_wp2_with (refine wpList_store_row rfl 31 (.tmp 2) (.tmp 11) rfl (w.heap.size+1) aZ rfl rfl 31 _ HB2.o fO rfl Nc ?_)
 have hg:(u.setRow (w.heap.size+1) aZ).heap[w.heap.size+1]?=some (.cells aZ 31 (0,0)):=setRow_heap _ _ _ _ _ _ HB2.o;refine bodyPost_ret (v:=.tuple #[.agg aZ,.int .i64 43]) ?_ ?_ ?_
 ·exact jr (q:=3) mY _ _ (w.heap.size+1) 31 aZ (0,0) DD rfl hg hu (by cases DD <;> first|rfl|exact hd) fO
 ·rfl
 exact⟨rfl,((Mod.of_below BU.o).trans (bJ (w:=u) (w.heap.size+1) aZ) (fun k hk e=>by omega)).aU⟩
theorem EJ (w:World) (V:aB) (L:aH) (h:bK w V L) (hL:L.ai.length<=1024) (hg:L.Good) (hb:L.bulk<=1000000) (hca:∀ a∈L.ai,a.aT.length<=1000000000) (hGr:rF w) :
 Calls Tryz.prog 62 #[V.val L] w (pW w L):=by
 classical
 have hG:decide L.Good=true:=decide_eq_true hg;have GD:=zq (show ∀ W,Below w.heap.size w W->Calls Tryz.prog 60 #[V.val L] W fun e w'=>e=.returned (.bool true)/\Below W.heap.size W w' from fun W hb=>qU (h.below hb) hL hG);have CP:=zq (show ∀ W,Below w.heap.size w W->Calls Tryz.prog 61 #[V.val L] W (wG W L) from fun W hW=>wS W V L (h.below hW) hb hca);have EX:=zq (fun W (hW:Below w.heap.size w W) (a:Int)=>Cm W V L (h.below hW) hL (hGr.below hW) a);obtain⟨a1,c1,a2,c2,a3,c3,a4,c4,a5,c5,a6,c6,a7,c7,a8,c8,e1,e2,e3,e4,e5,e6,e7,e8⟩:=bK.opened h;unfold aB.val aB.cells at GD CP EX ⊢;rw[e1,e2,e3,e4,e5,e6,e7,e8] at GD CP EX ⊢;obtain⟨n1,hn1⟩:=Zn L.aQ.length;obtain⟨n2,hn2⟩:=Zn L.ah.length;obtain⟨n3,hn3⟩:=Zn L.af.length;obtain⟨n4,hn4⟩:=Zn L.ai.length;obtain⟨n5,hn5⟩:=Zn L.au.length;obtain⟨n6,hn6⟩:=Zn L.orders.length;obtain⟨n7,hn7⟩:=Zn L.aG.length;obtain⟨n8,hn8⟩:=Zn L.aJ.length;have LN1:=zq hn1;have LN2:=zq hn2;have LN3:=zq hn3;have LN4:=zq hn4;have LN5:=zq hn5;have LN6:=zq hn6;have LN7:=zq hn7;have LN8:=zq hn8;rw[<-hn1,<-hn2,<-hn3,<-hn4,<-hn5,<-hn6,<-hn7,<-hn8] at GD CP EX ⊢;obtain⟨DD,hu,hd⟩:=iO;obtain⟨ex,hex⟩:∃ ex:Int->Int×Int,ex=fun a=>pR L a (retA (dN L a.toNat)):=⟨_,rfl⟩
 have EE:=zq (show ∀ W,Below w.heap.size w W->∀ a,Calls Tryz.prog 109 #[.agg #[.int .i64 L.day,.slice a1 n1 c1,.slice a2 n2 c2,.slice a3 n3 c3,.slice a4 n4 c4,.slice a5 n5 c5,.slice a6 n6 c6,.slice a7 n7 c7,.slice a8 n8 c8],.int .i64 a] W fun e w'=>e=.returned (.tuple #[.int .i64 (ex a).1,.int .i64 (ex a).2])/\Below W.heap.size W w' from by subst hex;exact EX.o);clear EX;have HEX:=zq (show ∀ a:Int,ex a=pR L a (retA (dN L a.toNat)) from fun a=>by rw[hex]);have HGG:=zq hg;have m4:n4<=1024:=by rw[hn4];exact hL
 clear hex hL
 go_enter Tryz.func62,Tryz.ntmps62
 clear hn1 hn2 hn3 hn4 hn5 hn6 hn7 hn8 e1 e2 e3 e4 e5 e6 e7 e8 h hg hG hb hca hGr
 go_wp2_with (fail)
 obtain⟨W0,hW0⟩:=Zn ((w.alloc (.cells #[.int .i64 L.day,.slice a1 n1 c1,.slice a2 n2 c2,.slice a3 n3 c3,.slice a4 n4 c4,.slice a5 n5 c5,.slice a6 n6 c6,.slice a7 n7 c7,.slice a8 n8 c8] 31)).alloc (.cells aZ 31));have X0:=zq (show Below w.heap.size w W0/\W0.heap[w.heap.size]?=some (.cells #[.int .i64 L.day,.slice a1 n1 c1,.slice a2 n2 c2,.slice a3 n3 c3,.slice a4 n4 c4,.slice a5 n5 c5,.slice a6 n6 c6,.slice a7 n7 c7,.slice a8 n8 c8] 31 (0,0))/\W0.heap[w.heap.size+1]?=some (.cells aZ 31 (0,0))/\W0.heap.size=w.heap.size+2 from by
  rw[hW0];exact⟨(Zb).alloc (by simp) _,((Mod.refl (fun _=>False) _).alloc _).heap (heap_alloc_new w _) (fun h=>h),by simpa using heap_alloc_new (w.alloc (.cells #[.int .i64 L.day,.slice a1 n1 c1,.slice a2 n2 c2,.slice a3 n3 c3,.slice a4 n4 c4,.slice a5 n5 c5,.slice a6 n6 c6,.slice a7 n7 c7,.slice a8 n8 c8] 31)) _,by simp⟩)
 change Calls _ _ _ ((w.alloc (.cells #[.int .i64 L.day,.slice a1 n1 c1,.slice a2 n2 c2,.slice a3 n3 c3,.slice a4 n4 c4,.slice a5 n5 c5,.slice a6 n6 c6,.slice a7 n7 c7,.slice a8 n8 c8] 31)).alloc (.cells aZ 31)) _
 rw[<-hW0];clear hW0;refine (GD.o W0 X0.o.1).mono ?_;rintro e u ⟨rfl,hb⟩;have BU:=zq (show Below w.heap.size w u from X0.o.1.trans (hb.mono X0.o.1.size));have HB1:=zq (show u.heap[w.heap.size]?=some (.cells #[.int .i64 L.day,.slice a1 n1 c1,.slice a2 n2 c2,.slice a3 n3 c3,.slice a4 n4 c4,.slice a5 n5 c5,.slice a6 n6 c6,.slice a7 n7 c7,.slice a8 n8 c8] 31 (0,0)) from (Mod.of_below hb).heap X0.o.2.1 (fun h=>h));have HB2:=zq (show u.heap[w.heap.size+1]?=some (.cells aZ 31 (0,0)) from (Mod.of_below hb).heap X0.o.2.2.1 (fun h=>h));have SZ:=zq (show w.heap.size+2<=u.heap.size from by have:=hb.size;have:=X0.o.2.2.2;omega);clear hb X0;go_simp
 go_wp2_with (refine wpList_load_row rfl 31 (.tmp 1) rfl w.heap.size rfl 31 _ (0,0) DD HB1.o hu (by cases DD <;> first|rfl|exact hd) fO ?_)
 refine (CP.o u BU.o).mono ?_;rintro e u2 ⟨V2,rfl,own,hb2⟩;obtain⟨x1,k1,x2,k2,x3,k3,x4,k4,x5,k5,x6,k6,x7,k7,x8,k8,f1,f2,f3,f4,f5,f6,f7,f8⟩:=bK.opened own.led;have B2:=zq (show Below w.heap.size w u2 from BU.o.trans (hb2.mono BU.o.size));have HB1:=zq (show u2.heap[w.heap.size]?=some (.cells #[.int .i64 L.day,.slice a1 n1 c1,.slice a2 n2 c2,.slice a3 n3 c3,.slice a4 n4 c4,.slice a5 n5 c5,.slice a6 n6 c6,.slice a7 n7 c7,.slice a8 n8 c8] 31 (0,0)) from (Mod.of_below hb2).heap HB1.o (fun h=>h));have HB2:=zq (show u2.heap[w.heap.size+1]?=some (.cells aZ 31 (0,0)) from (Mod.of_below hb2).heap HB2.o (fun h=>h));have OW:=zq (own.base SZ.o);have S2:=zq (show w.heap.size+2<=u2.heap.size from Nat.le_trans SZ.o hb2.size);clear own hb2;unfold aB.val aB.cells;rw[f1,f2,f3,f4,f5,f6,f7,f8,<-LN1.o,<-LN2.o,<-LN3.o,<-LN4.o,<-LN5.o,<-LN6.o,<-LN7.o,<-LN8.o];go_simp
 go_upto_region 4 with (refine wpList_store_row rfl 31 (.tmp 4) (.tmp 13) rfl u2.heap.size (qf L (.slice x1 n1 k1) (.slice x2 n2 k2) (.slice x3 n3 k3) (.slice x4 n4 k4) (.slice x5 n5 k5) (.slice x6 n6 k6) (.slice x7 n7 k7) (.slice x8 n8 k8)) rfl rfl 31 _ (heap_alloc_last _ _) fO rfl (AZ _ _ _ _ _ _ _ _ _ rfl rfl rfl rfl rfl rfl rfl rfl) ?_;rw[World.setRow_alloc_new])
 obtain⟨U,hU⟩:=Zn (u2.alloc (.cells (qf L (.slice x1 n1 k1) (.slice x2 n2 k2) (.slice x3 n3 k3) (.slice x4 n4 k4) (.slice x5 n5 k5) (.slice x6 n6 k6) (.slice x7 n7 k7) (.slice x8 n8 k8)) 31));have FA:=zq (show nG w (w.heap.size+2) u2.heap.size L ex V2 0 U from by
  rw[hU];exact⟨B2.o.alloc B2.o.size _,⟨V2.ac,by rw[sU];exact OW.o.below (Zb)⟩,⟨by rw[f1,f2,f3,f4,f5,f6,f7,f8,<-LN1.o,<-LN2.o,<-LN3.o,<-LN4.o,<-LN5.o,<-LN6.o,<-LN7.o,<-LN8.o];exact heap_alloc_new u2 _⟩,fun i h1 h2=>by omega⟩)
 have HB1:=zq (show U.heap[w.heap.size]?=some (.cells #[.int .i64 L.day,.slice a1 n1 c1,.slice a2 n2 c2,.slice a3 n3 c3,.slice a4 n4 c4,.slice a5 n5 c5,.slice a6 n6 c6,.slice a7 n7 c7,.slice a8 n8 c8] 31 (0,0)) from by rw[hU];exact ((Mod.refl (fun _=>False) _).alloc _).heap HB1.o (fun h=>h));have HB2:=zq (show U.heap[w.heap.size+1]?=some (.cells aZ 31 (0,0)) from by rw[hU];exact ((Mod.refl (fun _=>False) _).alloc _).heap HB2.o (fun h=>h));rw[<-hU];have F4:=zq (f4.trans (by rw[<-LN4.o]));have GL:=zq (fun g (hg:V2.ai.ownBlock=some g)=>OW.o.ai.lt g hg);have LC:=zq (show mO #[.int .i64 L.day,.slice a1 n1 c1,.slice a2 n2 c2,.slice a3 n3 c3,.slice a4 n4 c4,.slice a5 n5 c5,.slice a6 n6 c6,.slice a7 n7 c7,.slice a8 n8 c8] from ⟨rfl,by simp[Value.oneCell']⟩);obtain⟨b4,hb4⟩:=Zn u2.heap.size;rw[<-hb4] at FA GL ⊢;have B4:=zq (show w.heap.size+2<=b4 from by rw[hb4];exact S2.o);clear f1 f2 f3 f4 f5 f6 f7 f8 hU B2 OW S2 CP GD BU SZ hb4;have y4:U.cell? ⟨b4,4,none⟩=some (.slice x4 n4 k4):=(cell_of_heap FA.o.box.at_ 4).trans (by rw[F4.o];rfl)
 go_wp2_with fail
 go_loopw [17] (fun i wr=>∃ k:Nat,k<=n4/\i=.int .i64 k/\∃ W,W=wr/\Hid (nG w (w.heap.size+2) b4 L ex V2 k W/\W.heap[w.heap.size]?=some (.cells #[.int .i64 L.day,.slice a1 n1 c1,.slice a2 n2 c2,.slice a3 n3 c3,.slice a4 n4 c4,.slice a5 n5 c5,.slice a6 n6 c6,.slice a7 n7 c7,.slice a8 n8 c8] 31 (0,0))/\W.heap[w.heap.size+1]?=some (.cells aZ 31 (0,0)))) (fun i _=>n4 - (intOf i).toNat)
 case atStart=>exact⟨0,Nat.zero_le _,rfl,_,rfl,zq ⟨FA.o,HB1.o,HB2.o⟩⟩
 clear FA y4 HB1 HB2;obtain⟨k,hk,rfl,W,rfl,FA⟩:=hrel;by_cases hlt:k<n4
 ·have hlt':(k:Int)<(n4:Int):=by omega
  have LT:=zq hlt;by_cases h2:k<=1
  ·have h2':(k:Int)<=1:=by omega
   have FQ:=zq (show nG w (w.heap.size+2) b4 L ex V2 (k+1) W/\W.heap[w.heap.size]?=some (.cells #[.int .i64 L.day,.slice a1 n1 c1,.slice a2 n2 c2,.slice a3 n3 c3,.slice a4 n4 c4,.slice a5 n5 c5,.slice a6 n6 c6,.slice a7 n7 c7,.slice a8 n8 c8] 31 (0,0))/\W.heap[w.heap.size+1]?=some (.cells aZ 31 (0,0)) from ⟨FA.o.1.low (by omega),FA.o.2⟩);clear h2
   go_wp2_with fail
   go_roundw
   case rel=>exact⟨k+1,by have:=LT.o;omega,by go_num,_,rfl,FQ⟩
   case measure=>have:=LT.o;simp[intOf];omega
  have h2':¬ (k:Int)<=1:=by omega
  have H2:=zq (show 2<=k from by omega);clear h2;have HL:=zq FA.o.2.1
  go_wp2_with (refine bW HL.o LC.o rfl rfl rfl ?_)
  refine (EE.o W FA.o.1.below k).mono ?_;rintro e w3 ⟨rfl,hb3⟩;have FB:=zq (show nG w (w.heap.size+2) b4 L ex V2 k w3/\w3.heap[w.heap.size]?=some (.cells #[.int .i64 L.day,.slice a1 n1 c1,.slice a2 n2 c2,.slice a3 n3 c3,.slice a4 n4 c4,.slice a5 n5 c5,.slice a6 n6 c6,.slice a7 n7 c7,.slice a8 n8 c8] 31 (0,0))/\w3.heap[w.heap.size+1]?=some (.cells aZ 31 (0,0)) from ⟨FA.o.1.go hb3,(Mod.of_below hb3).heap FA.o.2.1 (fun h=>h),(Mod.of_below hb3).heap FA.o.2.2 (fun h=>h)⟩);obtain⟨q,hq⟩:=Zn (ex k);obtain⟨xx,er⟩:=q;rw[<-hq];have EQ:=zq hq;clear hq hb3 FA HL;by_cases he:er=0
  ·subst he;obtain⟨a0,ha0⟩:∃ a,L.ai[k]?=some a:=⟨_,Zg (by rw[<-LN4.o];exact hlt)⟩;obtain⟨ac,o⟩:=FB.o.1.own;have hl:ac.length=n4:=by have h1:gy L ex k=ac.map (·.1):=o.same;have h1:=congrArg List.length h1;rw[kR] at h1;simp at h1;rw[LN4.o];exact h1.symm
   obtain⟨p,hp⟩:∃ p,ac[k]?=some p:=⟨_,Zg (by rw[hl];exact hlt)⟩;obtain⟨g,c,hv,_,_,_,hfr⟩:=o.ai.block hp;obtain rfl:x4=some ⟨g,0,none⟩:=by have hv':V2.ai=.slice (some ⟨g,0,none⟩) ac.length c:=hv;rw[F4.o] at hv';injection hv'
   have hR:RowOf w3 4 Acc.cells V2.ai ac:=o.ai.row eG (by decide);rw[F4.o] at hR;obtain⟨b',o',e',_,hc⟩:=hR.at_ hp;have cc:w3.cell? ⟨g,k*4+2,none⟩=some (.bool p.1.flag):=by
    have h1:=hc 2 (.bool p.1.flag) rfl
    cases e'
    rw[Nat.zero_add] at h1;exact h1
   have zz:=hfr (k*4+2);have FQ:=zq (show nG w (w.heap.size+2) b4 L ex V2 (k+1) (w3.setCell ⟨g,k*4+2,none⟩ (.bool (decide (xx<0))))/\(w3.setCell ⟨g,k*4+2,none⟩ (.bool (decide (xx<0)))).heap[w.heap.size]?=some (.cells #[.int .i64 L.day,.slice a1 n1 c1,.slice a2 n2 c2,.slice a3 n3 c3,.slice a4 n4 c4,.slice a5 n5 c5,.slice a6 n6 c6,.slice a7 n7 c7,.slice a8 n8 c8] 31 (0,0))/\(w3.setCell ⟨g,k*4+2,none⟩ (.bool (decide (xx<0)))).heap[w.heap.size+1]?=some (.cells aZ 31 (0,0)) from by
    have hgl:=GL.o g (by rw[F4.o];rfl);have h1:=FB.o.1.put (g:=g) (c:=k4) H2.o ha0 (by rw[<-EQ.o]) (by rw[<-LN4.o];exact F4.o) hgl.1 (by omega) (Or.inr (by omega));rw[<-EQ.o] at h1;have M:=(Mod.refl (fun k=>k=g) w3).setCell (p:=⟨g,k*4+2,none⟩) (.bool (decide (xx<0))) (fun _=>rfl);exact⟨h1,M.heap FB.o.2.1 (by omega),M.heap FB.o.2.2 (by omega)⟩)
   have yb:w3.cell? ⟨b4,4,none⟩=some (.slice (some ⟨g,0,none⟩) n4 k4):=(cell_of_heap FB.o.1.box.at_ 4).trans (by rw[F4.o];rfl);clear hv hfr hc hR e' hp hl o ha0
   go_wp2_with fail
   go_roundw
   case rel=>exact⟨k+1,by have:=LT.o;omega,by go_num,_,rfl,FQ⟩
   case measure=>have:=LT.o;simp[intOf];omega
  have FN:=zq (wZ HGG.o HEX.o H2.o (by rw[<-LN4.o];exact LT.o) (by rw[<-EQ.o];exact he));obtain rfl:er=4:=by have:=FN.o.2;rw[<-EQ.o] at this;exact this
  have HB:=zq FB.o.2.2;clear he
  go_wp2_with (refine aW HB.o bG bG rfl rfl rfl rfl ?_)
  refine bodyPost_ret (v:=.tuple #[.agg aZ,.int .i64 4]) ?_ ?_ ?_
  ·exact eF (q:=3) mY _ _ (w.heap.size+1) aZ rfl (setRow_heap _ _ _ _ _ _ HB.o) bG
  ·rfl
  exact⟨Or.inr (Or.inl ⟨HGG.o,FN.o.1,rfl⟩),((Mod.of_below FB.o.1.below).trans (bJ (w:=w3) (w.heap.size+1) aZ) (fun k hk e=>by omega)).aU⟩
 have hlt':¬ (k:Int)<(n4:Int):=by omega
 obtain rfl:k=n4:=by omega
 have HB4:=zq FA.o.1.box.at_;have HB:=zq FA.o.2.2;have LC2:=zq (show mO (qf L V2.aQ V2.ah V2.af V2.ai V2.au V2.orders V2.aG V2.aJ) from by obtain⟨ac,o⟩:=FA.o.1.own;have h:=iC o.led;exact h)
 go_wp2_with (first|refine bW HB4.o LC2.o rfl rfl rfl ?_|refine aW HB.o bG LC2.o rfl rfl rfl rfl ?_)
 try simp only[Exit.inBlock,Exit.then]
 refine bodyPost_ret (v:=.tuple #[.agg (qf L V2.aQ V2.ah V2.af V2.ai V2.au V2.orders V2.aG V2.aJ),.int .i64 0]) ?_ ?_ ?_
 ·exact eF (q:=3) mY _ _ (w.heap.size+1) _ rfl (setRow_heap _ _ _ _ _ _ HB.o) LC2.o
 ·rfl
 obtain⟨ac,o⟩:=FA.o.1.own;have M:=bJ (w:=W) (w.heap.size+1) (qf L V2.aQ V2.ah V2.af V2.ai V2.au V2.orders V2.aG V2.aJ);refine⟨Or.inr (Or.inr ⟨HGG.o,_,{ V2 with ac:=ac },xg HGG.o HEX.o (fun i h1 h2=>FA.o.1.good i h1 (by rw[LN4.o];exact h2)),rfl,?_⟩),((Mod.of_below FA.o.1.below).trans M (fun k hk e=>by omega)).aU⟩;rw[<-LN4.o];exact (o.mod M (fun k hk _ e=>by omega)).base (by omega)
end Go.Proofs.YtcepekniflaoaaaGreatDoor

/- Joined: Clone, CpAt, Copy, FlAt, FlP, AtP, GoodB, AppO, LedG, Flags. -/
import Derived.Test.YtnkpdfjnjmmleaaGreatDoorGe
import Derived.Lib.SliceRun
import Derived.Test.YtnkpdfjnjmmleaaGreatDoorGh
import Derived.Test.YtnkpdfjnjmmleaaGreatDoorGa
import Derived.Test.YtnkpdfjnjmmleaaGreatDoorGg
set_option linter.unusedVariables false
set_option linter.unusedSimpArgs false
set_option maxRecDepth 100000
set_option maxHeartbeats 16000000
namespace Go.Proofs.YtnkpdfjnjmmleaaGreatDoor
open Go.RowKit Go.Bw Go.Maps Go.Shelf
def CloneOut {α:Type} (w:World) (e:TypeId) (n:Nat) (f:α -> List Value) (l:List α) (x:Ending) (w':World):Prop:=∃ v,x=.returned v /\ OwnOf w' w.heap.size e n f v l /\ Below w.heap.size w w'
theorem clone_run {α:Type} (t e:TypeId) (i0:TypeInfo) (z:Value) (n bytes:Nat) (ht:Tryz.prog.underlying t=some (.slice e)) (hi:Tryz.prog.info? e=some i0) (hz:i0.zero=some z) (hs:i0.size=n) (hy:i0.bytes=bytes) (hzs:z.cells.size=n) (h0:0<n)
 (f:α -> List Value) (hf:∀ x,(f x).length=n) (w:World) (v:Value) (l:List α) (hR:RowOf w n f v l) (h1:∀ x∈l,∀ u∈f x,u.oneCell'=true) (hl:l.length*bytes <= 140737488355328) (hm:l.length <= maxLen) :
 ∃ v' w',(Builtin.append_ #[t,t] t #[.slice (some ⟨w.heap.size,0,none⟩) 0 0,v]).run Tryz.prog (w.alloc (.cells #[] e))=.ok v' w' /\ OwnOf w' w.heap.size e n f v' l /\ Below w.heap.size w w':=by
 have M0:=(Mod.refl (fun _=>False) w).alloc (.cells #[] e)
 have ho:(w.alloc (.cells #[] e)).ownsRow 0 e n (.slice (some ⟨w.heap.size,0,none⟩) 0 0) 0 [] :=
  ⟨by simp,Or.inr ⟨w.heap.size,0,#[],rfl,Nat.zero_le _,heap_alloc_new w _,Nat.le_refl _,Nat.zero_le _,by simp,by simp⟩⟩
 have hx:Reads (w.alloc (.cells #[] e)) n v l.length (l.flatMap f):=Reads.kept (hR.reads hf) M0 (fun _ _ h=>h)
 obtain⟨v',w',hrun,ho3,hm3,hb3,_⟩:=run_append_to (P:=Tryz.prog) t t e i0 z n bytes ht hi hz hs hy hzs h0 _ _ _ ho _ _ _ hx (fun u hu=>by
  obtain⟨x,hx,hu⟩:=List.mem_flatMap.1 hu
  exact h1 x hx u hu) (by omega) (by rw[Nat.zero_add];exact hl)
 refine⟨v',w',hrun,?_,((M0.mono (T:=fun k=>w.heap.size <= k) (fun _ _ h=>h.elim)).trans hm3 (fun k _ h=>by simp[Value.ownBlock] at h;omega) |>.mono (T:=fun _=>False) (fun k hk h=>by omega)).toBelow⟩
 unfold OwnOf
 rw[Nat.zero_add,List.nil_append] at ho3
 refine ownsRow_base ho3 (fun k hk=>?_)
 rcases hb3 k hk with h|h
 ·simp[Value.ownBlock] at h;omega
 ·rw[h];simp
theorem clone_cur_info:(Tryz.prog.info? 61).map (fun i=>(i.zero,i.size,i.bytes))=some (some (.agg #[.int .i64 0,.int .i64 0]),2,16):=by kernel_rfl
theorem clone_cur (w:World) (v:Value) (l:List Cur) (hR:RowOf w 2 Cur.cells v l) (h1:∀ x∈l,∀ u∈Cur.cells x,u.oneCell'=true) (hl:l.length <= 1000000000) :
 Calls Tryz.prog 123 #[v] w (CloneOut w 61 2 Cur.cells l):=by
 obtain⟨a,c,rfl⟩:=hR.form
 have hc:=hR.caps
 have eqn:=fun (W:World) (a:Option Addr) (n c:Nat)=>Lib.run_eql_slice_nil (P:=Tryz.prog) W 22 61 a n c 0 0 Tryz.underlying22
 cases a with
 | none =>
   have hz:l.length=0:=by have:=hc.2.2.2 rfl;omega
   have hnil:l=[]:=List.eq_nil_of_length_eq_zero hz
   subst hnil
   clear hR hc hl h1 hz
   go_enter Tryz.func123,Tryz.ntmps123
   go_wp2_with fail
   go_ret
   exact⟨_,rfl,OwnOf.nil _ _ _ _ _,Below.refl _ _⟩
 | some ad =>
   obtain⟨i0,g1,g2,g3,g4⟩:=info_parts clone_cur_info
   obtain⟨v',w',hrun,ho,hb⟩:=clone_run 22 61 i0 _ 2 16 Tryz.underlying22 g1 g2 g3 g4 rfl (by decide) Cur.cells curcells_len w _ l hR h1 (by omega) (by unfold maxLen;omega)
   obtain⟨n,hn⟩:∃ n,n=l.length:=⟨_,rfl⟩
   rw[<- hn] at hrun ⊢
   have HR:=zq hrun
   have HO:=zq (And.intro ho hb)
   clear hR hc hl h1 hrun ho hb hn g1 g2 g3 g4
   go_enter Tryz.func123,Tryz.ntmps123
   go_wp2_with (at_builtin;refine wpList_append_run rfl (.tmp 5) (.tmp 6) 22 rfl rfl rfl HR.o ?_)
   go_ret
   exact⟨_,rfl,HO.o.1,HO.o.2⟩
theorem clone_under_info:(Tryz.prog.info? 33).map (fun i=>(i.zero,i.size,i.bytes))=some (some (.agg #[.string ⟨#[]⟩,.int .i64 0,.int .i64 0,.int .i64 0]),4,40):=by kernel_rfl
theorem clone_under (w:World) (v:Value) (l:List Und) (hR:RowOf w 4 Und.cells v l) (h1:∀ x∈l,∀ u∈Und.cells x,u.oneCell'=true) (hl:l.length <= 1000000000) :
 Calls Tryz.prog 124 #[v] w (CloneOut w 33 4 Und.cells l):=by
 obtain⟨a,c,rfl⟩:=hR.form
 have hc:=hR.caps
 have eqn:=fun (W:World) (a:Option Addr) (n c:Nat)=>Lib.run_eql_slice_nil (P:=Tryz.prog) W 23 33 a n c 0 0 Tryz.underlying23
 cases a with
 | none =>
   have hz:l.length=0:=by have:=hc.2.2.2 rfl;omega
   have hnil:l=[]:=List.eq_nil_of_length_eq_zero hz
   subst hnil
   clear hR hc hl h1 hz
   go_enter Tryz.func124,Tryz.ntmps124
   go_wp2_with fail
   go_ret
   exact⟨_,rfl,OwnOf.nil _ _ _ _ _,Below.refl _ _⟩
 | some ad =>
   obtain⟨i0,g1,g2,g3,g4⟩:=info_parts clone_under_info
   obtain⟨v',w',hrun,ho,hb⟩:=clone_run 23 33 i0 _ 4 40 Tryz.underlying23 g1 g2 g3 g4 rfl (by decide) Und.cells undcells_len w _ l hR h1 (by omega) (by unfold maxLen;omega)
   obtain⟨n,hn⟩:∃ n,n=l.length:=⟨_,rfl⟩
   rw[<- hn] at hrun ⊢
   have HR:=zq hrun
   have HO:=zq (And.intro ho hb)
   clear hR hc hl h1 hrun ho hb hn g1 g2 g3 g4
   go_enter Tryz.func124,Tryz.ntmps124
   go_wp2_with (at_builtin;refine wpList_append_run rfl (.tmp 5) (.tmp 6) 23 rfl rfl rfl HR.o ?_)
   go_ret
   exact⟨_,rfl,HO.o.1,HO.o.2⟩
theorem clone_instr_info:(Tryz.prog.info? 35).map (fun i=>(i.zero,i.size,i.bytes))=some (some (.agg #[.int .i64 0,.int .i64 0,.int .i64 0,.int .i64 0,.int .i64 0,.bool false,.int .i64 0]),7,56):=by kernel_rfl
theorem clone_instr (w:World) (v:Value) (l:List Ins) (hR:RowOf w 7 Ins.cells v l) (h1:∀ x∈l,∀ u∈Ins.cells x,u.oneCell'=true) (hl:l.length <= 1000000000) :
 Calls Tryz.prog 125 #[v] w (CloneOut w 35 7 Ins.cells l):=by
 obtain⟨a,c,rfl⟩:=hR.form
 have hc:=hR.caps
 have eqn:=fun (W:World) (a:Option Addr) (n c:Nat)=>Lib.run_eql_slice_nil (P:=Tryz.prog) W 24 35 a n c 0 0 Tryz.underlying24
 cases a with
 | none =>
   have hz:l.length=0:=by have:=hc.2.2.2 rfl;omega
   have hnil:l=[]:=List.eq_nil_of_length_eq_zero hz
   subst hnil
   clear hR hc hl h1 hz
   go_enter Tryz.func125,Tryz.ntmps125
   go_wp2_with fail
   go_ret
   exact⟨_,rfl,OwnOf.nil _ _ _ _ _,Below.refl _ _⟩
 | some ad =>
   obtain⟨i0,g1,g2,g3,g4⟩:=info_parts clone_instr_info
   obtain⟨v',w',hrun,ho,hb⟩:=clone_run 24 35 i0 _ 7 56 Tryz.underlying24 g1 g2 g3 g4 rfl (by decide) Ins.cells inscells_len w _ l hR h1 (by omega) (by unfold maxLen;omega)
   obtain⟨n,hn⟩:∃ n,n=l.length:=⟨_,rfl⟩
   rw[<- hn] at hrun ⊢
   have HR:=zq hrun
   have HO:=zq (And.intro ho hb)
   clear hR hc hl h1 hrun ho hb hn g1 g2 g3 g4
   go_enter Tryz.func125,Tryz.ntmps125
   go_wp2_with (at_builtin;refine wpList_append_run rfl (.tmp 5) (.tmp 6) 24 rfl rfl rfl HR.o ?_)
   go_ret
   exact⟨_,rfl,HO.o.1,HO.o.2⟩
theorem clone_acct_info:(Tryz.prog.info? 56).map (fun i=>(i.zero,i.size,i.bytes))=some (some (.agg #[.int .i64 0,.slice none 0 0,.bool false,.int .i64 0]),4,48):=by kernel_rfl
theorem clone_acct (w:World) (v:Value) (l:List (Acc×Value)) (hR:RowOf w 4 Acc.cells v l) (h1:∀ x∈l,∀ u∈Acc.cells x,u.oneCell'=true) (hl:l.length <= 1000000000) :
 Calls Tryz.prog 126 #[v] w (CloneOut w 56 4 Acc.cells l):=by
 obtain⟨a,c,rfl⟩:=hR.form
 have hc:=hR.caps
 have eqn:=fun (W:World) (a:Option Addr) (n c:Nat)=>Lib.run_eql_slice_nil (P:=Tryz.prog) W 25 56 a n c 0 0 Tryz.underlying25
 cases a with
 | none =>
   have hz:l.length=0:=by have:=hc.2.2.2 rfl;omega
   have hnil:l=[]:=List.eq_nil_of_length_eq_zero hz
   subst hnil
   clear hR hc hl h1 hz
   go_enter Tryz.func126,Tryz.ntmps126
   go_wp2_with fail
   go_ret
   exact⟨_,rfl,OwnOf.nil _ _ _ _ _,Below.refl _ _⟩
 | some ad =>
   obtain⟨i0,g1,g2,g3,g4⟩:=info_parts clone_acct_info
   obtain⟨v',w',hrun,ho,hb⟩:=clone_run 25 56 i0 _ 4 48 Tryz.underlying25 g1 g2 g3 g4 rfl (by decide) Acc.cells acccells_len w _ l hR h1 (by omega) (by unfold maxLen;omega)
   obtain⟨n,hn⟩:∃ n,n=l.length:=⟨_,rfl⟩
   rw[<- hn] at hrun ⊢
   have HR:=zq hrun
   have HO:=zq (And.intro ho hb)
   clear hR hc hl h1 hrun ho hb hn g1 g2 g3 g4
   go_enter Tryz.func126,Tryz.ntmps126
   go_wp2_with (at_builtin;refine wpList_append_run rfl (.tmp 5) (.tmp 6) 25 rfl rfl rfl HR.o ?_)
   go_ret
   exact⟨_,rfl,HO.o.1,HO.o.2⟩
theorem clone_pos_info:(Tryz.prog.info? 104).map (fun i=>(i.zero,i.size,i.bytes))=some (some (.agg #[.int .i64 0,.int .i64 0,.int .i64 0]),3,24):=by kernel_rfl
theorem clone_pos (w:World) (v:Value) (l:List Pos) (hR:RowOf w 3 Pos.cells v l) (h1:∀ x∈l,∀ u∈Pos.cells x,u.oneCell'=true) (hl:l.length <= 1000000000) :
 Calls Tryz.prog 127 #[v] w (CloneOut w 104 3 Pos.cells l):=by
 obtain⟨a,c,rfl⟩:=hR.form
 have hc:=hR.caps
 have eqn:=fun (W:World) (a:Option Addr) (n c:Nat)=>Lib.run_eql_slice_nil (P:=Tryz.prog) W 26 104 a n c 0 0 Tryz.underlying26
 cases a with
 | none =>
   have hz:l.length=0:=by have:=hc.2.2.2 rfl;omega
   have hnil:l=[]:=List.eq_nil_of_length_eq_zero hz
   subst hnil
   clear hR hc hl h1 hz
   go_enter Tryz.func127,Tryz.ntmps127
   go_wp2_with fail
   go_ret
   exact⟨_,rfl,OwnOf.nil _ _ _ _ _,Below.refl _ _⟩
 | some ad =>
   obtain⟨i0,g1,g2,g3,g4⟩:=info_parts clone_pos_info
   obtain⟨v',w',hrun,ho,hb⟩:=clone_run 26 104 i0 _ 3 24 Tryz.underlying26 g1 g2 g3 g4 rfl (by decide) Pos.cells poscells_len w _ l hR h1 (by omega) (by unfold maxLen;omega)
   obtain⟨n,hn⟩:∃ n,n=l.length:=⟨_,rfl⟩
   rw[<- hn] at hrun ⊢
   have HR:=zq hrun
   have HO:=zq (And.intro ho hb)
   clear hR hc hl h1 hrun ho hb hn g1 g2 g3 g4
   go_enter Tryz.func127,Tryz.ntmps127
   go_wp2_with (at_builtin;refine wpList_append_run rfl (.tmp 5) (.tmp 6) 26 rfl rfl rfl HR.o ?_)
   go_ret
   exact⟨_,rfl,HO.o.1,HO.o.2⟩
theorem clone_order_info:(Tryz.prog.info? 98).map (fun i=>(i.zero,i.size,i.bytes))=some (some (.agg #[.int .i64 0,.int .i64 0,.int .i64 0,.int .i64 0,.int .i64 0]),5,40):=by kernel_rfl
theorem clone_order (w:World) (v:Value) (l:List Ord) (hR:RowOf w 5 Ord.cells v l) (h1:∀ x∈l,∀ u∈Ord.cells x,u.oneCell'=true) (hl:l.length <= 1000000000) :
 Calls Tryz.prog 128 #[v] w (CloneOut w 98 5 Ord.cells l):=by
 obtain⟨a,c,rfl⟩:=hR.form
 have hc:=hR.caps
 have eqn:=fun (W:World) (a:Option Addr) (n c:Nat)=>Lib.run_eql_slice_nil (P:=Tryz.prog) W 27 98 a n c 0 0 Tryz.underlying27
 cases a with
 | none =>
   have hz:l.length=0:=by have:=hc.2.2.2 rfl;omega
   have hnil:l=[]:=List.eq_nil_of_length_eq_zero hz
   subst hnil
   clear hR hc hl h1 hz
   go_enter Tryz.func128,Tryz.ntmps128
   go_wp2_with fail
   go_ret
   exact⟨_,rfl,OwnOf.nil _ _ _ _ _,Below.refl _ _⟩
 | some ad =>
   obtain⟨i0,g1,g2,g3,g4⟩:=info_parts clone_order_info
   obtain⟨v',w',hrun,ho,hb⟩:=clone_run 27 98 i0 _ 5 40 Tryz.underlying27 g1 g2 g3 g4 rfl (by decide) Ord.cells ordcells_len w _ l hR h1 (by omega) (by unfold maxLen;omega)
   obtain⟨n,hn⟩:∃ n,n=l.length:=⟨_,rfl⟩
   rw[<- hn] at hrun ⊢
   have HR:=zq hrun
   have HO:=zq (And.intro ho hb)
   clear hR hc hl h1 hrun ho hb hn g1 g2 g3 g4
   go_enter Tryz.func128,Tryz.ntmps128
   go_wp2_with (at_builtin;refine wpList_append_run rfl (.tmp 5) (.tmp 6) 27 rfl rfl rfl HR.o ?_)
   go_ret
   exact⟨_,rfl,HO.o.1,HO.o.2⟩
theorem clone_int_info:(Tryz.prog.info? 3).map (fun i=>(i.zero,i.size,i.bytes))=some (some (.int .i64 0),1,8):=by kernel_rfl
theorem clone_int (w:World) (v:Value) (l:List Int) (hR:RowOf w 1 icell v l) (h1:∀ x∈l,∀ u∈icell x,u.oneCell'=true) (hl:l.length <= 1000000000) :
 Calls Tryz.prog 115 #[v] w (CloneOut w 3 1 icell l):=by
 obtain⟨a,c,rfl⟩:=hR.form
 have hc:=hR.caps
 have eqn:=fun (W:World) (a:Option Addr) (n c:Nat)=>Lib.run_eql_slice_nil (P:=Tryz.prog) W 28 3 a n c 0 0 Tryz.underlying28
 cases a with
 | none =>
   have hz:l.length=0:=by have:=hc.2.2.2 rfl;omega
   have hnil:l=[]:=List.eq_nil_of_length_eq_zero hz
   subst hnil
   clear hR hc hl h1 hz
   go_enter Tryz.func115,Tryz.ntmps115
   go_wp2_with fail
   go_ret
   exact⟨_,rfl,OwnOf.nil _ _ _ _ _,Below.refl _ _⟩
 | some ad =>
   obtain⟨i0,g1,g2,g3,g4⟩:=info_parts clone_int_info
   obtain⟨v',w',hrun,ho,hb⟩:=clone_run 28 3 i0 _ 1 8 Tryz.underlying28 g1 g2 g3 g4 rfl (by decide) icell icell_len w _ l hR h1 (by omega) (by unfold maxLen;omega)
   obtain⟨n,hn⟩:∃ n,n=l.length:=⟨_,rfl⟩
   rw[<- hn] at hrun ⊢
   have HR:=zq hrun
   have HO:=zq (And.intro ho hb)
   clear hR hc hl h1 hrun ho hb hn g1 g2 g3 g4
   go_enter Tryz.func115,Tryz.ntmps115
   go_wp2_with (at_builtin;refine wpList_append_run rfl (.tmp 5) (.tmp 6) 28 rfl rfl rfl HR.o ?_)
   go_ret
   exact⟨_,rfl,HO.o.1,HO.o.2⟩
theorem clone_loc_info:(Tryz.prog.info? 105).map (fun i=>(i.zero,i.size,i.bytes))=some (some (.agg #[.int .i64 0,.int .i64 0,.int .i64 0]),3,24):=by kernel_rfl
theorem clone_loc (w:World) (v:Value) (l:List Pos) (hR:RowOf w 3 Pos.cells v l) (h1:∀ x∈l,∀ u∈Pos.cells x,u.oneCell'=true) (hl:l.length <= 1000000000) :
 Calls Tryz.prog 118 #[v] w (CloneOut w 105 3 Pos.cells l):=by
 obtain⟨a,c,rfl⟩:=hR.form
 have hc:=hR.caps
 have eqn:=fun (W:World) (a:Option Addr) (n c:Nat)=>Lib.run_eql_slice_nil (P:=Tryz.prog) W 29 105 a n c 0 0 Tryz.underlying29
 cases a with
 | none =>
   have hz:l.length=0:=by have:=hc.2.2.2 rfl;omega
   have hnil:l=[]:=List.eq_nil_of_length_eq_zero hz
   subst hnil
   clear hR hc hl h1 hz
   go_enter Tryz.func118,Tryz.ntmps118
   go_wp2_with fail
   go_ret
   exact⟨_,rfl,OwnOf.nil _ _ _ _ _,Below.refl _ _⟩
 | some ad =>
   obtain⟨i0,g1,g2,g3,g4⟩:=info_parts clone_loc_info
   obtain⟨v',w',hrun,ho,hb⟩:=clone_run 29 105 i0 _ 3 24 Tryz.underlying29 g1 g2 g3 g4 rfl (by decide) Pos.cells poscells_len w _ l hR h1 (by omega) (by unfold maxLen;omega)
   obtain⟨n,hn⟩:∃ n,n=l.length:=⟨_,rfl⟩
   rw[<- hn] at hrun ⊢
   have HR:=zq hrun
   have HO:=zq (And.intro ho hb)
   clear hR hc hl h1 hrun ho hb hn g1 g2 g3 g4
   go_enter Tryz.func118,Tryz.ntmps118
   go_wp2_with (at_builtin;refine wpList_append_run rfl (.tmp 5) (.tmp 6) 29 rfl rfl rfl HR.o ?_)
   go_ret
   exact⟨_,rfl,HO.o.1,HO.o.2⟩
end Go.Proofs.YtnkpdfjnjmmleaaGreatDoor
namespace Go.Proofs.YtnkpdfjnjmmleaaGreatDoor
open Go.RowKit Go.Bw
def boxL (L:Led) (v1 v2 v3 v4 v5 v6 v7 v8:Value):Array Value:=#[.int .i64 L.day,v1,v2,v3,v4,v5,v6,v7,v8]
structure HeapBox (w:World) (b:Nat) (L:Led) (v1 v2 v3 v4 v5 v6 v7 v8:Value):Prop where
 at_:w.heap[b]?=some (.cells (boxL L v1 v2 v3 v4 v5 v6 v7 v8) 31 (0,0))
theorem HeapBox.mod {w w':World} {b:Nat} {L:Led} {v1 v2 v3 v4 v5 v6 v7 v8:Value} {S:Nat -> Prop} (h:HeapBox w b L v1 v2 v3 v4 v5 v6 v7 v8) (hm:Mod S w w') (hS:¬ S b):HeapBox w' b L v1 v2 v3 v4 v5 v6 v7 v8:=⟨hm.heap h.at_ hS⟩
theorem HeapBox.set {w:World} {b:Nat} {L:Led} {v1 v2 v3 v4 v5 v6 v7 v8 u1 u2 u3 u4 u5 u6 u7 u8:Value} (h:HeapBox w b L v1 v2 v3 v4 v5 v6 v7 v8) (o:Nat) (x:Value) (he:(boxL L v1 v2 v3 v4 v5 v6 v7 v8).setIfInBounds o x=boxL L u1 u2 u3 u4 u5 u6 u7 u8):HeapBox (w.setCell ⟨b,o,none⟩ x) b L u1 u2 u3 u4 u5 u6 u7 u8 :=
 ⟨by rw[<- he];exact heap_setCell_at h.at_ o x⟩
structure SepAt (w:World) (B:Nat) (vs:List Value):Prop where
 pair:vs.Pairwise ApartV
 lt:∀ u∈vs,∀ b,u.ownBlock=some b -> B <= b /\ b<w.heap.size
theorem SepAt.nil (w:World) (B:Nat):SepAt w B []:=⟨List.Pairwise.nil,by simp⟩
theorem SepAt.more {w w':World} {B:Nat} {vs:List Value} (h:SepAt w B vs) (hs:w.heap.size <= w'.heap.size):SepAt w' B vs:=⟨h.pair,fun u hu b hb=>⟨(h.lt u hu b hb).1,Nat.lt_of_lt_of_le (h.lt u hu b hb).2 hs⟩⟩
theorem SepAt.add {α:Type} {w w':World} {B n:Nat} {e:TypeId} {f:α -> List Value} {v:Value} {l:List α} {vs:List Value} (h:SepAt w B vs) (ho:OwnOf w' w.heap.size e n f v l) (hB:B <= w.heap.size) (hs:w.heap.size <= w'.heap.size):SepAt w' B (vs++[v]):=by
 refine⟨?_,fun u hu b hb=>?_⟩
 ·rw[List.pairwise_append]
  refine⟨h.pair,List.pairwise_singleton _ _,fun u hu x hx=>?_⟩
  obtain rfl:=List.mem_singleton.1 hx
  intro b h1 h2
  have:=(h.lt u hu b h1).2
  have:=(ho.lt b h2).1
  omega
 ·rcases List.mem_append.1 hu with hu|hu
  ·exact⟨(h.lt u hu b hb).1,Nat.lt_of_lt_of_le (h.lt u hu b hb).2 hs⟩
  ·obtain rfl:=List.mem_singleton.1 hu
   exact⟨Nat.le_trans hB (ho.lt b hb).1,(ho.lt b hb).2⟩
def CopyOut (w:World) (L:Led) (e:Ending) (w':World):Prop:=∃ V,e=.returned (V.val L) /\ LedOwn w' w.heap.size V L /\ Below w.heap.size w w'
structure CpAt (w:World) (R0 b1 b2:Nat) (L:Led) (v:LedV) (ac ac':List (Acc×Value)) (k:Nat) (W:World):Prop where
 below:Below w.heap.size w W
 rb:R0 <= W.heap.size
 box:HeapBox W b1 L v.curs v.unders v.instrs v.accts v.poss v.orders v.avail v.locs
 res:W.heap[b2]?=some (.cells #[.int .i64 0,.slice none 0 0,.slice none 0 0,.slice none 0 0,.slice none 0 0,.slice none 0 0,.slice none 0 0,.slice none 0 0,.slice none 0 0] 31 (0,0))
 curs:OwnOf W R0 61 2 Cur.cells v.curs L.curs
 unders:OwnOf W R0 33 4 Und.cells v.unders L.unders
 instrs:OwnOf W R0 35 7 Ins.cells v.instrs L.instrs
 poss:OwnOf W R0 104 3 Pos.cells v.poss L.poss
 orders:OwnOf W R0 98 5 Ord.cells v.orders L.orders
 avail:OwnOf W R0 3 1 icell v.avail L.avail
 locs:OwnOf W R0 105 3 Pos.cells v.locs L.locs
 accts:OwnOf W R0 56 4 Acc.cells v.accts ac'
 same:ac'.map (·.1)=ac.map (·.1)
 rest:∀ i,k <= i -> ac'[i]?=ac[i]?
 cash:∀ (i:Nat) p,i<k -> ac'[i]?=some p -> OwnOf W R0 3 1 icell p.2 p.1.cash
 sep:SepAt W R0 ([v.curs,v.unders,v.instrs,v.accts,v.poss,v.orders,v.avail,v.locs]++(ac'.take k).map (·.2))
theorem CpAt.go {w W W':World} {R0 b1 b2 k:Nat} {L:Led} {v:LedV} {ac ac':List (Acc×Value)} (h:CpAt w R0 b1 b2 L v ac ac' k W) (hm:Mod (fun _=>False) W W'):CpAt w R0 b1 b2 L v ac ac' k W' :=
 ⟨((Mod.of_below h.below).trans hm (fun k hk h=>h)).toBelow,Nat.le_trans h.rb hm.size,h.box.mod hm (fun h=>h),hm.heap h.res (fun h=>h),h.curs.mod hm (fun _ _ h=>h),h.unders.mod hm (fun _ _ h=>h),h.instrs.mod hm (fun _ _ h=>h),h.poss.mod hm (fun _ _ h=>h),h.orders.mod hm (fun _ _ h=>h),h.avail.mod hm (fun _ _ h=>h),h.locs.mod hm (fun _ _ h=>h),
  h.accts.mod hm (fun _ _ h=>h),h.same,h.rest,fun i p hi hp=>(h.cash i p hi hp).mod hm (fun _ _ h=>h),h.sep.more hm.size⟩
theorem CpAt.put {w W W1:World} {R0 b1 b2 k g c:Nat} {L:Led} {v:LedV} {ac ac':List (Acc×Value)} {p:Acc×Value} {x:Value} (h:CpAt w R0 b1 b2 L v ac ac' k W) (hk:ac'[k]?=some p) (hv:v.accts=.slice (some ⟨g,0,none⟩) ac'.length c) (hb:Below W.heap.size W W1) (ho:OwnOf W1 W.heap.size 3 1 icell x p.1.cash) (hR:b1<R0 /\ b2<R0 /\ w.heap.size <= R0) :
 CpAt w R0 b1 b2 L v ac (ac'.set k (p.1,x)) (k+1) (W1.setCell ⟨g,k*4+1,none⟩ x):=by
 have hkl:=(List.getElem?_eq_some_iff.1 hk).1
 have h1:=h.go (Mod.of_below hb)
 have ha:=h1.accts
 rw[hv] at ha
 have hs:=OwnOf.set ha acccells_len hk (j:=1) (x':=(p.1,x)) (u:=x) (by omega) rfl
 have hg:=h.accts.lt g (by rw[hv];rfl)
 have s:=h1.sep.pair
 simp only[List.cons_append,List.nil_append,List.pairwise_cons,List.mem_cons] at s
 obtain⟨s1,s2,s3,s4,s5,s6,s7,s8,s9⟩:=s
 have e:(ac'.set k (p.1,x)).take (k+1)=ac'.take k++[(p.1,x)]:=by
  rw[List.take_add_one,List.take_set_of_le (Nat.le_refl k),List.getElem?_set]
  simp[hkl]
 refine⟨((Mod.of_below h1.below).trans hs.2 (fun k hk e=>by omega)).toBelow,Nat.le_trans h1.rb hs.2.size,h1.box.mod hs.2 (by omega),hs.2.heap h1.res (by omega),
  h1.curs.mod hs.2 (fun k hk e=>by subst e;exact s1 v.accts (by simp) k hk (by rw[hv];rfl)),h1.unders.mod hs.2 (fun k hk e=>by subst e;exact s2 v.accts (by simp) k hk (by rw[hv];rfl)),h1.instrs.mod hs.2 (fun k hk e=>by subst e;exact s3 v.accts (by simp) k hk (by rw[hv];rfl)),h1.poss.mod hs.2 (fun k hk e=>by subst e;exact s4 v.poss (by simp) k (by rw[hv];rfl) hk),h1.orders.mod hs.2 (fun k hk e=>by subst e;exact s4 v.orders (by simp) k (by rw[hv];rfl) hk),h1.avail.mod hs.2 (fun k hk e=>by subst e;exact s4 v.avail (by simp) k (by rw[hv];rfl) hk),h1.locs.mod hs.2 (fun k hk e=>by subst e;exact s4 v.locs (by simp) k (by rw[hv];rfl) hk),
  by rw[hv];exact hs.1,?_,?_,?_,?_⟩
 ·rw[map_set_same (fun q:Acc×Value=>q.1) (x':=(p.1,x)) hk rfl];exact h1.same
 ·intro i hi
  rw[List.getElem?_set_ne (by omega)]
  exact h1.rest i (by omega)
 ·intro i q hi hq
  by_cases e:k=i
  ·subst e
   rw[List.getElem?_set_self hkl] at hq
   cases hq
   exact (ho.base h.rb).mod hs.2 (fun j hj e=>by have:=(ho.lt j hj).1;omega)
  ·rw[List.getElem?_set_ne e] at hq
   refine (h1.cash i q (by omega) hq).mod hs.2 (fun j hj e=>?_)
   subst e
   refine s4 q.2 ?_ j (by rw[hv];rfl) hj
   refine Or.inr (Or.inr (Or.inr (Or.inr (List.mem_map.2 ⟨q,?_,rfl⟩))))
   exact List.mem_of_getElem? (i:=i) (by rw[List.getElem?_take_of_lt (by omega)];exact hq)
 ·rw[e,List.map_append,<- List.append_assoc]
  exact (h.sep.add ho h.rb hb.size).more hs.2.size
theorem CpAt.done {w W W':World} {R0 b1 b2:Nat} {L:Led} {v:LedV} {ac ac':List (Acc×Value)} (h:CpAt w R0 b1 b2 L v ac ac' ac.length W) (hs:L.accts=ac.map (·.1)) (hn:∀ u∈L.unders,u.name.size <= maxLen) (hu:∀ a∈L.accts,∀ x∈a.cash,-9223372036854775808 <= x /\ x <= 9223372036854775807) (hm:Mod (fun k=>k=b2) W W') (hR:b1<R0 /\ b2<R0 /\ w.heap.size <= R0) (hb2:w.heap.size <= b2) :
 LedOwn W' w.heap.size { v with ac:=ac' } L /\ Below w.heap.size w W':=by
 have hl:ac'.length=ac.length:=by have:=congrArg List.length h.same;simpa using this
 have e:ac'.take ac.length=ac':=List.take_of_length_le (by omega)
 have s:=h.sep.pair
 rw[e] at s
 have M:∀ {α:Type} {e:TypeId} {n:Nat} {f:α -> List Value} {u:Value} {l:List α},OwnOf W R0 e n f u l -> OwnOf W' w.heap.size e n f u l:=fun o=>(o.mod hm (fun k hk e=>by have:=(o.lt k hk).1;omega)).base hR.2.2
 refine⟨⟨M h.curs,M h.unders,M h.instrs,hs.trans h.same.symm,M h.accts,fun p hp=>?_,M h.poss,M h.orders,M h.avail,M h.locs,s,hn,hu⟩,((Mod.of_below h.below).trans hm (fun k hk e=>by omega)).toBelow⟩
 obtain⟨i,hi,e⟩:=List.mem_iff_getElem.1 hp
 exact M (h.cash i p (by rw[<- hl];exact hi) (by rw[List.getElem?_eq_getElem hi,e]))
end Go.Proofs.YtnkpdfjnjmmleaaGreatDoor
namespace Go.Proofs.YtnkpdfjnjmmleaaGreatDoor
open Go.RowKit Go.Bw Go.Maps Go.Shelf Go.Bw.Fall
theorem mod_setRow' {w:World} (g:Nat) (cs:Array Value):Mod (fun k=>k=g) w (w.setRow g cs) :=
 ⟨rfl,rfl,rfl,by simp,fun i _ hi=>setRow_other w g i cs hi⟩
theorem led_desc:(Tryz.prog.underlying 31).map (fun d=>match d with|.struct _|.array _ _=>true|_=>false)=some true:=by kernel_rfl
theorem led_under:∃ d,Tryz.prog.underlying 31=some d /\ (match d with|.struct _|.array _ _=>true|_=>false)=true:=by
 have h:=led_desc
 cases e:Tryz.prog.underlying 31 with
 | none=>rw[e] at h;cases h
 | some d=>rw[e] at h;exact⟨d,rfl,Option.some.inj h⟩
theorem copy_results:Tryz.f75.results=#[.cell 2 31]:=by kernel_rfl
theorem boxL_one (L:Led) (v1 v2 v3 v4 v5 v6 v7 v8:Value) (h1:v1.oneCell'=true) (h2:v2.oneCell'=true) (h3:v3.oneCell'=true) (h4:v4.oneCell'=true) (h5:v5.oneCell'=true) (h6:v6.oneCell'=true) (h7:v7.oneCell'=true) (h8:v8.oneCell'=true):(boxL L v1 v2 v3 v4 v5 v6 v7 v8).all (·.oneCell')=true:=by
 simp[boxL,h1,h2,h3,h4,h5,h6,h7,h8]
 rfl
theorem led_size:(Tryz.prog.info? 31).map (·.size)=some 9:=by kernel_rfl
theorem led_result {P:Program} {fn:Func} {p:Tmp} {ty:TypeId} (h:fn.results=#[.cell p ty]) (tmps:Array Value) (w:World) (g:Nat) (t:TypeId) (cs:Array Value) (fr:Nat×Nat) (d:TypeDesc)
 (hp:tmps.getD p undef=.pointer (some ⟨g,0,none⟩)) (hg:w.heap[g]?=some (.cells cs t fr))
 (hu:P.underlying ty=some d) (hd:(match d with|.struct _|.array _ _=>true|_=>false)=true) (hi:(P.info? ty).map (·.size)=some cs.size) :
 (results fn tmps).run P w=.ok (.agg cs) w:=by
 have hp':tmps[p]?.getD undef=.pointer (some ⟨g,0,none⟩):=by simpa using hp
 simp[results,h,hp',asAddr,run_loadVar_row w g t ty cs fr d hg hu hd hi]
theorem copy_any (w:World) (V:LedV) (L:Led) (h:LedAt w V L) (hb:L.bulk <= 1000000) (hca:∀ a∈L.accts,a.cash.length <= 1000000000):Calls Tryz.prog 75 #[V.val L] w (CopyOut w L):=by
 have HL:=zq (show True /\ L.accts=V.ac.map (·.1) /\ (∀ u∈L.unders,u.name.size <= maxLen) /\ (∀ a∈L.accts,∀ x∈a.cash,-9223372036854775808 <= x /\ x <= 9223372036854775807) from ⟨trivial,h.same,h.names,h.nums⟩)
 have CS:=zq h.cashes
 have CH:=zq h.cash
 have CA:=zq hca
 have AL:=zq (show L.accts.length=V.ac.length from by have:=h.same;rw[this,List.length_map])
 have G1:=zq (fun W (hW:Below w.heap.size w W)=>clone_cur W V.curs L.curs (h.below hW).curs (fun x hx u hu=>by simp[Cur.cells] at hu;rcases hu with rfl|rfl <;> rfl) (by unfold Led.bulk at hb;have:=AL.o;omega))
 have G2:=zq (fun W (hW:Below w.heap.size w W)=>clone_under W V.unders L.unders (h.below hW).unders (fun x hx u hu=>by simp[Und.cells] at hu;rcases hu with rfl|rfl|rfl|rfl <;> rfl) (by unfold Led.bulk at hb;have:=AL.o;omega))
 have G3:=zq (fun W (hW:Below w.heap.size w W)=>clone_instr W V.instrs L.instrs (h.below hW).instrs (fun x hx u hu=>by simp[Ins.cells] at hu;rcases hu with rfl|rfl|rfl|rfl|rfl|rfl|rfl <;> rfl) (by unfold Led.bulk at hb;have:=AL.o;omega))
 have G4:=zq (fun W (hW:Below w.heap.size w W)=>clone_acct W V.accts V.ac (h.below hW).accts (fun x hx u hu=>by obtain⟨va,vn,vc,hv⟩:=CS.o x hx;simp[Acc.cells,hv] at hu;rcases hu with rfl|rfl|rfl|rfl <;> rfl) (by unfold Led.bulk at hb;have:=AL.o;omega))
 have G5:=zq (fun W (hW:Below w.heap.size w W)=>clone_pos W V.poss L.poss (h.below hW).poss (fun x hx u hu=>by simp[Pos.cells] at hu;rcases hu with rfl|rfl|rfl <;> rfl) (by unfold Led.bulk at hb;have:=AL.o;omega))
 have G6:=zq (fun W (hW:Below w.heap.size w W)=>clone_order W V.orders L.orders (h.below hW).orders (fun x hx u hu=>by simp[Ord.cells] at hu;rcases hu with rfl|rfl|rfl|rfl|rfl <;> rfl) (by unfold Led.bulk at hb;have:=AL.o;omega))
 have G7:=zq (fun W (hW:Below w.heap.size w W)=>clone_int W V.avail L.avail (h.below hW).avail (fun x hx u hu=>by simp[icell] at hu;subst hu;rfl) (by unfold Led.bulk at hb;have:=AL.o;omega))
 have G8:=zq (fun W (hW:Below w.heap.size w W)=>clone_loc W V.locs L.locs (h.below hW).locs (fun x hx u hu=>by simp[Pos.cells] at hu;rcases hu with rfl|rfl|rfl <;> rfl) (by unfold Led.bulk at hb;have:=AL.o;omega))
 obtain⟨a1,c1,a2,c2,a3,c3,a4,c4,a5,c5,a6,c6,a7,c7,a8,c8,e1,e2,e3,e4,e5,e6,e7,e8⟩:=LedAt.opened h
 have m4:L.accts.length <= 1000000:=by unfold Led.bulk at hb;omega
 unfold LedV.val LedV.cells
 rw[e1] at G1
 rw[e2] at G2
 rw[e3] at G3
 rw[e4] at G4
 rw[e5] at G5
 rw[e6] at G6
 rw[e7] at G7
 rw[e8] at G8
 rw[e1,e2,e3,e4,e5,e6,e7,e8]
 obtain⟨n1,hn1⟩:∃ n,n=L.curs.length:=⟨_,rfl⟩
 rw[<- hn1] at G1
 have LN1:=zq hn1
 obtain⟨n2,hn2⟩:∃ n,n=L.unders.length:=⟨_,rfl⟩
 rw[<- hn2] at G2
 have LN2:=zq hn2
 obtain⟨n3,hn3⟩:∃ n,n=L.instrs.length:=⟨_,rfl⟩
 rw[<- hn3] at G3
 have LN3:=zq hn3
 obtain⟨n4,hn4⟩:∃ n,n=L.accts.length:=⟨_,rfl⟩
 rw[<- hn4] at G4
 have LN4:=zq hn4
 obtain⟨n5,hn5⟩:∃ n,n=L.poss.length:=⟨_,rfl⟩
 rw[<- hn5] at G5
 have LN5:=zq hn5
 obtain⟨n6,hn6⟩:∃ n,n=L.orders.length:=⟨_,rfl⟩
 rw[<- hn6] at G6
 have LN6:=zq hn6
 obtain⟨n7,hn7⟩:∃ n,n=L.avail.length:=⟨_,rfl⟩
 rw[<- hn7] at G7
 have LN7:=zq hn7
 obtain⟨n8,hn8⟩:∃ n,n=L.locs.length:=⟨_,rfl⟩
 rw[<- hn8] at G8
 have LN8:=zq hn8
 rw[<- hn1,<- hn2,<- hn3,<- hn4,<- hn5,<- hn6,<- hn7,<- hn8]
 rw[<- hn4] at m4
 obtain⟨W0,hW0⟩:∃ W0,W0=(w.alloc (.cells #[.int .i64 L.day,.slice a1 n1 c1,.slice a2 n2 c2,.slice a3 n3 c3,.slice a4 n4 c4,.slice a5 n5 c5,.slice a6 n6 c6,.slice a7 n7 c7,.slice a8 n8 c8] 31)).alloc (.cells #[.int .i64 0,.slice none 0 0,.slice none 0 0,.slice none 0 0,.slice none 0 0,.slice none 0 0,.slice none 0 0,.slice none 0 0,.slice none 0 0] 31):=⟨_,rfl⟩
 have X0:=zq (show Below w.heap.size w W0 /\ HeapBox W0 w.heap.size L (.slice a1 n1 c1) (.slice a2 n2 c2) (.slice a3 n3 c3) (.slice a4 n4 c4) (.slice a5 n5 c5) (.slice a6 n6 c6) (.slice a7 n7 c7) (.slice a8 n8 c8) /\ W0.heap[w.heap.size+1]?=some (.cells #[.int .i64 0,.slice none 0 0,.slice none 0 0,.slice none 0 0,.slice none 0 0,.slice none 0 0,.slice none 0 0,.slice none 0 0,.slice none 0 0] 31 (0,0)) /\ W0.heap.size=w.heap.size+2 from by
  rw[hW0]
  exact⟨((Below.refl _ _).alloc (Nat.le_refl _) _).alloc (by simp) _,⟨((Mod.refl (fun _=>False) _).alloc _).heap (heap_alloc_new w _) (fun h=>h)⟩,by simpa using heap_alloc_new (w.alloc (.cells #[.int .i64 L.day,.slice a1 n1 c1,.slice a2 n2 c2,.slice a3 n3 c3,.slice a4 n4 c4,.slice a5 n5 c5,.slice a6 n6 c6,.slice a7 n7 c7,.slice a8 n8 c8] 31)) _,by simp⟩)
 clear h hb hca e1 e2 e3 e4 e5 e6 e7 e8 hn1 hn2 hn3 hn4 hn5 hn6 hn7 hn8
 go_enter Tryz.func75,Tryz.ntmps75
 go_upto_region 1 with (fail)
 rw[<- hW0]
 obtain⟨b1,hb1⟩:∃ n,n=w.heap.size:=⟨_,rfl⟩
 obtain⟨b2,hb2⟩:∃ n,n=w.heap.size+1:=⟨_,rfl⟩
 have HBS:=zq (show b1=w.heap.size /\ b2=w.heap.size+1 /\ b1<W0.heap.size /\ b2<W0.heap.size /\ W0.heap.size=w.heap.size+2 from by have:=X0.o.2.2.2;omega)
 rw[<- hb2,<- hb1] at X0 ⊢
 have BW:=zq (show Below w.heap.size w W0 from by rw[<- hb1];exact X0.o.1)
 have SP:=zq (SepAt.nil W0 W0.heap.size)
 clear hW0 hb1 hb2
 obtain⟨R0,hR0⟩:∃ n,n=W0.heap.size:=⟨_,rfl⟩
 have RB:=zq (show R0 <= W0.heap.size from Nat.le_of_eq hR0)
 have RL:=zq (show b1<R0 /\ b2<R0 /\ R0=w.heap.size+2 /\ b1=w.heap.size /\ b2=w.heap.size+1 from by have:=HBS.o;omega)
 rw[<- hR0] at SP
 clear hR0
 have HX:=zq X0.o.2.1
 have D0:=zq (show Below W0.heap.size W0 W0.drew from ((Mod.refl (fun _=>False) W0).drew).toBelow)
 have y1:W0.cell? ⟨b1,1,none⟩=some (.slice a1 n1 c1):=(cell_of_heap HX.o.at_ 1).trans rfl
 have y2:∀ z:Cls (fun W=>Below W0.heap.size W0 W),z.w.cell? ⟨b1,2,none⟩=some (.slice a2 n2 c2):=fun z=>(cell_of_heap ((HX.o.mod (Mod.of_below z.ok) (fun h=>h)).at_) 2).trans rfl
 have y3:∀ z:Cls (fun W=>Below W0.heap.size W0 W),z.w.cell? ⟨b1,3,none⟩=some (.slice a3 n3 c3):=fun z=>(cell_of_heap ((HX.o.mod (Mod.of_below z.ok) (fun h=>h)).at_) 3).trans rfl
 have y4:∀ z:Cls (fun W=>Below W0.heap.size W0 W),z.w.cell? ⟨b1,4,none⟩=some (.slice a4 n4 c4):=fun z=>(cell_of_heap ((HX.o.mod (Mod.of_below z.ok) (fun h=>h)).at_) 4).trans rfl
 refine Fall2.wp_region_tree (C:=fun w'=>∃ z:Cls (fun W=>Below W0.heap.size W0 W),w'=z.w) [2,5,8,11,13,15,17,19] [3,4,6,7,9,10,12] (.step 0 (.step 1 (.step 3 (.step 4 (.step 6 (.step 7 (.step 9 (.step 10 (.step 2 (.step 12 (.step 5 (.step 8 (.step 11 (.step 13 (.step 14 (.step 15 (.step 16 (.step 17 (.step 18 (.step 19 .leaf)))))))))))))))))))) (fun _ _ _=>False) (by kernel_rfl) (fun _ _ _ h=>h.elim) (by kernel_rfl) ⟨⟨W0.drew,D0.o⟩,rfl⟩ ?_
 haveI ne:Nonempty (Cls (fun W=>Below W0.heap.size W0 W)):=⟨⟨W0,Below.refl _ _⟩⟩
 refine Fall2.tree_still [0,1] (by kernel_rfl) ?_
 simp only[pickL,nth]
 repeat (go_big_quiet_step (fail))
 refine wpQuiet_nil ?_
 refine Fall2.tree_pure [3,4,6,7,9,10] (by kernel_rfl) ?_
 simp only[pickL,nth]
 repeat (go_big_quiet_step (fail))
 refine wpQuiet_nil ?_
 clear y1 y2 y3 y4
 refine Fall2.tree_eff (by kernel_rfl) rfl (fun K hK=>?_)
 simp only[pickL,nth]
 refine wpOne_one ?_
 go_simp
 refine (G1.o _ (BW.o.trans (D0.o.mono BW.o.size))).mono ?_
 rintro e u1 ⟨v,rfl,ho,hbb⟩
 obtain⟨x1,k1,rfl,_⟩:=ho.form
 rw[<- LN1.o] at ho ⊢
 have B1:=zq (show Below W0.heap.size W0 u1 from D0.o.trans (hbb.mono D0.o.size))
 have P1:=zq (show SepAt u1 R0 ([(.slice x1 n1 k1)]) from SepAt.add (SP.o.more (Nat.le_refl _)) ho (Nat.le_trans RB.o D0.o.size) hbb.size)
 have O1:=zq (ho.base (B':=R0) (Nat.le_trans RB.o D0.o.size))
 clear ho hbb
 go_simp
 refine hK _ _ (fun _=>⟨⟨u1,B1.o⟩,rfl⟩) ?_
 clear hK
 refine Fall2.tree_pure [12] (by kernel_rfl) ?_
 simp only[pickL,nth]
 repeat (go_big_quiet_step (fail))
 refine wpQuiet_nil ?_
 refine Fall2.tree_eff (by kernel_rfl) rfl (fun K hK=>?_)
 simp only[pickL,nth]
 refine wpOne_one ?_
 go_simp
 refine (G2.o _ (BW.o.trans (B1.o.mono BW.o.size))).mono ?_
 rintro e u2 ⟨v,rfl,ho,hbb⟩
 obtain⟨x2,k2,rfl,_⟩:=ho.form
 rw[<- LN2.o] at ho ⊢
 have B2:=zq (show Below W0.heap.size W0 u2 from B1.o.trans (hbb.mono B1.o.size))
 have P2:=zq (show SepAt u2 R0 ([(.slice x1 n1 k1),(.slice x2 n2 k2)]) from SepAt.add (P1.o.more (Nat.le_refl _)) ho (Nat.le_trans RB.o B1.o.size) hbb.size)
 have O2:=zq (ho.base (B':=R0) (Nat.le_trans RB.o B1.o.size))
 have O1:=zq (O1.o.mod (Mod.of_below hbb) (fun _ _ h=>h))
 clear ho hbb
 go_simp
 refine hK _ _ (fun _=>⟨⟨u2,B2.o⟩,rfl⟩) ?_
 clear hK
 refine Fall2.tree_eff (by kernel_rfl) rfl (fun K hK=>?_)
 simp only[pickL,nth]
 refine wpOne_one ?_
 go_simp
 refine (G3.o _ (BW.o.trans (B2.o.mono BW.o.size))).mono ?_
 rintro e u3 ⟨v,rfl,ho,hbb⟩
 obtain⟨x3,k3,rfl,_⟩:=ho.form
 rw[<- LN3.o] at ho ⊢
 have B3:=zq (show Below W0.heap.size W0 u3 from B2.o.trans (hbb.mono B2.o.size))
 have P3:=zq (show SepAt u3 R0 ([(.slice x1 n1 k1),(.slice x2 n2 k2),(.slice x3 n3 k3)]) from SepAt.add (P2.o.more (Nat.le_refl _)) ho (Nat.le_trans RB.o B2.o.size) hbb.size)
 have O3:=zq (ho.base (B':=R0) (Nat.le_trans RB.o B2.o.size))
 have O1:=zq (O1.o.mod (Mod.of_below hbb) (fun _ _ h=>h))
 have O2:=zq (O2.o.mod (Mod.of_below hbb) (fun _ _ h=>h))
 clear ho hbb
 go_simp
 refine hK _ _ (fun _=>⟨⟨u3,B3.o⟩,rfl⟩) ?_
 clear hK
 refine Fall2.tree_eff (by kernel_rfl) rfl (fun K hK=>?_)
 simp only[pickL,nth]
 refine wpOne_one ?_
 go_simp
 refine (G4.o _ (BW.o.trans (B3.o.mono BW.o.size))).mono ?_
 rintro e u4 ⟨v,rfl,ho,hbb⟩
 obtain⟨x4,k4,rfl,_⟩:=ho.form
 rw[<- AL.o,<- LN4.o] at ho ⊢
 have B4:=zq (show Below W0.heap.size W0 u4 from B3.o.trans (hbb.mono B3.o.size))
 have P4:=zq (show SepAt u4 R0 ([(.slice x1 n1 k1),(.slice x2 n2 k2),(.slice x3 n3 k3),(.slice x4 n4 k4)]) from SepAt.add (P3.o.more (Nat.le_refl _)) ho (Nat.le_trans RB.o B3.o.size) hbb.size)
 have O4:=zq (ho.base (B':=R0) (Nat.le_trans RB.o B3.o.size))
 have O1:=zq (O1.o.mod (Mod.of_below hbb) (fun _ _ h=>h))
 have O2:=zq (O2.o.mod (Mod.of_below hbb) (fun _ _ h=>h))
 have O3:=zq (O3.o.mod (Mod.of_below hbb) (fun _ _ h=>h))
 clear ho hbb
 go_simp
 refine hK _ _ (fun _=>⟨⟨u4,B4.o⟩,rfl⟩) ?_
 clear hK
 have H10:=zq (show HeapBox u4 b1 L (.slice a1 n1 c1) (.slice a2 n2 c2) (.slice a3 n3 c3) (.slice a4 n4 c4) (.slice a5 n5 c5) (.slice a6 n6 c6) (.slice a7 n7 c7) (.slice a8 n8 c8) from HX.o.mod (Mod.of_below B4.o) (fun h=>h))
 have g:u4.cell? ⟨b1,1,none⟩=some (.slice a1 n1 c1):=(cell_of_heap H10.o.at_ 1).trans rfl
 have z:=free_of_heap H10.o.at_ 1
 refine Fall2.tree_last (by kernel_rfl) rfl (by kernel_rfl) (fun K hK=>?_)
 simp only[pickL,nth]
 refine wpOne_one ?_
 go_simp
 obtain⟨s1,hs⟩:∃ s,s=u4.setCell ⟨b1,1,none⟩ (.slice x1 n1 k1):=⟨_,rfl⟩
 have H1n:=zq (show HeapBox s1 b1 L (.slice x1 n1 k1) (.slice a2 n2 c2) (.slice a3 n3 c3) (.slice a4 n4 c4) (.slice a5 n5 c5) (.slice a6 n6 c6) (.slice a7 n7 c7) (.slice a8 n8 c8) from by rw[hs];exact H10.o.set 1 _ rfl)
 have N1:=zq (show Mod (fun k=>k=b1) u4 s1 from by rw[hs];exact (Mod.refl (fun k=>k=b1) u4).setCell _ (fun _=>rfl))
 rw[<- hs]
 refine hK _ _ ?_
 clear hK hs g z
 refine Fall2.tree_still [14] (by kernel_rfl) ?_
 simp only[pickL,nth]
 repeat (go_big_quiet_step (fail))
 refine wpQuiet_nil ?_
 have g:s1.cell? ⟨b1,2,none⟩=some (.slice a2 n2 c2):=(cell_of_heap H1n.o.at_ 2).trans rfl
 have z:=free_of_heap H1n.o.at_ 2
 refine Fall2.tree_last (by kernel_rfl) rfl (by kernel_rfl) (fun K hK=>?_)
 simp only[pickL,nth]
 refine wpOne_one ?_
 go_simp
 obtain⟨s2,hs⟩:∃ s,s=s1.setCell ⟨b1,2,none⟩ (.slice x2 n2 k2):=⟨_,rfl⟩
 have H2n:=zq (show HeapBox s2 b1 L (.slice x1 n1 k1) (.slice x2 n2 k2) (.slice a3 n3 c3) (.slice a4 n4 c4) (.slice a5 n5 c5) (.slice a6 n6 c6) (.slice a7 n7 c7) (.slice a8 n8 c8) from by rw[hs];exact H1n.o.set 2 _ rfl)
 have N2:=zq (show Mod (fun k=>k=b1) u4 s2 from by rw[hs];exact N1.o.setCell _ (fun _=>rfl))
 rw[<- hs]
 refine hK _ _ ?_
 clear hK hs g z
 refine Fall2.tree_still [16] (by kernel_rfl) ?_
 simp only[pickL,nth]
 repeat (go_big_quiet_step (fail))
 refine wpQuiet_nil ?_
 have g:s2.cell? ⟨b1,3,none⟩=some (.slice a3 n3 c3):=(cell_of_heap H2n.o.at_ 3).trans rfl
 have z:=free_of_heap H2n.o.at_ 3
 refine Fall2.tree_last (by kernel_rfl) rfl (by kernel_rfl) (fun K hK=>?_)
 simp only[pickL,nth]
 refine wpOne_one ?_
 go_simp
 obtain⟨s3,hs⟩:∃ s,s=s2.setCell ⟨b1,3,none⟩ (.slice x3 n3 k3):=⟨_,rfl⟩
 have H3n:=zq (show HeapBox s3 b1 L (.slice x1 n1 k1) (.slice x2 n2 k2) (.slice x3 n3 k3) (.slice a4 n4 c4) (.slice a5 n5 c5) (.slice a6 n6 c6) (.slice a7 n7 c7) (.slice a8 n8 c8) from by rw[hs];exact H2n.o.set 3 _ rfl)
 have N3:=zq (show Mod (fun k=>k=b1) u4 s3 from by rw[hs];exact N2.o.setCell _ (fun _=>rfl))
 rw[<- hs]
 refine hK _ _ ?_
 clear hK hs g z
 refine Fall2.tree_still [18] (by kernel_rfl) ?_
 simp only[pickL,nth]
 repeat (go_big_quiet_step (fail))
 refine wpQuiet_nil ?_
 have g:s3.cell? ⟨b1,4,none⟩=some (.slice a4 n4 c4):=(cell_of_heap H3n.o.at_ 4).trans rfl
 have z:=free_of_heap H3n.o.at_ 4
 refine Fall2.tree_last (by kernel_rfl) rfl (by kernel_rfl) (fun K hK=>?_)
 simp only[pickL,nth]
 refine wpOne_one ?_
 go_simp
 obtain⟨s4,hs⟩:∃ s,s=s3.setCell ⟨b1,4,none⟩ (.slice x4 n4 k4):=⟨_,rfl⟩
 have H4n:=zq (show HeapBox s4 b1 L (.slice x1 n1 k1) (.slice x2 n2 k2) (.slice x3 n3 k3) (.slice x4 n4 k4) (.slice a5 n5 c5) (.slice a6 n6 c6) (.slice a7 n7 c7) (.slice a8 n8 c8) from by rw[hs];exact H3n.o.set 4 _ rfl)
 have N4:=zq (show Mod (fun k=>k=b1) u4 s4 from by rw[hs];exact N3.o.setCell _ (fun _=>rfl))
 rw[<- hs]
 refine hK _ _ ?_
 clear hK hs g z
 refine Fall2.tree_nil ?_
 have Z5:=zq (show Below w.heap.size w s4 /\ Mod (fun k=>k=b1) W0 s4 from by
  have m:=(((Mod.of_below B4.o).mono (T:=fun k=>k=b1) (fun _ _ h=>h.elim)).trans N4.o (fun _ _ h=>h))
  exact⟨((Mod.of_below BW.o).trans m (fun k hk h=>by have:=RL.o;omega)).toBelow,m⟩)
 have O1:=zq (O1.o.mod N4.o (fun k hk e=>by have h1:=(O1.o.lt k hk).1;have:=RL.o;omega))
 have O2:=zq (O2.o.mod N4.o (fun k hk e=>by have h1:=(O2.o.lt k hk).1;have:=RL.o;omega))
 have O3:=zq (O3.o.mod N4.o (fun k hk e=>by have h1:=(O3.o.lt k hk).1;have:=RL.o;omega))
 have O4:=zq (O4.o.mod N4.o (fun k hk e=>by have h1:=(O4.o.lt k hk).1;have:=RL.o;omega))
 have SP:=zq (P4.o.more N4.o.size)
 have HX:=zq H4n.o
 have BW:=zq Z5.o.1
 have RB:=zq (show R0 <= s4.heap.size from Nat.le_trans RB.o Z5.o.2.size)
 go_upto_region 2 with (fail)
 obtain⟨W1,hW1⟩:∃ W,W=s4:=⟨_,rfl⟩
 rw[<- hW1] at O1 O2 O3 O4 SP HX BW RB Z5 ⊢
 clear hW1
 have D1:=zq (show Mod (fun _=>False) W1 W1.drew from (Mod.refl (fun _=>False) W1).drew)
 have O1:=zq (O1.o.mod D1.o (fun _ _ h=>h))
 have O2:=zq (O2.o.mod D1.o (fun _ _ h=>h))
 have O3:=zq (O3.o.mod D1.o (fun _ _ h=>h))
 have O4:=zq (O4.o.mod D1.o (fun _ _ h=>h))
 have D0:=zq (show Below W1.heap.size W1 W1.drew from ((Mod.refl (fun _=>False) W1).drew).toBelow)
 have y5:W1.cell? ⟨b1,5,none⟩=some (.slice a5 n5 c5):=(cell_of_heap HX.o.at_ 5).trans rfl
 have y6:∀ z:Cls (fun W=>Below W1.heap.size W1 W),z.w.cell? ⟨b1,6,none⟩=some (.slice a6 n6 c6):=fun z=>(cell_of_heap ((HX.o.mod (Mod.of_below z.ok) (fun h=>h)).at_) 6).trans rfl
 have y7:∀ z:Cls (fun W=>Below W1.heap.size W1 W),z.w.cell? ⟨b1,7,none⟩=some (.slice a7 n7 c7):=fun z=>(cell_of_heap ((HX.o.mod (Mod.of_below z.ok) (fun h=>h)).at_) 7).trans rfl
 have y8:∀ z:Cls (fun W=>Below W1.heap.size W1 W),z.w.cell? ⟨b1,8,none⟩=some (.slice a8 n8 c8):=fun z=>(cell_of_heap ((HX.o.mod (Mod.of_below z.ok) (fun h=>h)).at_) 8).trans rfl
 refine Fall2.wp_region_tree (C:=fun w'=>∃ z:Cls (fun W=>Below W1.heap.size W1 W),w'=z.w) [2,5,8,11,13,15,17,19] [3,4,6,7,9,10,12] (.step 0 (.step 1 (.step 3 (.step 4 (.step 6 (.step 7 (.step 9 (.step 10 (.step 2 (.step 12 (.step 5 (.step 8 (.step 11 (.step 13 (.step 14 (.step 15 (.step 16 (.step 17 (.step 18 (.step 19 .leaf)))))))))))))))))))) (fun _ _ _=>False) (by kernel_rfl) (fun _ _ _ h=>h.elim) (by kernel_rfl) ⟨⟨W1.drew,D0.o⟩,rfl⟩ ?_
 haveI ne:Nonempty (Cls (fun W=>Below W1.heap.size W1 W)):=⟨⟨W1,Below.refl _ _⟩⟩
 refine Fall2.tree_still [0,1] (by kernel_rfl) ?_
 simp only[pickL,nth]
 repeat (go_big_quiet_step (fail))
 refine wpQuiet_nil ?_
 refine Fall2.tree_pure [3,4,6,7,9,10] (by kernel_rfl) ?_
 simp only[pickL,nth]
 repeat (go_big_quiet_step (fail))
 refine wpQuiet_nil ?_
 clear y5 y6 y7 y8
 refine Fall2.tree_eff (by kernel_rfl) rfl (fun K hK=>?_)
 simp only[pickL,nth]
 refine wpOne_one ?_
 go_simp
 refine (G5.o _ (BW.o.trans (D0.o.mono BW.o.size))).mono ?_
 rintro e u5 ⟨v,rfl,ho,hbb⟩
 obtain⟨x5,k5,rfl,_⟩:=ho.form
 rw[<- LN5.o] at ho ⊢
 have B5:=zq (show Below W1.heap.size W1 u5 from D0.o.trans (hbb.mono D0.o.size))
 have P5:=zq (show SepAt u5 R0 ([(.slice x1 n1 k1),(.slice x2 n2 k2),(.slice x3 n3 k3),(.slice x4 n4 k4),(.slice x5 n5 k5)]) from SepAt.add (SP.o.more (Nat.le_refl _)) ho (Nat.le_trans RB.o D0.o.size) hbb.size)
 have O5:=zq (ho.base (B':=R0) (Nat.le_trans RB.o D0.o.size))
 have O1:=zq (O1.o.mod (Mod.of_below hbb) (fun _ _ h=>h))
 have O2:=zq (O2.o.mod (Mod.of_below hbb) (fun _ _ h=>h))
 have O3:=zq (O3.o.mod (Mod.of_below hbb) (fun _ _ h=>h))
 have O4:=zq (O4.o.mod (Mod.of_below hbb) (fun _ _ h=>h))
 clear ho hbb
 go_simp
 refine hK _ _ (fun _=>⟨⟨u5,B5.o⟩,rfl⟩) ?_
 clear hK
 refine Fall2.tree_pure [12] (by kernel_rfl) ?_
 simp only[pickL,nth]
 repeat (go_big_quiet_step (fail))
 refine wpQuiet_nil ?_
 refine Fall2.tree_eff (by kernel_rfl) rfl (fun K hK=>?_)
 simp only[pickL,nth]
 refine wpOne_one ?_
 go_simp
 refine (G6.o _ (BW.o.trans (B5.o.mono BW.o.size))).mono ?_
 rintro e u6 ⟨v,rfl,ho,hbb⟩
 obtain⟨x6,k6,rfl,_⟩:=ho.form
 rw[<- LN6.o] at ho ⊢
 have B6:=zq (show Below W1.heap.size W1 u6 from B5.o.trans (hbb.mono B5.o.size))
 have P6:=zq (show SepAt u6 R0 ([(.slice x1 n1 k1),(.slice x2 n2 k2),(.slice x3 n3 k3),(.slice x4 n4 k4),(.slice x5 n5 k5),(.slice x6 n6 k6)]) from SepAt.add (P5.o.more (Nat.le_refl _)) ho (Nat.le_trans RB.o B5.o.size) hbb.size)
 have O6:=zq (ho.base (B':=R0) (Nat.le_trans RB.o B5.o.size))
 have O1:=zq (O1.o.mod (Mod.of_below hbb) (fun _ _ h=>h))
 have O2:=zq (O2.o.mod (Mod.of_below hbb) (fun _ _ h=>h))
 have O3:=zq (O3.o.mod (Mod.of_below hbb) (fun _ _ h=>h))
 have O4:=zq (O4.o.mod (Mod.of_below hbb) (fun _ _ h=>h))
 have O5:=zq (O5.o.mod (Mod.of_below hbb) (fun _ _ h=>h))
 clear ho hbb
 go_simp
 refine hK _ _ (fun _=>⟨⟨u6,B6.o⟩,rfl⟩) ?_
 clear hK
 refine Fall2.tree_eff (by kernel_rfl) rfl (fun K hK=>?_)
 simp only[pickL,nth]
 refine wpOne_one ?_
 go_simp
 refine (G7.o _ (BW.o.trans (B6.o.mono BW.o.size))).mono ?_
 rintro e u7 ⟨v,rfl,ho,hbb⟩
 obtain⟨x7,k7,rfl,_⟩:=ho.form
 rw[<- LN7.o] at ho ⊢
 have B7:=zq (show Below W1.heap.size W1 u7 from B6.o.trans (hbb.mono B6.o.size))
 have P7:=zq (show SepAt u7 R0 ([(.slice x1 n1 k1),(.slice x2 n2 k2),(.slice x3 n3 k3),(.slice x4 n4 k4),(.slice x5 n5 k5),(.slice x6 n6 k6),(.slice x7 n7 k7)]) from SepAt.add (P6.o.more (Nat.le_refl _)) ho (Nat.le_trans RB.o B6.o.size) hbb.size)
 have O7:=zq (ho.base (B':=R0) (Nat.le_trans RB.o B6.o.size))
 have O1:=zq (O1.o.mod (Mod.of_below hbb) (fun _ _ h=>h))
 have O2:=zq (O2.o.mod (Mod.of_below hbb) (fun _ _ h=>h))
 have O3:=zq (O3.o.mod (Mod.of_below hbb) (fun _ _ h=>h))
 have O4:=zq (O4.o.mod (Mod.of_below hbb) (fun _ _ h=>h))
 have O5:=zq (O5.o.mod (Mod.of_below hbb) (fun _ _ h=>h))
 have O6:=zq (O6.o.mod (Mod.of_below hbb) (fun _ _ h=>h))
 clear ho hbb
 go_simp
 refine hK _ _ (fun _=>⟨⟨u7,B7.o⟩,rfl⟩) ?_
 clear hK
 refine Fall2.tree_eff (by kernel_rfl) rfl (fun K hK=>?_)
 simp only[pickL,nth]
 refine wpOne_one ?_
 go_simp
 refine (G8.o _ (BW.o.trans (B7.o.mono BW.o.size))).mono ?_
 rintro e u8 ⟨v,rfl,ho,hbb⟩
 obtain⟨x8,k8,rfl,_⟩:=ho.form
 rw[<- LN8.o] at ho ⊢
 have B8:=zq (show Below W1.heap.size W1 u8 from B7.o.trans (hbb.mono B7.o.size))
 have P8:=zq (show SepAt u8 R0 ([(.slice x1 n1 k1),(.slice x2 n2 k2),(.slice x3 n3 k3),(.slice x4 n4 k4),(.slice x5 n5 k5),(.slice x6 n6 k6),(.slice x7 n7 k7),(.slice x8 n8 k8)]) from SepAt.add (P7.o.more (Nat.le_refl _)) ho (Nat.le_trans RB.o B7.o.size) hbb.size)
 have O8:=zq (ho.base (B':=R0) (Nat.le_trans RB.o B7.o.size))
 have O1:=zq (O1.o.mod (Mod.of_below hbb) (fun _ _ h=>h))
 have O2:=zq (O2.o.mod (Mod.of_below hbb) (fun _ _ h=>h))
 have O3:=zq (O3.o.mod (Mod.of_below hbb) (fun _ _ h=>h))
 have O4:=zq (O4.o.mod (Mod.of_below hbb) (fun _ _ h=>h))
 have O5:=zq (O5.o.mod (Mod.of_below hbb) (fun _ _ h=>h))
 have O6:=zq (O6.o.mod (Mod.of_below hbb) (fun _ _ h=>h))
 have O7:=zq (O7.o.mod (Mod.of_below hbb) (fun _ _ h=>h))
 clear ho hbb
 go_simp
 refine hK _ _ (fun _=>⟨⟨u8,B8.o⟩,rfl⟩) ?_
 clear hK
 have H50:=zq (show HeapBox u8 b1 L (.slice x1 n1 k1) (.slice x2 n2 k2) (.slice x3 n3 k3) (.slice x4 n4 k4) (.slice a5 n5 c5) (.slice a6 n6 c6) (.slice a7 n7 c7) (.slice a8 n8 c8) from HX.o.mod (Mod.of_below B8.o) (fun h=>h))
 have g:u8.cell? ⟨b1,5,none⟩=some (.slice a5 n5 c5):=(cell_of_heap H50.o.at_ 5).trans rfl
 have z:=free_of_heap H50.o.at_ 5
 refine Fall2.tree_last (by kernel_rfl) rfl (by kernel_rfl) (fun K hK=>?_)
 simp only[pickL,nth]
 refine wpOne_one ?_
 go_simp
 obtain⟨s5,hs⟩:∃ s,s=u8.setCell ⟨b1,5,none⟩ (.slice x5 n5 k5):=⟨_,rfl⟩
 have H5n:=zq (show HeapBox s5 b1 L (.slice x1 n1 k1) (.slice x2 n2 k2) (.slice x3 n3 k3) (.slice x4 n4 k4) (.slice x5 n5 k5) (.slice a6 n6 c6) (.slice a7 n7 c7) (.slice a8 n8 c8) from by rw[hs];exact H50.o.set 5 _ rfl)
 have N5:=zq (show Mod (fun k=>k=b1) u8 s5 from by rw[hs];exact (Mod.refl (fun k=>k=b1) u8).setCell _ (fun _=>rfl))
 rw[<- hs]
 refine hK _ _ ?_
 clear hK hs g z
 refine Fall2.tree_still [14] (by kernel_rfl) ?_
 simp only[pickL,nth]
 repeat (go_big_quiet_step (fail))
 refine wpQuiet_nil ?_
 have g:s5.cell? ⟨b1,6,none⟩=some (.slice a6 n6 c6):=(cell_of_heap H5n.o.at_ 6).trans rfl
 have z:=free_of_heap H5n.o.at_ 6
 refine Fall2.tree_last (by kernel_rfl) rfl (by kernel_rfl) (fun K hK=>?_)
 simp only[pickL,nth]
 refine wpOne_one ?_
 go_simp
 obtain⟨s6,hs⟩:∃ s,s=s5.setCell ⟨b1,6,none⟩ (.slice x6 n6 k6):=⟨_,rfl⟩
 have H6n:=zq (show HeapBox s6 b1 L (.slice x1 n1 k1) (.slice x2 n2 k2) (.slice x3 n3 k3) (.slice x4 n4 k4) (.slice x5 n5 k5) (.slice x6 n6 k6) (.slice a7 n7 c7) (.slice a8 n8 c8) from by rw[hs];exact H5n.o.set 6 _ rfl)
 have N6:=zq (show Mod (fun k=>k=b1) u8 s6 from by rw[hs];exact N5.o.setCell _ (fun _=>rfl))
 rw[<- hs]
 refine hK _ _ ?_
 clear hK hs g z
 refine Fall2.tree_still [16] (by kernel_rfl) ?_
 simp only[pickL,nth]
 repeat (go_big_quiet_step (fail))
 refine wpQuiet_nil ?_
 have g:s6.cell? ⟨b1,7,none⟩=some (.slice a7 n7 c7):=(cell_of_heap H6n.o.at_ 7).trans rfl
 have z:=free_of_heap H6n.o.at_ 7
 refine Fall2.tree_last (by kernel_rfl) rfl (by kernel_rfl) (fun K hK=>?_)
 simp only[pickL,nth]
 refine wpOne_one ?_
 go_simp
 obtain⟨s7,hs⟩:∃ s,s=s6.setCell ⟨b1,7,none⟩ (.slice x7 n7 k7):=⟨_,rfl⟩
 have H7n:=zq (show HeapBox s7 b1 L (.slice x1 n1 k1) (.slice x2 n2 k2) (.slice x3 n3 k3) (.slice x4 n4 k4) (.slice x5 n5 k5) (.slice x6 n6 k6) (.slice x7 n7 k7) (.slice a8 n8 c8) from by rw[hs];exact H6n.o.set 7 _ rfl)
 have N7:=zq (show Mod (fun k=>k=b1) u8 s7 from by rw[hs];exact N6.o.setCell _ (fun _=>rfl))
 rw[<- hs]
 refine hK _ _ ?_
 clear hK hs g z
 refine Fall2.tree_still [18] (by kernel_rfl) ?_
 simp only[pickL,nth]
 repeat (go_big_quiet_step (fail))
 refine wpQuiet_nil ?_
 have g:s7.cell? ⟨b1,8,none⟩=some (.slice a8 n8 c8):=(cell_of_heap H7n.o.at_ 8).trans rfl
 have z:=free_of_heap H7n.o.at_ 8
 refine Fall2.tree_last (by kernel_rfl) rfl (by kernel_rfl) (fun K hK=>?_)
 simp only[pickL,nth]
 refine wpOne_one ?_
 go_simp
 obtain⟨s8,hs⟩:∃ s,s=s7.setCell ⟨b1,8,none⟩ (.slice x8 n8 k8):=⟨_,rfl⟩
 have H8n:=zq (show HeapBox s8 b1 L (.slice x1 n1 k1) (.slice x2 n2 k2) (.slice x3 n3 k3) (.slice x4 n4 k4) (.slice x5 n5 k5) (.slice x6 n6 k6) (.slice x7 n7 k7) (.slice x8 n8 k8) from by rw[hs];exact H7n.o.set 8 _ rfl)
 have N8:=zq (show Mod (fun k=>k=b1) u8 s8 from by rw[hs];exact N7.o.setCell _ (fun _=>rfl))
 rw[<- hs]
 refine hK _ _ ?_
 clear hK hs g z
 refine Fall2.tree_nil ?_
 have Z9:=zq (show Below w.heap.size w s8 /\ Mod (fun k=>k=b1) W1 s8 from by
  have m:=(((Mod.of_below B8.o).mono (T:=fun k=>k=b1) (fun _ _ h=>h.elim)).trans N8.o (fun _ _ h=>h))
  exact⟨((Mod.of_below BW.o).trans m (fun k hk h=>by have:=RL.o;omega)).toBelow,m⟩)
 have O1:=zq (O1.o.mod N8.o (fun k hk e=>by have h1:=(O1.o.lt k hk).1;have:=RL.o;omega))
 have O2:=zq (O2.o.mod N8.o (fun k hk e=>by have h1:=(O2.o.lt k hk).1;have:=RL.o;omega))
 have O3:=zq (O3.o.mod N8.o (fun k hk e=>by have h1:=(O3.o.lt k hk).1;have:=RL.o;omega))
 have O4:=zq (O4.o.mod N8.o (fun k hk e=>by have h1:=(O4.o.lt k hk).1;have:=RL.o;omega))
 have O5:=zq (O5.o.mod N8.o (fun k hk e=>by have h1:=(O5.o.lt k hk).1;have:=RL.o;omega))
 have O6:=zq (O6.o.mod N8.o (fun k hk e=>by have h1:=(O6.o.lt k hk).1;have:=RL.o;omega))
 have O7:=zq (O7.o.mod N8.o (fun k hk e=>by have h1:=(O7.o.lt k hk).1;have:=RL.o;omega))
 have O8:=zq (O8.o.mod N8.o (fun k hk e=>by have h1:=(O8.o.lt k hk).1;have:=RL.o;omega))
 have SP:=zq (P8.o.more N8.o.size)
 have HX:=zq H8n.o
 have BW:=zq Z9.o.1
 have RB:=zq (show R0 <= s8.heap.size from Nat.le_trans RB.o Z9.o.2.size)
 have HV:=zq (show L.accts=V.ac.map (·.1) /\ (∀ u∈L.unders,u.name.size <= maxLen) /\ (∀ a∈L.accts,∀ x∈a.cash,-9223372036854775808 <= x /\ x <= 9223372036854775807) from HL.o.2)
 have CP:=zq (show CpAt w R0 b1 b2 L ⟨(.slice x1 n1 k1),(.slice x2 n2 k2),(.slice x3 n3 k3),(.slice x4 n4 k4),(.slice x5 n5 k5),(.slice x6 n6 k6),(.slice x7 n7 k7),(.slice x8 n8 k8),V.ac⟩ V.ac V.ac 0 s8 from
  ⟨BW.o,RB.o,HX.o,Z9.o.2.heap (Z5.o.2.heap X0.o.2.2.1 (fun h=>by have:=RL.o;omega)) (fun h=>by have:=RL.o;omega),O1.o,O2.o,O3.o,O5.o,O6.o,O7.o,O8.o,O4.o,rfl,fun _ _=>rfl,fun i p hi=>by omega,by
   have:=SP.o
   simpa using this⟩)
 clear O1 O2 O3 O4 O5 O6 O7 O8 SP HX BW RB Z5 Z9 X0 D0 D1 B1 B2 B3 B4 B5 B6 B7 B8 P1 P2 P3 P4 P5 P6 P7 P8 N1 N2 N3 N4 N5 N6 N7 N8 H10 H1n H2n H3n H4n H50 H5n H6n H7n H8n G1 G2 G3 G4 G5 G6 G8
 have y4:s8.cell? ⟨b1,4,none⟩=some (.slice x4 n4 k4):=(cell_of_heap CP.o.box.at_ 4).trans rfl
 go_wp2_with fail
 go_loopw [39] (fun i wr=>∃ k:Nat,k <= n4 /\ i=.int .i64 k /\ ∃ ac' W,W=wr /\ Hid (CpAt w R0 b1 b2 L ⟨(.slice x1 n1 k1),(.slice x2 n2 k2),(.slice x3 n3 k3),(.slice x4 n4 k4),(.slice x5 n5 k5),(.slice x6 n6 k6),(.slice x7 n7 k7),(.slice x8 n8 k8),V.ac⟩ V.ac ac' k W)) (fun i _=>n4 - (intOf i).toNat)
 case atStart=>exact⟨0,Nat.zero_le _,rfl,V.ac,_,rfl,CP⟩
 case round =>
  clear CP y4
  obtain⟨k,hk,rfl,ac',W,rfl,CP⟩:=hrel
  by_cases hlt:k<n4
  ·have hlt':(k:Int)<(n4:Int):=by omega
   have LT:=zq hlt
   have LA:=zq (show ac'.length=n4 from by have h1:=congrArg List.length CP.o.same;have:=LN4.o;have:=AL.o;simp at h1;omega)
   obtain⟨p,hp⟩:∃ p,ac'[k]?=some p:=⟨_,List.getElem?_eq_getElem (by rw[LA.o];exact hlt)⟩
   obtain⟨g,c,hv,hgc,hgB,hgl,hfr⟩:=CP.o.accts.block hp
   obtain rfl:x4=some ⟨g,0,none⟩:=by injection hv
   have hp0:V.ac[k]?=some p:=(CP.o.rest k (Nat.le_refl k)).symm.trans hp
   have CR:=zq ((CH.o p (List.mem_of_getElem? hp0)).below CP.o.below)
   have CN:=zq (CA.o p.1 (by rw[HV.o.1];exact List.mem_map.2 ⟨p,List.mem_of_getElem? hp0,rfl⟩))
   obtain⟨va,vn,vc,hpv⟩:=CS.o p (List.mem_of_getElem? hp0)
   obtain⟨pa,pv⟩:=p
   obtain rfl:pv=.slice va vn vc:=hpv
   obtain⟨b,o,e,hbl,hc⟩:=(CP.o.accts.row acccells_len (by decide)).at_ hp
   have cc:=hc 1 (.slice va vn vc) rfl
   cases e
   rw[Nat.zero_add] at cc
   have HP:=zq hp
   have HVV:=zq hv
   have FR:=zq hfr
   clear hp hp0 hv hgc hbl hc hfr
   have yl:W.cell? ⟨b1,4,none⟩=some (.slice (some ⟨g,0,none⟩) n4 k4):=(cell_of_heap CP.o.box.at_ 4).trans rfl
   go_upto_region 6 with (fail)
   have DW:=zq (show Below W.heap.size W W.drew from ((Mod.refl (fun _=>False) W).drew).toBelow)
   have yz:∀ z:Cls (fun w'=>Below W.heap.size W w'),z.w.cell? ⟨b1,4,none⟩=some (.slice (some ⟨g,0,none⟩) n4 k4):=fun z=>(cell_of_heap ((CP.o.box.mod (Mod.of_below z.ok) (fun h=>h)).at_) 4).trans rfl
   refine Fall2.wp_region_tree (C:=fun w'=>∃ z:Cls (fun w'=>Below W.heap.size W w'),w'=z.w) [9,12] [0,1,2] (.step 0 (.step 1 (.step 2 (.step 3 (.step 4 (.step 5 (.step 6 (.step 7 (.step 8 (.step 9 (.step 10 (.step 11 (.step 12 .leaf))))))))))))) (fun _ _ _=>False) (by kernel_rfl) (fun _ _ _ h=>h.elim) (by kernel_rfl) ⟨⟨W.drew,DW.o⟩,rfl⟩ ?_
   haveI ne:Nonempty (Cls (fun w'=>Below W.heap.size W w')):=⟨⟨W,Below.refl _ _⟩⟩
   refine Fall2.tree_pure [0,1,2] (by kernel_rfl) ?_
   simp only[pickL,nth]
   repeat (go_big_quiet_step (fail))
   refine wpQuiet_nil ?_
   clear yz
   refine Fall2.tree_still [3,4,5,6,7,8] (by kernel_rfl) ?_
   simp only[pickL,nth]
   repeat (go_big_quiet_step (fail))
   refine wpQuiet_nil ?_
   clear yl cc
   refine Fall2.tree_eff (by kernel_rfl) rfl (fun K hK=>?_)
   simp only[pickL,nth]
   refine wpOne_one ?_
   go_simp
   refine (clone_int W.drew _ _ (CR.o.below DW.o) (fun x hx u hu=>by simp[icell] at hu;subst hu;rfl) CN.o).mono ?_
   rintro e u ⟨v,rfl,ho,hbb⟩
   obtain⟨xx,kx,rfl,_⟩:=ho.form
   have BU:=zq (show Below W.heap.size W u from DW.o.trans (hbb.mono DW.o.size))
   have HO:=zq ho
   have HBB:=zq hbb
   clear ho hbb
   go_simp
   refine hK _ _ (fun _=>⟨⟨u,BU.o⟩,rfl⟩) ?_
   clear hK
   refine Fall2.tree_still [10,11] (by kernel_rfl) ?_
   simp only[pickL,nth]
   repeat (go_big_quiet_step (fail))
   refine wpQuiet_nil ?_
   obtain⟨g2,c2',hv2,_,_,_,hfr2⟩:=(CP.o.go (Mod.of_below BU.o)).accts.block HP.o
   obtain rfl:g=g2:=by rw[HVV.o] at hv2;injection hv2 with e _ _;injection e with e;injection e
   obtain⟨b',o',e',_,hc2⟩:=((CP.o.go (Mod.of_below BU.o)).accts.row acccells_len (by decide)).at_ HP.o
   have cc:=hc2 1 (.slice va vn vc) rfl
   cases e'
   rw[Nat.zero_add] at cc
   have z:=hfr2 (k*4+1)
   refine Fall2.tree_last (by kernel_rfl) rfl (by kernel_rfl) (fun K hK=>?_)
   simp only[pickL,nth]
   refine wpOne_one ?_
   go_simp
   refine hK _ _ ?_
   clear hK hc2 hv2 hfr2
   refine Fall2.tree_nil ?_
   have CQ:=zq (CP.o.put HP.o HVV.o BU.o (HO.o.base (show W.heap.size <= W.drew.heap.size from DW.o.size)) (by have:=RL.o;omega))
   go_wp2_with fail
   go_roundw
   case rel=>exact⟨k+1,by have:=LT.o;omega,by go_num,_,_,rfl,CQ⟩
   case measure=>have:=LT.o;simp[intOf];omega
  ·have hlt':¬ (k:Int)<(n4:Int):=by omega
   have LK:=zq (show k=V.ac.length from by have:=LN4.o;have:=AL.o;omega)
   have HB1:=zq CP.o.box.at_
   have HB2:=zq CP.o.res
   obtain⟨DD,hu,hd⟩:=led_under
   go_wp2_with (first|(refine wpList_load_row rfl 31 (.tmp 1) rfl b1 rfl 31 _ (0,0) DD HB1.o hu (by cases DD <;> first|rfl|exact hd) led_size ?_)|(refine wpList_store_row rfl 31 (.tmp 2) (.tmp 55) rfl b2 (boxL L (.slice x1 n1 k1) (.slice x2 n2 k2) (.slice x3 n3 k3) (.slice x4 n4 k4) (.slice x5 n5 k5) (.slice x6 n6 k6) (.slice x7 n7 k7) (.slice x8 n8 k8)) rfl rfl 31 _ HB2.o led_size rfl (boxL_one _ _ _ _ _ _ _ _ _ rfl rfl rfl rfl rfl rfl rfl rfl) ?_))
   have hg:(W.setRow b2 (boxL L (.slice x1 n1 k1) (.slice x2 n2 k2) (.slice x3 n3 k3) (.slice x4 n4 k4) (.slice x5 n5 k5) (.slice x6 n6 k6) (.slice x7 n7 k7) (.slice x8 n8 k8))).heap[b2]?=some (.cells (boxL L (.slice x1 n1 k1) (.slice x2 n2 k2) (.slice x3 n3 k3) (.slice x4 n4 k4) (.slice x5 n5 k5) (.slice x6 n6 k6) (.slice x7 n7 k7) (.slice x8 n8 k8)) 31 (0,0)):=setRow_heap _ _ _ _ _ _ HB2.o
   have DN:=CP.o
   rw[LK.o] at DN
   obtain⟨d1,d2⟩:=DN.done HV.o.1 HV.o.2.1 HV.o.2.2 (mod_setRow' (w:=W) b2 (boxL L (.slice x1 n1 k1) (.slice x2 n2 k2) (.slice x3 n3 k3) (.slice x4 n4 k4) (.slice x5 n5 k5) (.slice x6 n6 k6) (.slice x7 n7 k7) (.slice x8 n8 k8))) (by have:=RL.o;omega) (by have:=RL.o;omega)
   try simp only[Exit.inBlock,Exit.then]
   refine bodyPost_ret (v:=.agg (boxL L (.slice x1 n1 k1) (.slice x2 n2 k2) (.slice x3 n3 k3) (.slice x4 n4 k4) (.slice x5 n5 k5) (.slice x6 n6 k6) (.slice x7 n7 k7) (.slice x8 n8 k8))) ?_ ?_ ?_
   ·exact led_result copy_results _ (W.setRow b2 (boxL L (.slice x1 n1 k1) (.slice x2 n2 k2) (.slice x3 n3 k3) (.slice x4 n4 k4) (.slice x5 n5 k5) (.slice x6 n6 k6) (.slice x7 n7 k7) (.slice x8 n8 k8))) b2 31 (boxL L (.slice x1 n1 k1) (.slice x2 n2 k2) (.slice x3 n3 k3) (.slice x4 n4 k4) (.slice x5 n5 k5) (.slice x6 n6 k6) (.slice x7 n7 k7) (.slice x8 n8 k8)) (0,0) DD rfl hg hu (by cases DD <;> first|rfl|exact hd) led_size
   ·rfl
   ·unfold CopyOut
    exact⟨_,rfl,d1,d2⟩
end Go.Proofs.YtnkpdfjnjmmleaaGreatDoor
namespace Go.Proofs.YtnkpdfjnjmmleaaGreatDoor
open Go.RowKit Go.Bw
def flaggedL (L:Led) (ex:Int -> Int×Int) (k:Nat):List Acc:=L.accts.mapIdx fun i a=>if 2 <= i /\ i<k then { a with flag:=decide ((ex i).1<0) } else a
theorem flagged_at (L:Led) (ex:Int -> Int×Int) (k i:Nat):(flaggedL L ex k)[i]?=(L.accts[i]?).map fun a=>if 2 <= i /\ i<k then { a with flag:=decide ((ex i).1<0) } else a:=by
 simp[flaggedL,List.getElem?_mapIdx]
theorem flagged_len (L:Led) (ex:Int -> Int×Int) (k:Nat):(flaggedL L ex k).length=L.accts.length:=by simp[flaggedL]
theorem flagged_zero (L:Led) (ex:Int -> Int×Int):flaggedL L ex 0=L.accts:=by
 apply List.ext_getElem?
 intro i
 rw[flagged_at]
 simp
theorem flagged_low (L:Led) (ex:Int -> Int×Int) {k:Nat} (h:k<2):flaggedL L ex (k+1)=flaggedL L ex k:=by
 apply List.ext_getElem?
 intro i
 rw[flagged_at,flagged_at]
 congr 1
 funext a
 rw[if_neg (by omega),if_neg (by omega)]
theorem flagged_next (L:Led) (ex:Int -> Int×Int) {k:Nat} {a:Acc} (h:2 <= k) (ha:L.accts[k]?=some a):flaggedL L ex (k+1)=(flaggedL L ex k).set k { a with flag:=decide ((ex k).1<0) }:=by
 have hk:=(List.getElem?_eq_some_iff.1 ha).1
 apply List.ext_getElem?
 intro i
 by_cases e:k=i
 ·subst e
  rw[List.getElem?_set_self (by rw[flagged_len];exact hk),flagged_at,ha]
  simp[h]
 ·rw[List.getElem?_set_ne e,flagged_at,flagged_at]
  congr 1
  funext a
  by_cases hc:2 <= i /\ i<k
  ·rw[if_pos (by omega),if_pos hc]
  ·rw[if_neg (by omega),if_neg hc]
structure FlAt (w:World) (R0 b4:Nat) (L:Led) (ex:Int -> Int×Int) (v:LedV) (k:Nat) (W:World):Prop where
 below:Below w.heap.size w W
 own:∃ ac,LedOwn W R0 { v with ac:=ac } { L with accts:=flaggedL L ex k }
 box:HeapBox W b4 L v.curs v.unders v.instrs v.accts v.poss v.orders v.avail v.locs
 good:∀ i:Nat,2 <= i -> i<k -> (ex i).2=0
theorem FlAt.go {w W W':World} {R0 b4 k:Nat} {L:Led} {ex:Int -> Int×Int} {v:LedV} (h:FlAt w R0 b4 L ex v k W) (hb:Below W.heap.size W W'):FlAt w R0 b4 L ex v k W' :=
 ⟨((Mod.of_below h.below).trans (Mod.of_below hb) (fun k hk h=>h)).toBelow,h.own.imp fun ac o=>o.below hb,h.box.mod (Mod.of_below hb) (fun h=>h),h.good⟩
theorem FlAt.low {w W:World} {R0 b4 k:Nat} {L:Led} {ex:Int -> Int×Int} {v:LedV} (h:FlAt w R0 b4 L ex v k W) (hk:k<2):FlAt w R0 b4 L ex v (k+1) W :=
 ⟨h.below,by rw[flagged_low L ex hk];exact h.own,h.box,fun i h1 h2=>by omega⟩
theorem FlAt.put {w W:World} {R0 b4 k g c:Nat} {L:Led} {ex:Int -> Int×Int} {v:LedV} {a:Acc} (h:FlAt w R0 b4 L ex v k W) (h2:2 <= k) (ha:L.accts[k]?=some a) (he:(ex k).2=0) (hv:v.accts=.slice (some ⟨g,0,none⟩) L.accts.length c) (hg:R0 <= g) (hR:w.heap.size <= R0) (h4:b4<R0 \/ b4≠g) :
 FlAt w R0 b4 L ex v (k+1) (W.setCell ⟨g,k*4+2,none⟩ (.bool (decide ((ex k).1<0)))):=by
 obtain⟨ac,o⟩:=h.own
 have hs:flaggedL L ex k=ac.map (·.1):=o.same
 have hl:ac.length=L.accts.length:=by have:=congrArg List.length hs;rw[flagged_len] at this;simpa using this.symm
 have hk:=(List.getElem?_eq_some_iff.1 ha).1
 obtain⟨p,hp⟩:∃ p,ac[k]?=some p:=⟨_,List.getElem?_eq_getElem (by omega)⟩
 have hpa:p.1=a:=by
  have h1:=flagged_at L ex k k
  rw[hs,ha,List.getElem?_map,hp] at h1
  simpa using h1
 have A:=o.acct (p:=p) (p':=({ a with flag:=decide ((ex k).1<0) },p.2)) (k:=k) (j:=2) (g:=g) (c:=c) (u:=.bool (decide ((ex k).1<0))) (by show v.accts=_;rw[hv,hl]) hp (by omega) (by rw[<- hpa];rfl) rfl (by rw[<- hpa])
 refine⟨((Mod.of_below h.below).trans A.2 (fun j hj e=>by omega)).toBelow,⟨_,by rw[flagged_next L ex h2 ha];exact A.1⟩,h.box.mod A.2 (by omega),fun i h1 h3=>?_⟩
 by_cases e:i=k
 ·subst e;exact he
 ·exact h.good i h1 (by omega)
theorem flagsGo_all {L:Led} (f:Nat -> Int):∀ (bs:List Acc) (v:Nat),(∀ k,k<bs.length -> 2 <= v+k -> excessO L (v+k)=some (f (v+k))) ->
 flagsGo L v bs=some (bs.mapIdx fun k a=>if 2 <= v+k then { a with flag:=decide (f (v+k)<0) } else a)
 | [],v,_=>rfl
 | a::r,v,h=>by
   have ih:=flagsGo_all f r (v+1) (fun k hk h2=>by have:=h (k+1) (by simpa using hk) (by omega);rwa [show v+(k+1)=v+1+k by omega] at this)
   have e:(r.mapIdx fun k a=>if 2 <= v+1+k then ({ a with flag:=decide (f (v+1+k)<0) }:Acc) else a)=r.mapIdx (fun k a=>if 2 <= v+(k+1) then { a with flag:=decide (f (v+(k+1))<0) } else a):=by
    congr 1;funext k a;rw[show v+1+k=v+(k+1) by omega]
   unfold flagsGo
   rw[ih,e,List.mapIdx_cons]
   by_cases hv:v<2
   ·rw[if_pos hv,if_neg (by omega)];rfl
   ·have h0:=h 0 (by simp) (by omega)
    rw[Nat.add_zero] at h0
    rw[if_neg hv,h0,if_pos (by omega)];rfl
theorem flagsGo_none {L:Led}:∀ (bs:List Acc) (v k:Nat),k<bs.length -> 2 <= v+k -> excessO L (v+k)=none -> flagsGo L v bs=none
 | [],v,k,h,_,_=>by simp at h
 | a::r,v,0,h,h2,he=>by
   rw[Nat.add_zero] at he
   unfold flagsGo
   rw[if_neg (by omega),he];rfl
 | a::r,v,k+1,h,h2,he=>by
   have ih:=flagsGo_none r (v+1) k (by simpa using h) (by omega) (by rw[show v+1+k=v+(k+1) by omega];exact he)
   unfold flagsGo
   rw[ih]
   by_cases hv:v<2
   ·rw[if_pos hv];rfl
   ·rw[if_neg hv];cases excessO L v <;> rfl
theorem ansA_in {L:Led} (hg:L.Good) {i:Nat} (hi:i<L.accts.length) (r:Int×Int):ansA L (i:Int) r=r:=ansA_ok hg (by omega)
theorem retA_ok {o:Option Int} (h:(retA o).2=0):o=some (retA o).1:=by cases o with
 | none=>cases h
 | some x=>rfl
theorem retA_bad {o:Option Int} (h:(retA o).2≠0):o=none /\ retA o=(0,4):=by cases o with
 | none=>exact⟨rfl,rfl⟩
 | some x=>exact absurd rfl h
theorem flags_some {L:Led} (hg:L.Good) {ex:Int -> Int×Int} (hex:∀ a:Int,ex a=ansA L a (retA (excessO L a.toNat))) (h:∀ i:Nat,2 <= i -> i<L.accts.length -> (ex i).2=0) :
 flagsO L=some { L with accts:=flaggedL L ex L.accts.length }:=by
 have hx:∀ i:Nat,i<L.accts.length -> ex i=retA (excessO L i):=fun i hi=>by rw[hex,ansA_in hg hi];rfl
 unfold flagsO
 rw[flagsGo_all (fun k=>(ex k).1) L.accts 0 (fun k hk h2=>by
  rw[Nat.zero_add] at h2 ⊢
  have:=h k h2 hk
  rw[hx k hk] at this ⊢
  exact retA_ok this)]
 show some _=some _
 congr 2
 unfold flaggedL
 apply List.ext_getElem?
 intro i
 rw[List.getElem?_mapIdx,List.getElem?_mapIdx]
 by_cases hi:i<L.accts.length
 ·congr 1;funext a;rw[Nat.zero_add]
  by_cases h2:2 <= i
  ·rw[if_pos h2,if_pos ⟨h2,hi⟩]
  ·rw[if_neg h2,if_neg (fun h=>h2 h.1)]
 ·rw[List.getElem?_eq_none (by omega)];rfl
theorem flags_none {L:Led} (hg:L.Good) {ex:Int -> Int×Int} (hex:∀ a:Int,ex a=ansA L a (retA (excessO L a.toNat))) {i:Nat} (h2:2 <= i) (hi:i<L.accts.length) (h:(ex i).2≠0) :
 flagsO L=none /\ (ex i).2=4:=by
 rw[hex,ansA_in hg hi] at h ⊢
 obtain⟨e1,e2⟩:=retA_bad h
 refine⟨?_,by rw[e2]⟩
 unfold flagsO
 rw[flagsGo_none L.accts 0 i hi (by omega) (by rw[Nat.zero_add];exact e1)]
 rfl
def led0:Array Value:=#[.int .i64 0,.slice none 0 0,.slice none 0 0,.slice none 0 0,.slice none 0 0,.slice none 0 0,.slice none 0 0,.slice none 0 0,.slice none 0 0]
def FlagsOut (w:World) (L:Led) (e:Ending) (w':World):Prop :=
 ((¬ L.Good /\ e=.returned (.tuple #[.agg led0,.int .i64 43])) \/ (L.Good /\ flagsO L=none /\ e=.returned (.tuple #[.agg led0,.int .i64 4])) \/
   (L.Good /\ ∃ m V,flagsO L=some m /\ e=.returned (.tuple #[V.val m,.int .i64 0]) /\ LedOwn w' w.heap.size V m)) /\ Below w.heap.size w w'
end Go.Proofs.YtnkpdfjnjmmleaaGreatDoor
namespace Go.Bw
open Go.RowKit
structure At (w W:World) (bs:List (Nat×TypeId×Array Value)):Prop where
 low:Below w.heap.size w W
 has:∀ x∈bs,W.heap[x.1]?=some (.cells x.2.2 x.2.1 (0,0))
 new:∀ x∈bs,w.heap.size <= x.1
 nod:(bs.map (·.1)).Nodup
variable {w W W':World} {bs:List (Nat×TypeId×Array Value)} {b:Nat} {T:TypeId} {cs:Array Value}
theorem At.start (w:World):At w w []:=⟨Below.refl _ _,by simp,by simp,by simp⟩
theorem At.get (h:At w W bs) (i:Nat) (hi:bs[i]?=some (b,T,cs)):W.heap[b]?=some (.cells cs T (0,0)):=h.has _ (List.mem_of_getElem? hi)
theorem At.cell (h:At w W bs) (i:Nat) (hi:bs[i]?=some (b,T,cs)) (o:Nat) {v:Value} (ho:cs[o]?=some v):W.cell? ⟨b,o,none⟩=some v:=(cell_of_heap (h.get i hi) o).trans ho
theorem At.free (h:At w W bs) (i:Nat) (hi:bs[i]?=some (b,T,cs)) (o:Nat):W.frozen? ⟨b,o,none⟩=false:=free_of_heap (h.get i hi) o
theorem At.lt (h:At w W bs):∀ x∈bs,x.1<W.heap.size:=fun x hx=>lt_of_heap (h.has x hx)
theorem At.mod {S:Nat -> Prop} (h:At w W bs) (hm:Mod S W W') (h1:∀ k,S k -> w.heap.size <= k) (h2:∀ x∈bs,¬ S x.1):At w W' bs :=
 ⟨((Mod.of_below h.low).trans hm (fun i hi hs=>absurd (h1 i hs) (by omega))).toBelow,fun x hx=>hm.heap (h.has x hx) (h2 x hx),h.new,h.nod⟩
theorem At.go (h:At w W bs) (hb:Below W.heap.size W W'):At w W' bs:=h.mod (Mod.of_below hb) (fun _ h=>h.elim) (fun _ _ h=>h)
theorem At.drew (h:At w W bs):At w W.drew bs:=h.go ((Mod.refl (fun _=>False) W).drew).toBelow
theorem At.alloc (h:At w W bs) (T:TypeId) (cs:Array Value):At w (W.alloc (.cells cs T)) (bs++[(W.heap.size,T,cs)]):=by
 have hm:=(Mod.refl (fun _=>False) W).alloc (.cells cs T)
 refine⟨(h.go hm.toBelow).low,fun x hx=>?_,fun x hx=>?_,?_⟩
 ·rcases List.mem_append.1 hx with hx|hx
  ·exact hm.heap (h.has x hx) (fun h=>h)
  ·obtain rfl:=List.mem_singleton.1 hx;exact heap_alloc_new W _
 ·rcases List.mem_append.1 hx with hx|hx
  ·exact h.new x hx
  ·obtain rfl:=List.mem_singleton.1 hx;exact h.low.size
 ·rw[List.map_append,List.nodup_append]
  refine⟨h.nod,by simp,fun a ha c hc=>?_⟩
  obtain⟨x,hx,rfl⟩:=List.mem_map.1 ha
  simp at hc
  have:=h.lt x hx
  omega
theorem nodup_set {bs:List (Nat×TypeId×Array Value)} {i:Nat} (hi:bs[i]?=some (b,T,cs)) (cs':Array Value):(bs.set i (b,T,cs')).map (·.1)=bs.map (·.1):=by
 rw[List.map_set]
 apply List.ext_getElem?
 intro k
 rw[List.getElem?_set]
 by_cases e:i=k
 ·subst e
  have:=(List.getElem?_eq_some_iff.1 hi).1
  simp[this,hi]
  rw[(List.getElem?_eq_some_iff.1 hi).2]
 ·simp[e]
theorem At.change (h:At w W bs) (i:Nat) (hi:bs[i]?=some (b,T,cs)) (cs':Array Value) (hm:Mod (fun k=>k=b) W W') (hh:W'.heap[b]?=some (.cells cs' T (0,0))):At w W' (bs.set i (b,T,cs')):=by
 have hb:=h.new _ (List.mem_of_getElem? hi)
 refine⟨((Mod.of_below h.low).trans hm (fun k hk e=>by subst e;exact absurd hb (Nat.not_le.2 hk))).toBelow,fun x hx=>?_,fun x hx=>?_,by rw[nodup_set hi];exact h.nod⟩
 ·obtain⟨k,hk,e⟩:=List.mem_iff_getElem.1 hx
  rw[List.getElem_set] at e
  rw[List.length_set] at hk
  by_cases hik:i=k
  ·rw[if_pos hik] at e;subst e;exact hh
  ·rw[if_neg hik] at e
   subst e
   refine hm.heap (h.has _ (List.getElem_mem hk)) (fun e=>hik ?_)
   obtain⟨h1,h2⟩:=List.getElem?_eq_some_iff.1 hi
   have nd:=List.pairwise_iff_getElem.1 h.nod
   have e1:(bs.map (·.1))[i]'(by simpa using h1)=(bs.map (·.1))[k]'(by simpa using hk):=by simp only[List.getElem_map,h2];exact e.symm
   rcases Nat.lt_trichotomy i k with hlt|heq|hlt
   ·exact absurd e1 (nd i k _ _ hlt)
   ·exact heq
   ·exact absurd e1.symm (nd k i _ _ hlt)
 ·rcases List.mem_or_eq_of_mem_set hx with hx|rfl
  ·exact h.new x hx
  ·exact hb
theorem At.setCell (h:At w W bs) (i:Nat) (hi:bs[i]?=some (b,T,cs)) (o:Nat) (u:Value):At w (W.setCell ⟨b,o,none⟩ u) (bs.set i (b,T,cs.setIfInBounds o u)) :=
 h.change i hi _ ((Mod.refl _ W).setCell u (fun _=>rfl)) (heap_setCell_at (h.get i hi) o u)
theorem setCell_held {w:World} {b o:Nat} {v:Value} (h:w.cell? ⟨b,o,none⟩=some v):w.setCell ⟨b,o,none⟩ v=w:=by
 have hh:(w.setCell ⟨b,o,none⟩ v).heap=w.heap:=by
  apply Array.ext_getElem?
  intro i
  by_cases hi:i=b
  ·subst hi
   cases hb:w.heap[i]? with
   | none=>simp[World.cell?,hb] at h
   | some ob =>
     cases ob with
     | cells cs T z =>
       have hv:cs[o]?=some v:=by rw[cell_of_heap hb] at h;exact h
       have e:cs.setIfInBounds o v=cs:=by
        apply Array.ext_getElem?
        intro i
        rw[Array.getElem?_setIfInBounds]
        by_cases hi:o=i
        ·subst hi;rw[if_pos rfl,if_pos (Array.getElem?_eq_some_iff.1 hv).1,hv]
        ·simp[hi]
       rw[heap_setCell_at hb,e]
     | _=>simp[World.cell?,hb] at h
  ·exact heap_setCell_ne hi
 have:w.setCell ⟨b,o,none⟩ v={ w with heap:=(w.setCell ⟨b,o,none⟩ v).heap }:=rfl
 rw[this,hh]
def LedV.NotIn (V:LedV) (b:Nat):Prop:=∀ x∈V.rows,x.ownBlock≠some b
theorem LedOwn.lts {w:World} {B:Nat} {V:LedV} {l:Led} (h:LedOwn w B V l):∀ x∈V.rows,∀ k,x.ownBlock=some k -> B <= k /\ k<w.heap.size:=by
 intro x hx k hk
 simp only[LedV.rows,List.mem_cons,List.mem_map] at hx
 rcases hx with rfl|rfl|rfl|rfl|rfl|rfl|rfl|rfl|⟨p,hp,rfl⟩
 ·exact h.curs.lt k hk
 ·exact h.unders.lt k hk
 ·exact h.instrs.lt k hk
 ·exact h.accts.lt k hk
 ·exact h.poss.lt k hk
 ·exact h.orders.lt k hk
 ·exact h.avail.lt k hk
 ·exact h.locs.lt k hk
 ·exact (h.cash p hp).lt k hk
theorem LedOwn.notin {w:World} {B:Nat} {V:LedV} {l:Led} (h:LedOwn w B V l) {b:Nat} (hb:b<B \/ w.heap.size <= b):V.NotIn b:=fun x hx e=>by
 have:=h.lts x hx b e
 omega
theorem LedOwn.keep {w w':World} {B:Nat} {V:LedV} {l:Led} {S:Nat -> Prop} (h:LedOwn w B V l) (hm:Mod S w w') (hS:∀ k,S k -> V.NotIn k):LedOwn w' B V l:=by
 have hr:∀ x∈V.rows,∀ k,x.ownBlock=some k -> ¬ S k:=fun x hx k hk hs=>hS k hs x hx hk
 have ha:∀ p∈V.ac,p.2∈V.rows:=fun p hp=>by
  simp only[LedV.rows,List.mem_cons,List.mem_map]
  exact Or.inr (Or.inr (Or.inr (Or.inr (Or.inr (Or.inr (Or.inr (Or.inr ⟨p,hp,rfl⟩)))))))
 exact⟨h.curs.mod hm (hr _ (by simp[LedV.rows])),h.unders.mod hm (hr _ (by simp[LedV.rows])),h.instrs.mod hm (hr _ (by simp[LedV.rows])),h.same,h.accts.mod hm (hr _ (by simp[LedV.rows])),fun p hp=>(h.cash p hp).mod hm (hr _ (ha p hp)),
  h.poss.mod hm (hr _ (by simp[LedV.rows])),h.orders.mod hm (hr _ (by simp[LedV.rows])),h.avail.mod hm (hr _ (by simp[LedV.rows])),h.locs.mod hm (hr _ (by simp[LedV.rows])),h.sep,h.names,h.nums⟩
end Go.Bw
namespace Go.Proofs.YtnkpdfjnjmmleaaGreatDoor
open Go.RowKit Go.Bw
structure LedC (cs:Array Value):Prop where
 size:cs.size=9
 one:cs.all (·.oneCell')=true
theorem ledc_slices {V:LedV} {L:Led} (h1:V.curs.oneCell'=true) (h2:V.unders.oneCell'=true) (h3:V.instrs.oneCell'=true) (h4:V.accts.oneCell'=true) (h5:V.poss.oneCell'=true) (h6:V.orders.oneCell'=true) (h7:V.avail.oneCell'=true) (h8:V.locs.oneCell'=true):LedC (V.cells L):=by
 refine⟨rfl,?_⟩
 simp[LedV.cells,h1,h2,h3,h4,h5,h6,h7,h8]
 rfl
theorem row_oneC {α:Type} {w:World} {n:Nat} {f:α -> List Value} {v:Value} {l:List α} (h:RowOf w n f v l):v.oneCell'=true:=by obtain⟨a,c,rfl⟩:=h.form;rfl
theorem ledc {w:World} {V:LedV} {L:Led} (h:LedAt w V L):LedC (V.cells L) :=
 ledc_slices (row_oneC h.curs) (row_oneC h.unders) (row_oneC h.instrs) (row_oneC h.accts) (row_oneC h.poss) (row_oneC h.orders) (row_oneC h.avail) (row_oneC h.locs)
theorem ledc0:LedC led0:=⟨rfl,by kernel_rfl⟩
theorem led_load {ops:Array Oper} {rest:List Oper} {o:Oper} {a:Act} {W:World} {Q:Exit -> Act -> World -> Prop} {x:Operand} {b:Nat} {cs:Array Value} (hb:W.heap[b]?=some (.cells cs 31 (0,0))) (hc:LedC cs)
 (hgd:o.guard=none) (ho:o.op=.load 31 x) (hx:a.eval x=.pointer (some ⟨b,0,none⟩)) (h:wpList Tryz.prog ops Q rest (a.put o.dst (.agg cs)) W):wpList Tryz.prog ops Q (o::rest) a W:=by
 obtain⟨d,hu,hd⟩:=led_under
 exact wpList_load_row hgd 31 x ho b hx 31 cs (0,0) d hb hu (by cases d <;> first|rfl|exact hd) (by rw[led_size,hc.size]) h
theorem led_store {ops:Array Oper} {rest:List Oper} {o:Oper} {a:Act} {W:World} {Q:Exit -> Act -> World -> Prop} {x y:Operand} {b:Nat} {old cs:Array Value} (hb:W.heap[b]?=some (.cells old 31 (0,0))) (h0:LedC old) (hc:LedC cs)
 (hgd:o.guard=none) (ho:o.op=.store 31 x y) (hx:a.eval x=.pointer (some ⟨b,0,none⟩)) (hy:a.eval y=.agg cs) (h:wpList Tryz.prog ops Q rest (a.put o.dst undef) (W.setRow b cs)):wpList Tryz.prog ops Q (o::rest) a W :=
 wpList_store_row hgd 31 x y ho b cs hx hy 31 old hb (by rw[led_size,hc.size]) (by rw[h0.size,hc.size]) hc.one h
theorem led_res1 {fn:Func} {p:Tmp} (h:fn.results=#[.cell p 31]) (tmps:Array Value) (W:World) (b:Nat) (cs:Array Value) (hp:tmps.getD p undef=.pointer (some ⟨b,0,none⟩)) (hb:W.heap[b]?=some (.cells cs 31 (0,0))) (hc:LedC cs) :
 (results fn tmps).run Tryz.prog W=.ok (.agg cs) W:=by
 obtain⟨d,hu,hd⟩:=led_under
 exact led_result h tmps W b 31 cs (0,0) d hp hb hu (by cases d <;> first|rfl|exact hd) (by rw[led_size,hc.size])
theorem led_res2 {fn:Func} {p q:Tmp} (h:fn.results=#[.cell p 31,.tmp q]) (tmps:Array Value) (W:World) (b:Nat) (cs:Array Value) (hp:tmps.getD p undef=.pointer (some ⟨b,0,none⟩)) (hb:W.heap[b]?=some (.cells cs 31 (0,0))) (hc:LedC cs) :
 (results fn tmps).run Tryz.prog W=.ok (.tuple #[.agg cs,tmps.getD q undef]) W:=by
 obtain⟨d,hu,hd⟩:=led_under
 exact results_row_tmp h tmps W b 31 cs (0,0) d hp hb hu (by cases d <;> first|rfl|exact hd) (by rw[led_size,hc.size])
theorem _root_.Go.Bw.At.setRow {w W:World} {bs:List (Nat×TypeId×Array Value)} {b:Nat} {T:TypeId} {old:Array Value} (h:At w W bs) (i:Nat) (hi:bs[i]?=some (b,T,old)) (cs:Array Value):At w (W.setRow b cs) (bs.set i (b,T,cs)) :=
 h.change i hi _ (mod_setRow' b cs) (setRow_heap _ _ _ _ _ _ (h.get i hi))
theorem good_bulk {L:Led} (hg:L.Good):L.bulk <= 1000000 /\ (∀ a∈L.accts,a.cash.length <= 4) /\ L.accts.length <= 16:=by
 have h1:=hg.things
 have h2:=hg.accounts.tree.hi
 have h3:=hg.poss.len
 have h4:=hg.orders.len
 have h5:=hg.locs
 have ha:L.accts.length <= 16:=by simpa [Led.parents] using h2
 refine⟨?_,fun a ha=>?_,ha⟩
 ·unfold Led.bulk
  have:=h1.c1;have:=h1.u1;have:=h1.i1;have:=h5.len;have:=h5.locn
  omega
 ·obtain⟨v,hv,e⟩:=List.mem_iff_getElem.1 ha
  have:=(hg.accounts.accts v a (by rw[List.getElem?_eq_getElem hv,e])).1
  have:=h1.c1
  omega
theorem good_short {L:Led} (hg:L.Good):L.Short:=by
 obtain⟨h1,h2,h3⟩:=good_bulk hg
 unfold Led.bulk at h1
 exact⟨by omega,by omega,by omega,by omega,by omega,by omega,by omega,by omega,fun a ha=>by have:=h2 a ha;omega⟩
theorem cells4 {w:World} {V:LedV} {L:Led} (h:LedAt w V L):∃ a c,(V.cells L)[4]?=some (.slice a L.accts.length c):=by
 obtain⟨a,c,e⟩:=h.accts.form
 refine⟨a,c,?_⟩
 show some V.accts=_
 rw[e,h.same,List.length_map]
end Go.Proofs.YtnkpdfjnjmmleaaGreatDoor
namespace Go.Proofs.YtnkpdfjnjmmleaaGreatDoor
open Go.RowKit Go.Bw Go.Maps Go.Shelf
theorem _root_.Go.Bw.OwnOf.below {α:Type} {w w':World} {B n:Nat} {e:TypeId} {f:α -> List Value} {v:Value} {l:List α} (h:OwnOf w B e n f v l) (hb:Below w.heap.size w w'):OwnOf w' B e n f v l:=h.mod (Mod.of_below hb) (fun _ _ h=>h)
theorem app_own {α:Type} (t e:TypeId) (i0:TypeInfo) (z:Value) (n bytes:Nat) (ht:Tryz.prog.underlying t=some (.slice e)) (hi:Tryz.prog.info? e=some i0) (hz:i0.zero=some z) (hs:i0.size=n) (hy:i0.bytes=bytes) (hzs:z.cells.size=n) (h0:0<n) (hb0:0<bytes)
 (f:α -> List Value) (w:World) (B:Nat) (v:Value) (l:List α) (ho:OwnOf w B e n f v l) (hB:B <= w.heap.size) (xv:Value) (xs:List α) (hx:Reads w n xv xs.length (xs.flatMap f)) (h1:∀ x∈xs,∀ u∈f x,u.oneCell'=true) (hl:(l.length+xs.length)*bytes <= 140737488355328) :
 ∃ v' w',(Builtin.append_ #[t,t] t #[v,xv]).run Tryz.prog w=.ok v' w' /\ OwnOf w' B e n f v' (l++xs) /\ Mod (fun k=>v.ownBlock=some k) w w' /\ ∀ k,v'.ownBlock=some k -> v.ownBlock=some k \/ k=w.heap.size:=by
 have hm:l.length+xs.length <= maxLen:=by
  have:(l.length+xs.length)*1 <= (l.length+xs.length)*bytes:=Nat.mul_le_mul_left _ hb0
  unfold maxLen;omega
 obtain⟨v',w',hrun,ho3,hm3,hb3,_⟩:=run_append_to (P:=Tryz.prog) t t e i0 z n bytes ht hi hz hs hy hzs h0 v _ _ (ho.base (Nat.zero_le B)) _ _ _ hx (fun u hu=>by
  obtain⟨x,hx,hu⟩:=List.mem_flatMap.1 hu
  exact h1 x hx u hu) hm hl
 refine⟨v',w',hrun,?_,hm3,hb3⟩
 unfold OwnOf
 rw[List.length_append,List.flatMap_append]
 refine ownsRow_base ho3 (fun k hk=>?_)
 rcases hb3 k hk with h|h
 ·exact (ho.lt k h).1
 ·omega
theorem app_one {α:Type} (t e:TypeId) (i0:TypeInfo) (z:Value) (n bytes:Nat) (ht:Tryz.prog.underlying t=some (.slice e)) (hi:Tryz.prog.info? e=some i0) (hz:i0.zero=some z) (hs:i0.size=n) (hy:i0.bytes=bytes) (hzs:z.cells.size=n) (h0:0<n) (hb0:0<bytes)
 (f:α -> List Value) (hf:∀ x,(f x).length=n) (w:World) (B:Nat) (v:Value) (l:List α) (ho:OwnOf w B e n f v l) (hB:B <= w.heap.size) (x:α) (cs:Array Value) (hcs:cs.toList=f x) (h1:∀ u∈f x,u.oneCell'=true) (hl:(l.length+1)*bytes <= 140737488355328) :
 ∃ v' w',(Builtin.append_ #[t,t] t #[v,.slice (some ⟨w.heap.size,0,none⟩) 1 1]).run Tryz.prog (w.alloc (.cells cs e))=.ok v' w' /\ OwnOf w' B e n f v' (l++[x]) /\ Mod (fun k=>v.ownBlock=some k) w w' /\ ∀ k,v'.ownBlock=some k -> v.ownBlock=some k \/ w.heap.size <= k:=by
 have M0:=(Mod.refl (fun _=>False) w).alloc (.cells cs e)
 have hx:Reads (w.alloc (.cells cs e)) n (.slice (some ⟨w.heap.size,0,none⟩) 1 1) [x].length ([x].flatMap f) :=
  ⟨by simp[hf],Or.inr ⟨_,_,rfl,fun j u hj=>by
   rw[add_plain,Nat.zero_add,cell_of_heap (heap_alloc_new w _)]
   rw[show ([x].flatMap f)=f x from by simp,<- hcs] at hj
   simpa using hj⟩⟩
 obtain⟨v',w',h2,h3,h4,h5⟩:=app_own t e i0 z n bytes ht hi hz hs hy hzs h0 hb0 f (w.alloc (.cells cs e)) B v l (ho.mod M0 (fun _ _ h=>h)) (by simp;omega) _ [x] hx (fun y hy u hu=>by rw[List.mem_singleton.1 hy] at hu;exact h1 u hu) hl
 refine⟨v',w',h2,h3,(M0.mono (fun _ _ h=>h.elim)).trans h4 (fun _ _ h=>h),fun k hk=>(h5 k hk).imp id (fun e=>by rw[e];simp)⟩
theorem one_acct {p:Acc×Value} (h:p.2.oneCell'=true):∀ u∈Acc.cells p,u.oneCell'=true:=by
 intro u hu
 simp[Acc.cells] at hu
 rcases hu with rfl|rfl|rfl|rfl <;> first|rfl|exact h
theorem one_cur (x:Cur):∀ u∈Cur.cells x,u.oneCell'=true:=by
 intro u hu
 simp[Cur.cells] at hu
 rcases hu with rfl|rfl <;> rfl
theorem appn_cur (w:World) (v:Value) (l:List Cur) (hR:RowOf w 2 Cur.cells v l) (hl:l.length*16 <= 140737488355328) :
 ∃ v' w',(Builtin.append_ #[22, 22] 22 #[.slice (some ⟨w.heap.size,0,none⟩) 0 0,v]).run Tryz.prog (w.alloc (.cells #[] 61))=.ok v' w' /\ OwnOf w' w.heap.size 61 2 Cur.cells v' l /\ Below w.heap.size w w':=by
 obtain⟨i0,g1,g2,g3,g4⟩:=info_parts clone_cur_info
 exact clone_run 22 61 i0 _ 2 16 Tryz.underlying22 g1 g2 g3 g4 rfl (by decide) Cur.cells curcells_len w v l hR (fun x hx=>one_cur x) hl (by unfold maxLen;omega)
theorem one_under (x:Und):∀ u∈Und.cells x,u.oneCell'=true:=by
 intro u hu
 simp[Und.cells] at hu
 rcases hu with rfl|rfl|rfl|rfl <;> rfl
theorem appn_under (w:World) (v:Value) (l:List Und) (hR:RowOf w 4 Und.cells v l) (hl:l.length*40 <= 140737488355328) :
 ∃ v' w',(Builtin.append_ #[23, 23] 23 #[.slice (some ⟨w.heap.size,0,none⟩) 0 0,v]).run Tryz.prog (w.alloc (.cells #[] 33))=.ok v' w' /\ OwnOf w' w.heap.size 33 4 Und.cells v' l /\ Below w.heap.size w w':=by
 obtain⟨i0,g1,g2,g3,g4⟩:=info_parts clone_under_info
 exact clone_run 23 33 i0 _ 4 40 Tryz.underlying23 g1 g2 g3 g4 rfl (by decide) Und.cells undcells_len w v l hR (fun x hx=>one_under x) hl (by unfold maxLen;omega)
theorem one_instr (x:Ins):∀ u∈Ins.cells x,u.oneCell'=true:=by
 intro u hu
 simp[Ins.cells] at hu
 rcases hu with rfl|rfl|rfl|rfl|rfl|rfl|rfl <;> rfl
theorem appn_instr (w:World) (v:Value) (l:List Ins) (hR:RowOf w 7 Ins.cells v l) (hl:l.length*56 <= 140737488355328) :
 ∃ v' w',(Builtin.append_ #[24, 24] 24 #[.slice (some ⟨w.heap.size,0,none⟩) 0 0,v]).run Tryz.prog (w.alloc (.cells #[] 35))=.ok v' w' /\ OwnOf w' w.heap.size 35 7 Ins.cells v' l /\ Below w.heap.size w w':=by
 obtain⟨i0,g1,g2,g3,g4⟩:=info_parts clone_instr_info
 exact clone_run 24 35 i0 _ 7 56 Tryz.underlying24 g1 g2 g3 g4 rfl (by decide) Ins.cells inscells_len w v l hR (fun x hx=>one_instr x) hl (by unfold maxLen;omega)
theorem app1_acct (w:World) (B:Nat) (v:Value) (l:List (Acc×Value)) (ho:OwnOf w B 56 4 Acc.cells v l) (hB:B <= w.heap.size) (x:(Acc×Value)) (h1:x.2.oneCell'=true) (cs:Array Value) (hcs:cs.toList=Acc.cells x) (hl:(l.length+1)*48 <= 140737488355328) :
 ∃ v' w',(Builtin.append_ #[25, 25] 25 #[v,.slice (some ⟨w.heap.size,0,none⟩) 1 1]).run Tryz.prog (w.alloc (.cells cs 56))=.ok v' w' /\ OwnOf w' B 56 4 Acc.cells v' (l++[x]) /\ Mod (fun k=>v.ownBlock=some k) w w' /\ ∀ k,v'.ownBlock=some k -> v.ownBlock=some k \/ w.heap.size <= k:=by
 obtain⟨i0,g1,g2,g3,g4⟩:=info_parts clone_acct_info
 exact app_one 25 56 i0 _ 4 48 Tryz.underlying25 g1 g2 g3 g4 rfl (by decide) (by decide) Acc.cells acccells_len w B v l ho hB x cs hcs (one_acct h1) hl
theorem one_pos (x:Pos):∀ u∈Pos.cells x,u.oneCell'=true:=by
 intro u hu
 simp[Pos.cells] at hu
 rcases hu with rfl|rfl|rfl <;> rfl
theorem appn_pos (w:World) (v:Value) (l:List Pos) (hR:RowOf w 3 Pos.cells v l) (hl:l.length*24 <= 140737488355328) :
 ∃ v' w',(Builtin.append_ #[26, 26] 26 #[.slice (some ⟨w.heap.size,0,none⟩) 0 0,v]).run Tryz.prog (w.alloc (.cells #[] 104))=.ok v' w' /\ OwnOf w' w.heap.size 104 3 Pos.cells v' l /\ Below w.heap.size w w':=by
 obtain⟨i0,g1,g2,g3,g4⟩:=info_parts clone_pos_info
 exact clone_run 26 104 i0 _ 3 24 Tryz.underlying26 g1 g2 g3 g4 rfl (by decide) Pos.cells poscells_len w v l hR (fun x hx=>one_pos x) hl (by unfold maxLen;omega)
theorem one_order (x:Ord):∀ u∈Ord.cells x,u.oneCell'=true:=by
 intro u hu
 simp[Ord.cells] at hu
 rcases hu with rfl|rfl|rfl|rfl|rfl <;> rfl
theorem appn_order (w:World) (v:Value) (l:List Ord) (hR:RowOf w 5 Ord.cells v l) (hl:l.length*40 <= 140737488355328) :
 ∃ v' w',(Builtin.append_ #[27, 27] 27 #[.slice (some ⟨w.heap.size,0,none⟩) 0 0,v]).run Tryz.prog (w.alloc (.cells #[] 98))=.ok v' w' /\ OwnOf w' w.heap.size 98 5 Ord.cells v' l /\ Below w.heap.size w w':=by
 obtain⟨i0,g1,g2,g3,g4⟩:=info_parts clone_order_info
 exact clone_run 27 98 i0 _ 5 40 Tryz.underlying27 g1 g2 g3 g4 rfl (by decide) Ord.cells ordcells_len w v l hR (fun x hx=>one_order x) hl (by unfold maxLen;omega)
theorem one_int (x:Int):∀ u∈icell x,u.oneCell'=true:=by
 intro u hu
 simp[icell] at hu
 subst hu;rfl
theorem appn_int (w:World) (v:Value) (l:List Int) (hR:RowOf w 1 icell v l) (hl:l.length*8 <= 140737488355328) :
 ∃ v' w',(Builtin.append_ #[28, 28] 28 #[.slice (some ⟨w.heap.size,0,none⟩) 0 0,v]).run Tryz.prog (w.alloc (.cells #[] 3))=.ok v' w' /\ OwnOf w' w.heap.size 3 1 icell v' l /\ Below w.heap.size w w':=by
 obtain⟨i0,g1,g2,g3,g4⟩:=info_parts clone_int_info
 exact clone_run 28 3 i0 _ 1 8 Tryz.underlying28 g1 g2 g3 g4 rfl (by decide) icell icell_len w v l hR (fun x hx=>one_int x) hl (by unfold maxLen;omega)
theorem one_loc (x:Pos):∀ u∈Pos.cells x,u.oneCell'=true:=by
 intro u hu
 simp[Pos.cells] at hu
 rcases hu with rfl|rfl|rfl <;> rfl
theorem appn_loc (w:World) (v:Value) (l:List Pos) (hR:RowOf w 3 Pos.cells v l) (hl:l.length*24 <= 140737488355328) :
 ∃ v' w',(Builtin.append_ #[29, 29] 29 #[.slice (some ⟨w.heap.size,0,none⟩) 0 0,v]).run Tryz.prog (w.alloc (.cells #[] 105))=.ok v' w' /\ OwnOf w' w.heap.size 105 3 Pos.cells v' l /\ Below w.heap.size w w':=by
 obtain⟨i0,g1,g2,g3,g4⟩:=info_parts clone_loc_info
 exact clone_run 29 105 i0 _ 3 24 Tryz.underlying29 g1 g2 g3 g4 rfl (by decide) Pos.cells poscells_len w v l hR (fun x hx=>one_loc x) hl (by unfold maxLen;omega)
end Go.Proofs.YtnkpdfjnjmmleaaGreatDoor
namespace Go.Proofs.YtnkpdfjnjmmleaaGreatDoor
open Go.RowKit Go.Bw
theorem led_loadg {ops:Array Oper} {rest:List Oper} {o:Oper} {a:Act} {W:World} {Q:Exit -> Act -> World -> Prop} {x:Operand} {b:Nat} {cs:Array Value} (hb:W.heap[b]?=some (.cells cs 31 (0,0))) (hc:LedC cs)
 (hw:Region.wanted o (yielded ops a.tmps)=true) (ho:o.op=.load 31 x) (hx:a.eval x=.pointer (some ⟨b,0,none⟩)) (h:wpList Tryz.prog ops Q rest (a.put o.dst (.agg cs)) W):wpList Tryz.prog ops Q (o::rest) a W:=by
 obtain⟨d,hu,hd⟩:=led_under
 refine wpList_step (fun K hK=>?_)
 rw[if_pos hw]
 exact wp_load_row 31 x ho b hx 31 cs (0,0) d hb hu (by cases d <;> first|rfl|exact hd) (by rw[led_size,hc.size]) (hK _ _ h)
end Go.Proofs.YtnkpdfjnjmmleaaGreatDoor
namespace Go.Proofs.YtnkpdfjnjmmleaaGreatDoor
open Go.RowKit Go.Bw Go.Maps Go.Shelf Go.Bw.Fall
theorem led0_one:led0.all (·.oneCell')=true:=by kernel_rfl
theorem flags_results:Tryz.f30.results=#[.cell 2 31,.tmp 3]:=by kernel_rfl
theorem flags_bad (w:World) (V:LedV) (L:Led) (h:LedAt w V L) (hL:L.accts.length <= 1024) (hng:¬ L.Good) :
 Calls Tryz.prog 30 #[V.val L] w fun e w'=>e=.returned (.tuple #[.agg led0,.int .i64 43]) /\ Below w.heap.size w w':=by
 classical
 have hG:decide L.Good=false:=decide_eq_false hng
 have GD:=zq (show ∀ W,Below w.heap.size w W -> Calls Tryz.prog 34 #[V.val L] W fun e w'=>e=.returned (.bool false) /\ Below W.heap.size W w' from fun W hb=>good_to (h.below hb) hL hG)
 obtain⟨a1,c1,a2,c2,a3,c3,a4,c4,a5,c5,a6,c6,a7,c7,a8,c8,e1,e2,e3,e4,e5,e6,e7,e8⟩:=LedAt.opened h
 unfold LedV.val LedV.cells at GD ⊢
 rw[e1,e2,e3,e4,e5,e6,e7,e8] at GD ⊢
 obtain⟨n1,hn1⟩:∃ n,n=L.curs.length:=⟨_,rfl⟩
 obtain⟨n2,hn2⟩:∃ n,n=L.unders.length:=⟨_,rfl⟩
 obtain⟨n3,hn3⟩:∃ n,n=L.instrs.length:=⟨_,rfl⟩
 obtain⟨n4,hn4⟩:∃ n,n=L.accts.length:=⟨_,rfl⟩
 obtain⟨n5,hn5⟩:∃ n,n=L.poss.length:=⟨_,rfl⟩
 obtain⟨n6,hn6⟩:∃ n,n=L.orders.length:=⟨_,rfl⟩
 obtain⟨n7,hn7⟩:∃ n,n=L.avail.length:=⟨_,rfl⟩
 obtain⟨n8,hn8⟩:∃ n,n=L.locs.length:=⟨_,rfl⟩
 rw[<- hn1,<- hn2,<- hn3,<- hn4,<- hn5,<- hn6,<- hn7,<- hn8] at GD ⊢
 obtain⟨DD,hu,hd⟩:=led_under
 go_enter Tryz.func30,Tryz.ntmps30
 clear hn1 hn2 hn3 hn4 hn5 hn6 hn7 hn8 e1 e2 e3 e4 e5 e6 e7 e8 h
 go_wp2_with (fail)
 obtain⟨W0,hW0⟩:∃ W0,W0=(w.alloc (.cells #[.int .i64 L.day,.slice a1 n1 c1,.slice a2 n2 c2,.slice a3 n3 c3,.slice a4 n4 c4,.slice a5 n5 c5,.slice a6 n6 c6,.slice a7 n7 c7,.slice a8 n8 c8] 31)).alloc (.cells led0 31):=⟨_,rfl⟩
 have X0:=zq (show Below w.heap.size w W0 /\ W0.heap[w.heap.size+1]?=some (.cells led0 31 (0,0)) from by
  rw[hW0]
  exact⟨((Below.refl _ _).alloc (Nat.le_refl _) _).alloc (by simp) _,by simpa using heap_alloc_new (w.alloc (.cells #[.int .i64 L.day,.slice a1 n1 c1,.slice a2 n2 c2,.slice a3 n3 c3,.slice a4 n4 c4,.slice a5 n5 c5,.slice a6 n6 c6,.slice a7 n7 c7,.slice a8 n8 c8] 31)) _⟩)
 change Calls _ _ _ ((w.alloc (.cells #[.int .i64 L.day,.slice a1 n1 c1,.slice a2 n2 c2,.slice a3 n3 c3,.slice a4 n4 c4,.slice a5 n5 c5,.slice a6 n6 c6,.slice a7 n7 c7,.slice a8 n8 c8] 31)).alloc (.cells led0 31)) _
 rw[<- hW0]
 clear hW0
 refine (GD.o W0 X0.o.1).mono ?_
 rintro e u ⟨rfl,hb⟩
 have BU:=zq (show Below w.heap.size w u from X0.o.1.trans (hb.mono X0.o.1.size))
 have HB2:=zq (show u.heap[w.heap.size+1]?=some (.cells led0 31 (0,0)) from (Mod.of_below hb).heap X0.o.2 (fun h=>h))
 clear hb
 go_simp
 go_wp2_with (refine wpList_store_row rfl 31 (.tmp 2) (.tmp 11) rfl (w.heap.size+1) led0 rfl rfl 31 _ HB2.o led_size rfl led0_one ?_)
 have hg:(u.setRow (w.heap.size+1) led0).heap[w.heap.size+1]?=some (.cells led0 31 (0,0)):=setRow_heap _ _ _ _ _ _ HB2.o
 refine bodyPost_ret (v:=.tuple #[.agg led0,.int .i64 43]) ?_ ?_ ?_
 ·exact results_row_tmp (q:=3) flags_results _ _ (w.heap.size+1) 31 led0 (0,0) DD rfl hg hu (by cases DD <;> first|rfl|exact hd) led_size
 ·rfl
 ·exact⟨rfl,((Mod.of_below BU.o).trans (mod_setRow' (w:=u) (w.heap.size+1) led0) (fun k hk e=>by omega)).toBelow⟩
theorem flags_good (w:World) (V:LedV) (L:Led) (h:LedAt w V L) (hL:L.accts.length <= 1024) (hg:L.Good) (hb:L.bulk <= 1000000) (hca:∀ a∈L.accts,a.cash.length <= 1000000000) (hGr:Grd w) :
 Calls Tryz.prog 30 #[V.val L] w (FlagsOut w L):=by
 classical
 have hG:decide L.Good=true:=decide_eq_true hg
 have GD:=zq (show ∀ W,Below w.heap.size w W -> Calls Tryz.prog 34 #[V.val L] W fun e w'=>e=.returned (.bool true) /\ Below W.heap.size W w' from fun W hb=>good_to (h.below hb) hL hG)
 have CP:=zq (show ∀ W,Below w.heap.size w W -> Calls Tryz.prog 75 #[V.val L] W (CopyOut W L) from fun W hW=>copy_any W V L (h.below hW) hb hca)
 have EX:=zq (fun W (hW:Below w.heap.size w W) (a:Int)=>mexcess_any W V L (h.below hW) hL (hGr.below hW) a)
 obtain⟨a1,c1,a2,c2,a3,c3,a4,c4,a5,c5,a6,c6,a7,c7,a8,c8,e1,e2,e3,e4,e5,e6,e7,e8⟩:=LedAt.opened h
 unfold LedV.val LedV.cells at GD CP EX ⊢
 rw[e1,e2,e3,e4,e5,e6,e7,e8] at GD CP EX ⊢
 obtain⟨n1,hn1⟩:∃ n,n=L.curs.length:=⟨_,rfl⟩
 obtain⟨n2,hn2⟩:∃ n,n=L.unders.length:=⟨_,rfl⟩
 obtain⟨n3,hn3⟩:∃ n,n=L.instrs.length:=⟨_,rfl⟩
 obtain⟨n4,hn4⟩:∃ n,n=L.accts.length:=⟨_,rfl⟩
 obtain⟨n5,hn5⟩:∃ n,n=L.poss.length:=⟨_,rfl⟩
 obtain⟨n6,hn6⟩:∃ n,n=L.orders.length:=⟨_,rfl⟩
 obtain⟨n7,hn7⟩:∃ n,n=L.avail.length:=⟨_,rfl⟩
 obtain⟨n8,hn8⟩:∃ n,n=L.locs.length:=⟨_,rfl⟩
 have LN1:=zq hn1
 have LN2:=zq hn2
 have LN3:=zq hn3
 have LN4:=zq hn4
 have LN5:=zq hn5
 have LN6:=zq hn6
 have LN7:=zq hn7
 have LN8:=zq hn8
 rw[<- hn1,<- hn2,<- hn3,<- hn4,<- hn5,<- hn6,<- hn7,<- hn8] at GD CP EX ⊢
 obtain⟨DD,hu,hd⟩:=led_under
 obtain⟨ex,hex⟩:∃ ex:Int -> Int×Int,ex=fun a=>ansA L a (retA (excessO L a.toNat)):=⟨_,rfl⟩
 have EE:=zq (show ∀ W,Below w.heap.size w W -> ∀ a,Calls Tryz.prog 76 #[.agg #[.int .i64 L.day,.slice a1 n1 c1,.slice a2 n2 c2,.slice a3 n3 c3,.slice a4 n4 c4,.slice a5 n5 c5,.slice a6 n6 c6,.slice a7 n7 c7,.slice a8 n8 c8],.int .i64 a] W fun e w'=>e=.returned (.tuple #[.int .i64 (ex a).1,.int .i64 (ex a).2]) /\ Below W.heap.size W w' from by subst hex;exact EX.o)
 clear EX
 have HEX:=zq (show ∀ a:Int,ex a=ansA L a (retA (excessO L a.toNat)) from fun a=>by rw[hex])
 have HGG:=zq hg
 have m4:n4 <= 1024:=by rw[hn4];exact hL
 clear hex hL
 go_enter Tryz.func30,Tryz.ntmps30
 clear hn1 hn2 hn3 hn4 hn5 hn6 hn7 hn8 e1 e2 e3 e4 e5 e6 e7 e8 h hg hG hb hca hGr
 go_wp2_with (fail)
 obtain⟨W0,hW0⟩:∃ W0,W0=(w.alloc (.cells #[.int .i64 L.day,.slice a1 n1 c1,.slice a2 n2 c2,.slice a3 n3 c3,.slice a4 n4 c4,.slice a5 n5 c5,.slice a6 n6 c6,.slice a7 n7 c7,.slice a8 n8 c8] 31)).alloc (.cells led0 31):=⟨_,rfl⟩
 have X0:=zq (show Below w.heap.size w W0 /\ W0.heap[w.heap.size]?=some (.cells #[.int .i64 L.day,.slice a1 n1 c1,.slice a2 n2 c2,.slice a3 n3 c3,.slice a4 n4 c4,.slice a5 n5 c5,.slice a6 n6 c6,.slice a7 n7 c7,.slice a8 n8 c8] 31 (0,0)) /\ W0.heap[w.heap.size+1]?=some (.cells led0 31 (0,0)) /\ W0.heap.size=w.heap.size+2 from by
  rw[hW0]
  exact⟨((Below.refl _ _).alloc (Nat.le_refl _) _).alloc (by simp) _,((Mod.refl (fun _=>False) _).alloc _).heap (heap_alloc_new w _) (fun h=>h),by simpa using heap_alloc_new (w.alloc (.cells #[.int .i64 L.day,.slice a1 n1 c1,.slice a2 n2 c2,.slice a3 n3 c3,.slice a4 n4 c4,.slice a5 n5 c5,.slice a6 n6 c6,.slice a7 n7 c7,.slice a8 n8 c8] 31)) _,by simp⟩)
 change Calls _ _ _ ((w.alloc (.cells #[.int .i64 L.day,.slice a1 n1 c1,.slice a2 n2 c2,.slice a3 n3 c3,.slice a4 n4 c4,.slice a5 n5 c5,.slice a6 n6 c6,.slice a7 n7 c7,.slice a8 n8 c8] 31)).alloc (.cells led0 31)) _
 rw[<- hW0]
 clear hW0
 refine (GD.o W0 X0.o.1).mono ?_
 rintro e u ⟨rfl,hb⟩
 have BU:=zq (show Below w.heap.size w u from X0.o.1.trans (hb.mono X0.o.1.size))
 have HB1:=zq (show u.heap[w.heap.size]?=some (.cells #[.int .i64 L.day,.slice a1 n1 c1,.slice a2 n2 c2,.slice a3 n3 c3,.slice a4 n4 c4,.slice a5 n5 c5,.slice a6 n6 c6,.slice a7 n7 c7,.slice a8 n8 c8] 31 (0,0)) from (Mod.of_below hb).heap X0.o.2.1 (fun h=>h))
 have HB2:=zq (show u.heap[w.heap.size+1]?=some (.cells led0 31 (0,0)) from (Mod.of_below hb).heap X0.o.2.2.1 (fun h=>h))
 have SZ:=zq (show w.heap.size+2 <= u.heap.size from by have:=hb.size;have:=X0.o.2.2.2;omega)
 clear hb X0
 go_simp
 go_wp2_with (refine wpList_load_row rfl 31 (.tmp 1) rfl w.heap.size rfl 31 _ (0,0) DD HB1.o hu (by cases DD <;> first|rfl|exact hd) led_size ?_)
 refine (CP.o u BU.o).mono ?_
 rintro e u2 ⟨V2,rfl,own,hb2⟩
 obtain⟨x1,k1,x2,k2,x3,k3,x4,k4,x5,k5,x6,k6,x7,k7,x8,k8,f1,f2,f3,f4,f5,f6,f7,f8⟩:=LedAt.opened own.led
 have B2:=zq (show Below w.heap.size w u2 from BU.o.trans (hb2.mono BU.o.size))
 have HB1:=zq (show u2.heap[w.heap.size]?=some (.cells #[.int .i64 L.day,.slice a1 n1 c1,.slice a2 n2 c2,.slice a3 n3 c3,.slice a4 n4 c4,.slice a5 n5 c5,.slice a6 n6 c6,.slice a7 n7 c7,.slice a8 n8 c8] 31 (0,0)) from (Mod.of_below hb2).heap HB1.o (fun h=>h))
 have HB2:=zq (show u2.heap[w.heap.size+1]?=some (.cells led0 31 (0,0)) from (Mod.of_below hb2).heap HB2.o (fun h=>h))
 have OW:=zq (own.base SZ.o)
 have S2:=zq (show w.heap.size+2 <= u2.heap.size from Nat.le_trans SZ.o hb2.size)
 clear own hb2
 unfold LedV.val LedV.cells
 rw[f1,f2,f3,f4,f5,f6,f7,f8,<- LN1.o,<- LN2.o,<- LN3.o,<- LN4.o,<- LN5.o,<- LN6.o,<- LN7.o,<- LN8.o]
 go_simp
 go_upto_region 4 with (refine wpList_store_row rfl 31 (.tmp 4) (.tmp 13) rfl u2.heap.size (boxL L (.slice x1 n1 k1) (.slice x2 n2 k2) (.slice x3 n3 k3) (.slice x4 n4 k4) (.slice x5 n5 k5) (.slice x6 n6 k6) (.slice x7 n7 k7) (.slice x8 n8 k8)) rfl rfl 31 _ (heap_alloc_last _ _) led_size rfl (boxL_one _ _ _ _ _ _ _ _ _ rfl rfl rfl rfl rfl rfl rfl rfl) ?_;rw[World.setRow_alloc_new])
 obtain⟨U,hU⟩:∃ U,U=u2.alloc (.cells (boxL L (.slice x1 n1 k1) (.slice x2 n2 k2) (.slice x3 n3 k3) (.slice x4 n4 k4) (.slice x5 n5 k5) (.slice x6 n6 k6) (.slice x7 n7 k7) (.slice x8 n8 k8)) 31):=⟨_,rfl⟩
 have FA:=zq (show FlAt w (w.heap.size+2) u2.heap.size L ex V2 0 U from by
  rw[hU]
  exact⟨B2.o.alloc B2.o.size _,⟨V2.ac,by rw[flagged_zero];exact OW.o.below ((Below.refl _ _).alloc (Nat.le_refl _) _)⟩,⟨by rw[f1,f2,f3,f4,f5,f6,f7,f8,<- LN1.o,<- LN2.o,<- LN3.o,<- LN4.o,<- LN5.o,<- LN6.o,<- LN7.o,<- LN8.o];exact heap_alloc_new u2 _⟩,fun i h1 h2=>by omega⟩)
 have HB1:=zq (show U.heap[w.heap.size]?=some (.cells #[.int .i64 L.day,.slice a1 n1 c1,.slice a2 n2 c2,.slice a3 n3 c3,.slice a4 n4 c4,.slice a5 n5 c5,.slice a6 n6 c6,.slice a7 n7 c7,.slice a8 n8 c8] 31 (0,0)) from by rw[hU];exact ((Mod.refl (fun _=>False) _).alloc _).heap HB1.o (fun h=>h))
 have HB2:=zq (show U.heap[w.heap.size+1]?=some (.cells led0 31 (0,0)) from by rw[hU];exact ((Mod.refl (fun _=>False) _).alloc _).heap HB2.o (fun h=>h))
 rw[<- hU]
 have F4:=zq (f4.trans (by rw[<- LN4.o]))
 have GL:=zq (fun g (hg:V2.accts.ownBlock=some g)=>OW.o.accts.lt g hg)
 have LC:=zq (show LedC #[.int .i64 L.day,.slice a1 n1 c1,.slice a2 n2 c2,.slice a3 n3 c3,.slice a4 n4 c4,.slice a5 n5 c5,.slice a6 n6 c6,.slice a7 n7 c7,.slice a8 n8 c8] from ⟨rfl,by simp[Value.oneCell']⟩)
 obtain⟨b4,hb4⟩:∃ b,b=u2.heap.size:=⟨_,rfl⟩
 rw[<- hb4] at FA GL ⊢
 have B4:=zq (show w.heap.size+2 <= b4 from by rw[hb4];exact S2.o)
 clear f1 f2 f3 f4 f5 f6 f7 f8 hU B2 OW S2 CP GD BU SZ hb4
 have y4:U.cell? ⟨b4,4,none⟩=some (.slice x4 n4 k4):=(cell_of_heap FA.o.box.at_ 4).trans (by rw[F4.o];rfl)
 go_wp2_with fail
 go_loopw [17] (fun i wr=>∃ k:Nat,k <= n4 /\ i=.int .i64 k /\ ∃ W,W=wr /\ Hid (FlAt w (w.heap.size+2) b4 L ex V2 k W /\ W.heap[w.heap.size]?=some (.cells #[.int .i64 L.day,.slice a1 n1 c1,.slice a2 n2 c2,.slice a3 n3 c3,.slice a4 n4 c4,.slice a5 n5 c5,.slice a6 n6 c6,.slice a7 n7 c7,.slice a8 n8 c8] 31 (0,0)) /\ W.heap[w.heap.size+1]?=some (.cells led0 31 (0,0)))) (fun i _=>n4 - (intOf i).toNat)
 case atStart=>exact⟨0,Nat.zero_le _,rfl,_,rfl,zq ⟨FA.o,HB1.o,HB2.o⟩⟩
 case round =>
  clear FA y4 HB1 HB2
  obtain⟨k,hk,rfl,W,rfl,FA⟩:=hrel
  by_cases hlt:k<n4
  ·have hlt':(k:Int)<(n4:Int):=by omega
   have LT:=zq hlt
   by_cases h2:k <= 1
   ·have h2':(k:Int) <= 1:=by omega
    have FQ:=zq (show FlAt w (w.heap.size+2) b4 L ex V2 (k+1) W /\ W.heap[w.heap.size]?=some (.cells #[.int .i64 L.day,.slice a1 n1 c1,.slice a2 n2 c2,.slice a3 n3 c3,.slice a4 n4 c4,.slice a5 n5 c5,.slice a6 n6 c6,.slice a7 n7 c7,.slice a8 n8 c8] 31 (0,0)) /\ W.heap[w.heap.size+1]?=some (.cells led0 31 (0,0)) from ⟨FA.o.1.low (by omega),FA.o.2⟩)
    clear h2
    go_wp2_with fail
    go_roundw
    case rel=>exact⟨k+1,by have:=LT.o;omega,by go_num,_,rfl,FQ⟩
    case measure=>have:=LT.o;simp[intOf];omega
   ·have h2':¬ (k:Int) <= 1:=by omega
    have H2:=zq (show 2 <= k from by omega)
    clear h2
    have HL:=zq FA.o.2.1
    go_wp2_with (refine led_load HL.o LC.o rfl rfl rfl ?_)
    refine (EE.o W FA.o.1.below k).mono ?_
    rintro e w3 ⟨rfl,hb3⟩
    have FB:=zq (show FlAt w (w.heap.size+2) b4 L ex V2 k w3 /\ w3.heap[w.heap.size]?=some (.cells #[.int .i64 L.day,.slice a1 n1 c1,.slice a2 n2 c2,.slice a3 n3 c3,.slice a4 n4 c4,.slice a5 n5 c5,.slice a6 n6 c6,.slice a7 n7 c7,.slice a8 n8 c8] 31 (0,0)) /\ w3.heap[w.heap.size+1]?=some (.cells led0 31 (0,0)) from ⟨FA.o.1.go hb3,(Mod.of_below hb3).heap FA.o.2.1 (fun h=>h),(Mod.of_below hb3).heap FA.o.2.2 (fun h=>h)⟩)
    obtain⟨q,hq⟩:∃ q,q=ex k:=⟨_,rfl⟩
    obtain⟨xx,er⟩:=q
    rw[<- hq]
    have EQ:=zq hq
    clear hq hb3 FA HL
    by_cases he:er=0
    ·subst he
     obtain⟨a0,ha0⟩:∃ a,L.accts[k]?=some a:=⟨_,List.getElem?_eq_getElem (by rw[<- LN4.o];exact hlt)⟩
     obtain⟨ac,o⟩:=FB.o.1.own
     have hl:ac.length=n4:=by have h1:flaggedL L ex k=ac.map (·.1):=o.same;have h1:=congrArg List.length h1;rw[flagged_len] at h1;simp at h1;rw[LN4.o];exact h1.symm
     obtain⟨p,hp⟩:∃ p,ac[k]?=some p:=⟨_,List.getElem?_eq_getElem (by rw[hl];exact hlt)⟩
     obtain⟨g,c,hv,_,_,_,hfr⟩:=o.accts.block hp
     obtain rfl:x4=some ⟨g,0,none⟩:=by have hv':V2.accts=.slice (some ⟨g,0,none⟩) ac.length c:=hv;rw[F4.o] at hv';injection hv'
     have hR:RowOf w3 4 Acc.cells V2.accts ac:=o.accts.row acccells_len (by decide)
     rw[F4.o] at hR
     obtain⟨b',o',e',_,hc⟩:=hR.at_ hp
     have cc:w3.cell? ⟨g,k*4+2,none⟩=some (.bool p.1.flag):=by
      have h1:=hc 2 (.bool p.1.flag) rfl
      cases e'
      rw[Nat.zero_add] at h1
      exact h1
     have zz:=hfr (k*4+2)
     have FQ:=zq (show FlAt w (w.heap.size+2) b4 L ex V2 (k+1) (w3.setCell ⟨g,k*4+2,none⟩ (.bool (decide (xx<0)))) /\ (w3.setCell ⟨g,k*4+2,none⟩ (.bool (decide (xx<0)))).heap[w.heap.size]?=some (.cells #[.int .i64 L.day,.slice a1 n1 c1,.slice a2 n2 c2,.slice a3 n3 c3,.slice a4 n4 c4,.slice a5 n5 c5,.slice a6 n6 c6,.slice a7 n7 c7,.slice a8 n8 c8] 31 (0,0)) /\ (w3.setCell ⟨g,k*4+2,none⟩ (.bool (decide (xx<0)))).heap[w.heap.size+1]?=some (.cells led0 31 (0,0)) from by
      have hgl:=GL.o g (by rw[F4.o];rfl)
      have h1:=FB.o.1.put (g:=g) (c:=k4) H2.o ha0 (by rw[<- EQ.o]) (by rw[<- LN4.o];exact F4.o) hgl.1 (by omega) (Or.inr (by omega))
      rw[<- EQ.o] at h1
      have M:=(Mod.refl (fun k=>k=g) w3).setCell (p:=⟨g,k*4+2,none⟩) (.bool (decide (xx<0))) (fun _=>rfl)
      exact⟨h1,M.heap FB.o.2.1 (by omega),M.heap FB.o.2.2 (by omega)⟩)
     have yb:w3.cell? ⟨b4,4,none⟩=some (.slice (some ⟨g,0,none⟩) n4 k4):=(cell_of_heap FB.o.1.box.at_ 4).trans (by rw[F4.o];rfl)
     clear hv hfr hc hR e' hp hl o ha0
     go_wp2_with fail
     go_roundw
     case rel=>exact⟨k+1,by have:=LT.o;omega,by go_num,_,rfl,FQ⟩
     case measure=>have:=LT.o;simp[intOf];omega
    ·have FN:=zq (flags_none HGG.o HEX.o H2.o (by rw[<- LN4.o];exact LT.o) (by rw[<- EQ.o];exact he))
     obtain rfl:er=4:=by have:=FN.o.2;rw[<- EQ.o] at this;exact this
     have HB:=zq FB.o.2.2
     clear he
     go_wp2_with (refine led_store HB.o ledc0 ledc0 rfl rfl rfl rfl ?_)
     refine bodyPost_ret (v:=.tuple #[.agg led0,.int .i64 4]) ?_ ?_ ?_
     ·exact led_res2 (q:=3) flags_results _ _ (w.heap.size+1) led0 rfl (setRow_heap _ _ _ _ _ _ HB.o) ledc0
     ·rfl
     ·exact⟨Or.inr (Or.inl ⟨HGG.o,FN.o.1,rfl⟩),((Mod.of_below FB.o.1.below).trans (mod_setRow' (w:=w3) (w.heap.size+1) led0) (fun k hk e=>by omega)).toBelow⟩
  ·have hlt':¬ (k:Int)<(n4:Int):=by omega
   obtain rfl:k=n4:=by omega
   have HB4:=zq FA.o.1.box.at_
   have HB:=zq FA.o.2.2
   have LC2:=zq (show LedC (boxL L V2.curs V2.unders V2.instrs V2.accts V2.poss V2.orders V2.avail V2.locs) from by obtain⟨ac,o⟩:=FA.o.1.own;have h:=ledc o.led;exact h)
   go_wp2_with (first|refine led_load HB4.o LC2.o rfl rfl rfl ?_|refine led_store HB.o ledc0 LC2.o rfl rfl rfl rfl ?_)
   try simp only[Exit.inBlock,Exit.then]
   refine bodyPost_ret (v:=.tuple #[.agg (boxL L V2.curs V2.unders V2.instrs V2.accts V2.poss V2.orders V2.avail V2.locs),.int .i64 0]) ?_ ?_ ?_
   ·exact led_res2 (q:=3) flags_results _ _ (w.heap.size+1) _ rfl (setRow_heap _ _ _ _ _ _ HB.o) LC2.o
   ·rfl
   ·obtain⟨ac,o⟩:=FA.o.1.own
    have M:=mod_setRow' (w:=W) (w.heap.size+1) (boxL L V2.curs V2.unders V2.instrs V2.accts V2.poss V2.orders V2.avail V2.locs)
    refine⟨Or.inr (Or.inr ⟨HGG.o,_,{ V2 with ac:=ac },flags_some HGG.o HEX.o (fun i h1 h2=>FA.o.1.good i h1 (by rw[LN4.o];exact h2)),rfl,?_⟩),((Mod.of_below FA.o.1.below).trans M (fun k hk e=>by omega)).toBelow⟩
    rw[<- LN4.o]
    exact (o.mod M (fun k hk _ e=>by omega)).base (by omega)
end Go.Proofs.YtnkpdfjnjmmleaaGreatDoor

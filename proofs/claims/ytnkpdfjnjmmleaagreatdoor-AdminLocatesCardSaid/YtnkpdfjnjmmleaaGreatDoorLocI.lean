/- slices.Insert of one reservation, walked. -/
import Derived.Test.YtnkpdfjnjmmleaaGreatDoorLocC
set_option linter.unusedVariables false
set_option linter.unusedSimpArgs false
set_option maxRecDepth 100000
set_option maxHeartbeats 4000000
namespace Go.Proofs.YtnkpdfjnjmmleaaGreatDoor
open Go.RowKit Go.Bw Go.Maps Go.Shelf Go.Bw.Fall
def InsRet (w:World) (B:Nat) (v:Value) (l:List Pos) (e:Ending) (w':World):Prop:=∃ v',e=.returned v' /\ OwnOf w' B 105 3 Pos.cells v' l /\ Mod (fun b=>v.ownBlock=some b) w w' /\ ∀ b,v'.ownBlock=some b -> v.ownBlock=some b \/ w.heap.size <= b
theorem wp_copy_run {P:Program} {w:World} {o:Oper} {a:Act} {K:Act -> World -> Prop} {Q:Exit -> Act -> World -> Prop} (d s:Operand) (t:TypeId)
 (ho:o.op=.call { callee:=.builtin .copy,args:=#[d,s],argTypes:=#[t,t] }) (v u:Value) (hd:a.eval d=v) (hs:a.eval s=u) {v':Value} {w':World}
 (hr:(Builtin.copy_ #[t,t] o.type #[v,u]).run P w=.ok v' w') (h:K (a.put o.dst v') w'):o.wp P a w K Q:=by
 unfold Oper.wp execOp
 simp only[ho,resolve,invoke,builtin,Sem.run_bind,Sem.run_pure,Result.andThen_ok,List.map_toArray,List.map_cons,List.map_nil,hd,hs,hr]
 exact h
theorem one_reads {w:World} {vb:Nat} {x:Pos} (hv:w.heap[vb]?=some (.cells #[.int .i64 x.acct,.int .i64 x.instr,.int .i64 x.qty] 105 (0,0))):∀ (j:Nat) u,(Pos.cells x)[j]?=some u -> w.cell? ((⟨vb,0,none⟩:Addr).add j)=some u:=by
 intro j u hu
 rw[Addr.add_lit,cell_of_heap hv,Nat.zero_add]
 rw[<- List.getElem?_toArray] at hu
 exact hu
theorem ins_end (w:World) (B:Nat) (v:Value) (l:List Pos) (h:OwnOf w B 105 3 Pos.cells v l) (hl:l.length <= 1000000) (hB:B <= w.heap.size) (vb:Nat) (x:Pos) (hv:w.heap[vb]?=some (.cells #[.int .i64 x.acct,.int .i64 x.instr,.int .i64 x.qty] 105 (0,0))) :
 Calls Tryz.prog 122 #[v,.int .i64 l.length,.slice (some ⟨vb,0,none⟩) 1 1] w (InsRet w B v (l++[x])):=by
 obtain⟨i0,g1,g2,g3,g4⟩:=info_parts dl_info
 obtain⟨v',w',hr,ho,hmod,hblk,_⟩:=run_append_to (P:=Tryz.prog) (w:=w) 29 29 105 i0 _ 3 24 Tryz.underlying29 g1 g2 g3 g4 rfl (by decide) v l.length (l.flatMap Pos.cells) (h.base (Nat.zero_le _)) (.slice (some ⟨vb,0,none⟩) 1 1) 1 (Pos.cells x) ⟨rfl,Or.inr ⟨_,_,rfl,one_reads hv⟩⟩ (dl_one x) (by unfold maxLen;omega) (by omega)
 have RN:=zq hr
 have FIN:=zq (show OwnOf w' B 105 3 Pos.cells v' (l++[x]) /\ Mod (fun b=>v.ownBlock=some b) w w' /\ ∀ b,v'.ownBlock=some b -> v.ownBlock=some b \/ w.heap.size <= b from by
  refine⟨?_,hmod,fun b hb=>(hblk b hb).imp id (fun e=>by omega)⟩
  have e:(l++[x]).flatMap Pos.cells=l.flatMap Pos.cells++Pos.cells x:=by simp
  unfold OwnOf
  rw[e,List.length_append]
  refine ownsRow_base ho (fun k hk=>?_)
  rcases hblk k hk with h1|h1
  ·exact (h.lt k h1).1
  ·omega)
 obtain⟨a,c,rfl,hc⟩:=h.form
 have hcm:c <= 9223372036854775807:=by
  unfold OwnOf at h
  rcases h.2 with ⟨e,_⟩|⟨g,cap,cur,e,_,_,_,hm,_⟩
  ·injection e with e1 e2 e3;omega
  ·injection e with e1 e2 e3;rw[e3];exact hm
 obtain⟨n,hn⟩:∃ n,n=l.length:=⟨_,rfl⟩
 rw[<- hn] at hl hc RN FIN ⊢
 have q1:(n:Int) <= (c:Int):=by omega
 clear h hr ho hmod hblk hv g1 g2 g3 g4 hn
 cases a with
 | none =>
   go_enter Tryz.func122,Tryz.ntmps122
   go_wp2_with (at_builtin;refine wpList_append_run rfl (.tmp 23) (.tmp 24) 29 rfl rfl rfl RN.o ?_)
   go_ret
   exact⟨_,rfl,FIN.o⟩
 | some a =>
   by_cases hnc:c=n
   ·subst hnc
    go_enter Tryz.func122,Tryz.ntmps122
    go_wp2_with (at_builtin;refine wpList_append_run rfl (.tmp 23) (.tmp 24) 29 rfl rfl rfl RN.o ?_)
    go_ret
    exact⟨_,rfl,FIN.o⟩
   ·skip
    go_enter Tryz.func122,Tryz.ntmps122
    go_wp2_with (at_builtin;refine wpList_append_run rfl (.tmp 23) (.tmp 24) 29 rfl rfl rfl RN.o ?_)
    go_ret
    exact⟨_,rfl,FIN.o⟩
theorem ins_room (w:World) (B g cap:Nat) (cur:Array Value) (l:List Pos) (hB:B <= g) (hg:w.heap[g]?=some (.cells cur 105 (0,0))) (hc:l.length+1 <= cap) (hm:cap <= maxLen) (hs:cur.size=cap*3) (ht:cur.toList.take (l.length*3)=l.flatMap Pos.cells)
 (i:Nat) (hi:i<l.length) (vb:Nat) (x:Pos) (hv:w.heap[vb]?=some (.cells #[.int .i64 x.acct,.int .i64 x.instr,.int .i64 x.qty] 105 (0,0))) (hvb:vb≠g) :
 Calls Tryz.prog 122 #[.slice (some ⟨g,0,none⟩) l.length cap,.int .i64 i,.slice (some ⟨vb,0,none⟩) 1 1] w (InsRet w B (.slice (some ⟨g,0,none⟩) l.length cap) (l.take i++x::l.drop i)):=by
 obtain⟨i0,g1,g2,g3,g4⟩:=info_parts dl_info
 have hsz:(Tryz.prog.info? 105).map (·.size)=some 3:=by rw[g1];exact congrArg some g3
 have hz3:∀ w,(Go.sizeOf 105).run Tryz.prog w=.ok 3 w:=fun w=>by kernel_rfl
 obtain⟨n,hn⟩:∃ n,n=l.length:=⟨_,rfl⟩
 obtain⟨m,hmm⟩:∃ m,m=n - i:=⟨_,rfl⟩
 have hcs:cur.toList.length=cap*3:=hs
 have hD:((l.drop i).flatMap Pos.cells).length=m*3:=by rw[flatMap_len poscells_len,List.length_drop,<- hn,<- hmm]
 have hcap63:cap <= 9223372036854775807:=hm
 have HOV:=zq (show ∀ lb cb,(callFunc 167 #[.slice (some ⟨vb,0,none⟩) 1 1,.slice (some ⟨g,(i+1)*3,none⟩) lb cb]).run Tryz.prog w=.ok (.value (.bool false)) w from fun lb cb=>by
  rw[run_callFunc_extern Tryz.func167 (by kernel_rfl) (by kernel_rfl) (by kernel_rfl) (e:=Extern.SlicesOverlaps.overlaps #[29, 29] #[4]) (by kernel_rfl),
   Lib.run_overlaps_apart w 29 4 105 Tryz.underlying29 3 hz3 ⟨vb,0,none⟩ ⟨g,(i+1)*3,none⟩ 1 1 lb cb hvb 105 105 3 (cap*3) (by simp[World.shape?,hv]) (by simp[World.shape?,hg,hs]) (by omega) (free_of_heap hv 0) (free_of_heap hv 3)]
  rfl)
 have CP1:∀ ty dc sc,_:=fun ty dc sc=>run_copy_rowN (P:=Tryz.prog) w.drew 29 29 ty 105 g ((i+1)*3) m dc ⟨g,i*3,none⟩ (m+1) sc m 3 cur 105 ((l.drop i).flatMap Pos.cells) Tryz.underlying29 hsz hg (by simp) hD (cur_src (w:=w.drew) poscells_len hg ht (by omega)) (by rw[hD,hs];omega) (loc_one _)
 obtain⟨c1,hcc⟩:∃ c1,c1=cur.toList.take ((i+1)*3)++(l.drop i).flatMap Pos.cells++cur.toList.drop ((i+1)*3+((l.drop i).flatMap Pos.cells).length):=⟨_,rfl⟩
 rw[<- hcc] at CP1
 obtain⟨W1,hW1⟩:∃ s,s=w.drew.setRow g c1.toArray:=⟨_,rfl⟩
 rw[<- hW1] at CP1
 have G1:W1.heap[g]?=some (.cells c1.toArray 105 (0,0)):=by rw[hW1];exact setRow_heap _ _ _ _ _ _ hg
 have hv1:W1.heap[vb]?=some (.cells #[.int .i64 x.acct,.int .i64 x.instr,.int .i64 x.qty] 105 (0,0)):=by rw[hW1];exact (mod_setRow'' w.drew g _).heap hv hvb
 have hc1:c1.toArray.size=cap*3:=by rw[List.size_toArray,hcc,len_store (by rw[hcs,hD];omega),hcs]
 have CP2:∀ ty dc,_:=fun ty dc=>run_copy_rowN (P:=Tryz.prog) W1 29 29 ty 105 g (i*3) (m+1) dc ⟨vb,0,none⟩ 1 1 1 3 c1.toArray 105 (Pos.cells x) Tryz.underlying29 hsz G1 (by simp) rfl (one_reads hv1) (by rw[hc1,poscells_len];omega) (dl_one x)
 rw[List.toList_toArray] at CP2
 obtain⟨W2,hW2⟩:∃ s,s=W1.setRow g (c1.take (i*3)++Pos.cells x++c1.drop (i*3+(Pos.cells x).length)).toArray:=⟨_,rfl⟩
 rw[<- hW2] at CP2
 have G2:W2.heap[g]?=some (.cells (c1.take (i*3)++Pos.cells x++c1.drop (i*3+(Pos.cells x).length)).toArray 105 (0,0)):=by rw[hW2];exact setRow_heap _ _ _ _ _ _ G1
 have FIN:=zq (show OwnOf W2 B 105 3 Pos.cells (.slice (some ⟨g,0,none⟩) (n+1) cap) (l.take i++x::l.drop i) /\ Mod (fun b=>b=g) w W2 from by
  refine⟨by rw[hn];exact own_inserted poscells_len (by omega) hB hc hm hs (cur_take poscells_len ht (by omega)) hcc G2,?_⟩
  rw[hW2,hW1]
  exact (((Mod.refl (fun b=>b=g) w).drew).trans (mod_setRow'' _ g _) (fun _ _ h=>h)).trans (mod_setRow'' _ g _) (fun _ _ h=>h))
 have C1:=zq CP1
 have C2:=zq CP2
 have q1:¬ (i:Int)=(n:Int):=by omega
 have q2:¬ (cap:Int)<(n:Int)+1:=by omega
 have q3:((i:Int)+1).toNat=i+1:=by omega
 have q4:((n:Int)+1).toNat=n+1:=by omega
 have q5:(i:Int) <= (n:Int):=by omega
 have q6:(n:Int)+1 <= (cap:Int):=by omega
 have q7:(i:Int)+1 <= (n:Int)+1:=by omega
 have q16:n - i=m:=hmm.symm
 have q9:n+1 - i=m+1:=by omega
 have q10:¬ cap=i+1:=by omega
 have q11:¬ cap=i:=by omega
 have q12:(i:Int) <= (n:Int)+1:=by omega
 have q13:(0:Int) <= (n:Int)+1:=by omega
 have q14:(0:Int) <= (i:Int)+1:=by omega
 have hw1:IntKind.i64.wrap ((n:Int)+1)=(n:Int)+1:=IntWalk.i64_in _ (by omega)
 have hw2:IntKind.i64.wrap ((i:Int)+1)=(i:Int)+1:=IntWalk.i64_in _ (by omega)
 rw[<- hn]
 clear CP1 CP2 hW1 hW2 G1 G2 hv1 hv hc1 hcc hD hcs hsz hz3 g1 g2 g3 g4 hs ht hg hm hc hi hB hn hmm hvb
 go_enter Tryz.func122,Tryz.ntmps122
 have hov:=HOV.o
 go_wp2_with (simp only[hov])
 clear hov HOV
 refine Fall2.wp_region_tree (C:=fun w'=>True) [8] [] (.step 0 (.step 1 (.step 2 (.step 3 (.step 4 (.step 5 (.step 6 (.step 7 (.step 8 .leaf))))))))) (fun _ _ _=>False) (by kernel_rfl) (fun _ _ _ h=>h.elim) (by kernel_rfl) trivial ?_
 refine Fall2.tree_still [0,1,2,3,4,5,6,7] (by kernel_rfl) ?_
 simp only[pickL,nth]
 repeat (go_big_quiet_step (fail))
 refine wpQuiet_nil ?_
 refine Fall2.tree_eff (by kernel_rfl) rfl (fun K hK=>?_)
 simp only[pickL,nth]
 refine wpOne_one ?_
 have:=C1.o 3 (cap - (i+1)) (cap - i)
 refine wp_copy_run (.tmp 73) (.tmp 76) 29 rfl (.slice (some ⟨g,(i+1)*3,none⟩) m (cap - (i+1))) (.slice (some ⟨g,i*3,none⟩) (m+1) (cap - i)) rfl rfl this ?_
 refine hK _ _ (fun _=>trivial) ?_
 clear hK
 go_simp
 refine Fall2.tree_nil ?_
 have cc:=C2.o
 go_wp2_with (simp only[cc])
 go_ret
 exact⟨_,rfl,FIN.o.1,FIN.o.2.mono (fun b _ e=>by rw[e];rfl),fun b hb=>Or.inl hb⟩
theorem ins_grow (w:World) (B g cap:Nat) (cur:Array Value) (l:List Pos) (hB:B <= g) (hg:w.heap[g]?=some (.cells cur 105 (0,0))) (hc:cap=l.length) (hl:l.length <= 1000000) (hs:cur.size=cap*3) (ht:cur.toList.take (l.length*3)=l.flatMap Pos.cells)
 (i:Nat) (hi:i<l.length) (vb:Nat) (x:Pos) (hv:w.heap[vb]?=some (.cells #[.int .i64 x.acct,.int .i64 x.instr,.int .i64 x.qty] 105 (0,0))) (hvb:vb≠g) :
 Calls Tryz.prog 122 #[.slice (some ⟨g,0,none⟩) l.length cap,.int .i64 i,.slice (some ⟨vb,0,none⟩) 1 1] w (InsRet w B (.slice (some ⟨g,0,none⟩) l.length cap) (l.take i++x::l.drop i)):=by
 subst hc
 obtain⟨i0,g1,g2,g3,g4⟩:=info_parts dl_info
 have hsz:(Tryz.prog.info? 105).map (·.size)=some 3:=by rw[g1];exact congrArg some g3
 obtain⟨n,hn⟩:∃ n,n=l.length:=⟨_,rfl⟩
 obtain⟨m,hmm⟩:∃ m,m=n - i:=⟨_,rfl⟩
 have hD:((l.drop i).flatMap Pos.cells).length=m*3:=by rw[flatMap_len poscells_len,List.length_drop,<- hn,<- hmm]
 have hO:((l.take i).flatMap Pos.cells).length=i*3:=by rw[flatMap_len poscells_len,List.length_take,Nat.min_eq_left (by omega)]
 have hlt:=lt_of_heap hg
 have hvlt:=lt_of_heap hv
 obtain⟨z,hzz⟩:∃ z:Value,z=.agg #[.int .i64 0,.int .i64 0,.int .i64 0]:=⟨_,rfl⟩
 have hzs:z.cells.size=3:=by rw[hzz];rfl
 rw[<- hzz] at g2
 have hold:(Builtin.firstCells i0.size i (.slice (some ⟨g,0,none⟩) i n)).run Tryz.prog w.drew=.ok ((l.take i).flatMap Pos.cells).toArray w.drew:=by
  rw[g3]
  exact run_firstCells_some w.drew 3 i ⟨g,0,none⟩ i n _ hO (fun j u hu=>by
   rw[Addr.add_lit,Nat.zero_add]
   rw[<- cur_take poscells_len ht (by omega:i <= l.length),List.getElem?_take] at hu
   split at hu
   ·show w.cell? _=_
    rw[cell_of_heap hg];simpa using hu
   ·cases hu)
 have hkk:(n:Int)+1 - (i:Int)=((m+1:Nat):Int):=by omega
 have him:i+(m+1)=n+1:=by omega
 have AZ:∀ ty,_:=fun ty=>Lib.run_append_grow_zeros (P:=Tryz.prog) w 29 3 ty 105 i0 z .i64 .i64 Tryz.underlying29 Tryz.underlying3 g1 g2 (some ⟨g,0,none⟩) i n _ hold (m+1) (by omega) (by omega) (by omega) (by omega) (by rw[g4];omega) (by rw[g4,him];exact growslice_fits (by omega) (by omega))
 rw[him] at AZ
 obtain⟨G,hG⟩:∃ G,G=grownCap w (n+1) n 105:=⟨_,rfl⟩
 have hGn:n+1 <= G:=by rw[hG];exact grownCap_ge w _ _ _
 have hGm:G <= maxLen:=by rw[hG];exact grownCap_le_maxLen w (n+1) n _ (by unfold maxLen;omega)
 rw[<- hG] at AZ
 obtain⟨ROW,hROW⟩:∃ r,r=((l.take i).flatMap Pos.cells).toArray++Builtin.zeroCells z.cells (m+1)++Builtin.zeroCells z.cells (G - (n+1)):=⟨_,rfl⟩
 rw[<- hROW] at AZ
 have hRs:ROW.size=G*3:=by
  rw[hROW,Array.size_append,Array.size_append,List.size_toArray,hO,size_zeroCells,size_zeroCells,hzs]
  omega
 have hRt:ROW.toList.take (i*3)=(l.take i).flatMap Pos.cells:=by
  rw[hROW,<- hO,Array.toList_append,Array.toList_append,List.toList_toArray,List.append_assoc]
  exact List.take_left
 have hRc:ROW.toList.length=G*3:=hRs
 obtain⟨W1,hW1⟩:∃ s,s=w.drew.alloc (.cells ROW 105):=⟨_,rfl⟩
 rw[<- hW1] at AZ
 obtain⟨q,hq⟩:∃ q,q=w.heap.size:=⟨_,rfl⟩
 rw[<- hq] at AZ
 have G1:W1.heap[q]?=some (.cells ROW 105 (0,0)):=by rw[hW1,hq];exact heap_alloc_new w.drew _
 have B1:Below w.heap.size w W1:=by rw[hW1];exact (((Mod.refl (fun _=>False) w).drew).alloc _).toBelow
 have hv1:W1.heap[vb]?=some (.cells #[.int .i64 x.acct,.int .i64 x.instr,.int .i64 x.qty] 105 (0,0)):=(Mod.of_below B1).heap hv (fun h=>h)
 have hg1:W1.heap[g]?=some (.cells cur 105 (0,0)):=(Mod.of_below B1).heap hg (fun h=>h)
 have CPA:∀ ty dc,_:=fun ty dc=>run_copy_rowN (P:=Tryz.prog) W1 29 29 ty 105 q (i*3) (m+1) dc ⟨vb,0,none⟩ 1 1 1 3 ROW 105 (Pos.cells x) Tryz.underlying29 hsz G1 (by simp) rfl (one_reads hv1) (by rw[hRs,poscells_len];omega) (dl_one x)
 obtain⟨c1,hcc⟩:∃ c1,c1=ROW.toList.take (i*3)++Pos.cells x++ROW.toList.drop (i*3+(Pos.cells x).length):=⟨_,rfl⟩
 rw[<- hcc] at CPA
 obtain⟨W2,hW2⟩:∃ s,s=W1.setRow q c1.toArray:=⟨_,rfl⟩
 rw[<- hW2] at CPA
 have G2:W2.heap[q]?=some (.cells c1.toArray 105 (0,0)):=by rw[hW2];exact setRow_heap _ _ _ _ _ _ G1
 have hg2:W2.heap[g]?=some (.cells cur 105 (0,0)):=by rw[hW2];exact (mod_setRow'' W1 q _).heap hg1 (by omega)
 have hc1:c1.toArray.size=G*3:=by rw[List.size_toArray,hcc,len_store (by rw[hRc,poscells_len];omega),hRc]
 have CPB:∀ ty dc sc,_:=fun ty dc sc=>run_copy_rowN (P:=Tryz.prog) W2.drew 29 29 ty 105 q ((i+1)*3) m dc ⟨g,i*3,none⟩ m sc m 3 c1.toArray 105 ((l.drop i).flatMap Pos.cells) Tryz.underlying29 hsz G2 (by simp) hD (cur_src (w:=W2.drew) poscells_len hg2 ht (by omega)) (by rw[hD,hc1];omega) (loc_one _)
 rw[List.toList_toArray] at CPB
 obtain⟨W3,hW3⟩:∃ s,s=W2.drew.setRow q (c1.take ((i+1)*3)++(l.drop i).flatMap Pos.cells++c1.drop ((i+1)*3+((l.drop i).flatMap Pos.cells).length)).toArray:=⟨_,rfl⟩
 rw[<- hW3] at CPB
 have G3:W3.heap[q]?=some (.cells (c1.take ((i+1)*3)++(l.drop i).flatMap Pos.cells++c1.drop ((i+1)*3+((l.drop i).flatMap Pos.cells).length)).toArray 105 (0,0)):=by rw[hW3];exact setRow_heap _ _ _ _ _ _ G2
 have FIN:=zq (show OwnOf W3 B 105 3 Pos.cells (.slice (some ⟨q,0,none⟩) (n+1) G) (l.take i++x::l.drop i) /\ Mod (fun b=>False) w W3 /\ w.heap.size <= q from by
  refine⟨by rw[hn];exact own_inserted_new poscells_len (by omega) (by omega) (by omega) hGm hRs hRt hcc G3,?_,by omega⟩
  have M1:Mod (fun b=>b=q) W1 W3:=by
   rw[hW3,hW2]
   exact (((mod_setRow'' W1 q _)).drew).trans (mod_setRow'' _ q _) (fun _ _ h=>h)
  exact (Mod.of_below B1).trans M1 (fun b hb e=>by omega))
 have AH:=zq AZ
 have C1:=zq CPA
 have C2:=zq CPB
 have hG63:G <= 9223372036854775807:=hGm
 have q1:¬ (i:Int)=(n:Int):=by omega
 have q2:(n:Int)<(n:Int)+1:=by omega
 have q3:((i:Int)+1).toNat=i+1:=by omega
 have q5:(i:Int) <= (n:Int):=by omega
 have q7:(i:Int)+1 <= (n:Int)+1:=by omega
 have q8:n+1 - (i+1)=m:=by omega
 have q9:n+1 - i=m+1:=by omega
 have q10:¬ G=i+1:=by omega
 have q11:¬ G=i:=by omega
 have q12:(i:Int) <= (n:Int)+1:=by omega
 have q14:(0:Int) <= (i:Int)+1:=by omega
 have q15:¬ n=i:=by omega
 have q16:n - i=m:=hmm.symm
 have hw1:IntKind.i64.wrap ((n:Int)+1)=(n:Int)+1:=IntWalk.i64_in _ (by omega)
 have hw2:IntKind.i64.wrap ((i:Int)+1)=(i:Int)+1:=IntWalk.i64_in _ (by omega)
 have hw3:IntKind.i64.wrap ((n:Int)+1 - (i:Int))=(((m+1:Nat)):Int):=by rw[hkk];exact IntWalk.i64_in _ (by omega)
 rw[<- hn] at hl ⊢
 clear AZ CPA CPB hW1 hW2 hW3 G1 G2 G3 hg1 hg2 hv1 hv hc1 hcc hD hO hROW hRs hRt hRc hsz g1 g2 g3 g4 hs ht hg hi hB hn hmm hvb hG hGn hGm hq B1 hlt hvlt hzz hzs hold hkk him
 go_enter Tryz.func122,Tryz.ntmps122
 go_wp2_with (at_builtin;first|refine Lib.wpList_append_run _ rfl _ _ _ _ rfl _ _ rfl rfl _ _ (AH.o _) ?_|skip)
 have cc:=C1.o
 simp only[cc]
 go_wp2_with (fail)
 clear cc
 refine Fall2.wp_region_tree (C:=fun w'=>True) [8] [] (.step 0 (.step 1 (.step 2 (.step 3 (.step 4 (.step 5 (.step 6 (.step 7 (.step 8 .leaf))))))))) (fun _ _ _=>False) (by kernel_rfl) (fun _ _ _ h=>h.elim) (by kernel_rfl) trivial ?_
 refine Fall2.tree_still [0,1,2,3,4,5,6,7] (by kernel_rfl) ?_
 simp only[pickL,nth]
 repeat (go_big_quiet_step (fail))
 refine wpQuiet_nil ?_
 refine Fall2.tree_eff (by kernel_rfl) rfl (fun K hK=>?_)
 simp only[pickL,nth]
 refine wpOne_one ?_
 have:=C2.o 3 (G - (i+1)) m
 refine wp_copy_run (.tmp 50) (.tmp 53) 29 rfl (.slice (some ⟨q,(i+1)*3,none⟩) m (G - (i+1))) (.slice (some ⟨g,i*3,none⟩) m m) rfl rfl this ?_
 refine hK _ _ (fun _=>trivial) ?_
 clear hK
 go_simp
 refine Fall2.tree_nil ?_
 go_wp2_with fail
 go_ret
 exact⟨_,rfl,FIN.o.1,FIN.o.2.1.mono (fun b _ e=>e.elim),fun b hb=>Or.inr (by cases hb;exact FIN.o.2.2)⟩
theorem ins_loc (w:World) (B:Nat) (v:Value) (l:List Pos) (h:OwnOf w B 105 3 Pos.cells v l) (hl:l.length <= 1000000) (hB:B <= w.heap.size) (i:Nat) (hi:i <= l.length) (vb:Nat) (x:Pos) (hv:w.heap[vb]?=some (.cells #[.int .i64 x.acct,.int .i64 x.instr,.int .i64 x.qty] 105 (0,0))) (hvb:v.ownBlock≠some vb) :
 Calls Tryz.prog 122 #[v,.int .i64 i,.slice (some ⟨vb,0,none⟩) 1 1] w (InsRet w B v (l.take i++x::l.drop i)):=by
 rcases Nat.lt_or_eq_of_le hi with hlt|rfl
 ·obtain⟨g,cap,cur,rfl,hBg,hg,hc,hm,hs,ht⟩:=h.parts (by omega)
  have hne:vb≠g:=fun e=>hvb (by rw[e];rfl)
  by_cases hr:l.length+1 <= cap
  ·exact ins_room w B g cap cur l hBg hg hr hm hs ht i hlt vb x hv hne
  ·exact ins_grow w B g cap cur l hBg hg (by omega) hl hs ht i hlt vb x hv hne
 ·rw[List.take_length,List.drop_length]
  exact ins_end w B v l h hl hB vb x hv
end Go.Proofs.YtnkpdfjnjmmleaaGreatDoor

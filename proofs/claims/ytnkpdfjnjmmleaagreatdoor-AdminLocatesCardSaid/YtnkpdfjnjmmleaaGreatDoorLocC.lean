/- slices.Delete and slices.Insert at reservations, walked. -/
import Derived.Test.YtnkpdfjnjmmleaaGreatDoorRowN
import Derived.Lib.Overlaps
import Derived.Laws.Externs
set_option linter.unusedVariables false
set_option linter.unusedSimpArgs false
set_option maxRecDepth 100000
set_option maxHeartbeats 4000000
namespace Go.Proofs.YtnkpdfjnjmmleaaGreatDoor
open Go.RowKit Go.Bw Go.Maps Go.Shelf Go.Bw.Fall
theorem dl_info:(Tryz.prog.info? 105).map (fun i=>(i.zero,i.size,i.bytes))=some (some (.agg #[.int .i64 0,.int .i64 0,.int .i64 0]),3,24):=by kernel_rfl
theorem dl_one (x:Pos):∀ u∈Pos.cells x,u.oneCell'=true:=by
 intro u hu
 simp[Pos.cells] at hu
 rcases hu with rfl|rfl|rfl <;> rfl
theorem zero_one:∀ u∈(Value.agg #[.int .i64 0,.int .i64 0,.int .i64 0]).cells.toList,u.oneCell'=true:=by
 intro u hu
 have:u=.int .i64 0:=by simpa [Value.cells] using hu
 rw[this];rfl
theorem loc_one (l:List Pos):∀ u∈l.flatMap Pos.cells,u.oneCell'=true:=by
 intro u hu
 obtain⟨x,_,hx⟩:=List.mem_flatMap.1 hu
 exact dl_one x u hx
theorem mod_setRow'' (w:World) (g:Nat) (cs:Array Value):Mod (fun k=>k=g) w (w.setRow g cs):=⟨rfl,rfl,rfl,by simp[World.setRow],fun k _ hk=>setRow_other w g k _ hk⟩
theorem del_loc (w:World) (B:Nat) (v:Value) (l:List Pos) (h:OwnOf w B 105 3 Pos.cells v l) (k:Nat) (hk:k<l.length) (hl:l.length <= 1000000) :
 Calls Tryz.prog 121 #[v,.int .i64 k,.int .i64 ((k:Int)+1)] w fun e w'=>∃ v',e=.returned v' /\ OwnOf w' B 105 3 Pos.cells v' (l.eraseIdx k) /\ Mod (fun b=>v.ownBlock=some b) w w' /\ v'.ownBlock=v.ownBlock:=by
 obtain⟨g,cap,cur,rfl,hB,hg,hc,hm,hs,ht⟩:=h.parts (by omega)
 obtain⟨i0,g1,g2,g3,g4⟩:=info_parts dl_info
 obtain⟨n,hn⟩:∃ n,n=l.length:=⟨_,rfl⟩
 obtain⟨r,hr⟩:∃ r,r=n - (k+1):=⟨_,rfl⟩
 obtain⟨p,hp⟩:∃ p,p=k+r:=⟨_,rfl⟩
 have hD:((l.drop (k+1)).flatMap Pos.cells).length=r*3:=by rw[flatMap_len poscells_len,List.length_drop,<- hn,<- hr]
 have hfit:k*i0.size+((l.drop (k+1)).flatMap Pos.cells).length <= cur.size:=by rw[hD,g3,hs];omega
 have AP:∀ ty A c,(∀ (j:Nat) u,((l.drop (k+1)).flatMap Pos.cells)[j]?=some u -> w.drew.cell? (A.add j)=some u) -> (Builtin.append_ #[29, 29] ty #[.slice (some ⟨g,0,none⟩) k cap,.slice (some A) r c]).run Tryz.prog w.drew=_:=fun ty A c hA =>
  run_append_room (P:=Tryz.prog) w.drew 29 ty 105 i0 Tryz.underlying29 g1 g k cap cur hg A r c _ (by rw[hD,g3]) hA (loc_one _) (by omega) hfit
 rw[g3] at AP
 obtain⟨W1,hW1⟩:∃ s,s=w.drew.setRow g (cur.toList.take (k*3)++(l.drop (k+1)).flatMap Pos.cells++cur.toList.drop (k*3+((l.drop (k+1)).flatMap Pos.cells).length)).toArray:=⟨_,rfl⟩
 rw[<- hW1,<- hp] at AP
 have G1:W1.heap[g]?=some (.cells (cur.toList.take (k*3)++(l.drop (k+1)).flatMap Pos.cells++cur.toList.drop (k*3+((l.drop (k+1)).flatMap Pos.cells).length)).toArray 105 (0,0)):=by rw[hW1];exact setRow_heap _ _ _ _ _ _ hg
 have hc1:(cur.toList.take (k*3)++(l.drop (k+1)).flatMap Pos.cells++cur.toList.drop (k*3+((l.drop (k+1)).flatMap Pos.cells).length)).toArray.size=cap*3:=by
  have hcs:cur.toList.length=cap*3:=hs
  rw[List.size_toArray,len_store (by rw[hcs,hD];omega),hcs]
 have hv3:∀ w,(zeroValue 105).run Tryz.prog w=.ok (.agg #[.int .i64 0,.int .i64 0,.int .i64 0]) w:=fun w=>by kernel_rfl
 have CLR:∀ ty c,_:=fun ty c=>run_clear_rowN (P:=Tryz.prog) W1 29 105 ty _ 3 Tryz.underlying29 hv3 rfl (by decide) zero_one g (p*3) 1 c _ 105 G1 (by decide) (by rw[hc1];omega)
 obtain⟨Z,hZ⟩:∃ z,z=(Builtin.zeroCells (Value.agg #[.int .i64 0,.int .i64 0,.int .i64 0]).cells 1).toList:=⟨_,rfl⟩
 rw[<- hZ] at CLR
 have hZl:Z.length=3:=(CLR 0 0).1
 obtain⟨c1,hcc⟩:∃ c1,c1=cur.toList.take (k*3)++(l.drop (k+1)).flatMap Pos.cells++cur.toList.drop (k*3+((l.drop (k+1)).flatMap Pos.cells).length):=⟨_,rfl⟩
 rw[<- hcc] at CLR G1 hc1
 obtain⟨W2,hW2⟩:∃ s,s=W1.setRow g (c1.take (p*3)++Z++c1.drop (p*3+Z.length)).toArray:=⟨_,rfl⟩
 have CL:∀ ty c,(Builtin.clear_ #[29] ty #[.slice (some ⟨g,p*3,none⟩) 1 c]).run Tryz.prog W1=.ok (.tuple #[]) W2:=fun ty c=>by rw[hW2];exact (CLR ty c).2
 have G2:W2.heap[g]?=some (.cells (c1.take (p*3)++Z++c1.drop (p*3+Z.length)).toArray 105 (0,0)):=by rw[hW2];exact setRow_heap _ _ _ _ _ _ G1
 have OW:=zq (show OwnOf W2 B 105 3 Pos.cells (.slice (some ⟨g,0,none⟩) p cap) (l.eraseIdx k) /\ Mod (fun b=>b=g) w W2 from by
  refine⟨?_,?_⟩
  ·have e:p=l.length - 1:=by omega
   rw[e] at G2 ⊢
   exact own_erased poscells_len hk hB hc hm hs ht hcc hZl G2
  ·rw[hW2,hW1]
   exact (((Mod.refl (fun b=>b=g) w).drew).trans (mod_setRow'' _ g _) (fun _ _ h=>h)).trans (mod_setRow'' _ g _) (fun _ _ h=>h))
 have SRC:=zq (show ∀ (j:Nat) u,((l.drop (k+1)).flatMap Pos.cells)[j]?=some u -> w.drew.cell? ((⟨g,(k+1)*3,none⟩:Addr).add j)=some u from cur_src (w:=w.drew) poscells_len hg ht (by omega))
 have APH:=zq AP
 have NIL:=zq (show cap=k+1 -> (l.drop (k+1)).flatMap Pos.cells=[] from fun e=>by rw[List.drop_eq_nil_of_le (by omega)];rfl)
 have hcap63:cap <= 9223372036854775807:=hm
 have hnr:n - (k+1)=r:=hr.symm
 have hkr:k+r=p:=hp.symm
 have hnp:n - p=1:=by omega
 have q1:(k:Int) <= (k:Int)+1:=by omega
 have q2:¬ (k:Int)=(k:Int)+1:=by omega
 have q3:((k:Int)+1).toNat=k+1:=by omega
 have q4:(k:Int)+1 <= (n:Int):=by omega
 have q5:(n:Int) <= (cap:Int):=by omega
 have q6:¬ cap=p:=by omega
 have q7:(p:Int) <= (n:Int):=by omega
 have q8:(k:Int) <= (cap:Int):=by omega
 have q9:(0:Int) <= (k:Int)+1:=by omega
 have HP:=zq (And.intro hn (And.intro hr hp))
 rw[<- hn]
 by_cases hck:cap=k+1
 ·have A1:=APH.o 29 ⟨g,0,none⟩ 0 (fun j u hu=>by rw[NIL.o hck] at hu;cases hu)
  have AH:=zq A1
  clear AP CLR A1 hcc hW1 hW2 G1 G2 hc1 hZ hZl hD hfit hg hs ht hm h hn hr hp hk hB hc g1 g2 g3 g4 hv3
  subst hck
  go_enter Tryz.func121,Tryz.ntmps121
  go_upto_region 5 with (fail)
  refine Fall2.wp_region_tree (C:=fun w'=>True) [6] [] (.step 0 (.step 1 (.step 2 (.step 3 (.step 4 (.step 5 (.step 6 (.step 7 .leaf)))))))) (fun _ _ _=>False) (by kernel_rfl) (fun _ _ _ h=>h.elim) (by kernel_rfl) trivial ?_
  refine Fall2.tree_still [0,1,2,3,4,5] (by kernel_rfl) ?_
  simp only[pickL,nth]
  repeat (go_big_quiet_step (fail))
  refine wpQuiet_nil ?_
  refine Fall2.tree_eff (by kernel_rfl) rfl (fun K hK=>?_)
  simp only[pickL,nth]
  refine wp_append_run (.tmp 22) (.tmp 25) 29 rfl rfl rfl AH.o ?_
  refine hK _ _ (fun _=>trivial) ?_
  clear hK
  go_simp
  refine Fall2.tree_still [7] (by kernel_rfl) ?_
  simp only[pickL,nth]
  repeat (go_big_quiet_step (fail))
  refine wpQuiet_nil ?_
  refine Fall2.tree_nil ?_
  go_wp2_with fail
  go_ret
  exact⟨_,rfl,OW.o.1,OW.o.2.mono (fun b _ e=>by rw[e];rfl),rfl⟩
 ·have A1:=APH.o 29 ⟨g,(k+1)*3,none⟩ (cap - (k+1)) SRC.o
  have AH:=zq A1
  clear AP CLR A1 hcc hW1 hW2 G1 G2 hc1 hZ hZl hD hfit hg hs ht hm h hn hr hp hk hB hc g1 g2 g3 g4 hv3
  go_enter Tryz.func121,Tryz.ntmps121
  go_upto_region 5 with (fail)
  refine Fall2.wp_region_tree (C:=fun w'=>True) [6] [] (.step 0 (.step 1 (.step 2 (.step 3 (.step 4 (.step 5 (.step 6 (.step 7 .leaf)))))))) (fun _ _ _=>False) (by kernel_rfl) (fun _ _ _ h=>h.elim) (by kernel_rfl) trivial ?_
  refine Fall2.tree_still [0,1,2,3,4,5] (by kernel_rfl) ?_
  simp only[pickL,nth]
  repeat (go_big_quiet_step (fail))
  refine wpQuiet_nil ?_
  refine Fall2.tree_eff (by kernel_rfl) rfl (fun K hK=>?_)
  simp only[pickL,nth]
  refine wp_append_run (.tmp 22) (.tmp 25) 29 rfl rfl rfl AH.o ?_
  refine hK _ _ (fun _=>trivial) ?_
  clear hK
  go_simp
  refine Fall2.tree_still [7] (by kernel_rfl) ?_
  simp only[pickL,nth]
  repeat (go_big_quiet_step (fail))
  refine wpQuiet_nil ?_
  refine Fall2.tree_nil ?_
  go_wp2_with fail
  go_ret
  exact⟨_,rfl,OW.o.1,OW.o.2.mono (fun b _ e=>by rw[e];rfl),rfl⟩
end Go.Proofs.YtnkpdfjnjmmleaaGreatDoor

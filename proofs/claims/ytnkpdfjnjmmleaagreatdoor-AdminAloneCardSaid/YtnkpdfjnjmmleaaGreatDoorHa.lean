/- Joined: RowN, LocC, LocB, LocI, LocH, LocS, LocE, LocF. -/
import Derived.Test.YtnkpdfjnjmmleaaGreatDoorGe
import Derived.Lib.SliceRun
import Derived.Lib.AppendZerosOnto
import Derived.Lib.Overlaps
import Derived.Laws.Externs
import Derived.Test.YtnkpdfjnjmmleaaGreatDoorGm
import Derived.Test.YtnkpdfjnjmmleaaGreatDoorGk
import Derived.Test.YtnkpdfjnjmmleaaGreatDoorGa
import Derived.Test.YtnkpdfjnjmmleaaGreatDoorGn
import Derived.Test.YtnkpdfjnjmmleaaGreatDoorGg
import Derived.Test.YtnkpdfjnjmmleaaGreatDoorGj
import Derived.Test.YtnkpdfjnjmmleaaGreatDoorGl
import Derived.Test.YtnkpdfjnjmmleaaGreatDoorHb
set_option linter.unusedVariables false
set_option linter.unusedSimpArgs false
set_option maxRecDepth 100000
set_option maxHeartbeats 8000000
namespace Go.Bw
open Go.RowKit
section
variable {P:Program}
theorem run_copy_rowN (w:World) (dT sT ty elem:TypeId) (g o dLen dCap:Nat) (a:Addr) (sLen sCap m n:Nat) (cur:Array Value) (t:TypeId) (cs:List Value)
 (hu:P.underlying dT=some (.slice elem)) (hs:(P.info? elem).map (·.size)=some n) (hg:w.heap[g]?=some (.cells cur t (0,0))) (hm:Nat.min sLen dLen=m) (hn:cs.length=m*n)
 (hsrc:∀ j v,cs[j]?=some v -> w.cell? (a.add j)=some v) (hfit:o+cs.length <= cur.size) (h1:∀ v∈cs,v.oneCell'=true) :
 (Builtin.copy_ #[dT,sT] ty #[.slice (some ⟨g,o,none⟩) dLen dCap,.slice (some a) sLen sCap]).run P w =
  .ok (goInt m) (w.setRow g (cur.toList.take o++cs++cur.toList.drop (o+cs.length)).toArray):=by
 subst hm
 have hst:=run_storeCells_at P g o t cs 0 cur w hg (by simpa using hfit) h1
 cases hq:P.info? elem with
 | none=>simp[hq] at hs
 | some i =>
   have hi:i.size=n:=by simpa [hq] using hs
   have hl:=run_firstCells_some (P:=P) w n (Nat.min sLen dLen) a sLen sCap cs hn hsrc
   simp only[Nat.add_zero] at hst
   simp[Builtin.copy_,run_underlying hu,Builtin.lenOf,sizeOf,typeInfo,hq,hi,hl,hst]
theorem run_clear_rowN (w:World) (t e ty:TypeId) (z:Value) (n:Nat) (ht:P.underlying t=some (.slice e)) (hv:∀ w,(zeroValue e).run P w=.ok z w) (hz:z.cells.size=n) (hn:0<n) (h1:∀ u∈z.cells.toList,u.oneCell'=true)
 (g o m c:Nat) (cur:Array Value) (t':TypeId) (hg:w.heap[g]?=some (.cells cur t' (0,0))) (hm:0<m) (hfit:o+m*n <= cur.size) :
 (Builtin.zeroCells z.cells m).toList.length=m*n /\ (Builtin.clear_ #[t] ty #[.slice (some ⟨g,o,none⟩) m c]).run P w=.ok (.tuple #[]) (w.setRow g (cur.toList.take o++(Builtin.zeroCells z.cells m).toList++cur.toList.drop (o+(Builtin.zeroCells z.cells m).toList.length)).toArray):=by
 have hl:(Builtin.zeroCells z.cells m).toList.length=m*n:=by rw[Array.length_toList,size_zeroCells,hz]
 have hst:=run_storeCells_at P g o t' (Builtin.zeroCells z.cells m).toList 0 cur w hg (by rw[hl];simpa using hfit) (by
  intro u hu
  simp only[Builtin.zeroCells,Array.toList_map,List.mem_map] at hu
  obtain⟨i,_,rfl⟩:=hu
  have hi:i % z.cells.size<z.cells.size:=Nat.mod_lt _ (by omega)
  rw[getElem!_pos z.cells _ hi]
  exact h1 _ (by simp))
 simp only[Nat.add_zero] at hst
 obtain⟨m',rfl⟩:∃ m',m=m'+1:=⟨m - 1,by omega⟩
 exact⟨hl,by simp[Builtin.clear_,run_underlying ht,hv,hst]⟩
end
section
variable {α:Type} {w:World} {B n:Nat} {e:TypeId} {f:α -> List Value} {v:Value} {l:List α}
theorem OwnOf.parts (h:OwnOf w B e n f v l) (h0:0<l.length):∃ g cap cur,v=.slice (some ⟨g,0,none⟩) l.length cap /\ B <= g /\ w.heap[g]?=some (.cells cur e (0,0)) /\ l.length <= cap /\ cap <= maxLen /\ cur.size=cap*n /\ cur.toList.take (l.length*n)=l.flatMap f:=by
 unfold OwnOf at h
 rcases h.2 with ⟨rfl,hz⟩|h
 ·omega
 ·exact h
theorem own_of_cur {g cap:Nat} {cur:Array Value} (hf:∀ x,(f x).length=n) (hg:w.heap[g]?=some (.cells cur e (0,0))) (hB:B <= g) (h1:l.length <= cap) (h2:cap <= maxLen) (h3:cur.size=cap*n) (h4:cur.toList.take (l.length*n)=l.flatMap f) :
 OwnOf w B e n f (.slice (some ⟨g,0,none⟩) l.length cap) l:=⟨flatMap_len hf l,Or.inr ⟨g,cap,cur,rfl,hB,hg,h1,h2,h3,h4⟩⟩
theorem flatMap_take (hf:∀ x,(f x).length=n):∀ (l:List α) (k:Nat),k <= l.length -> (l.flatMap f).take (k*n)=(l.take k).flatMap f
 | [],k,h=>by simp
 | x::r,0,h=>by simp
 | x::r,k+1,h=>by
   rw[List.flatMap_cons,List.take_succ_cons,List.flatMap_cons,Nat.succ_mul,Nat.add_comm,<- hf x,List.take_length_add_append,hf x,flatMap_take hf r k (by simpa using h)]
theorem cur_take {cur:Array Value} (hf:∀ x,(f x).length=n) (h4:cur.toList.take (l.length*n)=l.flatMap f) {k:Nat} (hk:k <= l.length):cur.toList.take (k*n)=(l.take k).flatMap f:=by
 rw[<- flatMap_take hf l k hk,<- h4,List.take_take,Nat.min_eq_left (Nat.mul_le_mul_right _ hk)]
theorem cur_src {g:Nat} {cur:Array Value} {fr:Nat×Nat} (hf:∀ x,(f x).length=n) (hg:w.heap[g]?=some (.cells cur e fr)) (h4:cur.toList.take (l.length*n)=l.flatMap f) {k:Nat} (hk:k <= l.length) :
 ∀ (j:Nat) (u:Value),((l.drop k).flatMap f)[j]?=some u -> w.cell? ((⟨g,k*n,none⟩:Addr).add j)=some u:=by
 intro j u hu
 rw[Addr.add_lit,cell_of_heap hg]
 have e1:l.flatMap f=(l.take k).flatMap f++(l.drop k).flatMap f:=by rw[<- List.flatMap_append,List.take_append_drop]
 have hl:((l.take k).flatMap f).length=k*n:=by rw[flatMap_len hf,List.length_take,Nat.min_eq_left hk]
 have h5:(l.flatMap f)[k*n+j]?=some u:=by
  rw[e1,List.getElem?_append_right (by omega),hl,show k*n+j - k*n=j by omega]
  exact hu
 rw[<- h4,List.getElem?_take] at h5
 split at h5
 ·simpa using h5
 ·cases h5
theorem take_store {L S:List Value} {o:Nat} (ho:o <= L.length):(L.take o++S++L.drop (o+S.length)).take (o+S.length)=L.take o++S:=by
 have h:(L.take o++S).length=o+S.length:=by rw[List.length_append,List.length_take,Nat.min_eq_left ho]
 rw[<- h]
 exact List.take_left
theorem take_store_lt {L S:List Value} {o k:Nat} (ho:o <= L.length) (hk:k <= o):(L.take o++S++L.drop (o+S.length)).take k=L.take k:=by
 rw[List.append_assoc,List.take_append_of_le_length (by rw[List.length_take];omega),List.take_take,Nat.min_eq_left hk]
theorem len_store {L S:List Value} {o:Nat} (ho:o+S.length <= L.length):(L.take o++S++L.drop (o+S.length)).length=L.length:=by
 rw[List.length_append,List.length_append,List.length_take,List.length_drop]
 omega
theorem eraseIdx_flat (hf:∀ x,(f x).length=n) {k:Nat} (hk:k<l.length):(l.eraseIdx k).flatMap f=(l.take k).flatMap f++(l.drop (k+1)).flatMap f:=by
 rw[List.eraseIdx_eq_take_drop_succ,List.flatMap_append]
theorem own_erased {w':World} {g cap k:Nat} {cur:Array Value} {zs:List Value} (hf:∀ x,(f x).length=n) (hk:k<l.length) (hB:B <= g) (h1:l.length <= cap) (h2:cap <= maxLen) (h3:cur.size=cap*n) (h4:cur.toList.take (l.length*n)=l.flatMap f) {c1:List Value}
 (hc1:c1=cur.toList.take (k*n)++(l.drop (k+1)).flatMap f++cur.toList.drop (k*n+((l.drop (k+1)).flatMap f).length)) (hz:zs.length=n)
 (hg:w'.heap[g]?=some (.cells (c1.take ((l.length - 1)*n)++zs++c1.drop ((l.length - 1)*n+zs.length)).toArray e (0,0))) :
 OwnOf w' B e n f (.slice (some ⟨g,0,none⟩) (l.length - 1) cap) (l.eraseIdx k):=by
 have hcs:cur.toList.length=cap*n:=h3
 have hlen:(l.eraseIdx k).length=l.length - 1:=List.length_eraseIdx_of_lt hk
 have hD:((l.drop (k+1)).flatMap f).length=(l.length - (k+1))*n:=by rw[flatMap_len hf,List.length_drop]
 have hN:(l.length - 1)*n=k*n+(l.length - (k+1))*n:=by rw[<- Nat.add_mul];congr 1;omega
 have hcap:(l.length - 1)*n+n <= cap*n:=by
  have:=Nat.mul_le_mul_right n (show l.length - 1+1 <= cap by omega)
  rwa [Nat.add_mul,Nat.one_mul] at this
 have hcl:c1.length=cap*n:=by
  rw[hc1,len_store (by rw[hD,hcs];omega),hcs]
 have:=own_of_cur (l:=l.eraseIdx k) (B:=B) hf hg hB (by omega) h2 (by rw[List.size_toArray,len_store (by rw[hz,hcl];omega),hcl]) (by
  rw[hlen]
  show List.take ((l.length - 1)*n) _=_
  rw[take_store_lt (by rw[hcl];omega) (Nat.le_refl _),hc1,hN,<- hD,take_store (by rw[hcs];omega),eraseIdx_flat hf hk,cur_take hf h4 (by omega)])
 rwa [hlen] at this
theorem own_inserted {w':World} {g cap i:Nat} {x:α} {cur:Array Value} (hf:∀ x,(f x).length=n) (hi:i <= l.length) (hB:B <= g) (h1:l.length+1 <= cap) (h2:cap <= maxLen) (h3:cur.size=cap*n) (h4:cur.toList.take (i*n)=(l.take i).flatMap f) {c1:List Value}
 (hc1:c1=cur.toList.take ((i+1)*n)++(l.drop i).flatMap f++cur.toList.drop ((i+1)*n+((l.drop i).flatMap f).length))
 (hg:w'.heap[g]?=some (.cells (c1.take (i*n)++f x++c1.drop (i*n+(f x).length)).toArray e (0,0))) :
 OwnOf w' B e n f (.slice (some ⟨g,0,none⟩) (l.length+1) cap) (l.take i++x::l.drop i):=by
 have hcs:cur.toList.length=cap*n:=h3
 have hlen:(l.take i++x::l.drop i).length=l.length+1:=by simp;omega
 have hD:((l.drop i).flatMap f).length=(l.length - i)*n:=by rw[flatMap_len hf,List.length_drop]
 have hN:(l.length+1)*n=(i+1)*n+(l.length - i)*n:=by rw[<- Nat.add_mul];congr 1;omega
 have hI:(i+1)*n=i*n+n:=by rw[Nat.add_mul,Nat.one_mul]
 have hcap:(l.length+1)*n <= cap*n:=Nat.mul_le_mul_right n h1
 have hcl:c1.length=cap*n:=by
  rw[hc1,len_store (by rw[hD,hcs];omega),hcs]
 have t1:c1.take ((l.length+1)*n)=cur.toList.take ((i+1)*n)++(l.drop i).flatMap f:=by
  rw[hc1,hN,<- hD,take_store (by rw[hcs];omega)]
 have:=own_of_cur (l:=l.take i++x::l.drop i) (B:=B) hf hg hB (by omega) h2 (by rw[List.size_toArray,len_store (by rw[hf,hcl];omega),hcl]) (by
  rw[hlen]
  show List.take ((l.length+1)*n) (c1.take (i*n)++f x++c1.drop (i*n+(f x).length))=_
  have a1:(c1.take (i*n)++f x).length=(i+1)*n:=by rw[List.length_append,List.length_take,hf,hcl];omega
  have e0:(l.length+1)*n=(c1.take (i*n)++f x).length+(l.length - i)*n:=by rw[a1,hN]
  rw[e0,List.take_length_add_append,hf,<- hI]
  have e1:(c1.drop ((i+1)*n)).take ((l.length - i)*n)=(l.drop i).flatMap f:=by
   rw[List.take_drop,<- hN,t1,List.drop_left' (by rw[List.length_take,hcs];omega)]
  have e2:c1.take (i*n)=(l.take i).flatMap f:=by
   rw[hc1,take_store_lt (by rw[hcs];omega) (by omega),h4]
  rw[e1,e2,List.flatMap_append,List.flatMap_cons,List.append_assoc])
 rwa [hlen] at this
theorem own_inserted_new {w':World} {g cap i:Nat} {x:α} {cur:Array Value} (hf:∀ x,(f x).length=n) (hi:i <= l.length) (hB:B <= g) (h1:l.length+1 <= cap) (h2:cap <= maxLen) (h3:cur.size=cap*n) (h4:cur.toList.take (i*n)=(l.take i).flatMap f) {c1:List Value}
 (hc1:c1=cur.toList.take (i*n)++f x++cur.toList.drop (i*n+(f x).length))
 (hg:w'.heap[g]?=some (.cells (c1.take ((i+1)*n)++(l.drop i).flatMap f++c1.drop ((i+1)*n+((l.drop i).flatMap f).length)).toArray e (0,0))) :
 OwnOf w' B e n f (.slice (some ⟨g,0,none⟩) (l.length+1) cap) (l.take i++x::l.drop i):=by
 have hcs:cur.toList.length=cap*n:=h3
 have hlen:(l.take i++x::l.drop i).length=l.length+1:=by simp;omega
 have hD:((l.drop i).flatMap f).length=(l.length - i)*n:=by rw[flatMap_len hf,List.length_drop]
 have hN:(l.length+1)*n=(i+1)*n+(l.length - i)*n:=by rw[<- Nat.add_mul];congr 1;omega
 have hI:(i+1)*n=i*n+n:=by rw[Nat.add_mul,Nat.one_mul]
 have hcap:(l.length+1)*n <= cap*n:=Nat.mul_le_mul_right n h1
 have hcl:c1.length=cap*n:=by
  rw[hc1,len_store (by rw[hf,hcs];omega),hcs]
 have:=own_of_cur (l:=l.take i++x::l.drop i) (B:=B) hf hg hB (by omega) h2 (by rw[List.size_toArray,len_store (by rw[hD,hcl];omega),hcl]) (by
  rw[hlen]
  show List.take ((l.length+1)*n) _=_
  have e2:c1.take ((i+1)*n)=(l.take i).flatMap f++f x:=by
   rw[hc1,hI,show i*n+n=i*n+(f x).length from by rw[hf],take_store (by rw[hcs];omega),h4]
  rw[hN,<- hD,take_store (by rw[hcl];omega),e2,List.flatMap_append,List.flatMap_cons,List.append_assoc])
 rwa [hlen] at this
end
end Go.Bw
namespace Go.Proofs.YtnkpdfjnjmmleaaGreatDoor
open Go.RowKit Go.Bw Go.Maps Go.Shelf Go.Bw.Fall
theorem dl_info:(Tryz.prog.info? 105).map (fun i=>(i.zero,i.size,i.bytes))=some (some (.agg #[.int .i64 0,.int .i64 0,.int .i64 0]),3,24):=by kernel_rfl
theorem dl_one (x:Pos):∀ u∈Pos.cells x,u.oneCell'=true:=by
 intro u hu
 simp[Pos.cells] at hu
 rcases hu with rfl|rfl|rfl <;> rfl
theorem zero_one:∀ u∈(Value.agg #[.int .i64 0,.int .i64 0,.int .i64 0]).cells.toList,u.oneCell'=true:=by
 intro u hu
 have:u=.int .i64 0:=by simpa [Value.cells] using hu
 rw[this];rfl
theorem loc_one (l:List Pos):∀ u∈l.flatMap Pos.cells,u.oneCell'=true:=by
 intro u hu
 obtain⟨x,_,hx⟩:=List.mem_flatMap.1 hu
 exact dl_one x u hx
theorem mod_setRow'' (w:World) (g:Nat) (cs:Array Value):Mod (fun k=>k=g) w (w.setRow g cs):=⟨rfl,rfl,rfl,by simp[World.setRow],fun k _ hk=>setRow_other w g k _ hk⟩
theorem del_loc (w:World) (B:Nat) (v:Value) (l:List Pos) (h:OwnOf w B 105 3 Pos.cells v l) (k:Nat) (hk:k<l.length) (hl:l.length <= 1000000) :
 Calls Tryz.prog 121 #[v,.int .i64 k,.int .i64 ((k:Int)+1)] w fun e w'=>∃ v',e=.returned v' /\ OwnOf w' B 105 3 Pos.cells v' (l.eraseIdx k) /\ Mod (fun b=>v.ownBlock=some b) w w' /\ v'.ownBlock=v.ownBlock:=by
 obtain⟨g,cap,cur,rfl,hB,hg,hc,hm,hs,ht⟩:=h.parts (by omega)
 obtain⟨i0,g1,g2,g3,g4⟩:=info_parts dl_info
 obtain⟨n,hn⟩:∃ n,n=l.length:=⟨_,rfl⟩
 obtain⟨r,hr⟩:∃ r,r=n - (k+1):=⟨_,rfl⟩
 obtain⟨p,hp⟩:∃ p,p=k+r:=⟨_,rfl⟩
 have hD:((l.drop (k+1)).flatMap Pos.cells).length=r*3:=by rw[flatMap_len poscells_len,List.length_drop,<- hn,<- hr]
 have hfit:k*i0.size+((l.drop (k+1)).flatMap Pos.cells).length <= cur.size:=by rw[hD,g3,hs];omega
 have AP:∀ ty A c,(∀ (j:Nat) u,((l.drop (k+1)).flatMap Pos.cells)[j]?=some u -> w.drew.cell? (A.add j)=some u) -> (Builtin.append_ #[29, 29] ty #[.slice (some ⟨g,0,none⟩) k cap,.slice (some A) r c]).run Tryz.prog w.drew=_:=fun ty A c hA =>
  run_append_room (P:=Tryz.prog) w.drew 29 ty 105 i0 Tryz.underlying29 g1 g k cap cur hg A r c _ (by rw[hD,g3]) hA (loc_one _) (by omega) hfit
 rw[g3] at AP
 obtain⟨W1,hW1⟩:∃ s,s=w.drew.setRow g (cur.toList.take (k*3)++(l.drop (k+1)).flatMap Pos.cells++cur.toList.drop (k*3+((l.drop (k+1)).flatMap Pos.cells).length)).toArray:=⟨_,rfl⟩
 rw[<- hW1,<- hp] at AP
 have G1:W1.heap[g]?=some (.cells (cur.toList.take (k*3)++(l.drop (k+1)).flatMap Pos.cells++cur.toList.drop (k*3+((l.drop (k+1)).flatMap Pos.cells).length)).toArray 105 (0,0)):=by rw[hW1];exact setRow_heap _ _ _ _ _ _ hg
 have hc1:(cur.toList.take (k*3)++(l.drop (k+1)).flatMap Pos.cells++cur.toList.drop (k*3+((l.drop (k+1)).flatMap Pos.cells).length)).toArray.size=cap*3:=by
  have hcs:cur.toList.length=cap*3:=hs
  rw[List.size_toArray,len_store (by rw[hcs,hD];omega),hcs]
 have hv3:∀ w,(zeroValue 105).run Tryz.prog w=.ok (.agg #[.int .i64 0,.int .i64 0,.int .i64 0]) w:=fun w=>by kernel_rfl
 have CLR:∀ ty c,_:=fun ty c=>run_clear_rowN (P:=Tryz.prog) W1 29 105 ty _ 3 Tryz.underlying29 hv3 rfl (by decide) zero_one g (p*3) 1 c _ 105 G1 (by decide) (by rw[hc1];omega)
 obtain⟨Z,hZ⟩:∃ z,z=(Builtin.zeroCells (Value.agg #[.int .i64 0,.int .i64 0,.int .i64 0]).cells 1).toList:=⟨_,rfl⟩
 rw[<- hZ] at CLR
 have hZl:Z.length=3:=(CLR 0 0).1
 obtain⟨c1,hcc⟩:∃ c1,c1=cur.toList.take (k*3)++(l.drop (k+1)).flatMap Pos.cells++cur.toList.drop (k*3+((l.drop (k+1)).flatMap Pos.cells).length):=⟨_,rfl⟩
 rw[<- hcc] at CLR G1 hc1
 obtain⟨W2,hW2⟩:∃ s,s=W1.setRow g (c1.take (p*3)++Z++c1.drop (p*3+Z.length)).toArray:=⟨_,rfl⟩
 have CL:∀ ty c,(Builtin.clear_ #[29] ty #[.slice (some ⟨g,p*3,none⟩) 1 c]).run Tryz.prog W1=.ok (.tuple #[]) W2:=fun ty c=>by rw[hW2];exact (CLR ty c).2
 have G2:W2.heap[g]?=some (.cells (c1.take (p*3)++Z++c1.drop (p*3+Z.length)).toArray 105 (0,0)):=by rw[hW2];exact setRow_heap _ _ _ _ _ _ G1
 have OW:=zq (show OwnOf W2 B 105 3 Pos.cells (.slice (some ⟨g,0,none⟩) p cap) (l.eraseIdx k) /\ Mod (fun b=>b=g) w W2 from by
  refine⟨?_,?_⟩
  ·have e:p=l.length - 1:=by omega
   rw[e] at G2 ⊢
   exact own_erased poscells_len hk hB hc hm hs ht hcc hZl G2
  ·rw[hW2,hW1]
   exact (((Mod.refl (fun b=>b=g) w).drew).trans (mod_setRow'' _ g _) (fun _ _ h=>h)).trans (mod_setRow'' _ g _) (fun _ _ h=>h))
 have SRC:=zq (show ∀ (j:Nat) u,((l.drop (k+1)).flatMap Pos.cells)[j]?=some u -> w.drew.cell? ((⟨g,(k+1)*3,none⟩:Addr).add j)=some u from cur_src (w:=w.drew) poscells_len hg ht (by omega))
 have APH:=zq AP
 have NIL:=zq (show cap=k+1 -> (l.drop (k+1)).flatMap Pos.cells=[] from fun e=>by rw[List.drop_eq_nil_of_le (by omega)];rfl)
 have hcap63:cap <= 9223372036854775807:=hm
 have hnr:n - (k+1)=r:=hr.symm
 have hkr:k+r=p:=hp.symm
 have hnp:n - p=1:=by omega
 have q1:(k:Int) <= (k:Int)+1:=by omega
 have q2:¬ (k:Int)=(k:Int)+1:=by omega
 have q3:((k:Int)+1).toNat=k+1:=by omega
 have q4:(k:Int)+1 <= (n:Int):=by omega
 have q5:(n:Int) <= (cap:Int):=by omega
 have q6:¬ cap=p:=by omega
 have q7:(p:Int) <= (n:Int):=by omega
 have q8:(k:Int) <= (cap:Int):=by omega
 have q9:(0:Int) <= (k:Int)+1:=by omega
 have HP:=zq (And.intro hn (And.intro hr hp))
 rw[<- hn]
 by_cases hck:cap=k+1
 ·have A1:=APH.o 29 ⟨g,0,none⟩ 0 (fun j u hu=>by rw[NIL.o hck] at hu;cases hu)
  have AH:=zq A1
  clear AP CLR A1 hcc hW1 hW2 G1 G2 hc1 hZ hZl hD hfit hg hs ht hm h hn hr hp hk hB hc g1 g2 g3 g4 hv3
  subst hck
  go_enter Tryz.func121,Tryz.ntmps121
  go_upto_region 5 with (fail)
  refine Fall2.wp_region_tree (C:=fun w'=>True) [6] [] (.step 0 (.step 1 (.step 2 (.step 3 (.step 4 (.step 5 (.step 6 (.step 7 .leaf)))))))) (fun _ _ _=>False) (by kernel_rfl) (fun _ _ _ h=>h.elim) (by kernel_rfl) trivial ?_
  refine Fall2.tree_still [0,1,2,3,4,5] (by kernel_rfl) ?_
  simp only[pickL,nth]
  repeat (go_big_quiet_step (fail))
  refine wpQuiet_nil ?_
  refine Fall2.tree_eff (by kernel_rfl) rfl (fun K hK=>?_)
  simp only[pickL,nth]
  refine wp_append_run (.tmp 22) (.tmp 25) 29 rfl rfl rfl AH.o ?_
  refine hK _ _ (fun _=>trivial) ?_
  clear hK
  go_simp
  refine Fall2.tree_still [7] (by kernel_rfl) ?_
  simp only[pickL,nth]
  repeat (go_big_quiet_step (fail))
  refine wpQuiet_nil ?_
  refine Fall2.tree_nil ?_
  go_wp2_with fail
  go_ret
  exact⟨_,rfl,OW.o.1,OW.o.2.mono (fun b _ e=>by rw[e];rfl),rfl⟩
 ·have A1:=APH.o 29 ⟨g,(k+1)*3,none⟩ (cap - (k+1)) SRC.o
  have AH:=zq A1
  clear AP CLR A1 hcc hW1 hW2 G1 G2 hc1 hZ hZl hD hfit hg hs ht hm h hn hr hp hk hB hc g1 g2 g3 g4 hv3
  go_enter Tryz.func121,Tryz.ntmps121
  go_upto_region 5 with (fail)
  refine Fall2.wp_region_tree (C:=fun w'=>True) [6] [] (.step 0 (.step 1 (.step 2 (.step 3 (.step 4 (.step 5 (.step 6 (.step 7 .leaf)))))))) (fun _ _ _=>False) (by kernel_rfl) (fun _ _ _ h=>h.elim) (by kernel_rfl) trivial ?_
  refine Fall2.tree_still [0,1,2,3,4,5] (by kernel_rfl) ?_
  simp only[pickL,nth]
  repeat (go_big_quiet_step (fail))
  refine wpQuiet_nil ?_
  refine Fall2.tree_eff (by kernel_rfl) rfl (fun K hK=>?_)
  simp only[pickL,nth]
  refine wp_append_run (.tmp 22) (.tmp 25) 29 rfl rfl rfl AH.o ?_
  refine hK _ _ (fun _=>trivial) ?_
  clear hK
  go_simp
  refine Fall2.tree_still [7] (by kernel_rfl) ?_
  simp only[pickL,nth]
  repeat (go_big_quiet_step (fail))
  refine wpQuiet_nil ?_
  refine Fall2.tree_nil ?_
  go_wp2_with fail
  go_ret
  exact⟨_,rfl,OW.o.1,OW.o.2.mono (fun b _ e=>by rw[e];rfl),rfl⟩
end Go.Proofs.YtnkpdfjnjmmleaaGreatDoor
namespace Go.Bw
theorem pair_at {l:List Pos} (hs:l.Pairwise Pos.Lt) {k h:Nat} {x y:Pos} (hx:l[k]?=some x) (hy:l[h]?=some y) (hlt:k<h):x.Lt y:=by
 obtain⟨h1,e1⟩:=List.getElem?_eq_some_iff.1 hx
 obtain⟨h2,e2⟩:=List.getElem?_eq_some_iff.1 hy
 have:=List.pairwise_iff_getElem.1 hs k h h1 h2 hlt
 rwa [e1,e2] at this
theorem keyLt_dn {a i:Int} {l:List Pos} (hs:l.Pairwise Pos.Lt) {k h:Nat} {x y:Pos} (hx:l[k]?=some x) (hy:l[h]?=some y) (hkh:k <= h) (hl:keyLt a i y=true):keyLt a i x=true:=by
 rcases Nat.lt_or_eq_of_le hkh with hlt|rfl
 ·have h1:=pair_at hs hx hy hlt
  have h2:=of_decide_eq_true hl
  unfold Pos.Lt at h1
  exact decide_eq_true (by omega)
 ·rw[hx] at hy;cases hy;exact hl
theorem keyLt_up {a i:Int} {l:List Pos} (hs:l.Pairwise Pos.Lt) {k h:Nat} {x y:Pos} (hx:l[k]?=some x) (hy:l[h]?=some y) (hkh:h <= k) (hl:keyLt a i y=false):keyLt a i x=false:=by
 rcases Nat.lt_or_eq_of_le hkh with hlt|rfl
 ·have h1:=pair_at hs hy hx hlt
  have h2:=of_decide_eq_false hl
  unfold Pos.Lt at h1
  exact decide_eq_false (by omega)
 ·rw[hx] at hy;cases hy;exact hl
end Go.Bw
namespace Go.Proofs.YtnkpdfjnjmmleaaGreatDoor
open Go.RowKit Go.Bw Go.Maps Go.Shelf Go.Bw.Fall
theorem byI_key (x t:Pos):(byI x.acct t.acct x.instr t.instr<0)↔keyLt t.acct t.instr x=true:=by
 rw[byI_lt]
 unfold keyLt
 rw[decide_eq_true_iff]
theorem byI_eq (a b c d:Int):byI a b c d=0↔a=b /\ c=d:=by
 unfold byI cmpI
 split <;> split <;> (try split) <;> omega
theorem bsf_loc (w:World) (v:Value) (l:List Pos) (hR:RowOf w 3 Pos.cells v l) (hl:l.length <= 1024) (hs:l.Pairwise Pos.Lt) (t:Pos) :
 Calls Tryz.prog 119 #[v,.agg #[.int .i64 t.acct,.int .i64 t.instr,.int .i64 t.qty],.func (.func 120) #[] #[]] w fun e w'=>e=.returned (.tuple #[.int .i64 (posOf t.acct t.instr l:Nat),.bool (thereL t.acct t.instr l)]) /\ Below w.heap.size w w':=by
 obtain⟨ra,rc,rfl⟩:=hR.form
 obtain⟨m,hm⟩:∃ m,m=l.length:=⟨_,rfl⟩
 have HR:=zq hR
 have HM:=zq hm
 have HS:=zq hs
 obtain⟨RP,hRP⟩:∃ p,p=posOf t.acct t.instr l:=⟨_,rfl⟩
 obtain⟨RT,hRT⟩:∃ b,b=thereL t.acct t.instr l:=⟨_,rfl⟩
 have EP:=zq (And.intro hRP hRT)
 rw[<- hm] at hl HR ⊢
 rw[<- hRP,<- hRT]
 clear hR hm hs hRP hRT
 have X0:=zq (show At w (w.alloc (.cells #[.int .i64 t.acct,.int .i64 t.instr,.int .i64 t.qty] 105)) [(w.heap.size, 105,#[.int .i64 t.acct,.int .i64 t.instr,.int .i64 t.qty])] from (At.start w).alloc _ _)
 go_enter Tryz.func119,Tryz.ntmps119
 go_upto_region 1 with (fail)
 obtain⟨W0,hW0⟩:∃ s,s=w.alloc (.cells #[.int .i64 t.acct,.int .i64 t.instr,.int .i64 t.qty] 105):=⟨_,rfl⟩
 obtain⟨b0,hb0⟩:∃ n,n=w.heap.size:=⟨_,rfl⟩
 rw[<- hW0,<- hb0] at X0
 rw[<- hW0,<- hb0]
 clear hW0 hb0
 go_wp2_with fail
 go_loopw [9,10] (fun i j wr=>∃ p q:Nat,p <= q /\ q <= m /\ i=.int .i64 p /\ j=.int .i64 q /\ Hid ((∀ (k:Nat) x,k<p -> l[k]?=some x -> keyLt t.acct t.instr x=true) /\ (∀ (k:Nat) x,q <= k -> l[k]?=some x -> keyLt t.acct t.instr x=false)) /\ ∃ W,W=wr /\ Hid (At w W [(b0, 105,#[.int .i64 t.acct,.int .i64 t.instr,.int .i64 t.qty])])) (fun i j _=>(intOf j).toNat - (intOf i).toNat)
 case atStart=>exact⟨0,m,Nat.zero_le _,Nat.le_refl _,rfl,rfl,zq ⟨fun k x hk=>absurd hk (Nat.not_lt_zero _),fun k x hk hx=>by have:=(List.getElem?_eq_some_iff.1 hx).1;have:=HM.o;omega⟩,_,rfl,X0⟩
 case round =>
  clear X0
  obtain⟨p,q,hpq,hqm,rfl,rfl,IV,W,rfl,XW⟩:=hrel
  by_cases hlt:p<q
  ·have hlt':(p:Int)<(q:Int):=by omega
   have LT:=zq (And.intro hlt hqm)
   obtain⟨h,hh⟩:∃ h,h=(p+q) / 2:=⟨_,rfl⟩
   have HH:=zq (show p <= h /\ h<q from by omega)
   have hhi:((p:Int)+(q:Int)) / 2=(h:Int):=by omega
   obtain⟨x,hx⟩:∃ x,l[h]?=some x:=⟨_,List.getElem?_eq_getElem (by have:=HM.o;omega)⟩
   have ROW:=zq (HR.o.below XW.o.low)
   obtain⟨b,o,e',_,hc⟩:=ROW.o.at_ hx
   subst e'
   have cx0:=hc 0 (.int .i64 x.acct) rfl
   have cx1:=hc 1 (.int .i64 x.instr) rfl
   have cx2:=hc 2 (.int .i64 x.qty) rfl
   simp only[Nat.add_zero] at cx0
   have HX:=zq hx
   have hlm:(h:Int)<(m:Int):=by omega
   have d0:W.cell? ⟨b0,0,none⟩=some (.int .i64 t.acct):=XW.o.cell 0 rfl 0 rfl
   have d1:W.cell? ⟨b0,1,none⟩=some (.int .i64 t.instr):=XW.o.cell 0 rfl 1 rfl
   have d2:W.cell? ⟨b0,2,none⟩=some (.int .i64 t.qty):=XW.o.cell 0 rfl 2 rfl
   clear hx hc hh
   go_upto_region 5 with (fail)
   have BW:=zq XW.o.drew
   refine Fall2.wp_region_tree (C:=fun w'=>True) [6] [] (.step 0 (.step 1 (.step 2 (.step 3 (.step 4 (.step 5 (.step 6 (.step 7 .leaf)))))))) (fun _ _ _=>False) (by kernel_rfl) (fun _ _ _ h=>h.elim) (by kernel_rfl) trivial ?_
   refine Fall2.tree_still [0,1,2,3,4,5] (by kernel_rfl) ?_
   simp only[pickL,nth]
   repeat (go_big_quiet_step (fail))
   refine wpQuiet_nil ?_
   clear cx0 cx1 cx2 d0 d1 d2
   refine Fall2.tree_eff (by kernel_rfl) rfl (fun K hK=>?_)
   simp only[pickL,nth]
   refine wpOne_one ?_
   go_simp
   refine (byLoc_any _ x t).mono ?_
   rintro e w2 ⟨rfl,hb⟩
   have X2:=zq (BW.o.go hb)
   clear hb BW
   have KY:=zq (byI_key x t)
   obtain⟨bv,hbv⟩:∃ n,n=byI x.acct t.acct x.instr t.instr:=⟨_,rfl⟩
   rw[<- hbv] at KY ⊢
   clear hbv
   go_simp
   refine hK _ _ (fun _=>trivial) ?_
   clear hK
   go_simp
   refine Fall2.tree_still [7] (by kernel_rfl) ?_
   simp only[pickL,nth]
   repeat (go_big_quiet_step (fail))
   refine wpQuiet_nil ?_
   refine Fall2.tree_nil ?_
   by_cases hn:bv<0
   ·have IV2:=zq (show (∀ (k:Nat) z,k<h+1 -> l[k]?=some z -> keyLt t.acct t.instr z=true) /\ (∀ (k:Nat) z,q <= k -> l[k]?=some z -> keyLt t.acct t.instr z=false) from
     ⟨fun k z hk hz=>keyLt_dn HS.o hz HX.o (by omega) (KY.o.1 hn),IV.o.2⟩)
    go_wp2_with fail
    go_roundw
    case rel=>exact⟨h+1,q,by have:=HH.o;omega,hqm,by go_num,rfl,IV2,_,rfl,X2⟩
    case measure=>have:=HH.o;simp[intOf];omega
   ·have IV2:=zq (show (∀ (k:Nat) z,k<p -> l[k]?=some z -> keyLt t.acct t.instr z=true) /\ (∀ (k:Nat) z,h <= k -> l[k]?=some z -> keyLt t.acct t.instr z=false) from
     ⟨IV.o.1,fun k z hk hz=>keyLt_up HS.o hz HX.o hk (by cases hb:keyLt t.acct t.instr x with
      | false=>rfl
      | true=>exact absurd (KY.o.2 hb) hn)⟩)
    go_wp2_with fail
    go_roundw
    case rel=>exact⟨p,h,by have:=HH.o;omega,by have:=HH.o;omega,rfl,rfl,IV2,_,rfl,X2⟩
    case measure=>have:=HH.o;simp[intOf];omega
  ·have hlt':¬ (p:Int)<(q:Int):=by omega
   obtain rfl:p=q:=by omega
   have EPP:=zq (show RP=p from by rw[EP.o.1];exact posOf_one (by rw[<- HM.o];exact hqm) IV.o.1 (fun x hx=>IV.o.2 p x (Nat.le_refl _) hx))
   go_upto_region 8 with (fail)
   have BW:=zq XW.o.drew
   by_cases hpm:p<m
   ·have hlm:(p:Int)<(m:Int):=by omega
    obtain⟨x,hx⟩:∃ x,l[p]?=some x:=⟨_,List.getElem?_eq_getElem (by have:=HM.o;omega)⟩
    have ROW:=zq (HR.o.below XW.o.low)
    obtain⟨b,o,e',_,hc⟩:=ROW.o.at_ hx
    subst e'
    have cx0:=hc 0 (.int .i64 x.acct) rfl
    have cx1:=hc 1 (.int .i64 x.instr) rfl
    have cx2:=hc 2 (.int .i64 x.qty) rfl
    simp only[Nat.add_zero] at cx0
    have RTT:=zq (show RT=decide (x.acct=t.acct /\ x.instr=t.instr) from by
     rw[EP.o.2];unfold thereL;rw[<- EP.o.1,EPP.o,hx])
    have d0:W.cell? ⟨b0,0,none⟩=some (.int .i64 t.acct):=XW.o.cell 0 rfl 0 rfl
    have d1:W.cell? ⟨b0,1,none⟩=some (.int .i64 t.instr):=XW.o.cell 0 rfl 1 rfl
    have d2:W.cell? ⟨b0,2,none⟩=some (.int .i64 t.qty):=XW.o.cell 0 rfl 2 rfl
    clear hx hc
    refine Fall2.wp_region_tree (C:=fun w'=>True) [11] [0] (.step 0 (.step 1 (.step 2 (.step 3 (.step 4 (.step 5 (.step 6 (.step 7 (.step 8 (.step 9 (.step 10 (.step 11 (.step 12 (.step 13 (.step 14 (.step 15 .leaf)))))))))))))))) (fun _ _ _=>False) (by kernel_rfl) (fun _ _ _ h=>h.elim) (by kernel_rfl) trivial ?_
    refine Fall2.tree_pure [0] (by kernel_rfl) ?_
    simp only[pickL,nth]
    repeat (go_big_quiet_step (fail))
    refine wpQuiet_nil ?_
    refine Fall2.tree_still [1,2,3,4,5,6,7,8,9,10] (by kernel_rfl) ?_
    simp only[pickL,nth]
    repeat (go_big_quiet_step (fail))
    refine wpQuiet_nil ?_
    clear cx0 cx1 cx2 d0 d1 d2
    refine Fall2.tree_effw (by kernel_rfl) (by rfl) (fun K hK=>?_)
    simp only[pickL,nth]
    refine wpOne_one ?_
    go_simp
    refine (byLoc_any _ x t).mono ?_
    rintro e w2 ⟨rfl,hb⟩
    have X2:=zq (BW.o.go hb)
    clear hb BW
    have KY:=zq (byI_eq x.acct t.acct x.instr t.instr)
    obtain⟨bv,hbv⟩:∃ n,n=byI x.acct t.acct x.instr t.instr:=⟨_,rfl⟩
    rw[<- hbv] at KY ⊢
    clear hbv
    go_simp
    refine hK _ _ (fun _=>trivial) ?_
    clear hK
    go_simp
    by_cases hn:bv=0
    ·have hnb:(bv==0)=true:=by simp[hn]
     obtain rfl:RT=true:=by rw[RTT.o];exact decide_eq_true (KY.o.1 hn)
     clear hn
     refine Fall2.tree_still [12,13,14,15] (by kernel_rfl) ?_
     simp only[pickL,nth]
     repeat (go_big_quiet_step (fail))
     refine wpQuiet_nil ?_
     refine Fall2.tree_nil ?_
     go_wp2_with fail
     go_ret2
     exact⟨by rw[EPP.o];rfl,X2.o.low⟩
    ·have hnb:(bv==0)=false:=by simp[hn]
     obtain rfl:RT=false:=by rw[RTT.o];exact decide_eq_false (fun h=>hn (KY.o.2 h))
     clear hn
     refine Fall2.tree_still [12,13,14,15] (by kernel_rfl) ?_
     simp only[pickL,nth]
     repeat (go_big_quiet_step (fail))
     refine wpQuiet_nil ?_
     refine Fall2.tree_nil ?_
     go_wp2_with fail
     go_ret2
     exact⟨by rw[EPP.o];rfl,X2.o.low⟩
   ·have hlm:¬ (p:Int)<(m:Int):=by omega
    obtain rfl:RT=false:=by
     rw[EP.o.2];unfold thereL;rw[<- EP.o.1,EPP.o,List.getElem?_eq_none (by have:=HM.o;omega)]
    refine Fall2.wp_region_tree (C:=fun w'=>True) [11] [0] (.step 0 (.step 1 (.step 2 (.step 3 (.step 4 (.step 5 (.step 6 (.step 7 (.step 8 (.step 9 (.step 10 (.step 11 (.step 12 (.step 13 (.step 14 (.step 15 .leaf)))))))))))))))) (fun _ _ _=>False) (by kernel_rfl) (fun _ _ _ h=>h.elim) (by kernel_rfl) trivial ?_
    refine Fall2.tree_pure [0] (by kernel_rfl) ?_
    simp only[pickL,nth]
    repeat (go_big_quiet_step (fail))
    refine wpQuiet_nil ?_
    refine Fall2.tree_still [1,2,3,4,5,6,7,8,9,10] (by kernel_rfl) ?_
    simp only[pickL,nth]
    repeat (go_big_quiet_step (fail))
    refine wpQuiet_nil ?_
    refine Fall2.tree_skip (by kernel_rfl) rfl (by rfl) (fun _=>trivial) ?_
    go_simp
    refine Fall2.tree_still [12,13,14,15] (by kernel_rfl) ?_
    simp only[pickL,nth]
    repeat (go_big_quiet_step (fail))
    refine wpQuiet_nil ?_
    refine Fall2.tree_nil ?_
    go_wp2_with fail
    go_ret2
    exact⟨by rw[EPP.o];rfl,BW.o.low⟩
def InsRet (w:World) (B:Nat) (v:Value) (l:List Pos) (e:Ending) (w':World):Prop:=∃ v',e=.returned v' /\ OwnOf w' B 105 3 Pos.cells v' l /\ Mod (fun b=>v.ownBlock=some b) w w' /\ ∀ b,v'.ownBlock=some b -> v.ownBlock=some b \/ w.heap.size <= b
theorem wp_copy_run {P:Program} {w:World} {o:Oper} {a:Act} {K:Act -> World -> Prop} {Q:Exit -> Act -> World -> Prop} (d s:Operand) (t:TypeId)
 (ho:o.op=.call { callee:=.builtin .copy,args:=#[d,s],argTypes:=#[t,t] }) (v u:Value) (hd:a.eval d=v) (hs:a.eval s=u) {v':Value} {w':World}
 (hr:(Builtin.copy_ #[t,t] o.type #[v,u]).run P w=.ok v' w') (h:K (a.put o.dst v') w'):o.wp P a w K Q:=by
 unfold Oper.wp execOp
 simp only[ho,resolve,invoke,builtin,Sem.run_bind,Sem.run_pure,Result.andThen_ok,List.map_toArray,List.map_cons,List.map_nil,hd,hs,hr]
 exact h
theorem one_reads {w:World} {vb:Nat} {x:Pos} (hv:w.heap[vb]?=some (.cells #[.int .i64 x.acct,.int .i64 x.instr,.int .i64 x.qty] 105 (0,0))):∀ (j:Nat) u,(Pos.cells x)[j]?=some u -> w.cell? ((⟨vb,0,none⟩:Addr).add j)=some u:=by
 intro j u hu
 rw[Addr.add_lit,cell_of_heap hv,Nat.zero_add]
 rw[<- List.getElem?_toArray] at hu
 exact hu
theorem ins_end (w:World) (B:Nat) (v:Value) (l:List Pos) (h:OwnOf w B 105 3 Pos.cells v l) (hl:l.length <= 1000000) (hB:B <= w.heap.size) (vb:Nat) (x:Pos) (hv:w.heap[vb]?=some (.cells #[.int .i64 x.acct,.int .i64 x.instr,.int .i64 x.qty] 105 (0,0))) :
 Calls Tryz.prog 122 #[v,.int .i64 l.length,.slice (some ⟨vb,0,none⟩) 1 1] w (InsRet w B v (l++[x])):=by
 obtain⟨i0,g1,g2,g3,g4⟩:=info_parts dl_info
 obtain⟨v',w',hr,ho,hmod,hblk,_⟩:=run_append_to (P:=Tryz.prog) (w:=w) 29 29 105 i0 _ 3 24 Tryz.underlying29 g1 g2 g3 g4 rfl (by decide) v l.length (l.flatMap Pos.cells) (h.base (Nat.zero_le _)) (.slice (some ⟨vb,0,none⟩) 1 1) 1 (Pos.cells x) ⟨rfl,Or.inr ⟨_,_,rfl,one_reads hv⟩⟩ (dl_one x) (by unfold maxLen;omega) (by omega)
 have RN:=zq hr
 have FIN:=zq (show OwnOf w' B 105 3 Pos.cells v' (l++[x]) /\ Mod (fun b=>v.ownBlock=some b) w w' /\ ∀ b,v'.ownBlock=some b -> v.ownBlock=some b \/ w.heap.size <= b from by
  refine⟨?_,hmod,fun b hb=>(hblk b hb).imp id (fun e=>by omega)⟩
  have e:(l++[x]).flatMap Pos.cells=l.flatMap Pos.cells++Pos.cells x:=by simp
  unfold OwnOf
  rw[e,List.length_append]
  refine ownsRow_base ho (fun k hk=>?_)
  rcases hblk k hk with h1|h1
  ·exact (h.lt k h1).1
  ·omega)
 obtain⟨a,c,rfl,hc⟩:=h.form
 have hcm:c <= 9223372036854775807:=by
  unfold OwnOf at h
  rcases h.2 with ⟨e,_⟩|⟨g,cap,cur,e,_,_,_,hm,_⟩
  ·injection e with e1 e2 e3;omega
  ·injection e with e1 e2 e3;rw[e3];exact hm
 obtain⟨n,hn⟩:∃ n,n=l.length:=⟨_,rfl⟩
 rw[<- hn] at hl hc RN FIN ⊢
 have q1:(n:Int) <= (c:Int):=by omega
 clear h hr ho hmod hblk hv g1 g2 g3 g4 hn
 cases a with
 | none =>
   go_enter Tryz.func122,Tryz.ntmps122
   go_wp2_with (at_builtin;refine wpList_append_run rfl (.tmp 23) (.tmp 24) 29 rfl rfl rfl RN.o ?_)
   go_ret
   exact⟨_,rfl,FIN.o⟩
 | some a =>
   by_cases hnc:c=n
   ·subst hnc
    go_enter Tryz.func122,Tryz.ntmps122
    go_wp2_with (at_builtin;refine wpList_append_run rfl (.tmp 23) (.tmp 24) 29 rfl rfl rfl RN.o ?_)
    go_ret
    exact⟨_,rfl,FIN.o⟩
   ·skip
    go_enter Tryz.func122,Tryz.ntmps122
    go_wp2_with (at_builtin;refine wpList_append_run rfl (.tmp 23) (.tmp 24) 29 rfl rfl rfl RN.o ?_)
    go_ret
    exact⟨_,rfl,FIN.o⟩
theorem ins_room (w:World) (B g cap:Nat) (cur:Array Value) (l:List Pos) (hB:B <= g) (hg:w.heap[g]?=some (.cells cur 105 (0,0))) (hc:l.length+1 <= cap) (hm:cap <= maxLen) (hs:cur.size=cap*3) (ht:cur.toList.take (l.length*3)=l.flatMap Pos.cells)
 (i:Nat) (hi:i<l.length) (vb:Nat) (x:Pos) (hv:w.heap[vb]?=some (.cells #[.int .i64 x.acct,.int .i64 x.instr,.int .i64 x.qty] 105 (0,0))) (hvb:vb≠g) :
 Calls Tryz.prog 122 #[.slice (some ⟨g,0,none⟩) l.length cap,.int .i64 i,.slice (some ⟨vb,0,none⟩) 1 1] w (InsRet w B (.slice (some ⟨g,0,none⟩) l.length cap) (l.take i++x::l.drop i)):=by
 obtain⟨i0,g1,g2,g3,g4⟩:=info_parts dl_info
 have hsz:(Tryz.prog.info? 105).map (·.size)=some 3:=by rw[g1];exact congrArg some g3
 have hz3:∀ w,(Go.sizeOf 105).run Tryz.prog w=.ok 3 w:=fun w=>by kernel_rfl
 obtain⟨n,hn⟩:∃ n,n=l.length:=⟨_,rfl⟩
 obtain⟨m,hmm⟩:∃ m,m=n - i:=⟨_,rfl⟩
 have hcs:cur.toList.length=cap*3:=hs
 have hD:((l.drop i).flatMap Pos.cells).length=m*3:=by rw[flatMap_len poscells_len,List.length_drop,<- hn,<- hmm]
 have hcap63:cap <= 9223372036854775807:=hm
 have HOV:=zq (show ∀ lb cb,(callFunc 167 #[.slice (some ⟨vb,0,none⟩) 1 1,.slice (some ⟨g,(i+1)*3,none⟩) lb cb]).run Tryz.prog w=.ok (.value (.bool false)) w from fun lb cb=>by
  rw[run_callFunc_extern Tryz.func167 (by kernel_rfl) (by kernel_rfl) (by kernel_rfl) (e:=Extern.SlicesOverlaps.overlaps #[29, 29] #[4]) (by kernel_rfl),
   Lib.run_overlaps_apart w 29 4 105 Tryz.underlying29 3 hz3 ⟨vb,0,none⟩ ⟨g,(i+1)*3,none⟩ 1 1 lb cb hvb 105 105 3 (cap*3) (by simp[World.shape?,hv]) (by simp[World.shape?,hg,hs]) (by omega) (free_of_heap hv 0) (free_of_heap hv 3)]
  rfl)
 have CP1:∀ ty dc sc,_:=fun ty dc sc=>run_copy_rowN (P:=Tryz.prog) w.drew 29 29 ty 105 g ((i+1)*3) m dc ⟨g,i*3,none⟩ (m+1) sc m 3 cur 105 ((l.drop i).flatMap Pos.cells) Tryz.underlying29 hsz hg (by simp) hD (cur_src (w:=w.drew) poscells_len hg ht (by omega)) (by rw[hD,hs];omega) (loc_one _)
 obtain⟨c1,hcc⟩:∃ c1,c1=cur.toList.take ((i+1)*3)++(l.drop i).flatMap Pos.cells++cur.toList.drop ((i+1)*3+((l.drop i).flatMap Pos.cells).length):=⟨_,rfl⟩
 rw[<- hcc] at CP1
 obtain⟨W1,hW1⟩:∃ s,s=w.drew.setRow g c1.toArray:=⟨_,rfl⟩
 rw[<- hW1] at CP1
 have G1:W1.heap[g]?=some (.cells c1.toArray 105 (0,0)):=by rw[hW1];exact setRow_heap _ _ _ _ _ _ hg
 have hv1:W1.heap[vb]?=some (.cells #[.int .i64 x.acct,.int .i64 x.instr,.int .i64 x.qty] 105 (0,0)):=by rw[hW1];exact (mod_setRow'' w.drew g _).heap hv hvb
 have hc1:c1.toArray.size=cap*3:=by rw[List.size_toArray,hcc,len_store (by rw[hcs,hD];omega),hcs]
 have CP2:∀ ty dc,_:=fun ty dc=>run_copy_rowN (P:=Tryz.prog) W1 29 29 ty 105 g (i*3) (m+1) dc ⟨vb,0,none⟩ 1 1 1 3 c1.toArray 105 (Pos.cells x) Tryz.underlying29 hsz G1 (by simp) rfl (one_reads hv1) (by rw[hc1,poscells_len];omega) (dl_one x)
 rw[List.toList_toArray] at CP2
 obtain⟨W2,hW2⟩:∃ s,s=W1.setRow g (c1.take (i*3)++Pos.cells x++c1.drop (i*3+(Pos.cells x).length)).toArray:=⟨_,rfl⟩
 rw[<- hW2] at CP2
 have G2:W2.heap[g]?=some (.cells (c1.take (i*3)++Pos.cells x++c1.drop (i*3+(Pos.cells x).length)).toArray 105 (0,0)):=by rw[hW2];exact setRow_heap _ _ _ _ _ _ G1
 have FIN:=zq (show OwnOf W2 B 105 3 Pos.cells (.slice (some ⟨g,0,none⟩) (n+1) cap) (l.take i++x::l.drop i) /\ Mod (fun b=>b=g) w W2 from by
  refine⟨by rw[hn];exact own_inserted poscells_len (by omega) hB hc hm hs (cur_take poscells_len ht (by omega)) hcc G2,?_⟩
  rw[hW2,hW1]
  exact (((Mod.refl (fun b=>b=g) w).drew).trans (mod_setRow'' _ g _) (fun _ _ h=>h)).trans (mod_setRow'' _ g _) (fun _ _ h=>h))
 have C1:=zq CP1
 have C2:=zq CP2
 have q1:¬ (i:Int)=(n:Int):=by omega
 have q2:¬ (cap:Int)<(n:Int)+1:=by omega
 have q3:((i:Int)+1).toNat=i+1:=by omega
 have q4:((n:Int)+1).toNat=n+1:=by omega
 have q5:(i:Int) <= (n:Int):=by omega
 have q6:(n:Int)+1 <= (cap:Int):=by omega
 have q7:(i:Int)+1 <= (n:Int)+1:=by omega
 have q16:n - i=m:=hmm.symm
 have q9:n+1 - i=m+1:=by omega
 have q10:¬ cap=i+1:=by omega
 have q11:¬ cap=i:=by omega
 have q12:(i:Int) <= (n:Int)+1:=by omega
 have q13:(0:Int) <= (n:Int)+1:=by omega
 have q14:(0:Int) <= (i:Int)+1:=by omega
 have hw1:IntKind.i64.wrap ((n:Int)+1)=(n:Int)+1:=IntWalk.i64_in _ (by omega)
 have hw2:IntKind.i64.wrap ((i:Int)+1)=(i:Int)+1:=IntWalk.i64_in _ (by omega)
 rw[<- hn]
 clear CP1 CP2 hW1 hW2 G1 G2 hv1 hv hc1 hcc hD hcs hsz hz3 g1 g2 g3 g4 hs ht hg hm hc hi hB hn hmm hvb
 go_enter Tryz.func122,Tryz.ntmps122
 have hov:=HOV.o
 go_wp2_with (simp only[hov])
 clear hov HOV
 refine Fall2.wp_region_tree (C:=fun w'=>True) [8] [] (.step 0 (.step 1 (.step 2 (.step 3 (.step 4 (.step 5 (.step 6 (.step 7 (.step 8 .leaf))))))))) (fun _ _ _=>False) (by kernel_rfl) (fun _ _ _ h=>h.elim) (by kernel_rfl) trivial ?_
 refine Fall2.tree_still [0,1,2,3,4,5,6,7] (by kernel_rfl) ?_
 simp only[pickL,nth]
 repeat (go_big_quiet_step (fail))
 refine wpQuiet_nil ?_
 refine Fall2.tree_eff (by kernel_rfl) rfl (fun K hK=>?_)
 simp only[pickL,nth]
 refine wpOne_one ?_
 have:=C1.o 3 (cap - (i+1)) (cap - i)
 refine wp_copy_run (.tmp 73) (.tmp 76) 29 rfl (.slice (some ⟨g,(i+1)*3,none⟩) m (cap - (i+1))) (.slice (some ⟨g,i*3,none⟩) (m+1) (cap - i)) rfl rfl this ?_
 refine hK _ _ (fun _=>trivial) ?_
 clear hK
 go_simp
 refine Fall2.tree_nil ?_
 have cc:=C2.o
 go_wp2_with (simp only[cc])
 go_ret
 exact⟨_,rfl,FIN.o.1,FIN.o.2.mono (fun b _ e=>by rw[e];rfl),fun b hb=>Or.inl hb⟩
theorem ins_grow (w:World) (B g cap:Nat) (cur:Array Value) (l:List Pos) (hB:B <= g) (hg:w.heap[g]?=some (.cells cur 105 (0,0))) (hc:cap=l.length) (hl:l.length <= 1000000) (hs:cur.size=cap*3) (ht:cur.toList.take (l.length*3)=l.flatMap Pos.cells)
 (i:Nat) (hi:i<l.length) (vb:Nat) (x:Pos) (hv:w.heap[vb]?=some (.cells #[.int .i64 x.acct,.int .i64 x.instr,.int .i64 x.qty] 105 (0,0))) (hvb:vb≠g) :
 Calls Tryz.prog 122 #[.slice (some ⟨g,0,none⟩) l.length cap,.int .i64 i,.slice (some ⟨vb,0,none⟩) 1 1] w (InsRet w B (.slice (some ⟨g,0,none⟩) l.length cap) (l.take i++x::l.drop i)):=by
 subst hc
 obtain⟨i0,g1,g2,g3,g4⟩:=info_parts dl_info
 have hsz:(Tryz.prog.info? 105).map (·.size)=some 3:=by rw[g1];exact congrArg some g3
 obtain⟨n,hn⟩:∃ n,n=l.length:=⟨_,rfl⟩
 obtain⟨m,hmm⟩:∃ m,m=n - i:=⟨_,rfl⟩
 have hD:((l.drop i).flatMap Pos.cells).length=m*3:=by rw[flatMap_len poscells_len,List.length_drop,<- hn,<- hmm]
 have hO:((l.take i).flatMap Pos.cells).length=i*3:=by rw[flatMap_len poscells_len,List.length_take,Nat.min_eq_left (by omega)]
 have hlt:=lt_of_heap hg
 have hvlt:=lt_of_heap hv
 obtain⟨z,hzz⟩:∃ z:Value,z=.agg #[.int .i64 0,.int .i64 0,.int .i64 0]:=⟨_,rfl⟩
 have hzs:z.cells.size=3:=by rw[hzz];rfl
 rw[<- hzz] at g2
 have hold:(Builtin.firstCells i0.size i (.slice (some ⟨g,0,none⟩) i n)).run Tryz.prog w.drew=.ok ((l.take i).flatMap Pos.cells).toArray w.drew:=by
  rw[g3]
  exact run_firstCells_some w.drew 3 i ⟨g,0,none⟩ i n _ hO (fun j u hu=>by
   rw[Addr.add_lit,Nat.zero_add]
   rw[<- cur_take poscells_len ht (by omega:i <= l.length),List.getElem?_take] at hu
   split at hu
   ·show w.cell? _=_
    rw[cell_of_heap hg];simpa using hu
   ·cases hu)
 have hkk:(n:Int)+1 - (i:Int)=((m+1:Nat):Int):=by omega
 have him:i+(m+1)=n+1:=by omega
 have AZ:∀ ty,_:=fun ty=>Lib.run_append_grow_zeros (P:=Tryz.prog) w 29 3 ty 105 i0 z .i64 .i64 Tryz.underlying29 Tryz.underlying3 g1 g2 (some ⟨g,0,none⟩) i n _ hold (m+1) (by omega) (by omega) (by omega) (by omega) (by rw[g4];omega) (by rw[g4,him];exact growslice_fits (by omega) (by omega))
 rw[him] at AZ
 obtain⟨G,hG⟩:∃ G,G=grownCap w (n+1) n 105:=⟨_,rfl⟩
 have hGn:n+1 <= G:=by rw[hG];exact grownCap_ge w _ _ _
 have hGm:G <= maxLen:=by rw[hG];exact grownCap_le_maxLen w (n+1) n _ (by unfold maxLen;omega)
 rw[<- hG] at AZ
 obtain⟨ROW,hROW⟩:∃ r,r=((l.take i).flatMap Pos.cells).toArray++Builtin.zeroCells z.cells (m+1)++Builtin.zeroCells z.cells (G - (n+1)):=⟨_,rfl⟩
 rw[<- hROW] at AZ
 have hRs:ROW.size=G*3:=by
  rw[hROW,Array.size_append,Array.size_append,List.size_toArray,hO,size_zeroCells,size_zeroCells,hzs]
  omega
 have hRt:ROW.toList.take (i*3)=(l.take i).flatMap Pos.cells:=by
  rw[hROW,<- hO,Array.toList_append,Array.toList_append,List.toList_toArray,List.append_assoc]
  exact List.take_left
 have hRc:ROW.toList.length=G*3:=hRs
 obtain⟨W1,hW1⟩:∃ s,s=w.drew.alloc (.cells ROW 105):=⟨_,rfl⟩
 rw[<- hW1] at AZ
 obtain⟨q,hq⟩:∃ q,q=w.heap.size:=⟨_,rfl⟩
 rw[<- hq] at AZ
 have G1:W1.heap[q]?=some (.cells ROW 105 (0,0)):=by rw[hW1,hq];exact heap_alloc_new w.drew _
 have B1:Below w.heap.size w W1:=by rw[hW1];exact (((Mod.refl (fun _=>False) w).drew).alloc _).toBelow
 have hv1:W1.heap[vb]?=some (.cells #[.int .i64 x.acct,.int .i64 x.instr,.int .i64 x.qty] 105 (0,0)):=(Mod.of_below B1).heap hv (fun h=>h)
 have hg1:W1.heap[g]?=some (.cells cur 105 (0,0)):=(Mod.of_below B1).heap hg (fun h=>h)
 have CPA:∀ ty dc,_:=fun ty dc=>run_copy_rowN (P:=Tryz.prog) W1 29 29 ty 105 q (i*3) (m+1) dc ⟨vb,0,none⟩ 1 1 1 3 ROW 105 (Pos.cells x) Tryz.underlying29 hsz G1 (by simp) rfl (one_reads hv1) (by rw[hRs,poscells_len];omega) (dl_one x)
 obtain⟨c1,hcc⟩:∃ c1,c1=ROW.toList.take (i*3)++Pos.cells x++ROW.toList.drop (i*3+(Pos.cells x).length):=⟨_,rfl⟩
 rw[<- hcc] at CPA
 obtain⟨W2,hW2⟩:∃ s,s=W1.setRow q c1.toArray:=⟨_,rfl⟩
 rw[<- hW2] at CPA
 have G2:W2.heap[q]?=some (.cells c1.toArray 105 (0,0)):=by rw[hW2];exact setRow_heap _ _ _ _ _ _ G1
 have hg2:W2.heap[g]?=some (.cells cur 105 (0,0)):=by rw[hW2];exact (mod_setRow'' W1 q _).heap hg1 (by omega)
 have hc1:c1.toArray.size=G*3:=by rw[List.size_toArray,hcc,len_store (by rw[hRc,poscells_len];omega),hRc]
 have CPB:∀ ty dc sc,_:=fun ty dc sc=>run_copy_rowN (P:=Tryz.prog) W2.drew 29 29 ty 105 q ((i+1)*3) m dc ⟨g,i*3,none⟩ m sc m 3 c1.toArray 105 ((l.drop i).flatMap Pos.cells) Tryz.underlying29 hsz G2 (by simp) hD (cur_src (w:=W2.drew) poscells_len hg2 ht (by omega)) (by rw[hD,hc1];omega) (loc_one _)
 rw[List.toList_toArray] at CPB
 obtain⟨W3,hW3⟩:∃ s,s=W2.drew.setRow q (c1.take ((i+1)*3)++(l.drop i).flatMap Pos.cells++c1.drop ((i+1)*3+((l.drop i).flatMap Pos.cells).length)).toArray:=⟨_,rfl⟩
 rw[<- hW3] at CPB
 have G3:W3.heap[q]?=some (.cells (c1.take ((i+1)*3)++(l.drop i).flatMap Pos.cells++c1.drop ((i+1)*3+((l.drop i).flatMap Pos.cells).length)).toArray 105 (0,0)):=by rw[hW3];exact setRow_heap _ _ _ _ _ _ G2
 have FIN:=zq (show OwnOf W3 B 105 3 Pos.cells (.slice (some ⟨q,0,none⟩) (n+1) G) (l.take i++x::l.drop i) /\ Mod (fun b=>False) w W3 /\ w.heap.size <= q from by
  refine⟨by rw[hn];exact own_inserted_new poscells_len (by omega) (by omega) (by omega) hGm hRs hRt hcc G3,?_,by omega⟩
  have M1:Mod (fun b=>b=q) W1 W3:=by
   rw[hW3,hW2]
   exact (((mod_setRow'' W1 q _)).drew).trans (mod_setRow'' _ q _) (fun _ _ h=>h)
  exact (Mod.of_below B1).trans M1 (fun b hb e=>by omega))
 have AH:=zq AZ
 have C1:=zq CPA
 have C2:=zq CPB
 have hG63:G <= 9223372036854775807:=hGm
 have q1:¬ (i:Int)=(n:Int):=by omega
 have q2:(n:Int)<(n:Int)+1:=by omega
 have q3:((i:Int)+1).toNat=i+1:=by omega
 have q5:(i:Int) <= (n:Int):=by omega
 have q7:(i:Int)+1 <= (n:Int)+1:=by omega
 have q8:n+1 - (i+1)=m:=by omega
 have q9:n+1 - i=m+1:=by omega
 have q10:¬ G=i+1:=by omega
 have q11:¬ G=i:=by omega
 have q12:(i:Int) <= (n:Int)+1:=by omega
 have q14:(0:Int) <= (i:Int)+1:=by omega
 have q15:¬ n=i:=by omega
 have q16:n - i=m:=hmm.symm
 have hw1:IntKind.i64.wrap ((n:Int)+1)=(n:Int)+1:=IntWalk.i64_in _ (by omega)
 have hw2:IntKind.i64.wrap ((i:Int)+1)=(i:Int)+1:=IntWalk.i64_in _ (by omega)
 have hw3:IntKind.i64.wrap ((n:Int)+1 - (i:Int))=(((m+1:Nat)):Int):=by rw[hkk];exact IntWalk.i64_in _ (by omega)
 rw[<- hn] at hl ⊢
 clear AZ CPA CPB hW1 hW2 hW3 G1 G2 G3 hg1 hg2 hv1 hv hc1 hcc hD hO hROW hRs hRt hRc hsz g1 g2 g3 g4 hs ht hg hi hB hn hmm hvb hG hGn hGm hq B1 hlt hvlt hzz hzs hold hkk him
 go_enter Tryz.func122,Tryz.ntmps122
 go_wp2_with (at_builtin;first|refine Lib.wpList_append_run _ rfl _ _ _ _ rfl _ _ rfl rfl _ _ (AH.o _) ?_|skip)
 have cc:=C1.o
 simp only[cc]
 go_wp2_with (fail)
 clear cc
 refine Fall2.wp_region_tree (C:=fun w'=>True) [8] [] (.step 0 (.step 1 (.step 2 (.step 3 (.step 4 (.step 5 (.step 6 (.step 7 (.step 8 .leaf))))))))) (fun _ _ _=>False) (by kernel_rfl) (fun _ _ _ h=>h.elim) (by kernel_rfl) trivial ?_
 refine Fall2.tree_still [0,1,2,3,4,5,6,7] (by kernel_rfl) ?_
 simp only[pickL,nth]
 repeat (go_big_quiet_step (fail))
 refine wpQuiet_nil ?_
 refine Fall2.tree_eff (by kernel_rfl) rfl (fun K hK=>?_)
 simp only[pickL,nth]
 refine wpOne_one ?_
 have:=C2.o 3 (G - (i+1)) m
 refine wp_copy_run (.tmp 50) (.tmp 53) 29 rfl (.slice (some ⟨q,(i+1)*3,none⟩) m (G - (i+1))) (.slice (some ⟨g,i*3,none⟩) m m) rfl rfl this ?_
 refine hK _ _ (fun _=>trivial) ?_
 clear hK
 go_simp
 refine Fall2.tree_nil ?_
 go_wp2_with fail
 go_ret
 exact⟨_,rfl,FIN.o.1,FIN.o.2.1.mono (fun b _ e=>e.elim),fun b hb=>Or.inr (by cases hb;exact FIN.o.2.2)⟩
theorem ins_loc (w:World) (B:Nat) (v:Value) (l:List Pos) (h:OwnOf w B 105 3 Pos.cells v l) (hl:l.length <= 1000000) (hB:B <= w.heap.size) (i:Nat) (hi:i <= l.length) (vb:Nat) (x:Pos) (hv:w.heap[vb]?=some (.cells #[.int .i64 x.acct,.int .i64 x.instr,.int .i64 x.qty] 105 (0,0))) (hvb:v.ownBlock≠some vb) :
 Calls Tryz.prog 122 #[v,.int .i64 i,.slice (some ⟨vb,0,none⟩) 1 1] w (InsRet w B v (l.take i++x::l.drop i)):=by
 rcases Nat.lt_or_eq_of_le hi with hlt|rfl
 ·obtain⟨g,cap,cur,rfl,hBg,hg,hc,hm,hs,ht⟩:=h.parts (by omega)
  have hne:vb≠g:=fun e=>hvb (by rw[e];rfl)
  by_cases hr:l.length+1 <= cap
  ·exact ins_room w B g cap cur l hBg hg hr hm hs ht i hlt vb x hv hne
  ·exact ins_grow w B g cap cur l hBg hg (by omega) hl hs ht i hlt vb x hv hne
 ·rw[List.take_length,List.drop_length]
  exact ins_end w B v l h hl hB vb x hv
end Go.Proofs.YtnkpdfjnjmmleaaGreatDoor
namespace Go.Bw
theorem heldL_at {a i:Int}:∀ {l:List Pos} {k:Nat} {x:Pos},(∀ (j:Nat) y,j<k -> l[j]?=some y -> ¬ (y.acct=a /\ y.instr=i)) -> l[k]?=some x -> x.acct=a /\ x.instr=i -> heldL l a i=x.qty
 | [],_,_,_,h,_=>by simp at h
 | y::r,0,x,_,h,e=>by
   simp at h
   subst h
   simp[heldL,e]
 | y::r,k+1,x,hp,h,e=>by
   have h0:=hp 0 y (by omega) rfl
   have:=heldL_at (l:=r) (k:=k) (x:=x) (fun j z hj hz=>hp (j+1) z (by omega) (by simpa using hz)) (by simpa using h) e
   unfold heldL
   rw[if_neg h0]
   exact this
theorem heldL_no {a i:Int}:∀ {l:List Pos},(∀ y∈l,¬ (y.acct=a /\ y.instr=i)) -> heldL l a i=0
 | [],_=>rfl
 | y::r,h=>by
   unfold heldL
   rw[if_neg (h y (by simp))]
   exact heldL_no fun z hz=>h z (by simp[hz])
end Go.Bw
namespace Go.Proofs.YtnkpdfjnjmmleaaGreatDoor
open Go.RowKit Go.Bw Go.Maps Go.Shelf Go.Bw.Fall
theorem held_any (w:World) (v:Value) (l:List Pos) (hR:RowOf w 3 Pos.cells v l) (hl:l.length <= 1024) (a i:Int) :
 Calls Tryz.prog 72 #[v,.int .i64 a,.int .i64 i] w fun e w'=>e=.returned (.int .i64 (heldL l a i)) /\ Below w.heap.size w w':=by
 obtain⟨va,vc,rfl⟩:=hR.form
 obtain⟨n,hn⟩:∃ n,n=l.length:=⟨_,rfl⟩
 have HR:=zq hR
 rw[<- hn] at hl HR ⊢
 have HN:=zq hn
 clear hR hn
 go_enter Tryz.func72,Tryz.ntmps72
 go_wp2_with fail
 obtain⟨wo,hwo⟩:∃ wo,wo=w:=⟨_,rfl⟩
 go_loopw [11] (fun j wr=>∃ k:Nat,k <= n /\ j=.int .i64 k /\ Hid (∀ (j:Nat) y,j<k -> l[j]?=some y -> ¬ (y.acct=a /\ y.instr=i)) /\ Below w.heap.size w wr) (fun j _=>n - (intOf j).toNat)
 case atStart=>exact⟨0,Nat.zero_le _,rfl,zq fun j y hj=>by omega,Below.refl _ _⟩
 case round =>
  obtain⟨k,hk,rfl,IV,hb⟩:=hrel
  have BW:=zq hb
  have ROW:=zq (HR.o.below hb)
  clear hb
  by_cases hlt:k<n
  ·have hlt':(k:Int)<(n:Int):=by omega
   have LT:=zq hlt
   obtain⟨x,hx⟩:∃ x,l[k]?=some x:=⟨_,List.getElem?_eq_getElem (by rw[<- HN.o];exact hlt)⟩
   obtain⟨b,o,e',_,hc⟩:=ROW.o.at_ hx
   have hc0:=hc 0 (.int .i64 x.acct) rfl
   have hc1:=hc 1 (.int .i64 x.instr) rfl
   have hc2:=hc 2 (.int .i64 x.qty) rfl
   rw[Nat.add_zero] at hc0
   cases e'
   have HX:=zq hx
   have B2:=zq (fun o=>BW.o.alloc BW.o.size o)
   have NXT:=zq (show ¬ (x.acct=a /\ x.instr=i) -> ∀ (j:Nat) y,j<k+1 -> l[j]?=some y -> ¬ (y.acct=a /\ y.instr=i) from fun hn j y hj hy=>by
    by_cases e:j=k
    ·subst e;rw[HX.o] at hy;cases hy;exact hn
    ·exact IV.o j y (by omega) hy)
   clear hx hc
   by_cases ha:x.acct=a
   ·by_cases hi:x.instr=i
    ·have RES:=zq (heldL_at IV.o HX.o ⟨ha,hi⟩)
     go_wp2_with fail
     go_ret
     exact⟨by rw[RES.o];rfl,by first|exact B2.o _|exact below_drewN (B2.o _) _⟩
    ·have NX:=zq (NXT.o fun h=>hi h.2)
     go_wp2_with fail
     go_roundw
     case rel=>exact⟨k+1,by have:=LT.o;omega,by go_num,NX,by first|exact B2.o _|exact below_drewN (B2.o _) _⟩
     case measure=>have:=LT.o;simp[intOf];omega
   ·have NX:=zq (NXT.o fun h=>ha h.1)
    go_wp2_with fail
    go_roundw
    case rel=>exact⟨k+1,by have:=LT.o;omega,by go_num,NX,by first|exact B2.o _|exact below_drewN (B2.o _) _⟩
    case measure=>have:=LT.o;simp[intOf];omega
  ·have hlt':¬ (k:Int)<(n:Int):=by omega
   have RES:=zq (show heldL l a i=0 from heldL_no fun y hy=>by
    obtain⟨j,hj,e⟩:=List.mem_iff_getElem.1 hy
    exact IV.o j y (by have:=HN.o;omega) (by rw[<- e];exact List.getElem?_eq_getElem hj))
   have B2:=zq BW.o
   go_wp2_with fail
   go_ret
   exact⟨by rw[RES.o];rfl,by first|exact B2.o|exact below_drewN B2.o _⟩
def SupRet (w:World) (r:List Int×Int) (e:Ending) (w':World):Prop:=∃ u,e=.returned (.tuple #[u,.int .i64 r.2]) /\ OwnOf w' w.heap.size 3 1 icell u r.1 /\ Below w.heap.size w w'
theorem sup_no {w w':World} {r:List Int×Int} {n:Int} (h:r=([],n)) (hb:Below w.heap.size w w'):SupRet w r (.returned (.tuple #[.slice none 0 0,.int .i64 n])) w':=by
 subst h
 exact⟨_,rfl,OwnOf.nil _ _ _ _ _,hb⟩
theorem supply_any (w:World) (v:Value) (av:List Int) (hR:RowOf w 1 icell v av) (hl:av.length <= 1024) (hz:∀ x∈av,0 <= x /\ x <= 1000000000) (i q:Int) :
 Calls Tryz.prog 68 #[v,.int .i64 i,.int .i64 q] w (SupRet w (supplyA av i q)):=by
 obtain⟨va,vc,rfl⟩:=hR.form
 obtain⟨n,hn⟩:∃ n,n=av.length:=⟨_,rfl⟩
 have HR:=zq hR
 have HN:=zq hn
 have HZ:=zq hz
 have HL:=zq hl
 have CL:=zq (clone_int w _ av hR (fun x hx=>one_int x) (by omega))
 rw[<- hn] at hl HR CL ⊢
 clear hR hn hz
 by_cases h0:i<0
 ·have RES:=zq (show supplyA av i q=([],32) from by unfold supplyA;rw[if_neg (by omega)])
  have d0:decide (i<0)=true:=decide_eq_true h0
  go_enter Tryz.func68,Tryz.ntmps68
  go_wp2_with fail
  go_ret2
  exact sup_no RES.o (Below.refl _ _)
 obtain⟨k,rfl⟩:∃ k:Nat,i=k:=⟨i.toNat,by omega⟩
 by_cases h1:k<n
 ·have h1':¬ (n:Int) <= (k:Int):=by omega
  have hlt':(k:Int)<(n:Int):=by omega
  have hk:=zq (show k<av.length from by rw[<- HN.o];exact h1)
  obtain⟨x,hx⟩:∃ x,av[k]?=some x:=⟨_,List.getElem?_eq_getElem hk.o⟩
  have HX:=zq hx
  have hxb:=HZ.o x (List.mem_of_getElem? hx)
  have GD:=zq (show av.getD ((k:Int).toNat) 0=x from by rw[Int.toNat_natCast,List.getD_eq_getElem?_getD,hx];rfl)
  have SP:=zq (show supplyA av (k:Int) q=if (-1000000000 <= q /\ q <= 1000000000) /\ 0 <= x+q /\ x+q <= 1000000000 then (av.set k (x+q),0) else ([],36) from by
   unfold supplyA
   rw[if_pos (by have:=hk.o;omega),GD.o,Int.toNat_natCast])
  obtain⟨g,o,e',_,hc⟩:=HR.o.at_ hx
  have q0:w.cell? ⟨g,o+k,none⟩=some (.int .i64 x):=by have:=hc 0 (.int .i64 x) rfl;simpa using this
  cases e'
  clear hx hc
  by_cases hq:-1000000000 <= q /\ q <= 1000000000
  ·obtain⟨hq1,hq2⟩:=hq
   have ws:IntKind.i64.wrap (x+q)=x+q:=IntWalk.i64_in _ (by omega)
   by_cases h3:0 <= x+q
   ·by_cases h4:x+q <= 1000000000
    ·have hok:0 <= x+q /\ x+q <= 1000000000:=⟨h3,h4⟩
     have RES:=zq (show supplyA av (k:Int) q=(av.set k (x+q),0) from by rw[SP.o,if_pos ⟨⟨hq1,hq2⟩,h3,h4⟩])
     have h3':¬ x+q<0:=by omega
     have h4':¬ (1000000000:Int)<x+q:=by omega
     have hq1':¬ q < -1000000000:=by omega
     have hq2':¬ (1000000000:Int)<q:=by omega
     go_enter Tryz.func68,Tryz.ntmps68
     go_upto_region 8 with (refine CL.o.mono ?_;rintro e w2 ⟨u,rfl,own,hb⟩)
     have HO:=zq (And.intro own hb)
     clear own hb q0
     obtain⟨b2,c2,hv2,_,_,hcell,hfree⟩:=HO.o.1.slot icell_len (by decide) HX.o
     obtain⟨n2,hn2⟩:∃ n,n=av.length:=⟨_,rfl⟩
     rw[<- hn2] at hv2
     have HN2:=zq hn2
     have hlt2:(k:Int)<(n2:Int):=by have:=hk.o;omega
     subst hv2
     have r0:w2.cell? ⟨b2,k,none⟩=some (.int .i64 x):=by have:=hcell 0 (.int .i64 x) rfl;simpa using this
     have z0:w2.frozen? ⟨b2,k,none⟩=false:=hfree k
     have FIN:=zq (show OwnOf (w2.setCell ⟨b2,k,none⟩ (.int .i64 (x+q))) w.heap.size 3 1 icell (.slice (some ⟨b2,0,none⟩) n2 c2) (av.set k (x+q)) /\ Below w.heap.size w (w2.setCell ⟨b2,k,none⟩ (.int .i64 (x+q))) from by
      have hO:=HO.o.1
      have h0:=(hO.lt b2 rfl).1
      rw[HN2.o] at hO ⊢
      have:=(hO.set icell_len (x':=x+q) (u:=.int .i64 (x+q)) HX.o (j:=0) (by decide) rfl).1
      rw[Nat.mul_one,Nat.add_zero] at this
      exact⟨this,HO.o.2.setCell h0 _⟩)
     clear hcell hfree hn2
     go_wp2_with fail
     go_ret2
     exact⟨_,by rw[RES.o];rfl,by rw[RES.o];exact FIN.o.1,FIN.o.2⟩
    ·have RES:=zq (show supplyA av (k:Int) q=([],36) from by rw[SP.o,if_neg (fun h=>h4 h.2.2)])
     have h3':¬ x+q<0:=by omega
     have h4':(1000000000:Int)<x+q:=by omega
     have hq1':¬ q < -1000000000:=by omega
     have hq2':¬ (1000000000:Int)<q:=by omega
     go_enter Tryz.func68,Tryz.ntmps68
     go_wp2_with fail
     go_ret2
     exact sup_no RES.o (Below.refl _ _)
   ·have RES:=zq (show supplyA av (k:Int) q=([],36) from by rw[SP.o,if_neg (fun h=>h3 h.2.1)])
    have h3':x+q<0:=by omega
    have hq1':¬ q < -1000000000:=by omega
    have hq2':¬ (1000000000:Int)<q:=by omega
    go_enter Tryz.func68,Tryz.ntmps68
    go_wp2_with fail
    go_ret2
    exact sup_no RES.o (Below.refl _ _)
  ·have RES:=zq (show supplyA av (k:Int) q=([],36) from by rw[SP.o,if_neg (fun h=>hq h.1)])
   skip
   rcases Classical.em (q < -1000000000) with hq1|hq1
   ·skip
    go_enter Tryz.func68,Tryz.ntmps68
    go_wp2_with fail
    go_ret2
    exact sup_no RES.o (Below.refl _ _)
   ·have hq2:(1000000000:Int)<q:=by omega
    go_enter Tryz.func68,Tryz.ntmps68
    go_wp2_with fail
    go_ret2
    exact sup_no RES.o (Below.refl _ _)
 ·have RES:=zq (show supplyA av (k:Int) q=([],32) from by unfold supplyA;rw[if_neg (by have:=HN.o;omega)])
  have h1':(n:Int) <= (k:Int):=by omega
  go_enter Tryz.func68,Tryz.ntmps68
  go_wp2_with fail
  go_ret2
  exact sup_no RES.o (Below.refl _ _)
end Go.Proofs.YtnkpdfjnjmmleaaGreatDoor
namespace Go.Bw
theorem heldL_in {a i:Int}:∀ {l:List Pos},(∀ x∈l,0 <= x.qty /\ x.qty <= 1000000000) -> 0 <= heldL l a i /\ heldL l a i <= 1000000000
 | [],_=>by unfold heldL;omega
 | x::r,h=>by
   unfold heldL
   split
   ·exact h x (by simp)
   ·exact heldL_in fun y hy=>h y (by simp[hy])
end Go.Bw
namespace Go.Proofs.YtnkpdfjnjmmleaaGreatDoor
open Go.RowKit Go.Bw Go.Maps Go.Shelf Go.Bw.Fall
def ResRet (w:World) (r:List Int×List Pos×Int) (e:Ending) (w':World):Prop:=∃ u v,e=.returned (.tuple #[u,v,.int .i64 r.2.2]) /\ OwnOf w' w.heap.size 3 1 icell u r.1 /\ OwnOf w' w.heap.size 105 3 Pos.cells v r.2.1 /\ Below w.heap.size w w' /\ ∀ b,u.ownBlock=some b -> ¬ v.ownBlock=some b
theorem res_no {w w':World} {r:List Int×List Pos×Int} {n:Int} (h:r=([],[],n)) (hb:Below w.heap.size w w'):ResRet w r (.returned (.tuple #[.slice none 0 0,.slice none 0 0,.int .i64 n])) w':=by
 subst h
 exact⟨_,_,rfl,OwnOf.nil _ _ _ _ _,OwnOf.nil _ _ _ _ _,hb,fun b h=>by simp[Value.ownBlock] at h⟩
theorem res_fin {w w2 w5 w6:World} {u u2 v':Value} {A:List Int} {D:List Pos} {r:List Int×List Pos×Int} (e:r=(A,D,0)) (b2:Below w.heap.size w w2) (ou:OwnOf w2 w.heap.size 3 1 icell u A) (h25:Below w2.heap.size w2 w5)
 (h2:∀ b,u2.ownBlock=some b -> w2.heap.size <= b) (hm:Mod (fun b=>u2.ownBlock=some b) w5 w6) (ov:OwnOf w6 w2.heap.size 105 3 Pos.cells v' D):ResRet w r (.returned (.tuple #[u,v',.int .i64 0])) w6:=by
 subst e
 have hb:=b2.trans (h25.mono b2.size)
 refine⟨u,v',rfl,(ou.below h25).mod hm (fun k hk e=>by have:=(ou.lt k hk).2;have:=h2 k e;omega),ov.base b2.size,((Mod.of_below hb).trans hm (fun k hk e=>by have:=h2 k e;have:=b2.size;omega)).toBelow,fun b hb hb2=>?_⟩
 have:=(ou.lt b hb).2
 have:=(ov.lt b hb2).1
 omega
theorem own_loc_set {w:World} {B g c k:Nat} {l:List Pos} {x y:Pos} (h:OwnOf w B 105 3 Pos.cells (.slice (some ⟨g,0,none⟩) l.length c) l) (hk:l[k]?=some x) :
 OwnOf (((w.setCell ⟨g,k*3,none⟩ (.int .i64 y.acct)).setCell ⟨g,k*3+1,none⟩ (.int .i64 y.instr)).setCell ⟨g,k*3+2,none⟩ (.int .i64 y.qty)) B 105 3 Pos.cells (.slice (some ⟨g,0,none⟩) l.length c) (l.set k y) /\
 Mod (fun b=>b=g) w (((w.setCell ⟨g,k*3,none⟩ (.int .i64 y.acct)).setCell ⟨g,k*3+1,none⟩ (.int .i64 y.instr)).setCell ⟨g,k*3+2,none⟩ (.int .i64 y.qty)):=by
 have hlt:=(List.getElem?_eq_some_iff.1 hk).1
 have s1:=h.set poscells_len (x':=⟨y.acct,x.instr,x.qty⟩) (u:=.int .i64 y.acct) hk (j:=0) (by decide) rfl
 have e1:(l.set k (⟨y.acct,x.instr,x.qty⟩:Pos)).length=l.length:=List.length_set
 have s1':=s1.1
 rw[<- e1] at s1'
 have s2:=s1'.set poscells_len (x':=⟨y.acct,y.instr,x.qty⟩) (u:=.int .i64 y.instr) (k:=k) (x:=⟨y.acct,x.instr,x.qty⟩) (by rw[List.getElem?_set,if_pos rfl,if_pos hlt]) (j:=1) (by decide) rfl
 rw[List.set_set,e1] at s2
 have e2:(l.set k (⟨y.acct,y.instr,x.qty⟩:Pos)).length=l.length:=List.length_set
 have s2':=s2.1
 rw[<- e2] at s2'
 have s3:=s2'.set poscells_len (x':=y) (u:=.int .i64 y.qty) (k:=k) (x:=⟨y.acct,y.instr,x.qty⟩) (by rw[List.getElem?_set,if_pos rfl,if_pos hlt]) (j:=2) (by decide) rfl
 rw[List.set_set,e2] at s3
 exact⟨s3.1,(s1.2.trans s2.2 (fun _ _ h=>h)).trans s3.2 (fun _ _ h=>h)⟩
theorem reserve_any (w:World) (va v:Value) (av:List Int) (l:List Pos) (hA:RowOf w 1 icell va av) (hR:RowOf w 3 Pos.cells v l) (hal:av.length <= 1024) (hl:l.length <= 1024) (hz:∀ x∈av,0 <= x /\ x <= 1000000000) (hy:∀ x∈l,0 <= x.qty /\ x.qty <= 1000000000) (hs:l.Pairwise Pos.Lt) (a i q:Int) :
 Calls Tryz.prog 71 #[va,v,.int .i64 a,.int .i64 i,.int .i64 q] w (ResRet w (reserveA av l a i q)):=by
 obtain⟨pa,pc,rfl⟩:=hA.form
 obtain⟨ra,rc,rfl⟩:=hR.form
 obtain⟨n,hn⟩:∃ n,n=av.length:=⟨_,rfl⟩
 obtain⟨m,hm⟩:∃ m,m=l.length:=⟨_,rfl⟩
 have HA:=zq hA
 have HR:=zq hR
 have HN:=zq hn
 have HM:=zq hm
 have HZ:=zq hz
 have HS:=zq hs
 have HLL:=zq hl
 have HB:=zq (heldL_in (a:=a) (i:=i) hy)
 have HE:=zq (fun W (hb:Below w.heap.size w W)=>held_any W _ l (hR.below hb) hl a i)
 have SU:=zq (fun W (hb:Below w.heap.size w W)=>supply_any W _ av (hA.below hb) hal hz i (-q))
 have CL:=zq (fun W (hb:Below w.heap.size w W)=>clone_loc W _ l (hR.below hb) (fun x _=>one_loc x) (by omega))
 obtain⟨hd,hhd⟩:∃ x,x=heldL l a i:=⟨_,rfl⟩
 have HD:=zq hhd
 rw[<- hhd] at HB HE
 rw[<- hm] at hl HE HR CL ⊢
 rw[<- hn] at hal HA SU ⊢
 clear hA hR hn hm hz hs hy hhd
 by_cases h0:i<0
 ·have RES:=zq (show reserveA av l a i q=([],[],32) from by unfold reserveA;rw[if_neg (by omega)])
  have d0:decide (i<0)=true:=decide_eq_true h0
  go_enter Tryz.func71,Tryz.ntmps71
  go_wp2_with fail
  refine (HE.o _ (Below.refl _ _)).mono ?_
  rintro e w1 ⟨rfl,hb⟩
  have B1:=zq hb
  clear hb
  go_wp2_with fail
  go_ret3
  exact res_no RES.o B1.o
 obtain⟨k,rfl⟩:∃ k:Nat,i=k:=⟨i.toNat,by omega⟩
 by_cases h1:k<n
 ·have h1':¬ (n:Int) <= (k:Int):=by omega
  have hlt':(k:Int)<(n:Int):=by omega
  have hk:=zq (show k<av.length from by rw[<- HN.o];exact h1)
  obtain⟨x,hx⟩:∃ x,av[k]?=some x:=⟨_,List.getElem?_eq_getElem hk.o⟩
  have HX:=zq hx
  have hxb:=HZ.o x (List.mem_of_getElem? hx)
  have hdb:=HB.o
  have SP:=zq (show reserveA av l a (k:Int) q=if (-1000000000 <= q /\ q <= 1000000000) /\ 0 <= hd+q /\ hd+q <= 1000000000 then if q <= x then if x - q <= 1000000000 then if hasLoc l a (k:Int)=false /\ hd+q≠0 /\ 32 <= l.length then ([],[],40) else (av.set k (x - q),putLoc a (k:Int) (hd+q) l,0) else ([],[],36) else ([],[],39) else ([],[],36) from by
   have e:av.getD ((k:Int).toNat) 0=x:=by rw[Int.toNat_natCast,List.getD_eq_getElem?_getD,hx];rfl
   unfold reserveA
   rw[if_pos (by have:=hk.o;omega),e,Int.toNat_natCast,<- HD.o])
  have SS:=zq (show (-1000000000 <= q /\ q <= 1000000000) -> q <= x -> supplyA av (k:Int) (-q)=if x - q <= 1000000000 then (av.set k (x - q),0) else ([],36) from fun h1 h2=>by
   have e:av.getD ((k:Int).toNat) 0=x:=by rw[Int.toNat_natCast,List.getD_eq_getElem?_getD,hx];rfl
   unfold supplyA
   rw[if_pos (by have:=hk.o;omega),e,Int.toNat_natCast,show x+-q=x - q from by omega]
   by_cases h3:x - q <= 1000000000
   ·rw[if_pos h3,if_pos (by omega)]
   ·rw[if_neg h3,if_neg (by omega)])
  obtain⟨g,o,e',_,hc⟩:=HA.o.at_ hx
  have q0:w.cell? ⟨g,o+k,none⟩=some (.int .i64 x):=by have:=hc 0 (.int .i64 x) rfl;simpa using this
  cases e'
  have QC:=zq q0
  clear hx hc q0
  go_enter Tryz.func71,Tryz.ntmps71
  go_wp2_with fail
  refine (HE.o _ (Below.refl _ _)).mono ?_
  rintro e w1 ⟨rfl,hb⟩
  have B1:=zq hb
  clear hb HE
  by_cases hq1:q < -1000000000
  ·have RES:=zq (show reserveA av l a (k:Int) q=([],[],36) from by rw[SP.o,if_neg (by omega)])
   go_wp2_with fail
   go_ret3
   exact res_no RES.o B1.o
  by_cases hq2:(1000000000:Int)<q
  ·have RES:=zq (show reserveA av l a (k:Int) q=([],[],36) from by rw[SP.o,if_neg (by omega)])
   go_wp2_with fail
   go_ret3
   exact res_no RES.o B1.o
  have ws:IntKind.i64.wrap (hd+q)=hd+q:=IntWalk.i64_in _ (by omega)
  have wn:IntKind.i64.wrap (-q)=-q:=IntWalk.i64_in _ (by omega)
  by_cases hq3:hd+q<0
  ·have RES:=zq (show reserveA av l a (k:Int) q=([],[],36) from by rw[SP.o,if_neg (by omega)])
   go_wp2_with fail
   go_ret3
   exact res_no RES.o B1.o
  by_cases hq4:(1000000000:Int)<hd+q
  ·have RES:=zq (show reserveA av l a (k:Int) q=([],[],36) from by rw[SP.o,if_neg (by omega)])
   go_wp2_with fail
   go_ret3
   exact res_no RES.o B1.o
  have HQ:=zq (show (-1000000000 <= q /\ q <= 1000000000) /\ 0 <= hd+q /\ hd+q <= 1000000000 from by omega)
  have q1:w1.cell? ⟨g,o+k,none⟩=some (.int .i64 x):=(Mod.of_below B1.o).cell QC.o (fun h=>h)
  by_cases hq5:x<q
  ·have RES:=zq (show reserveA av l a (k:Int) q=([],[],39) from by rw[SP.o,if_pos HQ.o,if_neg (by omega)])
   go_wp2_with fail
   go_ret3
   exact res_no RES.o B1.o
  have HQ5:=zq (show q <= x from by omega)
  have SA:=zq (SS.o HQ.o.1 HQ5.o)
  by_cases hq6:x - q <= 1000000000
  rotate_left
  ·have RES:=zq (show reserveA av l a (k:Int) q=([],[],36) from by rw[SP.o,if_pos HQ.o,if_pos HQ5.o,if_neg hq6])
   have SA2:=zq (SA.o.trans (if_neg hq6))
   have CS:=zq (SU.o w1 B1.o)
   rw[SA2.o] at CS
   go_upto_region 10 with fail
   clear q1
   go_wp2_with fail
   refine CS.o.mono ?_
   rintro e w2 ⟨u,rfl,_,hb⟩
   have B2:=zq (B1.o.trans (hb.mono B1.o.size))
   clear hb
   go_wp2_with fail
   go_ret3
   exact res_no RES.o B2.o
  have SA2:=zq (SA.o.trans (if_pos hq6))
  have SPP:=zq (show reserveA av l a (k:Int) q=if hasLoc l a (k:Int)=false /\ hd+q≠0 /\ 32 <= l.length then ([],[],40) else (av.set k (x - q),putLoc a (k:Int) (hd+q) l,0) from by rw[SP.o,if_pos HQ.o,if_pos HQ5.o,if_pos hq6])
  have CS:=zq (SU.o w1 B1.o)
  rw[SA2.o] at CS
  go_upto_region 10 with fail
  clear q1
  go_wp2_with fail
  refine CS.o.mono ?_
  rintro e w2 ⟨u,rfl,own,hb⟩
  have B12:=zq hb
  have B2:=zq (B1.o.trans (hb.mono B1.o.size))
  have OU:=zq own
  clear hb own CS
  go_wp2_with fail
  refine (CL.o w2 B2.o).mono ?_
  rintro e w3 ⟨u2,rfl,own,hb⟩
  have B23:=zq hb
  have B3:=zq (B2.o.trans (hb.mono B2.o.size))
  have OU3:=zq (OU.o.below hb)
  have OV:=zq own
  clear hb own
  have PUT:=zq (thereL_has (a:=a) (i:=(k:Int)) HS.o)
  go_upto_region 15 with fail
  obtain⟨s,hs⟩:∃ s,s=hd+q:=⟨_,rfl⟩
  rw[<- hs] at SPP ⊢
  clear ws hq3 hq4 hs
  obtain⟨W4,hW4⟩:∃ ww,ww=w3.alloc (.cells #[.int .i64 a,.int .i64 (k:Int),.int .i64 s] 105):=⟨_,rfl⟩
  obtain⟨b4,hb4⟩:∃ n,n=w3.heap.size:=⟨_,rfl⟩
  have X4:=zq (show At w3 W4 [(b4, 105,#[.int .i64 a,.int .i64 (k:Int),.int .i64 s])] from by rw[hW4,hb4];exact (At.start w3).alloc _ _)
  have HB4:=zq hb4
  rw[<- hW4,<- hb4]
  clear hW4 hb4
  have d0:W4.cell? ⟨b4,0,none⟩=some (.int .i64 a):=X4.o.cell 0 rfl 0 rfl
  have d1:W4.cell? ⟨b4,1,none⟩=some (.int .i64 (k:Int)):=X4.o.cell 0 rfl 1 rfl
  have d2:W4.cell? ⟨b4,2,none⟩=some (.int .i64 s):=X4.o.cell 0 rfl 2 rfl
  have BS:=zq (bsf_loc W4 u2 l ((OV.o.below X4.o.low).row poscells_len (by decide)) HLL.o HS.o ⟨a,(k:Int),s⟩)
  obtain⟨a2,c2,hu2,hc2⟩:=OV.o.form
  rw[<- HM.o] at hu2
  subst hu2
  go_wp2_with fail
  refine BS.o.mono ?_
  rintro e w5 ⟨rfl,hb⟩
  have X5:=zq (X4.o.go hb)
  have B25:=zq (B23.o.trans (X5.o.low.mono B23.o.size))
  have OV5:=zq (OV.o.below X5.o.low)
  have OB:=zq (show ∀ b,Value.ownBlock (.slice a2 m c2)=some b -> w2.heap.size <= b from fun b hb=>(OV.o.lt b hb).1)
  have OUW:=zq (show OwnOf w2 w.heap.size 3 1 icell u (av.set k (x - q)) from OU.o.base B1.o.size)
  clear hb BS d0 d1 d2
  obtain⟨P,hP⟩:∃ P,P=posOf a (k:Int) l:=⟨_,rfl⟩
  obtain⟨TH,hTH⟩:∃ b,b=thereL a (k:Int) l:=⟨_,rfl⟩
  simp only
  rw[<- hP,<- hTH]
  have EP:=zq hP
  have ETH:=zq hTH
  have PL:=zq (show P <= l.length from by rw[hP];exact posOf_le _ _ _)
  have d2:w5.cell? ⟨b4,2,none⟩=some (.int .i64 s):=X5.o.cell 0 rfl 2 rfl
  clear hP hTH
  cases TH with
  | true =>
    have PLT:=zq (show P<l.length from by
     have:=ETH.o
     unfold thereL at this
     rw[<- EP.o] at this
     rcases Nat.lt_or_ge P l.length with h|h
     ·exact h
     ·rw[List.getElem?_eq_none h] at this;cases this)
    have hPc:P <= 1024:=by have:=PL.o;have:=HLL.o;omega
    have RES:=zq (show reserveA av l a (k:Int) q=(av.set k (x - q),if s=0 then l.eraseIdx P else l.set P ⟨a,(k:Int),s⟩,0) from by
     rw[SPP.o,if_neg (fun h=>by rw[<- PUT.o,<- ETH.o] at h;exact absurd h.1 (by decide)),putLoc_there ETH.o.symm,<- EP.o])
    by_cases hs0:s=0
    ·have hb0:(s==0)=true:=by simp[hs0]
     have R0:=zq (RES.o.trans (by rw[if_pos hs0]))
     have wp1:IntKind.i64.wrap ((P:Int)+1)=(P:Int)+1:=IntWalk.i64_in _ (by omega)
     have DE:=zq (del_loc w5 w2.heap.size (.slice a2 m c2) l OV5.o P PLT.o (by have:=HLL.o;omega))
     go_wp2_with fail
     refine DE.o.mono ?_
     rintro e w6 ⟨v',rfl,ov,hmod,_⟩
     have FIN:=zq (res_fin R0.o B2.o OUW.o B25.o OB.o hmod ov)
     clear ov hmod d2
     go_wp2_with fail
     go_ret3
     exact FIN.o
    ·have hb0:(s==0)=false:=by simp[hs0]
     have R0:=zq (RES.o.trans (by rw[if_neg hs0]))
     obtain⟨y,hy⟩:∃ y,l[P]?=some y:=⟨_,List.getElem?_eq_getElem PLT.o⟩
     obtain⟨gb,cb,ev,_,hcm,hcell,hfree⟩:=OV5.o.slot poscells_len (by decide) hy
     rw[<- HM.o] at ev
     injection ev with ev1 _ ev2
     subst ev1
     subst ev2
     have SETT:=zq (own_loc_set (y:=⟨a,(k:Int),s⟩) (by rw[<- HM.o];exact OV5.o) hy)
     rw[<- HM.o] at SETT
     have hPm:(P:Int)<(m:Int):=by have:=PLT.o;have:=HM.o;omega
     have r0:w5.cell? ⟨gb,P*3,none⟩=some (.int .i64 y.acct):=hcell 0 _ rfl
     have r1:w5.cell? ⟨gb,P*3+1,none⟩=some (.int .i64 y.instr):=hcell 1 _ rfl
     have r2:w5.cell? ⟨gb,P*3+2,none⟩=some (.int .i64 y.qty):=hcell 2 _ rfl
     have f0:w5.frozen? ⟨gb,P*3,none⟩=false:=hfree _
     have f1:w5.frozen? ⟨gb,P*3+1,none⟩=false:=hfree _
     have f2:w5.frozen? ⟨gb,P*3+2,none⟩=false:=hfree _
     have d0:w5.cell? ⟨b4,0,none⟩=some (.int .i64 a):=X5.o.cell 0 rfl 0 rfl
     have d1:w5.cell? ⟨b4,1,none⟩=some (.int .i64 (k:Int)):=X5.o.cell 0 rfl 1 rfl
     have FIN:=zq (res_fin R0.o B2.o OUW.o B25.o OB.o (SETT.o.2.mono (fun b _ e=>by rw[e];rfl)) SETT.o.1)
     clear hy hcell hfree hcm
     go_wp2_with fail
     go_ret3
     exact FIN.o
  | false =>
    have hPc:P <= 1024:=by have:=PL.o;have:=HLL.o;omega
    have NEW:=zq (show putLoc a (k:Int) s l=if s=0 then l else l.take P++⟨a,(k:Int),s⟩::l.drop P from by rw[putLoc_new ETH.o.symm,<- EP.o])
    have HNO:=zq (show hasLoc l a (k:Int)=false from by rw[<- PUT.o];exact ETH.o.symm)
    by_cases hs0:s=0
    ·have hb0:(s==0)=true:=by simp[hs0]
     have RES:=zq (show reserveA av l a (k:Int) q=(av.set k (x - q),l,0) from by
      rw[SPP.o,if_neg (fun h=>h.2.1 hs0),NEW.o,if_pos hs0])
     have FIN:=zq (res_fin RES.o B2.o OUW.o B25.o OB.o (Mod.refl _ _) OV5.o)
     go_wp2_with fail
     go_ret3
     exact FIN.o
    ·have hb0:(s==0)=false:=by simp[hs0]
     by_cases hlen:32 <= m
     ·have RES:=zq (show reserveA av l a (k:Int) q=([],[],40) from by
       rw[SPP.o,if_pos ⟨HNO.o,hs0,by rw[<- HM.o];exact hlen⟩])
      have hlen':(32:Int) <= (m:Int):=by omega
      go_wp2_with fail
      go_ret3
      exact res_no RES.o (B2.o.trans (B25.o.mono B2.o.size))
     ·have RES:=zq (show reserveA av l a (k:Int) q=(av.set k (x - q),l.take P++⟨a,(k:Int),s⟩::l.drop P,0) from by
       rw[SPP.o,if_neg (fun h=>hlen (by rw[HM.o];exact h.2.2)),NEW.o,if_neg hs0])
      have hlen':¬ (32:Int) <= (m:Int):=by omega
      have d0:w5.cell? ⟨b4,0,none⟩=some (.int .i64 a):=X5.o.cell 0 rfl 0 rfl
      have d1:w5.cell? ⟨b4,1,none⟩=some (.int .i64 (k:Int)):=X5.o.cell 0 rfl 1 rfl
      have N6:=zq (show Below w5.heap.size w5 (w5.alloc (.cells #[.int .i64 a,.int .i64 (k:Int),.int .i64 s] 105)) from (Below.refl _ _).alloc (Nat.le_refl _) _)
      have INS:=zq (ins_loc (w5.alloc (.cells #[.int .i64 a,.int .i64 (k:Int),.int .i64 s] 105)) w2.heap.size (.slice a2 m c2) l (OV5.o.below N6.o) (by have:=HLL.o;omega) (by have:=B25.o.size;have:=N6.o.size;omega) P PL.o w5.heap.size ⟨a,(k:Int),s⟩ (heap_alloc_new w5 _) (fun e=>by have:=(OV5.o.lt _ e).2;omega))
      go_wp2_with fail
      refine INS.o.mono ?_
      rintro e w6 ⟨v',rfl,ov,hmod,_⟩
      have FIN:=zq (res_fin RES.o B2.o OUW.o (B25.o.trans (N6.o.mono B25.o.size)) OB.o hmod ov)
      clear ov hmod d0 d1 d2
      go_wp2_with fail
      go_ret3
      exact FIN.o
 ·have RES:=zq (show reserveA av l a (k:Int) q=([],[],32) from by unfold reserveA;rw[if_neg (by have:=HN.o;omega)])
  have h1':(n:Int) <= (k:Int):=by omega
  go_enter Tryz.func71,Tryz.ntmps71
  go_wp2_with fail
  refine (HE.o _ (Below.refl _ _)).mono ?_
  rintro e w1 ⟨rfl,hb⟩
  have B1:=zq hb
  clear hb
  go_wp2_with fail
  go_ret3
  exact res_no RES.o B1.o
end Go.Proofs.YtnkpdfjnjmmleaaGreatDoor

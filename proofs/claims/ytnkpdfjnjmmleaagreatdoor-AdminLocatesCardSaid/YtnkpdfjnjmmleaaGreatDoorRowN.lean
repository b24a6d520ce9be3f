/- copy, clear and append in place where things have several cells, told by the block's cells; what slices.Delete and Insert leave. No program is named. -/
import Derived.Test.YtnkpdfjnjmmleaaGreatDoorGe
import Derived.Lib.SliceRun
import Derived.Lib.AppendZerosOnto
set_option linter.unusedVariables false
set_option linter.unusedSimpArgs false
namespace Go.Bw
open Go.RowKit
section
variable {P:Program}
theorem run_copy_rowN (w:World) (dT sT ty elem:TypeId) (g o dLen dCap:Nat) (a:Addr) (sLen sCap m n:Nat) (cur:Array Value) (t:TypeId) (cs:List Value)
 (hu:P.underlying dT=some (.slice elem)) (hs:(P.info? elem).map (·.size)=some n) (hg:w.heap[g]?=some (.cells cur t (0,0))) (hm:Nat.min sLen dLen=m) (hn:cs.length=m*n)
 (hsrc:∀ j v,cs[j]?=some v -> w.cell? (a.add j)=some v) (hfit:o+cs.length <= cur.size) (h1:∀ v∈cs,v.oneCell'=true) :
 (Builtin.copy_ #[dT,sT] ty #[.slice (some ⟨g,o,none⟩) dLen dCap,.slice (some a) sLen sCap]).run P w =
  .ok (goInt m) (w.setRow g (cur.toList.take o++cs++cur.toList.drop (o+cs.length)).toArray):=by
 subst hm
 have hst:=run_storeCells_at P g o t cs 0 cur w hg (by simpa using hfit) h1
 cases hq:P.info? elem with
 | none=>simp[hq] at hs
 | some i =>
   have hi:i.size=n:=by simpa [hq] using hs
   have hl:=run_firstCells_some (P:=P) w n (Nat.min sLen dLen) a sLen sCap cs hn hsrc
   simp only[Nat.add_zero] at hst
   simp[Builtin.copy_,run_underlying hu,Builtin.lenOf,sizeOf,typeInfo,hq,hi,hl,hst]
theorem run_clear_rowN (w:World) (t e ty:TypeId) (z:Value) (n:Nat) (ht:P.underlying t=some (.slice e)) (hv:∀ w,(zeroValue e).run P w=.ok z w) (hz:z.cells.size=n) (hn:0<n) (h1:∀ u∈z.cells.toList,u.oneCell'=true)
 (g o m c:Nat) (cur:Array Value) (t':TypeId) (hg:w.heap[g]?=some (.cells cur t' (0,0))) (hm:0<m) (hfit:o+m*n <= cur.size) :
 (Builtin.zeroCells z.cells m).toList.length=m*n /\ (Builtin.clear_ #[t] ty #[.slice (some ⟨g,o,none⟩) m c]).run P w=.ok (.tuple #[]) (w.setRow g (cur.toList.take o++(Builtin.zeroCells z.cells m).toList++cur.toList.drop (o+(Builtin.zeroCells z.cells m).toList.length)).toArray):=by
 have hl:(Builtin.zeroCells z.cells m).toList.length=m*n:=by rw[Array.length_toList,size_zeroCells,hz]
 have hst:=run_storeCells_at P g o t' (Builtin.zeroCells z.cells m).toList 0 cur w hg (by rw[hl];simpa using hfit) (by
  intro u hu
  simp only[Builtin.zeroCells,Array.toList_map,List.mem_map] at hu
  obtain⟨i,_,rfl⟩:=hu
  have hi:i % z.cells.size<z.cells.size:=Nat.mod_lt _ (by omega)
  rw[getElem!_pos z.cells _ hi]
  exact h1 _ (by simp))
 simp only[Nat.add_zero] at hst
 obtain⟨m',rfl⟩:∃ m',m=m'+1:=⟨m - 1,by omega⟩
 exact⟨hl,by simp[Builtin.clear_,run_underlying ht,hv,hst]⟩
end
section
variable {α:Type} {w:World} {B n:Nat} {e:TypeId} {f:α -> List Value} {v:Value} {l:List α}
theorem OwnOf.parts (h:OwnOf w B e n f v l) (h0:0<l.length):∃ g cap cur,v=.slice (some ⟨g,0,none⟩) l.length cap /\ B <= g /\ w.heap[g]?=some (.cells cur e (0,0)) /\ l.length <= cap /\ cap <= maxLen /\ cur.size=cap*n /\ cur.toList.take (l.length*n)=l.flatMap f:=by
 unfold OwnOf at h
 rcases h.2 with ⟨rfl,hz⟩|h
 ·omega
 ·exact h
theorem own_of_cur {g cap:Nat} {cur:Array Value} (hf:∀ x,(f x).length=n) (hg:w.heap[g]?=some (.cells cur e (0,0))) (hB:B <= g) (h1:l.length <= cap) (h2:cap <= maxLen) (h3:cur.size=cap*n) (h4:cur.toList.take (l.length*n)=l.flatMap f) :
 OwnOf w B e n f (.slice (some ⟨g,0,none⟩) l.length cap) l:=⟨flatMap_len hf l,Or.inr ⟨g,cap,cur,rfl,hB,hg,h1,h2,h3,h4⟩⟩
theorem flatMap_take (hf:∀ x,(f x).length=n):∀ (l:List α) (k:Nat),k <= l.length -> (l.flatMap f).take (k*n)=(l.take k).flatMap f
 | [],k,h=>by simp
 | x::r,0,h=>by simp
 | x::r,k+1,h=>by
   rw[List.flatMap_cons,List.take_succ_cons,List.flatMap_cons,Nat.succ_mul,Nat.add_comm,<- hf x,List.take_length_add_append,hf x,flatMap_take hf r k (by simpa using h)]
theorem cur_take {cur:Array Value} (hf:∀ x,(f x).length=n) (h4:cur.toList.take (l.length*n)=l.flatMap f) {k:Nat} (hk:k <= l.length):cur.toList.take (k*n)=(l.take k).flatMap f:=by
 rw[<- flatMap_take hf l k hk,<- h4,List.take_take,Nat.min_eq_left (Nat.mul_le_mul_right _ hk)]
theorem cur_src {g:Nat} {cur:Array Value} {fr:Nat×Nat} (hf:∀ x,(f x).length=n) (hg:w.heap[g]?=some (.cells cur e fr)) (h4:cur.toList.take (l.length*n)=l.flatMap f) {k:Nat} (hk:k <= l.length) :
 ∀ (j:Nat) (u:Value),((l.drop k).flatMap f)[j]?=some u -> w.cell? ((⟨g,k*n,none⟩:Addr).add j)=some u:=by
 intro j u hu
 rw[Addr.add_lit,cell_of_heap hg]
 have e1:l.flatMap f=(l.take k).flatMap f++(l.drop k).flatMap f:=by rw[<- List.flatMap_append,List.take_append_drop]
 have hl:((l.take k).flatMap f).length=k*n:=by rw[flatMap_len hf,List.length_take,Nat.min_eq_left hk]
 have h5:(l.flatMap f)[k*n+j]?=some u:=by
  rw[e1,List.getElem?_append_right (by omega),hl,show k*n+j - k*n=j by omega]
  exact hu
 rw[<- h4,List.getElem?_take] at h5
 split at h5
 ·simpa using h5
 ·cases h5
theorem take_store {L S:List Value} {o:Nat} (ho:o <= L.length):(L.take o++S++L.drop (o+S.length)).take (o+S.length)=L.take o++S:=by
 have h:(L.take o++S).length=o+S.length:=by rw[List.length_append,List.length_take,Nat.min_eq_left ho]
 rw[<- h]
 exact List.take_left
theorem take_store_lt {L S:List Value} {o k:Nat} (ho:o <= L.length) (hk:k <= o):(L.take o++S++L.drop (o+S.length)).take k=L.take k:=by
 rw[List.append_assoc,List.take_append_of_le_length (by rw[List.length_take];omega),List.take_take,Nat.min_eq_left hk]
theorem len_store {L S:List Value} {o:Nat} (ho:o+S.length <= L.length):(L.take o++S++L.drop (o+S.length)).length=L.length:=by
 rw[List.length_append,List.length_append,List.length_take,List.length_drop]
 omega
theorem eraseIdx_flat (hf:∀ x,(f x).length=n) {k:Nat} (hk:k<l.length):(l.eraseIdx k).flatMap f=(l.take k).flatMap f++(l.drop (k+1)).flatMap f:=by
 rw[List.eraseIdx_eq_take_drop_succ,List.flatMap_append]
theorem own_erased {w':World} {g cap k:Nat} {cur:Array Value} {zs:List Value} (hf:∀ x,(f x).length=n) (hk:k<l.length) (hB:B <= g) (h1:l.length <= cap) (h2:cap <= maxLen) (h3:cur.size=cap*n) (h4:cur.toList.take (l.length*n)=l.flatMap f) {c1:List Value}
 (hc1:c1=cur.toList.take (k*n)++(l.drop (k+1)).flatMap f++cur.toList.drop (k*n+((l.drop (k+1)).flatMap f).length)) (hz:zs.length=n)
 (hg:w'.heap[g]?=some (.cells (c1.take ((l.length - 1)*n)++zs++c1.drop ((l.length - 1)*n+zs.length)).toArray e (0,0))) :
 OwnOf w' B e n f (.slice (some ⟨g,0,none⟩) (l.length - 1) cap) (l.eraseIdx k):=by
 have hcs:cur.toList.length=cap*n:=h3
 have hlen:(l.eraseIdx k).length=l.length - 1:=List.length_eraseIdx_of_lt hk
 have hD:((l.drop (k+1)).flatMap f).length=(l.length - (k+1))*n:=by rw[flatMap_len hf,List.length_drop]
 have hN:(l.length - 1)*n=k*n+(l.length - (k+1))*n:=by rw[<- Nat.add_mul];congr 1;omega
 have hcap:(l.length - 1)*n+n <= cap*n:=by
  have:=Nat.mul_le_mul_right n (show l.length - 1+1 <= cap by omega)
  rwa [Nat.add_mul,Nat.one_mul] at this
 have hcl:c1.length=cap*n:=by
  rw[hc1,len_store (by rw[hD,hcs];omega),hcs]
 have:=own_of_cur (l:=l.eraseIdx k) (B:=B) hf hg hB (by omega) h2 (by rw[List.size_toArray,len_store (by rw[hz,hcl];omega),hcl]) (by
  rw[hlen]
  show List.take ((l.length - 1)*n) _=_
  rw[take_store_lt (by rw[hcl];omega) (Nat.le_refl _),hc1,hN,<- hD,take_store (by rw[hcs];omega),eraseIdx_flat hf hk,cur_take hf h4 (by omega)])
 rwa [hlen] at this
theorem own_inserted {w':World} {g cap i:Nat} {x:α} {cur:Array Value} (hf:∀ x,(f x).length=n) (hi:i <= l.length) (hB:B <= g) (h1:l.length+1 <= cap) (h2:cap <= maxLen) (h3:cur.size=cap*n) (h4:cur.toList.take (i*n)=(l.take i).flatMap f) {c1:List Value}
 (hc1:c1=cur.toList.take ((i+1)*n)++(l.drop i).flatMap f++cur.toList.drop ((i+1)*n+((l.drop i).flatMap f).length))
 (hg:w'.heap[g]?=some (.cells (c1.take (i*n)++f x++c1.drop (i*n+(f x).length)).toArray e (0,0))) :
 OwnOf w' B e n f (.slice (some ⟨g,0,none⟩) (l.length+1) cap) (l.take i++x::l.drop i):=by
 have hcs:cur.toList.length=cap*n:=h3
 have hlen:(l.take i++x::l.drop i).length=l.length+1:=by simp;omega
 have hD:((l.drop i).flatMap f).length=(l.length - i)*n:=by rw[flatMap_len hf,List.length_drop]
 have hN:(l.length+1)*n=(i+1)*n+(l.length - i)*n:=by rw[<- Nat.add_mul];congr 1;omega
 have hI:(i+1)*n=i*n+n:=by rw[Nat.add_mul,Nat.one_mul]
 have hcap:(l.length+1)*n <= cap*n:=Nat.mul_le_mul_right n h1
 have hcl:c1.length=cap*n:=by
  rw[hc1,len_store (by rw[hD,hcs];omega),hcs]
 have t1:c1.take ((l.length+1)*n)=cur.toList.take ((i+1)*n)++(l.drop i).flatMap f:=by
  rw[hc1,hN,<- hD,take_store (by rw[hcs];omega)]
 have:=own_of_cur (l:=l.take i++x::l.drop i) (B:=B) hf hg hB (by omega) h2 (by rw[List.size_toArray,len_store (by rw[hf,hcl];omega),hcl]) (by
  rw[hlen]
  show List.take ((l.length+1)*n) (c1.take (i*n)++f x++c1.drop (i*n+(f x).length))=_
  have a1:(c1.take (i*n)++f x).length=(i+1)*n:=by rw[List.length_append,List.length_take,hf,hcl];omega
  have e0:(l.length+1)*n=(c1.take (i*n)++f x).length+(l.length - i)*n:=by rw[a1,hN]
  rw[e0,List.take_length_add_append,hf,<- hI]
  have e1:(c1.drop ((i+1)*n)).take ((l.length - i)*n)=(l.drop i).flatMap f:=by
   rw[List.take_drop,<- hN,t1,List.drop_left' (by rw[List.length_take,hcs];omega)]
  have e2:c1.take (i*n)=(l.take i).flatMap f:=by
   rw[hc1,take_store_lt (by rw[hcs];omega) (by omega),h4]
  rw[e1,e2,List.flatMap_append,List.flatMap_cons,List.append_assoc])
 rwa [hlen] at this
theorem own_inserted_new {w':World} {g cap i:Nat} {x:α} {cur:Array Value} (hf:∀ x,(f x).length=n) (hi:i <= l.length) (hB:B <= g) (h1:l.length+1 <= cap) (h2:cap <= maxLen) (h3:cur.size=cap*n) (h4:cur.toList.take (i*n)=(l.take i).flatMap f) {c1:List Value}
 (hc1:c1=cur.toList.take (i*n)++f x++cur.toList.drop (i*n+(f x).length))
 (hg:w'.heap[g]?=some (.cells (c1.take ((i+1)*n)++(l.drop i).flatMap f++c1.drop ((i+1)*n+((l.drop i).flatMap f).length)).toArray e (0,0))) :
 OwnOf w' B e n f (.slice (some ⟨g,0,none⟩) (l.length+1) cap) (l.take i++x::l.drop i):=by
 have hcs:cur.toList.length=cap*n:=h3
 have hlen:(l.take i++x::l.drop i).length=l.length+1:=by simp;omega
 have hD:((l.drop i).flatMap f).length=(l.length - i)*n:=by rw[flatMap_len hf,List.length_drop]
 have hN:(l.length+1)*n=(i+1)*n+(l.length - i)*n:=by rw[<- Nat.add_mul];congr 1;omega
 have hI:(i+1)*n=i*n+n:=by rw[Nat.add_mul,Nat.one_mul]
 have hcap:(l.length+1)*n <= cap*n:=Nat.mul_le_mul_right n h1
 have hcl:c1.length=cap*n:=by
  rw[hc1,len_store (by rw[hf,hcs];omega),hcs]
 have:=own_of_cur (l:=l.take i++x::l.drop i) (B:=B) hf hg hB (by omega) h2 (by rw[List.size_toArray,len_store (by rw[hD,hcl];omega),hcl]) (by
  rw[hlen]
  show List.take ((l.length+1)*n) _=_
  have e2:c1.take ((i+1)*n)=(l.take i).flatMap f++f x:=by
   rw[hc1,hI,show i*n+n=i*n+(f x).length from by rw[hf],take_store (by rw[hcs];omega),h4]
  rw[hN,<- hD,take_store (by rw[hcl];omega),e2,List.flatMap_append,List.flatMap_cons,List.append_assoc])
 rwa [hlen] at this
end
end Go.Bw

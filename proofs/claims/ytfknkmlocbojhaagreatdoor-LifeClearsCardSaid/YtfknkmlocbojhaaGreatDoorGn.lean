/- Joined: AppP, LedS, Fbs, AdmF, AdmA, TreeN. -/
import Derived.Test.YtfknkmlocbojhaaGreatDoorGk
import Derived.Test.YtfknkmlocbojhaaGreatDoorGa
import Derived.Test.YtfknkmlocbojhaaGreatDoorGp
import Derived.Test.YtfknkmlocbojhaaGreatDoorGm
import Derived.Test.YtfknkmlocbojhaaGreatDoorGe
set_option linter.unusedVariables false
set_option linter.unusedSimpArgs false
namespace Go.Proofs.YtfknkmlocbojhaaGreatDoor
open Go.RowKit Go.Bw Go.Maps Go.Shelf
theorem Di (w:World) (B:Nat) (v:Value) (l:List Ins) (ho:aT w B 51 7 Ins.cells v l) (hB:B<=w.heap.size) (xv:Value) (xs:List Ins) (hx:Reads w 7 xv xs.length (xs.flatMap Ins.cells)) (hl:(l.length+xs.length)*56<=140737488355328) :
 ∃ v' w',(Builtin.append_ #[24, 24] 24 #[v,xv]).run Tryz.prog w=.ok v' w'/\aT w' B 51 7 Ins.cells v' (l++xs)/\Mod (fun k=>v.ownBlock=some k) w w'/\∀ k,v'.ownBlock=some k->v.ownBlock=some k\/k=w.heap.size:=by
 obtain⟨i0,g1,g2,g3,g4⟩:=info_parts l9;exact Fp 24 51 i0 _ 7 56 Tryz.underlying24 g1 g2 g3 g4 rfl (by decide) (by decide) Ins.cells w B v l ho hB xv xs hx (fun x hx=>Ij x) hl
theorem Jk (w:World) (B:Nat) (v:Value) (l:List Pos) (ho:aT w B 60 3 Pos.cells v l) (hB:B<=w.heap.size) (x:Pos) (cs:Array Value) (hcs:cs.toList=Pos.cells x) (hl:(l.length+1)*24<=140737488355328) :
 ∃ v' w',(Builtin.append_ #[26, 26] 26 #[v,.slice (some ⟨w.heap.size,0,none⟩) 1 1]).run Tryz.prog (w.alloc (.cells cs 60))=.ok v' w'/\aT w' B 60 3 Pos.cells v' (l++[x])/\Mod (fun k=>v.ownBlock=some k) w w'/\∀ k,v'.ownBlock=some k->v.ownBlock=some k\/w.heap.size<=k:=by
 obtain⟨i0,g1,g2,g3,g4⟩:=info_parts nX;exact yG 26 60 i0 _ 3 24 Tryz.underlying26 g1 g2 g3 g4 rfl (by decide) (by decide) Pos.cells fZ w B v l ho hB x cs hcs (one_pos x) hl
theorem Df (w:World) (B:Nat) (v:Value) (l:List Ord) (ho:aT w B 82 5 Ord.cells v l) (hB:B<=w.heap.size) (x:Ord) (cs:Array Value) (hcs:cs.toList=Ord.cells x) (hl:(l.length+1)*40<=140737488355328) :
 ∃ v' w',(Builtin.append_ #[27, 27] 27 #[v,.slice (some ⟨w.heap.size,0,none⟩) 1 1]).run Tryz.prog (w.alloc (.cells cs 82))=.ok v' w'/\aT w' B 82 5 Ord.cells v' (l++[x])/\Mod (fun k=>v.ownBlock=some k) w w'/\∀ k,v'.ownBlock=some k->v.ownBlock=some k\/w.heap.size<=k:=by
 obtain⟨i0,g1,g2,g3,g4⟩:=info_parts mg;exact yG 27 82 i0 _ 5 40 Tryz.underlying27 g1 g2 g3 g4 rfl (by decide) (by decide) Ord.cells nG w B v l ho hB x cs hcs (Ik x) hl
theorem zI (w:World) (B:Nat) (v:Value) (l:List Pos) (ho:aT w B 61 3 Pos.cells v l) (hB:B<=w.heap.size) (x:Pos) (cs:Array Value) (hcs:cs.toList=Pos.cells x) (hl:(l.length+1)*24<=140737488355328) :
 ∃ v' w',(Builtin.append_ #[29, 29] 29 #[v,.slice (some ⟨w.heap.size,0,none⟩) 1 1]).run Tryz.prog (w.alloc (.cells cs 61))=.ok v' w'/\aT w' B 61 3 Pos.cells v' (l++[x])/\Mod (fun k=>v.ownBlock=some k) w w'/\∀ k,v'.ownBlock=some k->v.ownBlock=some k\/w.heap.size<=k:=by
 obtain⟨i0,g1,g2,g3,g4⟩:=info_parts nV;exact yG 29 61 i0 _ 3 24 Tryz.underlying29 g1 g2 g3 g4 rfl (by decide) (by decide) Pos.cells fZ w B v l ho hB x cs hcs (LH x) hl
end Go.Proofs.YtfknkmlocbojhaaGreatDoor
namespace Go.Bw
open Go.RowKit
theorem rows_apart {V:aC} (h:V.rows.Pairwise fO) {i j:Nat} {x y:Value} (hij:i≠j) (hx:V.rows[i]?=some x) (hy:V.rows[j]?=some y):fO x y:=by
 obtain⟨i1,i2⟩:=List.getElem?_eq_some_iff.1 hx;obtain⟨j1,j2⟩:=List.getElem?_eq_some_iff.1 hy;rcases Nat.lt_or_gt_of_ne hij with hlt|hlt
 ·have:=List.pairwise_iff_getElem.1 h i j i1 j1 hlt;rw[i2,j2] at this;exact this
 have:=List.pairwise_iff_getElem.1 h j i j1 i1 hlt;rw[i2,j2] at this;exact this.symm
theorem jl {V:aC} {m:Nat} {p:Acc×Value} (h:V.ac[m]?=some p):V.rows[m+8]?=some p.2:=by
 show (V.ac.map (·.2))[m]?=_
 rw[List.getElem?_map,h];rfl
theorem bG {V:aC} (h:V.rows.Pairwise fO) {j g:Nat} {y:Value} (hy:V.rows[j]?=some y) (hg:y.ownBlock=some g) {i:Nat} {x:Value} (hij:i≠j) (hx:V.rows[i]?=some x):∀ b,x.ownBlock=some b->¬ b=g :=
 fun b hb e=>rows_apart h hij hx hy b hb (by rw[hg,e])
theorem aZ.vW {w:World} {B:Nat} {V:aC} {l:aH} (h:aZ w B V l) {g c k j:Nat} (hv:V.ah=.slice (some ⟨g,0,none⟩) l.ah.length c) {x x':eU} {u:Value} (hk:l.ah[k]?=some x) (hj:j<4) (he:eU.cells x'=(eU.cells x).set j u) (hn:x'.name.size<=maxLen) :
 aZ (w.setCell ⟨g,k*4+j,none⟩ u) B V { l with ah:=l.ah.set k x' }/\Mod (fun b=>b=g) w (w.setCell ⟨g,k*4+j,none⟩ u):=by
 have hg:V.ah.ownBlock=some g:=by rw[hv];rfl
 have hy:V.rows[1]?=some V.ah:=rfl;have hA:=h.ah;rw[hv] at hA;obtain⟨hs,M⟩:=hA.set (x':=x') (u:=u) (j:=j) iO hk hj he;refine⟨⟨h.aO.mod M (bG h.sep hy hg (i:=0) (by decide) rfl),by rw[hv];exact hs,h.af.mod M (bG h.sep hy hg (i:=2) (by decide) rfl),h.same,h.ai.mod M (bG h.sep hy hg (i:=3) (by decide) rfl),fun p hp=>?_,h.aB.mod M (bG h.sep hy hg (i:=4) (by decide) rfl),h.orders.mod M (bG h.sep hy hg (i:=5) (by decide) rfl),h.aF.mod M (bG h.sep hy hg (i:=6) (by decide) rfl),h.aK.mod M (bG h.sep hy hg (i:=7) (by decide) rfl),h.sep,fun y hy=>?_,h.nums⟩,M⟩
 ·obtain⟨m,hm,e⟩:=List.mem_iff_getElem.1 hp;have hp':V.ac[m]?=some p:=by rw[List.getElem?_eq_getElem hm,e]
  exact (h.aV p hp).mod M (bG h.sep hy hg (i:=m+8) (by omega) (jl hp'))
 rcases List.mem_or_eq_of_mem_set hy with hy|rfl
 ·exact h.names y hy
 exact hn
theorem aZ.nH {w:World} {B:Nat} {V:aC} {l:aH} (h:aZ w B V l) {g c k j:Nat} (hv:V.af=.slice (some ⟨g,0,none⟩) l.af.length c) {x x':Ins} {u:Value} (hk:l.af[k]?=some x) (hj:j<7) (he:Ins.cells x'=(Ins.cells x).set j u) :
 aZ (w.setCell ⟨g,k*7+j,none⟩ u) B V { l with af:=l.af.set k x' }/\Mod (fun b=>b=g) w (w.setCell ⟨g,k*7+j,none⟩ u):=by
 have hg:V.af.ownBlock=some g:=by rw[hv];rfl
 have hy:V.rows[2]?=some V.af:=rfl;have hA:=h.af;rw[hv] at hA;obtain⟨hs,M⟩:=hA.set (x':=x') (u:=u) (j:=j) dX hk hj he;refine⟨⟨h.aO.mod M (bG h.sep hy hg (i:=0) (by decide) rfl),h.ah.mod M (bG h.sep hy hg (i:=1) (by decide) rfl),by rw[hv];exact hs,h.same,h.ai.mod M (bG h.sep hy hg (i:=3) (by decide) rfl),fun p hp=>?_,h.aB.mod M (bG h.sep hy hg (i:=4) (by decide) rfl),h.orders.mod M (bG h.sep hy hg (i:=5) (by decide) rfl),h.aF.mod M (bG h.sep hy hg (i:=6) (by decide) rfl),h.aK.mod M (bG h.sep hy hg (i:=7) (by decide) rfl),h.sep,h.names,h.nums⟩,M⟩;obtain⟨m,hm,e⟩:=List.mem_iff_getElem.1 hp;have hp':V.ac[m]?=some p:=by rw[List.getElem?_eq_getElem hm,e]
 exact (h.aV p hp).mod M (bG h.sep hy hg (i:=m+8) (by omega) (jl hp'))
theorem aZ.vV {w:World} {B:Nat} {V:aC} {l:aH} (h:aZ w B V l) {g c k j:Nat} (hv:V.aB=.slice (some ⟨g,0,none⟩) l.aB.length c) {x x':Pos} {u:Value} (hk:l.aB[k]?=some x) (hj:j<3) (he:Pos.cells x'=(Pos.cells x).set j u) :
 aZ (w.setCell ⟨g,k*3+j,none⟩ u) B V { l with aB:=l.aB.set k x' }/\Mod (fun b=>b=g) w (w.setCell ⟨g,k*3+j,none⟩ u):=by
 have hg:V.aB.ownBlock=some g:=by rw[hv];rfl
 have hy:V.rows[4]?=some V.aB:=rfl;have hA:=h.aB;rw[hv] at hA;obtain⟨hs,M⟩:=hA.set (x':=x') (u:=u) (j:=j) fZ hk hj he;refine⟨⟨h.aO.mod M (bG h.sep hy hg (i:=0) (by decide) rfl),h.ah.mod M (bG h.sep hy hg (i:=1) (by decide) rfl),h.af.mod M (bG h.sep hy hg (i:=2) (by decide) rfl),h.same,h.ai.mod M (bG h.sep hy hg (i:=3) (by decide) rfl),fun p hp=>?_,by rw[hv];exact hs,h.orders.mod M (bG h.sep hy hg (i:=5) (by decide) rfl),h.aF.mod M (bG h.sep hy hg (i:=6) (by decide) rfl),h.aK.mod M (bG h.sep hy hg (i:=7) (by decide) rfl),h.sep,h.names,h.nums⟩,M⟩;obtain⟨m,hm,e⟩:=List.mem_iff_getElem.1 hp;have hp':V.ac[m]?=some p:=by rw[List.getElem?_eq_getElem hm,e]
 exact (h.aV p hp).mod M (bG h.sep hy hg (i:=m+8) (by omega) (jl hp'))
theorem aZ.IC {w:World} {B:Nat} {V:aC} {l:aH} (h:aZ w B V l) {g c k:Nat} (hv:V.aF=.slice (some ⟨g,0,none⟩) l.aF.length c) {x x':Int} {u:Value} (hk:l.aF[k]?=some x) (he:dn x'=(dn x).set 0 u) :
 aZ (w.setCell ⟨g,k,none⟩ u) B V { l with aF:=l.aF.set k x' }/\Mod (fun b=>b=g) w (w.setCell ⟨g,k,none⟩ u):=by
 have hg:V.aF.ownBlock=some g:=by rw[hv];rfl
 have hy:V.rows[6]?=some V.aF:=rfl;have hA:=h.aF;rw[hv] at hA;obtain⟨hs,M⟩:=hA.set (x':=x') (u:=u) (j:=0) jS hk (by decide) he
 simp only[Nat.mul_one,Nat.add_zero] at hs M
 refine⟨⟨h.aO.mod M (bG h.sep hy hg (i:=0) (by decide) rfl),h.ah.mod M (bG h.sep hy hg (i:=1) (by decide) rfl),h.af.mod M (bG h.sep hy hg (i:=2) (by decide) rfl),h.same,h.ai.mod M (bG h.sep hy hg (i:=3) (by decide) rfl),fun p hp=>?_,h.aB.mod M (bG h.sep hy hg (i:=4) (by decide) rfl),h.orders.mod M (bG h.sep hy hg (i:=5) (by decide) rfl),by rw[hv];exact hs,h.aK.mod M (bG h.sep hy hg (i:=7) (by decide) rfl),h.sep,h.names,h.nums⟩,M⟩;obtain⟨m,hm,e⟩:=List.mem_iff_getElem.1 hp;have hp':V.ac[m]?=some p:=by rw[List.getElem?_eq_getElem hm,e]
 exact (h.aV p hp).mod M (bG h.sep hy hg (i:=m+8) (by omega) (jl hp'))
theorem vU {V V':aC} {w:World} {B q:Nat} {v:Value} {l:aH} (h:aZ w B V l) (hr:V'.rows=V.rows.set q v) (hv:∀ y,V.rows[q]?=some y->∀ k,v.ownBlock=some k->y.ownBlock=some k\/w.heap.size<=k) (hq:q<V.rows.length):V'.rows.Pairwise fO:=by
 rw[hr,List.pairwise_iff_getElem];intro i j hi hj hij;rw[List.length_set] at hi hj;rw[List.getElem_set,List.getElem_set];have key:∀ m (hm:m<V.rows.length),m≠q->fO V.rows[m] v:=fun m hm hne b h1 h2=>by
  rcases hv _ (List.getElem?_eq_getElem hq) b h2 with h3|h3
  ·exact rows_apart h.sep hne (List.getElem?_eq_getElem hm) (List.getElem?_eq_getElem hq) b h1 h3
  have:=(h.JY _ (List.getElem_mem hm) b h1).2;omega
 by_cases e1:q=i
 ·rw[if_pos e1,if_neg (by omega)];exact (key j hj (by omega)).symm
 by_cases e2:q=j
 ·rw[if_neg e1,if_pos e2];exact key i hi (by omega)
 rw[if_neg e1,if_neg e2];exact List.pairwise_iff_getElem.1 h.sep i j hi hj hij
theorem aZ.J6 {w w':World} {B:Nat} {V:aC} {l:aH} (h:aZ w B V l) {v:Value} {xs:List Pos} (hm:Mod (fun k=>V.aB.ownBlock=some k) w w') (ho:aT w' B 60 3 Pos.cells v xs) (hb:∀ k,v.ownBlock=some k->V.aB.ownBlock=some k\/w.heap.size<=k) :
 aZ w' B { V with aB:=v } { l with aB:=xs }:=by
 refine⟨h.aO.mod hm (fun b hb e=>rows_apart h.sep (i:=0) (j:=4) (by decide) rfl rfl b hb e),h.ah.mod hm (fun b hb e=>rows_apart h.sep (i:=1) (j:=4) (by decide) rfl rfl b hb e),h.af.mod hm (fun b hb e=>rows_apart h.sep (i:=2) (j:=4) (by decide) rfl rfl b hb e),h.same,h.ai.mod hm (fun b hb e=>rows_apart h.sep (i:=3) (j:=4) (by decide) rfl rfl b hb e),fun p hp=>?_,ho,h.orders.mod hm (fun b hb e=>rows_apart h.sep (i:=5) (j:=4) (by decide) rfl rfl b hb e),h.aF.mod hm (fun b hb e=>rows_apart h.sep (i:=6) (j:=4) (by decide) rfl rfl b hb e),h.aK.mod hm (fun b hb e=>rows_apart h.sep (i:=7) (j:=4) (by decide) rfl rfl b hb e),vU h (q:=4) rfl (fun y hy=>by cases hy;exact hb) (by simp[aC.rows]),h.names,h.nums⟩;obtain⟨m,hm',e⟩:=List.mem_iff_getElem.1 hp;have hp':V.ac[m]?=some p:=by rw[List.getElem?_eq_getElem hm',e]
 exact (h.aV p hp).mod hm (fun b hb' e=>rows_apart h.sep (i:=m+8) (j:=4) (by omega) (jl hp') rfl b hb' e)
theorem aZ.Eb {w w':World} {B:Nat} {V:aC} {l:aH} (h:aZ w B V l) {v:Value} {xs:List Ord} (hm:Mod (fun k=>V.orders.ownBlock=some k) w w') (ho:aT w' B 82 5 Ord.cells v xs) (hb:∀ k,v.ownBlock=some k->V.orders.ownBlock=some k\/w.heap.size<=k) :
 aZ w' B { V with orders:=v } { l with orders:=xs }:=by
 refine⟨h.aO.mod hm (fun b hb e=>rows_apart h.sep (i:=0) (j:=5) (by decide) rfl rfl b hb e),h.ah.mod hm (fun b hb e=>rows_apart h.sep (i:=1) (j:=5) (by decide) rfl rfl b hb e),h.af.mod hm (fun b hb e=>rows_apart h.sep (i:=2) (j:=5) (by decide) rfl rfl b hb e),h.same,h.ai.mod hm (fun b hb e=>rows_apart h.sep (i:=3) (j:=5) (by decide) rfl rfl b hb e),fun p hp=>?_,h.aB.mod hm (fun b hb e=>rows_apart h.sep (i:=4) (j:=5) (by decide) rfl rfl b hb e),ho,h.aF.mod hm (fun b hb e=>rows_apart h.sep (i:=6) (j:=5) (by decide) rfl rfl b hb e),h.aK.mod hm (fun b hb e=>rows_apart h.sep (i:=7) (j:=5) (by decide) rfl rfl b hb e),vU h (q:=5) rfl (fun y hy=>by cases hy;exact hb) (by simp[aC.rows]),h.names,h.nums⟩;obtain⟨m,hm',e⟩:=List.mem_iff_getElem.1 hp;have hp':V.ac[m]?=some p:=by rw[List.getElem?_eq_getElem hm',e]
 exact (h.aV p hp).mod hm (fun b hb' e=>rows_apart h.sep (i:=m+8) (j:=5) (by omega) (jl hp') rfl b hb' e)
theorem aZ.Be {w w':World} {B:Nat} {V:aC} {l:aH} (h:aZ w B V l) {v:Value} {xs:List Pos} (hm:Mod (fun k=>V.aK.ownBlock=some k) w w') (ho:aT w' B 61 3 Pos.cells v xs) (hb:∀ k,v.ownBlock=some k->V.aK.ownBlock=some k\/w.heap.size<=k) :
 aZ w' B { V with aK:=v } { l with aK:=xs }:=by
 refine⟨h.aO.mod hm (fun b hb e=>rows_apart h.sep (i:=0) (j:=7) (by decide) rfl rfl b hb e),h.ah.mod hm (fun b hb e=>rows_apart h.sep (i:=1) (j:=7) (by decide) rfl rfl b hb e),h.af.mod hm (fun b hb e=>rows_apart h.sep (i:=2) (j:=7) (by decide) rfl rfl b hb e),h.same,h.ai.mod hm (fun b hb e=>rows_apart h.sep (i:=3) (j:=7) (by decide) rfl rfl b hb e),fun p hp=>?_,h.aB.mod hm (fun b hb e=>rows_apart h.sep (i:=4) (j:=7) (by decide) rfl rfl b hb e),h.orders.mod hm (fun b hb e=>rows_apart h.sep (i:=5) (j:=7) (by decide) rfl rfl b hb e),h.aF.mod hm (fun b hb e=>rows_apart h.sep (i:=6) (j:=7) (by decide) rfl rfl b hb e),ho,vU h (q:=7) rfl (fun y hy=>by cases hy;exact hb) (by simp[aC.rows]),h.names,h.nums⟩;obtain⟨m,hm',e⟩:=List.mem_iff_getElem.1 hp;have hp':V.ac[m]?=some p:=by rw[List.getElem?_eq_getElem hm',e]
 exact (h.aV p hp).mod hm (fun b hb' e=>rows_apart h.sep (i:=m+8) (j:=7) (by omega) (jl hp') rfl b hb' e)
theorem At.sub {w W:World} {bs cs:List (Nat×TypeId×Array Value)} (h:At w W bs) (hs:cs.Sublist bs):At w W cs :=
 ⟨h.low,fun x hx=>h.has x (hs.subset hx),fun x hx=>h.new x (hs.subset hx),h.Nb.sublist (hs.map _)⟩
theorem Gg {α:Type} {n:Nat} {f:α->List Value} (w:World) (B:Nat) (e:TypeId) (hB:B<=w.heap.size) (x:α) (cs:Array Value) (hcs:cs.toList=f x) (hf:(f x).length=n):aT (w.alloc (.cells cs e)) B e n f (.slice (some ⟨w.heap.size,0,none⟩) 1 1) [x]:=by
 have h1:cs.size=n:=by rw[<-hf,<-hcs];simp
 refine⟨by simp[hf],Or.inr ⟨w.heap.size,1,cs,rfl,hB,heap_alloc_new w _,Nat.le_refl _,by unfold maxLen;omega,by omega,?_⟩⟩;rw[hcs];simp;exact List.take_of_length_le (by omega)
structure dG (w:World) (R0:Nat) (bs:List (Nat×TypeId×Array Value)) (V:aC) (l:aH) (W:World):Prop where
 at_:At w W bs
 own:aZ W R0 V l
 rM:∀ x∈bs,V.zy x.1
 rb:R0<=W.heap.size
 lo:w.heap.size<=R0
variable {w W W':World} {R0 b i o:Nat} {bs:List (Nat×TypeId×Array Value)} {V:aC} {l L:aH} {T:TypeId} {cs:Array Value}
theorem dG.go (h:dG w R0 bs V l W) (hb:Below W.heap.size W W'):dG w R0 bs V l W':=⟨h.at_.go hb,h.own.below hb,h.rM,Nat.le_trans h.rb hb.size,h.lo⟩
theorem dG.box (h:dG w R0 bs V l W) (T:TypeId) (cs:Array Value):dG w R0 (bs++[(W.heap.size,T,cs)]) V l (W.alloc (.cells cs T)):=by
 have hb:Below W.heap.size W (W.alloc (.cells cs T)):=(Below.refl _ _).alloc (Nat.le_refl _) _;refine⟨h.at_.alloc T cs,h.own.below hb,fun x hx=>?_,Nat.le_trans h.rb hb.size,h.lo⟩;rcases List.mem_append.1 hx with hx|hx
 ·exact h.rM x hx
 obtain rfl:=List.mem_singleton.1 hx;exact h.own.xX (Or.inr (Nat.le_refl _))
theorem dG.cell (h:dG w R0 bs V l W) (i:Nat) (hi:bs[i]?=some (b,T,cs)) (o:Nat) (u:Value):dG w R0 (bs.set i (b,T,cs.setIfInBounds o u)) V l (W.setCell ⟨b,o,none⟩ u):=by
 refine⟨h.at_.setCell i hi o u,h.own.keep ((Mod.refl (fun k=>k=b) W).setCell u (fun _=>rfl)) (fun k e=>by rw[e];exact h.rM _ (List.mem_of_getElem? hi)),fun x hx=>?_,Nat.le_trans h.rb (by simp[World.setCell]),h.lo⟩;rcases List.mem_or_eq_of_mem_set hx with hx|rfl
 ·exact h.rM x hx
 exact h.rM (b,T,cs) (List.mem_of_getElem? hi)
theorem mP {V V':aC} {q:Nat} {v:Value} (h:V.zy b) (hr:V'.rows=V.rows.set q v) (hv:v.ownBlock≠some b):V'.zy b:=by
 intro x hx;rw[hr] at hx;rcases List.mem_or_eq_of_mem_set hx with hx|rfl
 ·exact h x hx
 exact hv
theorem dG.Gf (h:dG w R0 bs V l W) (i:Nat) (hi:bs[i]?=some (b,T,V.cells L)):dG w R0 (bs.set i (b,T,({ V with orders:=.slice none 0 0 }:aC).cells L)) { V with orders:=.slice none 0 0 } { l with orders:=[] } (W.setCell ⟨b,6,none⟩ (.slice none 0 0)):=by
 have o1:=h.own.Eb (w':=W) (v:=.slice none 0 0) (xs:=[]) (Mod.refl _ W) (aT.nil _ _ _ _ _) (fun k hk=>by simp[Value.ownBlock] at hk);have F:dG w R0 bs { V with orders:=.slice none 0 0 } { l with orders:=[] } W:=⟨h.at_,o1,fun y hy=>mP (q:=5) (h.rM y hy) rfl (by simp[Value.ownBlock]),h.rb,h.lo⟩;exact F.cell i hi 6 _
theorem dG.mark (h:dG w R0 bs V l W) {g c k:Nat} (hv:V.af=.slice (some ⟨g,0,none⟩) l.af.length c) {x:Ins} (hk:l.af[k]?=some x) (m:Int) :
 dG w R0 bs V { l with af:=l.af.set k { x with mark:=m } } (W.setCell ⟨g,k*7+6,none⟩ (.int .i64 m)):=by
 obtain⟨o1,M⟩:=h.own.nH hv (x':={ x with mark:=m }) (u:=.int .i64 m) hk (j:=6) (by decide) rfl;have hg:=h.own.JY V.af (by simp[aC.rows]) g (by rw[hv];rfl);have hlo:=h.lo;exact⟨h.at_.mod M (fun j e=>by omega) (fun y hy e=>h.rM y hy V.af (by simp[aC.rows]) (by rw[hv,e];rfl)),o1,h.rM,Nat.le_trans h.rb M.size,h.lo⟩
end Go.Bw
namespace Go.Bw
open Go.RowKit
variable {w W W':World} {R0 b i o:Nat} {bs:List (Nat×TypeId×Array Value)} {V:aC} {l L:aH} {T:TypeId} {cs:Array Value}
theorem dG.row (h:dG w R0 bs V l W) {V':aC} {l':aH} {g q:Nat} {y:Value} (o1:aZ W' R0 V' l') (M:Mod (fun k=>k=g) W W') (hq:V.rows[q]?=some y) (hg:y.ownBlock=some g) (hr:V'.rows=V.rows):dG w R0 bs V' l' W':=by
 have hx:=List.mem_of_getElem? hq;have hl:=h.own.JY y hx g hg;have hlo:=h.lo;exact⟨h.at_.mod M (fun j e=>by omega) (fun z hz e=>h.rM z hz y hx (by rw[hg,e])),o1,fun z hz x hx=>h.rM z hz x (by rw[<-hr];exact hx),Nat.le_trans h.rb M.size,h.lo⟩
theorem dG.J7 (h:dG w R0 bs V l W) {V':aC} {l':aH} {q:Nat} {y v:Value} (o1:aZ W' R0 V' l') (hm:Mod (fun k=>y.ownBlock=some k) W W') (hq:V.rows[q]?=some y) (hr:V'.rows=V.rows.set q v)
 (hb:∀ k,v.ownBlock=some k->y.ownBlock=some k\/W.heap.size<=k):dG w R0 bs V' l' W':=by
 have hx:=List.mem_of_getElem? hq;have hlo:=h.lo;refine⟨h.at_.mod hm (fun k e=>by have:=h.own.JY y hx k e;omega) (fun z hz e=>h.rM z hz y hx e),o1,fun z hz=>mP (h.rM z hz) hr (fun e=>?_),Nat.le_trans h.rb hm.size,h.lo⟩;rcases hb _ e with e|e
 ·exact h.rM z hz y hx e
 have:=h.at_.lt z hz;omega
theorem At.perm {cs:List (Nat×TypeId×Array Value)} (h:At w W bs) (p:bs.Perm cs):At w W cs :=
 ⟨h.low,fun x hx=>h.has x (p.mem_iff.2 hx),fun x hx=>h.new x (p.mem_iff.2 hx),(p.map _).nodup_iff.1 h.Nb⟩
theorem dG.perm {cs:List (Nat×TypeId×Array Value)} (h:dG w R0 bs V l W) (p:bs.Perm cs):dG w R0 cs V l W :=
 ⟨h.at_.perm p,h.own,fun x hx=>h.rM x (p.mem_iff.2 hx),h.rb,h.lo⟩
theorem aT.slot {α:Type} {w:World} {B n:Nat} {e:TypeId} {f:α->List Value} {v:Value} {l:List α} (h:aT w B e n f v l) (hf:∀ x,(f x).length=n) (hn:0<n) {k:Nat} {x:α} (hk:l[k]?=some x) :
 ∃ g c,v=.slice (some ⟨g,0,none⟩) l.length c/\l.length<=c/\c<=maxLen/\(∀ (j:Nat) u,(f x)[j]?=some u->w.cell? ⟨g,k*n+j,none⟩=some u)/\∀ j,w.frozen? ⟨g,j,none⟩=false:=by
 obtain⟨g,c,rfl,hc,_,_,hz⟩:=h.block hk;have hR:=h.row hf hn;have cp:=hR.caps;obtain⟨b',o',e',_,hh⟩:=hR.at_ hk
 cases e'
 exact⟨g,c,rfl,hc,cp.2.2.1,fun j u hu=>by have:=hh j u hu;rw[Nat.zero_add] at this;exact this,hz⟩
theorem dG.low (h:dG w R0 bs V l W):Below w.heap.size w W:=h.at_.low
end Go.Bw
namespace Go.Bw.ak
open Go.Bw Go.Bw.Keep Go.Bw.Fall
section
variable {P:Program} {Q:Exit->Act->World->Prop} {effs pures:List Nat} {C:World->Prop} {R:List PanicEntry->List Deferred->World->Prop} {l:List Oper}
theorem IK {k:Nat} {t:Plan} {a:Act} {w:World} (he:effs.contains k=true) (hg:(nth l k).all (fun o=>Region.wanted o (yielded l.toArray a.tmps))=true)
 (h:∀ K:Act->World->Prop,(∀ a w,(o6 l.toArray pures k=true->C w)->bC P l.toArray R Q C effs pures t a w->K a w)->yA P K (Fall R Q) (au l [k]) a w):bC P l.toArray R Q C effs pures (.step k t) a w:=by
 show bH P l.toArray R Q C effs pures k (bC P l.toArray R Q C effs pures t) a w
 cases hx:nth l k with
 | none =>
   have:=h (fun a w=>(o6 l.toArray pures k=true->C w)/\bC P l.toArray R Q C effs pures t a w) (fun a w hc ht=>⟨hc,ht⟩);unfold au at this;rw[hx] at this;exact this.elim
 | some o =>
   have h0:l.toArray[k]?=some o:=by rw[nD] at hx;simpa using hx
   unfold bH
   simp only[h0,he,if_true]
   unfold wpOp
   simp only[h0]
   rw[hx] at hg;rw[if_pos (by simpa using hg)];refine Or.inl ?_;have:=h (fun a w=>(o6 l.toArray pures k=true->C w)/\bC P l.toArray R Q C effs pures t a w) (fun a w hc ht=>⟨hc,ht⟩);unfold au at this;rw[hx] at this;exact this
theorem IL {k:Nat} {t:Plan} {a:Act} {w:World} {o:Oper} (he:effs.contains k=true) (ho:nth l k=some o) (hg:Region.wanted o (yielded l.toArray a.tmps)=false) (hC:o6 l.toArray pures k=true->C w)
 (h:bC P l.toArray R Q C effs pures t (a.put o.dst undef) w):bC P l.toArray R Q C effs pures (.step k t) a w:=by
 show bH P l.toArray R Q C effs pures k (bC P l.toArray R Q C effs pures t) a w
 have h0:l.toArray[k]?=some o:=by rw[nD] at ho;simpa using ho
 unfold bH
 simp only[h0,he,if_true]
 unfold wpOp
 simp only[h0]
 rw[if_neg (by rw[hg];decide)];exact⟨hC,h⟩
end
end Go.Bw.ak
namespace Go.Proofs.YtfknkmlocbojhaaGreatDoor
open Go.RowKit Go.Bw Go.Maps Go.Shelf Go.Bw.Fall
noncomputable def dV (L:aH) (r:wu):aH×Int×Int:=by
 classical
 exact if L.Good then (if r.err=0 then (if (fD r.led).2=0 then ((fD r.led).1,r.num,0) else (L0,0,(fD r.led).2)) else (L0,0,r.err)) else (L0,0,43)
theorem zD {L:aH} (h:¬ L.Good) (r:wu):dV L r=(L0,0,43):=by unfold dV;rw[if_neg h]
theorem zF {L:aH} (h:L.Good) {r:wu} (he:r.err≠0):dV L r=(L0,0,r.err):=by unfold dV;rw[if_pos h,if_neg he]
theorem xg {L:aH} (h:L.Good) {r:wu} (he:r.err=0) (hf:(fD r.led).2≠0):dV L r=(L0,0,(fD r.led).2):=by unfold dV;rw[if_pos h,if_pos he,if_neg hf]
theorem uq {L:aH} (h:L.Good) {r:wu} (he:r.err=0) (hf:(fD r.led).2=0):dV L r=((fD r.led).1,r.num,0):=by unfold dV;rw[if_pos h,if_pos he,if_pos hf]
def pF (w:World) (r:aH×Int×Int) (e:Ending) (w':World):Prop:=∃ U:aC,e=.returned (.tuple #[U.val r.1,.int .i64 r.2.1,.int .i64 r.2.2])/\aZ w' w.heap.size U r.1/\Below w.heap.size w w'
theorem zG {L:aH} {r:wu} (h:(dV L r).2.2=0):L.Good/\r.err=0/\(fD r.led).2=0/\(dV L r).1=(fD r.led).1/\(dV L r).2.1=r.num:=by
 by_cases hg:L.Good
 ·by_cases he:r.err=0
  ·by_cases hf:(fD r.led).2=0
   ·rw[uq hg he hf];exact⟨hg,he,hf,rfl,rfl⟩
   rw[xg hg he hf] at h;exact absurd h hf
  rw[zF hg he] at h;exact absurd h he
 rw[zD hg] at h;exact absurd h (by decide)
end Go.Proofs.YtfknkmlocbojhaaGreatDoor
namespace Go.Proofs.YtfknkmlocbojhaaGreatDoor
open Go.RowKit Go.Bw Go.Maps Go.Shelf
end Go.Proofs.YtfknkmlocbojhaaGreatDoor

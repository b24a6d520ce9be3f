/- Joined: AppP, LedS, Fbs, AdmF, AdmA, TreeN. -/
import Derived.Test.YtfknkmlocbojhaaGreatDoorGk
import Derived.Test.YtfknkmlocbojhaaGreatDoorGa
import Derived.Test.YtfknkmlocbojhaaGreatDoorGp
import Derived.Test.YtfknkmlocbojhaaGreatDoorGm
import Derived.Test.YtfknkmlocbojhaaGreatDoorGe
set_option linter.unusedVariables false
set_option linter.unusedSimpArgs false
namespace Go.Proofs.YtfknkmlocbojhaaGreatDoor
open Go.RowKit Go.Bw Go.Maps Go.Shelf
theorem IW (w:World) (B:Nat) (v:Value) (l:List Ins) (ho:aY w B 51 7 Ins.cells v l) (hB:B<=w.heap.size) (xv:Value) (xs:List Ins) (hx:Reads w 7 xv xs.length (xs.flatMap Ins.cells)) (hl:(l.length+xs.length)*56<=140737488355328) :
 ∃ v' w',(Builtin.append_ #[24, 24] 24 #[v,xv]).run Tryz.prog w=.ok v' w'/\aY w' B 51 7 Ins.cells v' (l++xs)/\Mod (fun k=>v.ownBlock=some k) w w'/\∀ k,v'.ownBlock=some k->v.ownBlock=some k\/k=w.heap.size:=by
 obtain⟨i0,g1,g2,g3,g4⟩:=info_parts lI;exact KF 24 51 i0 _ 7 56 Tryz.underlying24 g1 g2 g3 g4 rfl (by decide) (by decide) Ins.cells w B v l ho hB xv xs hx (fun x hx=>Bq x) hl
theorem PG (w:World) (B:Nat) (v:Value) (l:List Pos) (ho:aY w B 60 3 Pos.cells v l) (hB:B<=w.heap.size) (x:Pos) (cs:Array Value) (hcs:cs.toList=Pos.cells x) (hl:(l.length+1)*24<=140737488355328) :
 ∃ v' w',(Builtin.append_ #[26, 26] 26 #[v,.slice (some ⟨w.heap.size,0,none⟩) 1 1]).run Tryz.prog (w.alloc (.cells cs 60))=.ok v' w'/\aY w' B 60 3 Pos.cells v' (l++[x])/\Mod (fun k=>v.ownBlock=some k) w w'/\∀ k,v'.ownBlock=some k->v.ownBlock=some k\/w.heap.size<=k:=by
 obtain⟨i0,g1,g2,g3,g4⟩:=info_parts nJ;exact xQ 26 60 i0 _ 3 24 Tryz.underlying26 g1 g2 g3 g4 rfl (by decide) (by decide) Pos.cells eG w B v l ho hB x cs hcs (one_pos x) hl
theorem IJ (w:World) (B:Nat) (v:Value) (l:List Ord) (ho:aY w B 82 5 Ord.cells v l) (hB:B<=w.heap.size) (x:Ord) (cs:Array Value) (hcs:cs.toList=Ord.cells x) (hl:(l.length+1)*40<=140737488355328) :
 ∃ v' w',(Builtin.append_ #[27, 27] 27 #[v,.slice (some ⟨w.heap.size,0,none⟩) 1 1]).run Tryz.prog (w.alloc (.cells cs 82))=.ok v' w'/\aY w' B 82 5 Ord.cells v' (l++[x])/\Mod (fun k=>v.ownBlock=some k) w w'/\∀ k,v'.ownBlock=some k->v.ownBlock=some k\/w.heap.size<=k:=by
 obtain⟨i0,g1,g2,g3,g4⟩:=info_parts lJ;exact xQ 27 82 i0 _ 5 40 Tryz.underlying27 g1 g2 g3 g4 rfl (by decide) (by decide) Ord.cells mY w B v l ho hB x cs hcs (Bv x) hl
theorem Ez (w:World) (B:Nat) (v:Value) (l:List Pos) (ho:aY w B 61 3 Pos.cells v l) (hB:B<=w.heap.size) (x:Pos) (cs:Array Value) (hcs:cs.toList=Pos.cells x) (hl:(l.length+1)*24<=140737488355328) :
 ∃ v' w',(Builtin.append_ #[29, 29] 29 #[v,.slice (some ⟨w.heap.size,0,none⟩) 1 1]).run Tryz.prog (w.alloc (.cells cs 61))=.ok v' w'/\aY w' B 61 3 Pos.cells v' (l++[x])/\Mod (fun k=>v.ownBlock=some k) w w'/\∀ k,v'.ownBlock=some k->v.ownBlock=some k\/w.heap.size<=k:=by
 obtain⟨i0,g1,g2,g3,g4⟩:=info_parts nI;exact xQ 29 61 i0 _ 3 24 Tryz.underlying29 g1 g2 g3 g4 rfl (by decide) (by decide) Pos.cells eG w B v l ho hB x cs hcs (Ld x) hl
end Go.Proofs.YtfknkmlocbojhaaGreatDoor
namespace Go.Bw
open Go.RowKit
theorem rows_apart {V:aG} (h:V.rows.Pairwise fZ) {i j:Nat} {x y:Value} (hij:i≠j) (hx:V.rows[i]?=some x) (hy:V.rows[j]?=some y):fZ x y:=by
 obtain⟨i1,i2⟩:=List.getElem?_eq_some_iff.1 hx;obtain⟨j1,j2⟩:=List.getElem?_eq_some_iff.1 hy;rcases Nat.lt_or_gt_of_ne hij with hlt|hlt
 ·have:=List.pairwise_iff_getElem.1 h i j i1 j1 hlt;rw[i2,j2] at this;exact this
 have:=List.pairwise_iff_getElem.1 h j i j1 i1 hlt;rw[i2,j2] at this;exact this.symm
theorem jk {V:aG} {m:Nat} {p:Acc×Value} (h:V.ac[m]?=some p):V.rows[m+8]?=some p.2:=by
 show (V.ac.map (·.2))[m]?=_
 rw[List.getElem?_map,h];rfl
theorem bn {V:aG} (h:V.rows.Pairwise fZ) {j g:Nat} {y:Value} (hy:V.rows[j]?=some y) (hg:y.ownBlock=some g) {i:Nat} {x:Value} (hij:i≠j) (hx:V.rows[i]?=some x):∀ b,x.ownBlock=some b->¬ b=g :=
 fun b hb e=>rows_apart h hij hx hy b hb (by rw[hg,e])
theorem aX.lQ {w:World} {B:Nat} {V:aG} {l:aI} (h:aX w B V l) {g c k j:Nat} (hv:V.ah=.slice (some ⟨g,0,none⟩) l.ah.length c) {x x':fU} {u:Value} (hk:l.ah[k]?=some x) (hj:j<4) (he:fU.cells x'=(fU.cells x).set j u) (hn:x'.name.size<=maxLen) :
 aX (w.setCell ⟨g,k*4+j,none⟩ u) B V { l with ah:=l.ah.set k x' }/\Mod (fun b=>b=g) w (w.setCell ⟨g,k*4+j,none⟩ u):=by
 have hg:V.ah.ownBlock=some g:=by rw[hv];rfl
 have hy:V.rows[1]?=some V.ah:=rfl;have hA:=h.ah;rw[hv] at hA;obtain⟨hs,M⟩:=hA.set (x':=x') (u:=u) (j:=j) iR hk hj he;refine⟨⟨h.aT.mod M (bn h.sep hy hg (i:=0) (by decide) rfl),by rw[hv];exact hs,h.af.mod M (bn h.sep hy hg (i:=2) (by decide) rfl),h.same,h.ai.mod M (bn h.sep hy hg (i:=3) (by decide) rfl),fun p hp=>?_,h.aC.mod M (bn h.sep hy hg (i:=4) (by decide) rfl),h.orders.mod M (bn h.sep hy hg (i:=5) (by decide) rfl),h.aH.mod M (bn h.sep hy hg (i:=6) (by decide) rfl),h.aP.mod M (bn h.sep hy hg (i:=7) (by decide) rfl),h.sep,fun y hy=>?_,h.nums⟩,M⟩
 ·obtain⟨m,hm,e⟩:=List.mem_iff_getElem.1 hp;have hp':V.ac[m]?=some p:=by rw[List.getElem?_eq_getElem hm,e]
  exact (h.aK p hp).mod M (bn h.sep hy hg (i:=m+8) (by omega) (jk hp'))
 rcases List.mem_or_eq_of_mem_set hy with hy|rfl
 ·exact h.names y hy
 exact hn
theorem aX.iI {w:World} {B:Nat} {V:aG} {l:aI} (h:aX w B V l) {g c k j:Nat} (hv:V.af=.slice (some ⟨g,0,none⟩) l.af.length c) {x x':Ins} {u:Value} (hk:l.af[k]?=some x) (hj:j<7) (he:Ins.cells x'=(Ins.cells x).set j u) :
 aX (w.setCell ⟨g,k*7+j,none⟩ u) B V { l with af:=l.af.set k x' }/\Mod (fun b=>b=g) w (w.setCell ⟨g,k*7+j,none⟩ u):=by
 have hg:V.af.ownBlock=some g:=by rw[hv];rfl
 have hy:V.rows[2]?=some V.af:=rfl;have hA:=h.af;rw[hv] at hA;obtain⟨hs,M⟩:=hA.set (x':=x') (u:=u) (j:=j) eX hk hj he;refine⟨⟨h.aT.mod M (bn h.sep hy hg (i:=0) (by decide) rfl),h.ah.mod M (bn h.sep hy hg (i:=1) (by decide) rfl),by rw[hv];exact hs,h.same,h.ai.mod M (bn h.sep hy hg (i:=3) (by decide) rfl),fun p hp=>?_,h.aC.mod M (bn h.sep hy hg (i:=4) (by decide) rfl),h.orders.mod M (bn h.sep hy hg (i:=5) (by decide) rfl),h.aH.mod M (bn h.sep hy hg (i:=6) (by decide) rfl),h.aP.mod M (bn h.sep hy hg (i:=7) (by decide) rfl),h.sep,h.names,h.nums⟩,M⟩;obtain⟨m,hm,e⟩:=List.mem_iff_getElem.1 hp;have hp':V.ac[m]?=some p:=by rw[List.getElem?_eq_getElem hm,e]
 exact (h.aK p hp).mod M (bn h.sep hy hg (i:=m+8) (by omega) (jk hp'))
theorem aX.o8 {w:World} {B:Nat} {V:aG} {l:aI} (h:aX w B V l) {g c k j:Nat} (hv:V.aC=.slice (some ⟨g,0,none⟩) l.aC.length c) {x x':Pos} {u:Value} (hk:l.aC[k]?=some x) (hj:j<3) (he:Pos.cells x'=(Pos.cells x).set j u) :
 aX (w.setCell ⟨g,k*3+j,none⟩ u) B V { l with aC:=l.aC.set k x' }/\Mod (fun b=>b=g) w (w.setCell ⟨g,k*3+j,none⟩ u):=by
 have hg:V.aC.ownBlock=some g:=by rw[hv];rfl
 have hy:V.rows[4]?=some V.aC:=rfl;have hA:=h.aC;rw[hv] at hA;obtain⟨hs,M⟩:=hA.set (x':=x') (u:=u) (j:=j) eG hk hj he;refine⟨⟨h.aT.mod M (bn h.sep hy hg (i:=0) (by decide) rfl),h.ah.mod M (bn h.sep hy hg (i:=1) (by decide) rfl),h.af.mod M (bn h.sep hy hg (i:=2) (by decide) rfl),h.same,h.ai.mod M (bn h.sep hy hg (i:=3) (by decide) rfl),fun p hp=>?_,by rw[hv];exact hs,h.orders.mod M (bn h.sep hy hg (i:=5) (by decide) rfl),h.aH.mod M (bn h.sep hy hg (i:=6) (by decide) rfl),h.aP.mod M (bn h.sep hy hg (i:=7) (by decide) rfl),h.sep,h.names,h.nums⟩,M⟩;obtain⟨m,hm,e⟩:=List.mem_iff_getElem.1 hp;have hp':V.ac[m]?=some p:=by rw[List.getElem?_eq_getElem hm,e]
 exact (h.aK p hp).mod M (bn h.sep hy hg (i:=m+8) (by omega) (jk hp'))
theorem aX.Cf {w:World} {B:Nat} {V:aG} {l:aI} (h:aX w B V l) {g c k:Nat} (hv:V.aH=.slice (some ⟨g,0,none⟩) l.aH.length c) {x x':Int} {u:Value} (hk:l.aH[k]?=some x) (he:dn x'=(dn x).set 0 u) :
 aX (w.setCell ⟨g,k,none⟩ u) B V { l with aH:=l.aH.set k x' }/\Mod (fun b=>b=g) w (w.setCell ⟨g,k,none⟩ u):=by
 have hg:V.aH.ownBlock=some g:=by rw[hv];rfl
 have hy:V.rows[6]?=some V.aH:=rfl;have hA:=h.aH;rw[hv] at hA;obtain⟨hs,M⟩:=hA.set (x':=x') (u:=u) (j:=0) gQ hk (by decide) he
 simp only[Nat.mul_one,Nat.add_zero] at hs M
 refine⟨⟨h.aT.mod M (bn h.sep hy hg (i:=0) (by decide) rfl),h.ah.mod M (bn h.sep hy hg (i:=1) (by decide) rfl),h.af.mod M (bn h.sep hy hg (i:=2) (by decide) rfl),h.same,h.ai.mod M (bn h.sep hy hg (i:=3) (by decide) rfl),fun p hp=>?_,h.aC.mod M (bn h.sep hy hg (i:=4) (by decide) rfl),h.orders.mod M (bn h.sep hy hg (i:=5) (by decide) rfl),by rw[hv];exact hs,h.aP.mod M (bn h.sep hy hg (i:=7) (by decide) rfl),h.sep,h.names,h.nums⟩,M⟩;obtain⟨m,hm,e⟩:=List.mem_iff_getElem.1 hp;have hp':V.ac[m]?=some p:=by rw[List.getElem?_eq_getElem hm,e]
 exact (h.aK p hp).mod M (bn h.sep hy hg (i:=m+8) (by omega) (jk hp'))
theorem aX.zo {w:World} {B:Nat} {V:aG} {l:aI} (h:aX w B V l) {g c k j:Nat} (hv:V.aP=.slice (some ⟨g,0,none⟩) l.aP.length c) {x x':Pos} {u:Value} (hk:l.aP[k]?=some x) (hj:j<3) (he:Pos.cells x'=(Pos.cells x).set j u) :
 aX (w.setCell ⟨g,k*3+j,none⟩ u) B V { l with aP:=l.aP.set k x' }/\Mod (fun b=>b=g) w (w.setCell ⟨g,k*3+j,none⟩ u):=by
 have hg:V.aP.ownBlock=some g:=by rw[hv];rfl
 have hy:V.rows[7]?=some V.aP:=rfl;have hA:=h.aP;rw[hv] at hA;obtain⟨hs,M⟩:=hA.set (x':=x') (u:=u) (j:=j) eG hk hj he;refine⟨⟨h.aT.mod M (bn h.sep hy hg (i:=0) (by decide) rfl),h.ah.mod M (bn h.sep hy hg (i:=1) (by decide) rfl),h.af.mod M (bn h.sep hy hg (i:=2) (by decide) rfl),h.same,h.ai.mod M (bn h.sep hy hg (i:=3) (by decide) rfl),fun p hp=>?_,h.aC.mod M (bn h.sep hy hg (i:=4) (by decide) rfl),h.orders.mod M (bn h.sep hy hg (i:=5) (by decide) rfl),h.aH.mod M (bn h.sep hy hg (i:=6) (by decide) rfl),by rw[hv];exact hs,h.sep,h.names,h.nums⟩,M⟩;obtain⟨m,hm,e⟩:=List.mem_iff_getElem.1 hp;have hp':V.ac[m]?=some p:=by rw[List.getElem?_eq_getElem hm,e]
 exact (h.aK p hp).mod M (bn h.sep hy hg (i:=m+8) (by omega) (jk hp'))
theorem zk {V V':aG} {w:World} {B q:Nat} {v:Value} {l:aI} (h:aX w B V l) (hr:V'.rows=V.rows.set q v) (hv:∀ y,V.rows[q]?=some y->∀ k,v.ownBlock=some k->y.ownBlock=some k\/w.heap.size<=k) (hq:q<V.rows.length):V'.rows.Pairwise fZ:=by
 rw[hr,List.pairwise_iff_getElem];intro i j hi hj hij;rw[List.length_set] at hi hj;rw[List.getElem_set,List.getElem_set];have key:∀ m (hm:m<V.rows.length),m≠q->fZ V.rows[m] v:=fun m hm hne b h1 h2=>by
  rcases hv _ (List.getElem?_eq_getElem hq) b h2 with h3|h3
  ·exact rows_apart h.sep hne (List.getElem?_eq_getElem hm) (List.getElem?_eq_getElem hq) b h1 h3
  have:=(h.NR _ (List.getElem_mem hm) b h1).2;omega
 by_cases e1:q=i
 ·rw[if_pos e1,if_neg (by omega)];exact (key j hj (by omega)).symm
 by_cases e2:q=j
 ·rw[if_neg e1,if_pos e2];exact key i hi (by omega)
 rw[if_neg e1,if_neg e2];exact List.pairwise_iff_getElem.1 h.sep i j hi hj hij
theorem aX.Rh {w w':World} {B:Nat} {V:aG} {l:aI} (h:aX w B V l) {v:Value} {xs:List Pos} (hm:Mod (fun k=>V.aC.ownBlock=some k) w w') (ho:aY w' B 60 3 Pos.cells v xs) (hb:∀ k,v.ownBlock=some k->V.aC.ownBlock=some k\/w.heap.size<=k) :
 aX w' B { V with aC:=v } { l with aC:=xs }:=by
 refine⟨h.aT.mod hm (fun b hb e=>rows_apart h.sep (i:=0) (j:=4) (by decide) rfl rfl b hb e),h.ah.mod hm (fun b hb e=>rows_apart h.sep (i:=1) (j:=4) (by decide) rfl rfl b hb e),h.af.mod hm (fun b hb e=>rows_apart h.sep (i:=2) (j:=4) (by decide) rfl rfl b hb e),h.same,h.ai.mod hm (fun b hb e=>rows_apart h.sep (i:=3) (j:=4) (by decide) rfl rfl b hb e),fun p hp=>?_,ho,h.orders.mod hm (fun b hb e=>rows_apart h.sep (i:=5) (j:=4) (by decide) rfl rfl b hb e),h.aH.mod hm (fun b hb e=>rows_apart h.sep (i:=6) (j:=4) (by decide) rfl rfl b hb e),h.aP.mod hm (fun b hb e=>rows_apart h.sep (i:=7) (j:=4) (by decide) rfl rfl b hb e),zk h (q:=4) rfl (fun y hy=>by cases hy;exact hb) (by simp[aG.rows]),h.names,h.nums⟩;obtain⟨m,hm',e⟩:=List.mem_iff_getElem.1 hp;have hp':V.ac[m]?=some p:=by rw[List.getElem?_eq_getElem hm',e]
 exact (h.aK p hp).mod hm (fun b hb' e=>rows_apart h.sep (i:=m+8) (j:=4) (by omega) (jk hp') rfl b hb' e)
theorem aX.JB {w w':World} {B:Nat} {V:aG} {l:aI} (h:aX w B V l) {v:Value} {xs:List Ord} (hm:Mod (fun k=>V.orders.ownBlock=some k) w w') (ho:aY w' B 82 5 Ord.cells v xs) (hb:∀ k,v.ownBlock=some k->V.orders.ownBlock=some k\/w.heap.size<=k) :
 aX w' B { V with orders:=v } { l with orders:=xs }:=by
 refine⟨h.aT.mod hm (fun b hb e=>rows_apart h.sep (i:=0) (j:=5) (by decide) rfl rfl b hb e),h.ah.mod hm (fun b hb e=>rows_apart h.sep (i:=1) (j:=5) (by decide) rfl rfl b hb e),h.af.mod hm (fun b hb e=>rows_apart h.sep (i:=2) (j:=5) (by decide) rfl rfl b hb e),h.same,h.ai.mod hm (fun b hb e=>rows_apart h.sep (i:=3) (j:=5) (by decide) rfl rfl b hb e),fun p hp=>?_,h.aC.mod hm (fun b hb e=>rows_apart h.sep (i:=4) (j:=5) (by decide) rfl rfl b hb e),ho,h.aH.mod hm (fun b hb e=>rows_apart h.sep (i:=6) (j:=5) (by decide) rfl rfl b hb e),h.aP.mod hm (fun b hb e=>rows_apart h.sep (i:=7) (j:=5) (by decide) rfl rfl b hb e),zk h (q:=5) rfl (fun y hy=>by cases hy;exact hb) (by simp[aG.rows]),h.names,h.nums⟩;obtain⟨m,hm',e⟩:=List.mem_iff_getElem.1 hp;have hp':V.ac[m]?=some p:=by rw[List.getElem?_eq_getElem hm',e]
 exact (h.aK p hp).mod hm (fun b hb' e=>rows_apart h.sep (i:=m+8) (j:=5) (by omega) (jk hp') rfl b hb' e)
theorem aX.He {w w':World} {B:Nat} {V:aG} {l:aI} (h:aX w B V l) {v:Value} {xs:List Pos} (hm:Mod (fun k=>V.aP.ownBlock=some k) w w') (ho:aY w' B 61 3 Pos.cells v xs) (hb:∀ k,v.ownBlock=some k->V.aP.ownBlock=some k\/w.heap.size<=k) :
 aX w' B { V with aP:=v } { l with aP:=xs }:=by
 refine⟨h.aT.mod hm (fun b hb e=>rows_apart h.sep (i:=0) (j:=7) (by decide) rfl rfl b hb e),h.ah.mod hm (fun b hb e=>rows_apart h.sep (i:=1) (j:=7) (by decide) rfl rfl b hb e),h.af.mod hm (fun b hb e=>rows_apart h.sep (i:=2) (j:=7) (by decide) rfl rfl b hb e),h.same,h.ai.mod hm (fun b hb e=>rows_apart h.sep (i:=3) (j:=7) (by decide) rfl rfl b hb e),fun p hp=>?_,h.aC.mod hm (fun b hb e=>rows_apart h.sep (i:=4) (j:=7) (by decide) rfl rfl b hb e),h.orders.mod hm (fun b hb e=>rows_apart h.sep (i:=5) (j:=7) (by decide) rfl rfl b hb e),h.aH.mod hm (fun b hb e=>rows_apart h.sep (i:=6) (j:=7) (by decide) rfl rfl b hb e),ho,zk h (q:=7) rfl (fun y hy=>by cases hy;exact hb) (by simp[aG.rows]),h.names,h.nums⟩;obtain⟨m,hm',e⟩:=List.mem_iff_getElem.1 hp;have hp':V.ac[m]?=some p:=by rw[List.getElem?_eq_getElem hm',e]
 exact (h.aK p hp).mod hm (fun b hb' e=>rows_apart h.sep (i:=m+8) (j:=7) (by omega) (jk hp') rfl b hb' e)
theorem aX.Pv {w:World} {B:Nat} {V:aG} {l:aI} (h:aX w B V l) {g c k:Nat} (hv:V.ai=.slice (some ⟨g,0,none⟩) V.ac.length c) {p:Acc×Value} {u:Value} {aK:List Int} (hk:V.ac[k]?=some p) (hu:aY w B 3 1 dn u aK)
 (ha:∀ (i:Nat) x,i≠k+8->V.rows[i]?=some x->fZ x u) (hn:∀ x∈aK,-9223372036854775808<=x/\x<=9223372036854775807) :
 aX (w.setCell ⟨g,k*4+1,none⟩ u) B { V with ac:=V.ac.set k ({ p.1 with aK:=aK },u) } { l with ai:=l.ai.set k { p.1 with aK:=aK } }/\Mod (fun b=>b=g) w (w.setCell ⟨g,k*4+1,none⟩ u):=by
 have hg:V.ai.ownBlock=some g:=by rw[hv];rfl
 have hy:V.rows[3]?=some V.ai:=rfl;have hA:=h.ai;rw[hv] at hA;have hkl:=(List.getElem?_eq_some_iff.1 hk).1;obtain⟨hs,M⟩:=hA.set (x':=({ p.1 with aK:=aK },u)) (u:=u) (j:=1) di hk (by decide) rfl;refine⟨⟨h.aT.mod M (bn h.sep hy hg (i:=0) (by decide) rfl),h.ah.mod M (bn h.sep hy hg (i:=1) (by decide) rfl),h.af.mod M (bn h.sep hy hg (i:=2) (by decide) rfl),?_,?_,fun q hq=>?_,h.aC.mod M (bn h.sep hy hg (i:=4) (by decide) rfl),h.orders.mod M (bn h.sep hy hg (i:=5) (by decide) rfl),h.aH.mod M (bn h.sep hy hg (i:=6) (by decide) rfl),h.aP.mod M (bn h.sep hy hg (i:=7) (by decide) rfl),?_,h.names,?_⟩,M⟩
 ·show l.ai.set k _=(V.ac.set k _).map (·.1)
  rw[List.map_set,h.same]
 ·show aY _ B _ 4 Acc.cells V.ai _
  rw[hv];exact hs
 ·rcases List.mem_or_eq_of_mem_set hq with hq|rfl
  ·obtain⟨m,hm,e⟩:=List.mem_iff_getElem.1 hq;have hp':V.ac[m]?=some q:=by rw[List.getElem?_eq_getElem hm,e]
   exact (h.aK q hq).mod M (bn h.sep hy hg (i:=m+8) (by omega) (jk hp'))
  exact hu.mod M (fun b hb e=>ha 3 V.ai (by omega) rfl g hg (by rw[<-e];exact hb))
 ·have e:({ V with ac:=V.ac.set k ({ p.1 with aK:=aK },u) }:aG).rows=V.rows.set (k+8) u:=by
   show V.aT::V.ah::V.af::V.ai::V.aC::V.orders::V.aH::V.aP::(V.ac.set k ({ p.1 with aK:=aK },u)).map (·.2)=V.aT::V.ah::V.af::V.ai::V.aC::V.orders::V.aH::V.aP::(V.ac.map (·.2)).set k u
   rw[List.map_set]
  rw[e,List.pairwise_iff_getElem];intro i j hi hj hij;rw[List.length_set] at hi hj;rw[List.getElem_set,List.getElem_set];by_cases e1:k+8=i
  ·rw[if_pos e1,if_neg (by omega)];exact (ha j _ (by omega) (List.getElem?_eq_getElem hj)).symm
  by_cases e2:k+8=j
  ·rw[if_neg e1,if_pos e2];exact ha i _ (by omega) (List.getElem?_eq_getElem hi)
  rw[if_neg e1,if_neg e2];exact List.pairwise_iff_getElem.1 h.sep i j hi hj hij
 intro a ha' x hx;rcases List.mem_or_eq_of_mem_set ha' with ha'|rfl
 ·exact h.nums a ha' x hx
 exact hn x hx
theorem At.sub {w W:World} {bs cs:List (Nat×TypeId×Array Value)} (h:At w W bs) (hs:cs.Sublist bs):At w W cs :=
 ⟨h.low,fun x hx=>h.has x (hs.subset hx),fun x hx=>h.new x (hs.subset hx),h.Ud.sublist (hs.map _)⟩
theorem Lh {α:Type} {n:Nat} {f:α->List Value} (w:World) (B:Nat) (e:TypeId) (hB:B<=w.heap.size) (x:α) (cs:Array Value) (hcs:cs.toList=f x) (hf:(f x).length=n):aY (w.alloc (.cells cs e)) B e n f (.slice (some ⟨w.heap.size,0,none⟩) 1 1) [x]:=by
 have h1:cs.size=n:=by rw[<-hf,<-hcs];simp
 refine⟨by simp[hf],Or.inr ⟨w.heap.size,1,cs,rfl,hB,heap_alloc_new w _,Nat.le_refl _,by unfold maxLen;omega,by omega,?_⟩⟩;rw[hcs];simp;exact List.take_of_length_le (by omega)
structure dX (w:World) (R0:Nat) (bs:List (Nat×TypeId×Array Value)) (V:aG) (l:aI) (W:World):Prop where
 at_:At w W bs
 own:aX W R0 V l
 vI:∀ x∈bs,V.Ae x.1
 rb:R0<=W.heap.size
 lo:w.heap.size<=R0
variable {w W W':World} {R0 b i o:Nat} {bs:List (Nat×TypeId×Array Value)} {V:aG} {l L:aI} {T:TypeId} {cs:Array Value}
theorem dX.go (h:dX w R0 bs V l W) (hb:Below W.heap.size W W'):dX w R0 bs V l W':=⟨h.at_.go hb,h.own.below hb,h.vI,Nat.le_trans h.rb hb.size,h.lo⟩
theorem dX.box (h:dX w R0 bs V l W) (T:TypeId) (cs:Array Value):dX w R0 (bs++[(W.heap.size,T,cs)]) V l (W.alloc (.cells cs T)):=by
 have hb:Below W.heap.size W (W.alloc (.cells cs T)):=(Below.refl _ _).alloc (Nat.le_refl _) _;refine⟨h.at_.alloc T cs,h.own.below hb,fun x hx=>?_,Nat.le_trans h.rb hb.size,h.lo⟩;rcases List.mem_append.1 hx with hx|hx
 ·exact h.vI x hx
 obtain rfl:=List.mem_singleton.1 hx;exact h.own.Bo (Or.inr (Nat.le_refl _))
theorem dX.cell (h:dX w R0 bs V l W) (i:Nat) (hi:bs[i]?=some (b,T,cs)) (o:Nat) (u:Value):dX w R0 (bs.set i (b,T,cs.setIfInBounds o u)) V l (W.setCell ⟨b,o,none⟩ u):=by
 refine⟨h.at_.setCell i hi o u,h.own.keep ((Mod.refl (fun k=>k=b) W).setCell u (fun _=>rfl)) (fun k e=>by rw[e];exact h.vI _ (List.mem_of_getElem? hi)),fun x hx=>?_,Nat.le_trans h.rb (by simp[World.setCell]),h.lo⟩;rcases List.mem_or_eq_of_mem_set hx with hx|rfl
 ·exact h.vI x hx
 exact h.vI (b,T,cs) (List.mem_of_getElem? hi)
theorem oZ {V V':aG} {q:Nat} {v:Value} (h:V.Ae b) (hr:V'.rows=V.rows.set q v) (hv:v.ownBlock≠some b):V'.Ae b:=by
 intro x hx;rw[hr] at hx;rcases List.mem_or_eq_of_mem_set hx with hx|rfl
 ·exact h x hx
 exact hv
theorem dX.Le (h:dX w R0 bs V l W) (i:Nat) (hi:bs[i]?=some (b,T,V.cells L)):dX w R0 (bs.set i (b,T,({ V with orders:=.slice none 0 0 }:aG).cells L)) { V with orders:=.slice none 0 0 } { l with orders:=[] } (W.setCell ⟨b,6,none⟩ (.slice none 0 0)):=by
 have o1:=h.own.JB (w':=W) (v:=.slice none 0 0) (xs:=[]) (Mod.refl _ W) (aY.nil _ _ _ _ _) (fun k hk=>by simp[Value.ownBlock] at hk);have F:dX w R0 bs { V with orders:=.slice none 0 0 } { l with orders:=[] } W:=⟨h.at_,o1,fun y hy=>oZ (q:=5) (h.vI y hy) rfl (by simp[Value.ownBlock]),h.rb,h.lo⟩;exact F.cell i hi 6 _
theorem dX.mark (h:dX w R0 bs V l W) {g c k:Nat} (hv:V.af=.slice (some ⟨g,0,none⟩) l.af.length c) {x:Ins} (hk:l.af[k]?=some x) (m:Int) :
 dX w R0 bs V { l with af:=l.af.set k { x with mark:=m } } (W.setCell ⟨g,k*7+6,none⟩ (.int .i64 m)):=by
 obtain⟨o1,M⟩:=h.own.iI hv (x':={ x with mark:=m }) (u:=.int .i64 m) hk (j:=6) (by decide) rfl;have hg:=h.own.NR V.af (by simp[aG.rows]) g (by rw[hv];rfl);have hlo:=h.lo;exact⟨h.at_.mod M (fun j e=>by omega) (fun y hy e=>h.vI y hy V.af (by simp[aG.rows]) (by rw[hv,e];rfl)),o1,h.vI,Nat.le_trans h.rb M.size,h.lo⟩
end Go.Bw
namespace Go.Bw
open Go.RowKit
variable {w W W':World} {R0 b i o:Nat} {bs:List (Nat×TypeId×Array Value)} {V:aG} {l L:aI} {T:TypeId} {cs:Array Value}
theorem dX.row (h:dX w R0 bs V l W) {V':aG} {l':aI} {g q:Nat} {y:Value} (o1:aX W' R0 V' l') (M:Mod (fun k=>k=g) W W') (hq:V.rows[q]?=some y) (hg:y.ownBlock=some g) (hr:V'.rows=V.rows):dX w R0 bs V' l' W':=by
 have hx:=List.mem_of_getElem? hq;have hl:=h.own.NR y hx g hg;have hlo:=h.lo;exact⟨h.at_.mod M (fun j e=>by omega) (fun z hz e=>h.vI z hz y hx (by rw[hg,e])),o1,fun z hz x hx=>h.vI z hz x (by rw[<-hr];exact hx),Nat.le_trans h.rb M.size,h.lo⟩
theorem dX.Ri (h:dX w R0 bs V l W) {V':aG} {l':aI} {q:Nat} {y v:Value} (o1:aX W' R0 V' l') (hm:Mod (fun k=>y.ownBlock=some k) W W') (hq:V.rows[q]?=some y) (hr:V'.rows=V.rows.set q v)
 (hb:∀ k,v.ownBlock=some k->y.ownBlock=some k\/W.heap.size<=k):dX w R0 bs V' l' W':=by
 have hx:=List.mem_of_getElem? hq;have hlo:=h.lo;refine⟨h.at_.mod hm (fun k e=>by have:=h.own.NR y hx k e;omega) (fun z hz e=>h.vI z hz y hx e),o1,fun z hz=>oZ (h.vI z hz) hr (fun e=>?_),Nat.le_trans h.rb hm.size,h.lo⟩;rcases hb _ e with e|e
 ·exact h.vI z hz y hx e
 have:=h.at_.lt z hz;omega
theorem At.perm {cs:List (Nat×TypeId×Array Value)} (h:At w W bs) (p:bs.Perm cs):At w W cs :=
 ⟨h.low,fun x hx=>h.has x (p.mem_iff.2 hx),fun x hx=>h.new x (p.mem_iff.2 hx),(p.map _).nodup_iff.1 h.Ud⟩
theorem dX.perm {cs:List (Nat×TypeId×Array Value)} (h:dX w R0 bs V l W) (p:bs.Perm cs):dX w R0 cs V l W :=
 ⟨h.at_.perm p,h.own,fun x hx=>h.vI x (p.mem_iff.2 hx),h.rb,h.lo⟩
theorem aY.slot {α:Type} {w:World} {B n:Nat} {e:TypeId} {f:α->List Value} {v:Value} {l:List α} (h:aY w B e n f v l) (hf:∀ x,(f x).length=n) (hn:0<n) {k:Nat} {x:α} (hk:l[k]?=some x) :
 ∃ g c,v=.slice (some ⟨g,0,none⟩) l.length c/\l.length<=c/\c<=maxLen/\(∀ (j:Nat) u,(f x)[j]?=some u->w.cell? ⟨g,k*n+j,none⟩=some u)/\∀ j,w.frozen? ⟨g,j,none⟩=false:=by
 obtain⟨g,c,rfl,hc,_,_,hz⟩:=h.block hk;have hR:=h.row hf hn;have cp:=hR.caps;obtain⟨b',o',e',_,hh⟩:=hR.at_ hk
 cases e'
 exact⟨g,c,rfl,hc,cp.2.2.1,fun j u hu=>by have:=hh j u hu;rw[Nat.zero_add] at this;exact this,hz⟩
end Go.Bw
namespace Go.Bw.aj
open Go.Bw Go.Bw.Keep Go.Bw.Fall
section
variable {P:Program} {Q:Exit->Act->World->Prop} {effs pures:List Nat} {C:World->Prop} {R:List PanicEntry->List Deferred->World->Prop} {l:List Oper}
theorem OG {k:Nat} {t:Plan} {a:Act} {w:World} (he:effs.contains k=true) (hg:(nth l k).all (fun o=>Region.wanted o (yielded l.toArray a.tmps))=true)
 (h:∀ K:Act->World->Prop,(∀ a w,(rX l.toArray pures k=true->C w)->bI P l.toArray R Q C effs pures t a w->K a w)->CZ P K (Fall R Q) (au l [k]) a w):bI P l.toArray R Q C effs pures (.step k t) a w:=by
 show bU P l.toArray R Q C effs pures k (bI P l.toArray R Q C effs pures t) a w
 cases hx:nth l k with
 | none =>
   have:=h (fun a w=>(rX l.toArray pures k=true->C w)/\bI P l.toArray R Q C effs pures t a w) (fun a w hc ht=>⟨hc,ht⟩);unfold au at this;rw[hx] at this;exact this.elim
 | some o =>
   have h0:l.toArray[k]?=some o:=by rw[pY] at hx;simpa using hx
   unfold bU
   simp only[h0,he,if_true]
   unfold wpOp
   simp only[h0]
   rw[hx] at hg;rw[if_pos (by simpa using hg)];refine Or.inl ?_;have:=h (fun a w=>(rX l.toArray pures k=true->C w)/\bI P l.toArray R Q C effs pures t a w) (fun a w hc ht=>⟨hc,ht⟩);unfold au at this;rw[hx] at this;exact this
theorem OH {k:Nat} {t:Plan} {a:Act} {w:World} {o:Oper} (he:effs.contains k=true) (ho:nth l k=some o) (hg:Region.wanted o (yielded l.toArray a.tmps)=false) (hC:rX l.toArray pures k=true->C w)
 (h:bI P l.toArray R Q C effs pures t (a.put o.dst undef) w):bI P l.toArray R Q C effs pures (.step k t) a w:=by
 show bU P l.toArray R Q C effs pures k (bI P l.toArray R Q C effs pures t) a w
 have h0:l.toArray[k]?=some o:=by rw[pY] at ho;simpa using ho
 unfold bU
 simp only[h0,he,if_true]
 unfold wpOp
 simp only[h0]
 rw[if_neg (by rw[hg];decide)];exact⟨hC,h⟩
end
end Go.Bw.aj
namespace Go.Proofs.YtfknkmlocbojhaaGreatDoor
open Go.RowKit Go.Bw Go.Maps Go.Shelf Go.Bw.Fall
noncomputable def dF (L:aI) (r:xZ):aI×Int×Int:=by
 classical
 exact if L.Good then (if r.err=0 then (if (fK r.led).2=0 then ((fK r.led).1,r.num,0) else (L0,0,(fK r.led).2)) else (L0,0,r.err)) else (L0,0,43)
theorem uh {L:aI} (h:¬ L.Good) (r:xZ):dF L r=(L0,0,43):=by unfold dF;rw[if_neg h]
theorem uj {L:aI} (h:L.Good) {r:xZ} (he:r.err≠0):dF L r=(L0,0,r.err):=by unfold dF;rw[if_pos h,if_neg he]
theorem rF {L:aI} (h:L.Good) {r:xZ} (he:r.err=0) (hf:(fK r.led).2≠0):dF L r=(L0,0,(fK r.led).2):=by unfold dF;rw[if_pos h,if_pos he,if_neg hf]
theorem rE {L:aI} (h:L.Good) {r:xZ} (he:r.err=0) (hf:(fK r.led).2=0):dF L r=((fK r.led).1,r.num,0):=by unfold dF;rw[if_pos h,if_pos he,if_pos hf]
def su (w:World) (r:aI×Int×Int) (e:Ending) (w':World):Prop:=∃ U:aG,e=.returned (.tuple #[U.val r.1,.int .i64 r.2.1,.int .i64 r.2.2])/\aX w' w.heap.size U r.1/\Below w.heap.size w w'
theorem Sr {L:aI} {r:xZ} (h:(dF L r).2.2≠0):(dF L r).1=L0/\(dF L r).2.1=0:=by
 by_cases hg:L.Good
 ·by_cases he:r.err=0
  ·by_cases hf:(fK r.led).2=0
   ·rw[rE hg he hf] at h;exact absurd rfl h
   rw[rF hg he hf];exact⟨rfl,rfl⟩
  rw[uj hg he];exact⟨rfl,rfl⟩
 rw[uh hg];exact⟨rfl,rfl⟩
theorem oJ {L:aI} {r:xZ} (h:(dF L r).2.2=0):L.Good/\r.err=0/\(fK r.led).2=0/\(dF L r).1=(fK r.led).1/\(dF L r).2.1=r.num:=by
 by_cases hg:L.Good
 ·by_cases he:r.err=0
  ·by_cases hf:(fK r.led).2=0
   ·rw[rE hg he hf];exact⟨hg,he,hf,rfl,rfl⟩
   rw[rF hg he hf] at h;exact absurd h hf
  rw[uj hg he] at h;exact absurd h he
 rw[uh hg] at h;exact absurd h (by decide)
end Go.Proofs.YtfknkmlocbojhaaGreatDoor
namespace Go.Proofs.YtfknkmlocbojhaaGreatDoor
open Go.RowKit Go.Bw Go.Maps Go.Shelf
end Go.Proofs.YtfknkmlocbojhaaGreatDoor

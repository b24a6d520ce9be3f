/- Joined: AppP, LedS, Fbs, AdmF, AdmA, TreeN. -/
import Derived.Test.YtcepekniflaoaaaGreatDoorGk
import Derived.Test.YtcepekniflaoaaaGreatDoorGa
import Derived.Test.YtcepekniflaoaaaGreatDoorGp
import Derived.Test.YtcepekniflaoaaaGreatDoorGm
import Derived.Test.YtcepekniflaoaaaGreatDoorGe
set_option linter.unusedVariables false
set_option linter.unusedSimpArgs false
namespace Go.Proofs.YtcepekniflaoaaaGreatDoor
open Go.RowKit Go.Bw Go.Maps Go.Shelf
theorem Ew (w:World) (B:Nat) (v:Value) (l:List Ins) (ho:aV w B 66 7 Ins.cells v l) (hB:B<=w.heap.size) (xv:Value) (xs:List Ins) (hx:Reads w 7 xv xs.length (xs.flatMap Ins.cells)) (hl:(l.length+xs.length)*56<=140737488355328) :
 ∃ v' w',(Builtin.append_ #[24, 24] 24 #[v,xv]).run Tryz.prog w=.ok v' w'/\aV w' B 66 7 Ins.cells v' (l++xs)/\Mod (fun k=>v.ownBlock=some k) w w'/\∀ k,v'.ownBlock=some k->v.ownBlock=some k\/k=w.heap.size:=by
 obtain⟨i0,g1,g2,g3,g4⟩:=info_parts kD;exact Ij 24 66 i0 _ 7 56 Tryz.underlying24 g1 g2 g3 g4 rfl (by decide) (by decide) Ins.cells w B v l ho hB xv xs hx (fun x hx=>zy x) hl
theorem wR (w:World) (B:Nat) (v:Value) (l:List Pos) (ho:aV w B 50 3 Pos.cells v l) (hB:B<=w.heap.size) (x:Pos) (cs:Array Value) (hcs:cs.toList=Pos.cells x) (hl:(l.length+1)*24<=140737488355328) :
 ∃ v' w',(Builtin.append_ #[26, 26] 26 #[v,.slice (some ⟨w.heap.size,0,none⟩) 1 1]).run Tryz.prog (w.alloc (.cells cs 50))=.ok v' w'/\aV w' B 50 3 Pos.cells v' (l++[x])/\Mod (fun k=>v.ownBlock=some k) w w'/\∀ k,v'.ownBlock=some k->v.ownBlock=some k\/w.heap.size<=k:=by
 obtain⟨i0,g1,g2,g3,g4⟩:=info_parts lX;exact wJ 26 50 i0 _ 3 24 Tryz.underlying26 g1 g2 g3 g4 rfl (by decide) (by decide) Pos.cells fH w B v l ho hB x cs hcs (one_pos x) hl
theorem wQ (w:World) (B:Nat) (v:Value) (l:List Ord) (ho:aV w B 74 5 Ord.cells v l) (hB:B<=w.heap.size) (x:Ord) (cs:Array Value) (hcs:cs.toList=Ord.cells x) (hl:(l.length+1)*40<=140737488355328) :
 ∃ v' w',(Builtin.append_ #[27, 27] 27 #[v,.slice (some ⟨w.heap.size,0,none⟩) 1 1]).run Tryz.prog (w.alloc (.cells cs 74))=.ok v' w'/\aV w' B 74 5 Ord.cells v' (l++[x])/\Mod (fun k=>v.ownBlock=some k) w w'/\∀ k,v'.ownBlock=some k->v.ownBlock=some k\/w.heap.size<=k:=by
 obtain⟨i0,g1,g2,g3,g4⟩:=info_parts kE;exact wJ 27 74 i0 _ 5 40 Tryz.underlying27 g1 g2 g3 g4 rfl (by decide) (by decide) Ord.cells lG w B v l ho hB x cs hcs (zA x) hl
theorem sJ (w:World) (B:Nat) (v:Value) (l:List Pos) (ho:aV w B 72 3 Pos.cells v l) (hB:B<=w.heap.size) (x:Pos) (cs:Array Value) (hcs:cs.toList=Pos.cells x) (hl:(l.length+1)*24<=140737488355328) :
 ∃ v' w',(Builtin.append_ #[29, 29] 29 #[v,.slice (some ⟨w.heap.size,0,none⟩) 1 1]).run Tryz.prog (w.alloc (.cells cs 72))=.ok v' w'/\aV w' B 72 3 Pos.cells v' (l++[x])/\Mod (fun k=>v.ownBlock=some k) w w'/\∀ k,v'.ownBlock=some k->v.ownBlock=some k\/w.heap.size<=k:=by
 obtain⟨i0,g1,g2,g3,g4⟩:=info_parts lW;exact wJ 29 72 i0 _ 3 24 Tryz.underlying29 g1 g2 g3 g4 rfl (by decide) (by decide) Pos.cells fH w B v l ho hB x cs hcs (IB x) hl
end Go.Proofs.YtcepekniflaoaaaGreatDoor
namespace Go.Bw
open Go.RowKit
theorem rows_apart {V:aB} (h:V.rows.Pairwise gW) {i j:Nat} {x y:Value} (hij:i≠j) (hx:V.rows[i]?=some x) (hy:V.rows[j]?=some y):gW x y:=by
 obtain⟨i1,i2⟩:=List.getElem?_eq_some_iff.1 hx;obtain⟨j1,j2⟩:=List.getElem?_eq_some_iff.1 hy;rcases Nat.lt_or_gt_of_ne hij with hlt|hlt
 ·have:=List.pairwise_iff_getElem.1 h i j i1 j1 hlt;rw[i2,j2] at this;exact this
 have:=List.pairwise_iff_getElem.1 h j i j1 i1 hlt;rw[i2,j2] at this;exact this.symm
theorem je {V:aB} {m:Nat} {p:Acc×Value} (h:V.ac[m]?=some p):V.rows[m+8]?=some p.2:=by
 show (V.ac.map (·.2))[m]?=_
 rw[List.getElem?_map,h];rfl
theorem bQ {V:aB} (h:V.rows.Pairwise gW) {j g:Nat} {y:Value} (hy:V.rows[j]?=some y) (hg:y.ownBlock=some g) {i:Nat} {x:Value} (hij:i≠j) (hx:V.rows[i]?=some x):∀ b,x.ownBlock=some b->¬ b=g :=
 fun b hb e=>rows_apart h hij hx hy b hb (by rw[hg,e])
theorem bF.GZ {w:World} {B:Nat} {V:aB} {l:aH} (h:bF w B V l) {g c k j:Nat} (hv:V.ah=.slice (some ⟨g,0,none⟩) l.ah.length c) {x x':dX} {u:Value} (hk:l.ah[k]?=some x) (hj:j<4) (he:dX.cells x'=(dX.cells x).set j u) (hn:x'.name.size<=maxLen) :
 bF (w.setCell ⟨g,k*4+j,none⟩ u) B V { l with ah:=l.ah.set k x' }/\Mod (fun b=>b=g) w (w.setCell ⟨g,k*4+j,none⟩ u):=by
 have hg:V.ah.ownBlock=some g:=by rw[hv];rfl
 have hy:V.rows[1]?=some V.ah:=rfl;have hA:=h.ah;rw[hv] at hA;obtain⟨hs,M⟩:=hA.set (x':=x') (u:=u) (j:=j) iJ hk hj he;refine⟨⟨h.aQ.mod M (bQ h.sep hy hg (i:=0) (by decide) rfl),by rw[hv];exact hs,h.af.mod M (bQ h.sep hy hg (i:=2) (by decide) rfl),h.same,h.ai.mod M (bQ h.sep hy hg (i:=3) (by decide) rfl),fun p hp=>?_,h.au.mod M (bQ h.sep hy hg (i:=4) (by decide) rfl),h.orders.mod M (bQ h.sep hy hg (i:=5) (by decide) rfl),h.aG.mod M (bQ h.sep hy hg (i:=6) (by decide) rfl),h.aJ.mod M (bQ h.sep hy hg (i:=7) (by decide) rfl),h.sep,fun y hy=>?_,h.nums⟩,M⟩
 ·obtain⟨m,hm,e⟩:=List.mem_iff_getElem.1 hp;have hp':V.ac[m]?=some p:=by rw[List.getElem?_eq_getElem hm,e]
  exact (h.aT p hp).mod M (bQ h.sep hy hg (i:=m+8) (by omega) (je hp'))
 rcases List.mem_or_eq_of_mem_set hy with hy|rfl
 ·exact h.names y hy
 exact hn
theorem bF.oW {w:World} {B:Nat} {V:aB} {l:aH} (h:bF w B V l) {g c k j:Nat} (hv:V.af=.slice (some ⟨g,0,none⟩) l.af.length c) {x x':Ins} {u:Value} (hk:l.af[k]?=some x) (hj:j<7) (he:Ins.cells x'=(Ins.cells x).set j u) :
 bF (w.setCell ⟨g,k*7+j,none⟩ u) B V { l with af:=l.af.set k x' }/\Mod (fun b=>b=g) w (w.setCell ⟨g,k*7+j,none⟩ u):=by
 have hg:V.af.ownBlock=some g:=by rw[hv];rfl
 have hy:V.rows[2]?=some V.af:=rfl;have hA:=h.af;rw[hv] at hA;obtain⟨hs,M⟩:=hA.set (x':=x') (u:=u) (j:=j) dU hk hj he;refine⟨⟨h.aQ.mod M (bQ h.sep hy hg (i:=0) (by decide) rfl),h.ah.mod M (bQ h.sep hy hg (i:=1) (by decide) rfl),by rw[hv];exact hs,h.same,h.ai.mod M (bQ h.sep hy hg (i:=3) (by decide) rfl),fun p hp=>?_,h.au.mod M (bQ h.sep hy hg (i:=4) (by decide) rfl),h.orders.mod M (bQ h.sep hy hg (i:=5) (by decide) rfl),h.aG.mod M (bQ h.sep hy hg (i:=6) (by decide) rfl),h.aJ.mod M (bQ h.sep hy hg (i:=7) (by decide) rfl),h.sep,h.names,h.nums⟩,M⟩;obtain⟨m,hm,e⟩:=List.mem_iff_getElem.1 hp;have hp':V.ac[m]?=some p:=by rw[List.getElem?_eq_getElem hm,e]
 exact (h.aT p hp).mod M (bQ h.sep hy hg (i:=m+8) (by omega) (je hp'))
theorem bF.yg {w:World} {B:Nat} {V:aB} {l:aH} (h:bF w B V l) {g c k j:Nat} (hv:V.au=.slice (some ⟨g,0,none⟩) l.au.length c) {x x':Pos} {u:Value} (hk:l.au[k]?=some x) (hj:j<3) (he:Pos.cells x'=(Pos.cells x).set j u) :
 bF (w.setCell ⟨g,k*3+j,none⟩ u) B V { l with au:=l.au.set k x' }/\Mod (fun b=>b=g) w (w.setCell ⟨g,k*3+j,none⟩ u):=by
 have hg:V.au.ownBlock=some g:=by rw[hv];rfl
 have hy:V.rows[4]?=some V.au:=rfl;have hA:=h.au;rw[hv] at hA;obtain⟨hs,M⟩:=hA.set (x':=x') (u:=u) (j:=j) fH hk hj he;refine⟨⟨h.aQ.mod M (bQ h.sep hy hg (i:=0) (by decide) rfl),h.ah.mod M (bQ h.sep hy hg (i:=1) (by decide) rfl),h.af.mod M (bQ h.sep hy hg (i:=2) (by decide) rfl),h.same,h.ai.mod M (bQ h.sep hy hg (i:=3) (by decide) rfl),fun p hp=>?_,by rw[hv];exact hs,h.orders.mod M (bQ h.sep hy hg (i:=5) (by decide) rfl),h.aG.mod M (bQ h.sep hy hg (i:=6) (by decide) rfl),h.aJ.mod M (bQ h.sep hy hg (i:=7) (by decide) rfl),h.sep,h.names,h.nums⟩,M⟩;obtain⟨m,hm,e⟩:=List.mem_iff_getElem.1 hp;have hp':V.ac[m]?=some p:=by rw[List.getElem?_eq_getElem hm,e]
 exact (h.aT p hp).mod M (bQ h.sep hy hg (i:=m+8) (by omega) (je hp'))
theorem bF.Kt {w:World} {B:Nat} {V:aB} {l:aH} (h:bF w B V l) {g c k:Nat} (hv:V.aG=.slice (some ⟨g,0,none⟩) l.aG.length c) {x x':Int} {u:Value} (hk:l.aG[k]?=some x) (he:dw x'=(dw x).set 0 u) :
 bF (w.setCell ⟨g,k,none⟩ u) B V { l with aG:=l.aG.set k x' }/\Mod (fun b=>b=g) w (w.setCell ⟨g,k,none⟩ u):=by
 have hg:V.aG.ownBlock=some g:=by rw[hv];rfl
 have hy:V.rows[6]?=some V.aG:=rfl;have hA:=h.aG;rw[hv] at hA;obtain⟨hs,M⟩:=hA.set (x':=x') (u:=u) (j:=0) iM hk (by decide) he
 simp only[Nat.mul_one,Nat.add_zero] at hs M
 refine⟨⟨h.aQ.mod M (bQ h.sep hy hg (i:=0) (by decide) rfl),h.ah.mod M (bQ h.sep hy hg (i:=1) (by decide) rfl),h.af.mod M (bQ h.sep hy hg (i:=2) (by decide) rfl),h.same,h.ai.mod M (bQ h.sep hy hg (i:=3) (by decide) rfl),fun p hp=>?_,h.au.mod M (bQ h.sep hy hg (i:=4) (by decide) rfl),h.orders.mod M (bQ h.sep hy hg (i:=5) (by decide) rfl),by rw[hv];exact hs,h.aJ.mod M (bQ h.sep hy hg (i:=7) (by decide) rfl),h.sep,h.names,h.nums⟩,M⟩;obtain⟨m,hm,e⟩:=List.mem_iff_getElem.1 hp;have hp':V.ac[m]?=some p:=by rw[List.getElem?_eq_getElem hm,e]
 exact (h.aT p hp).mod M (bQ h.sep hy hg (i:=m+8) (by omega) (je hp'))
theorem xY {V V':aB} {w:World} {B q:Nat} {v:Value} {l:aH} (h:bF w B V l) (hr:V'.rows=V.rows.set q v) (hv:∀ y,V.rows[q]?=some y->∀ k,v.ownBlock=some k->y.ownBlock=some k\/w.heap.size<=k) (hq:q<V.rows.length):V'.rows.Pairwise gW:=by
 rw[hr,List.pairwise_iff_getElem];intro i j hi hj hij;rw[List.length_set] at hi hj;rw[List.getElem_set,List.getElem_set];have key:∀ m (hm:m<V.rows.length),m≠q->gW V.rows[m] v:=fun m hm hne b h1 h2=>by
  rcases hv _ (List.getElem?_eq_getElem hq) b h2 with h3|h3
  ·exact rows_apart h.sep hne (List.getElem?_eq_getElem hm) (List.getElem?_eq_getElem hq) b h1 h3
  have:=(h.PU _ (List.getElem_mem hm) b h1).2;omega
 by_cases e1:q=i
 ·rw[if_pos e1,if_neg (by omega)];exact (key j hj (by omega)).symm
 by_cases e2:q=j
 ·rw[if_neg e1,if_pos e2];exact key i hi (by omega)
 rw[if_neg e1,if_neg e2];exact List.pairwise_iff_getElem.1 h.sep i j hi hj hij
theorem bF.xO {w w':World} {B:Nat} {V:aB} {l:aH} (h:bF w B V l) {v:Value} {xs:List Pos} (hm:Mod (fun k=>V.au.ownBlock=some k) w w') (ho:aV w' B 50 3 Pos.cells v xs) (hb:∀ k,v.ownBlock=some k->V.au.ownBlock=some k\/w.heap.size<=k) :
 bF w' B { V with au:=v } { l with au:=xs }:=by
 refine⟨h.aQ.mod hm (fun b hb e=>rows_apart h.sep (i:=0) (j:=4) (by decide) rfl rfl b hb e),h.ah.mod hm (fun b hb e=>rows_apart h.sep (i:=1) (j:=4) (by decide) rfl rfl b hb e),h.af.mod hm (fun b hb e=>rows_apart h.sep (i:=2) (j:=4) (by decide) rfl rfl b hb e),h.same,h.ai.mod hm (fun b hb e=>rows_apart h.sep (i:=3) (j:=4) (by decide) rfl rfl b hb e),fun p hp=>?_,ho,h.orders.mod hm (fun b hb e=>rows_apart h.sep (i:=5) (j:=4) (by decide) rfl rfl b hb e),h.aG.mod hm (fun b hb e=>rows_apart h.sep (i:=6) (j:=4) (by decide) rfl rfl b hb e),h.aJ.mod hm (fun b hb e=>rows_apart h.sep (i:=7) (j:=4) (by decide) rfl rfl b hb e),xY h (q:=4) rfl (fun y hy=>by cases hy;exact hb) (by simp[aB.rows]),h.names,h.nums⟩;obtain⟨m,hm',e⟩:=List.mem_iff_getElem.1 hp;have hp':V.ac[m]?=some p:=by rw[List.getElem?_eq_getElem hm',e]
 exact (h.aT p hp).mod hm (fun b hb' e=>rows_apart h.sep (i:=m+8) (j:=4) (by omega) (je hp') rfl b hb' e)
theorem bF.xM {w w':World} {B:Nat} {V:aB} {l:aH} (h:bF w B V l) {v:Value} {xs:List Ord} (hm:Mod (fun k=>V.orders.ownBlock=some k) w w') (ho:aV w' B 74 5 Ord.cells v xs) (hb:∀ k,v.ownBlock=some k->V.orders.ownBlock=some k\/w.heap.size<=k) :
 bF w' B { V with orders:=v } { l with orders:=xs }:=by
 refine⟨h.aQ.mod hm (fun b hb e=>rows_apart h.sep (i:=0) (j:=5) (by decide) rfl rfl b hb e),h.ah.mod hm (fun b hb e=>rows_apart h.sep (i:=1) (j:=5) (by decide) rfl rfl b hb e),h.af.mod hm (fun b hb e=>rows_apart h.sep (i:=2) (j:=5) (by decide) rfl rfl b hb e),h.same,h.ai.mod hm (fun b hb e=>rows_apart h.sep (i:=3) (j:=5) (by decide) rfl rfl b hb e),fun p hp=>?_,h.au.mod hm (fun b hb e=>rows_apart h.sep (i:=4) (j:=5) (by decide) rfl rfl b hb e),ho,h.aG.mod hm (fun b hb e=>rows_apart h.sep (i:=6) (j:=5) (by decide) rfl rfl b hb e),h.aJ.mod hm (fun b hb e=>rows_apart h.sep (i:=7) (j:=5) (by decide) rfl rfl b hb e),xY h (q:=5) rfl (fun y hy=>by cases hy;exact hb) (by simp[aB.rows]),h.names,h.nums⟩;obtain⟨m,hm',e⟩:=List.mem_iff_getElem.1 hp;have hp':V.ac[m]?=some p:=by rw[List.getElem?_eq_getElem hm',e]
 exact (h.aT p hp).mod hm (fun b hb' e=>rows_apart h.sep (i:=m+8) (j:=5) (by omega) (je hp') rfl b hb' e)
theorem bF.xK {w w':World} {B:Nat} {V:aB} {l:aH} (h:bF w B V l) {v:Value} {xs:List Pos} (hm:Mod (fun k=>V.aJ.ownBlock=some k) w w') (ho:aV w' B 72 3 Pos.cells v xs) (hb:∀ k,v.ownBlock=some k->V.aJ.ownBlock=some k\/w.heap.size<=k) :
 bF w' B { V with aJ:=v } { l with aJ:=xs }:=by
 refine⟨h.aQ.mod hm (fun b hb e=>rows_apart h.sep (i:=0) (j:=7) (by decide) rfl rfl b hb e),h.ah.mod hm (fun b hb e=>rows_apart h.sep (i:=1) (j:=7) (by decide) rfl rfl b hb e),h.af.mod hm (fun b hb e=>rows_apart h.sep (i:=2) (j:=7) (by decide) rfl rfl b hb e),h.same,h.ai.mod hm (fun b hb e=>rows_apart h.sep (i:=3) (j:=7) (by decide) rfl rfl b hb e),fun p hp=>?_,h.au.mod hm (fun b hb e=>rows_apart h.sep (i:=4) (j:=7) (by decide) rfl rfl b hb e),h.orders.mod hm (fun b hb e=>rows_apart h.sep (i:=5) (j:=7) (by decide) rfl rfl b hb e),h.aG.mod hm (fun b hb e=>rows_apart h.sep (i:=6) (j:=7) (by decide) rfl rfl b hb e),ho,xY h (q:=7) rfl (fun y hy=>by cases hy;exact hb) (by simp[aB.rows]),h.names,h.nums⟩;obtain⟨m,hm',e⟩:=List.mem_iff_getElem.1 hp;have hp':V.ac[m]?=some p:=by rw[List.getElem?_eq_getElem hm',e]
 exact (h.aT p hp).mod hm (fun b hb' e=>rows_apart h.sep (i:=m+8) (j:=7) (by omega) (je hp') rfl b hb' e)
theorem At.sub {w W:World} {bs cs:List (Nat×TypeId×Array Value)} (h:At w W bs) (hs:cs.Sublist bs):At w W cs :=
 ⟨h.low,fun x hx=>h.has x (hs.subset hx),fun x hx=>h.new x (hs.subset hx),h.Qr.sublist (hs.map _)⟩
theorem II {α:Type} {n:Nat} {f:α->List Value} (w:World) (B:Nat) (e:TypeId) (hB:B<=w.heap.size) (x:α) (cs:Array Value) (hcs:cs.toList=f x) (hf:(f x).length=n):aV (w.alloc (.cells cs e)) B e n f (.slice (some ⟨w.heap.size,0,none⟩) 1 1) [x]:=by
 have h1:cs.size=n:=by rw[<-hf,<-hcs];simp
 refine⟨by simp[hf],Or.inr ⟨w.heap.size,1,cs,rfl,hB,heap_alloc_new w _,Nat.le_refl _,by unfold maxLen;omega,by omega,?_⟩⟩;rw[hcs];simp;exact List.take_of_length_le (by omega)
structure dB (w:World) (R0:Nat) (bs:List (Nat×TypeId×Array Value)) (V:aB) (l:aH) (W:World):Prop where
 at_:At w W bs
 own:bF W R0 V l
 uq:∀ x∈bs,V.Az x.1
 rb:R0<=W.heap.size
 lo:w.heap.size<=R0
variable {w W W':World} {R0 b i o:Nat} {bs:List (Nat×TypeId×Array Value)} {V:aB} {l L:aH} {T:TypeId} {cs:Array Value}
theorem dB.go (h:dB w R0 bs V l W) (hb:Below W.heap.size W W'):dB w R0 bs V l W':=⟨h.at_.go hb,h.own.below hb,h.uq,Nat.le_trans h.rb hb.size,h.lo⟩
theorem dB.box (h:dB w R0 bs V l W) (T:TypeId) (cs:Array Value):dB w R0 (bs++[(W.heap.size,T,cs)]) V l (W.alloc (.cells cs T)):=by
 have hb:Below W.heap.size W (W.alloc (.cells cs T)):=(Below.refl _ _).alloc (Nat.le_refl _) _;refine⟨h.at_.alloc T cs,h.own.below hb,fun x hx=>?_,Nat.le_trans h.rb hb.size,h.lo⟩;rcases List.mem_append.1 hx with hx|hx
 ·exact h.uq x hx
 obtain rfl:=List.mem_singleton.1 hx;exact h.own.zu (Or.inr (Nat.le_refl _))
theorem dB.cell (h:dB w R0 bs V l W) (i:Nat) (hi:bs[i]?=some (b,T,cs)) (o:Nat) (u:Value):dB w R0 (bs.set i (b,T,cs.setIfInBounds o u)) V l (W.setCell ⟨b,o,none⟩ u):=by
 refine⟨h.at_.setCell i hi o u,h.own.keep ((Mod.refl (fun k=>k=b) W).setCell u (fun _=>rfl)) (fun k e=>by rw[e];exact h.uq _ (List.mem_of_getElem? hi)),fun x hx=>?_,Nat.le_trans h.rb (by simp[World.setCell]),h.lo⟩;rcases List.mem_or_eq_of_mem_set hx with hx|rfl
 ·exact h.uq x hx
 exact h.uq (b,T,cs) (List.mem_of_getElem? hi)
theorem nX {V V':aB} {q:Nat} {v:Value} (h:V.Az b) (hr:V'.rows=V.rows.set q v) (hv:v.ownBlock≠some b):V'.Az b:=by
 intro x hx;rw[hr] at hx;rcases List.mem_or_eq_of_mem_set hx with hx|rfl
 ·exact h x hx
 exact hv
theorem dB.Rf (h:dB w R0 bs V l W) (i:Nat) (hi:bs[i]?=some (b,T,V.cells L)):dB w R0 (bs.set i (b,T,({ V with au:=.slice none 0 0 }:aB).cells L)) { V with au:=.slice none 0 0 } { l with au:=[] } (W.setCell ⟨b,5,none⟩ (.slice none 0 0)):=by
 have o1:=h.own.xO (w':=W) (v:=.slice none 0 0) (xs:=[]) (Mod.refl _ W) (aV.nil _ _ _ _ _) (fun k hk=>by simp[Value.ownBlock] at hk);have F:dB w R0 bs { V with au:=.slice none 0 0 } { l with au:=[] } W:=⟨h.at_,o1,fun y hy=>nX (q:=4) (h.uq y hy) rfl (by simp[Value.ownBlock]),h.rb,h.lo⟩;exact F.cell i hi 5 _
theorem dB.Pj (h:dB w R0 bs V l W) (i:Nat) (hi:bs[i]?=some (b,T,V.cells L)):dB w R0 (bs.set i (b,T,({ V with orders:=.slice none 0 0 }:aB).cells L)) { V with orders:=.slice none 0 0 } { l with orders:=[] } (W.setCell ⟨b,6,none⟩ (.slice none 0 0)):=by
 have o1:=h.own.xM (w':=W) (v:=.slice none 0 0) (xs:=[]) (Mod.refl _ W) (aV.nil _ _ _ _ _) (fun k hk=>by simp[Value.ownBlock] at hk);have F:dB w R0 bs { V with orders:=.slice none 0 0 } { l with orders:=[] } W:=⟨h.at_,o1,fun y hy=>nX (q:=5) (h.uq y hy) rfl (by simp[Value.ownBlock]),h.rb,h.lo⟩;exact F.cell i hi 6 _
theorem dB.mark (h:dB w R0 bs V l W) {g c k:Nat} (hv:V.af=.slice (some ⟨g,0,none⟩) l.af.length c) {x:Ins} (hk:l.af[k]?=some x) (m:Int) :
 dB w R0 bs V { l with af:=l.af.set k { x with mark:=m } } (W.setCell ⟨g,k*7+6,none⟩ (.int .i64 m)):=by
 obtain⟨o1,M⟩:=h.own.oW hv (x':={ x with mark:=m }) (u:=.int .i64 m) hk (j:=6) (by decide) rfl;have hg:=h.own.PU V.af (by simp[aB.rows]) g (by rw[hv];rfl);have hlo:=h.lo;exact⟨h.at_.mod M (fun j e=>by omega) (fun y hy e=>h.uq y hy V.af (by simp[aB.rows]) (by rw[hv,e];rfl)),o1,h.uq,Nat.le_trans h.rb M.size,h.lo⟩
end Go.Bw
namespace Go.Bw
open Go.RowKit
variable {w W W':World} {R0 b i o:Nat} {bs:List (Nat×TypeId×Array Value)} {V:aB} {l L:aH} {T:TypeId} {cs:Array Value}
theorem dB.row (h:dB w R0 bs V l W) {V':aB} {l':aH} {g q:Nat} {y:Value} (o1:bF W' R0 V' l') (M:Mod (fun k=>k=g) W W') (hq:V.rows[q]?=some y) (hg:y.ownBlock=some g) (hr:V'.rows=V.rows):dB w R0 bs V' l' W':=by
 have hx:=List.mem_of_getElem? hq;have hl:=h.own.PU y hx g hg;have hlo:=h.lo;exact⟨h.at_.mod M (fun j e=>by omega) (fun z hz e=>h.uq z hz y hx (by rw[hg,e])),o1,fun z hz x hx=>h.uq z hz x (by rw[<-hr];exact hx),Nat.le_trans h.rb M.size,h.lo⟩
theorem dB.xP (h:dB w R0 bs V l W) {V':aB} {l':aH} {q:Nat} {y v:Value} (o1:bF W' R0 V' l') (hm:Mod (fun k=>y.ownBlock=some k) W W') (hq:V.rows[q]?=some y) (hr:V'.rows=V.rows.set q v)
 (hb:∀ k,v.ownBlock=some k->y.ownBlock=some k\/W.heap.size<=k):dB w R0 bs V' l' W':=by
 have hx:=List.mem_of_getElem? hq;have hlo:=h.lo;refine⟨h.at_.mod hm (fun k e=>by have:=h.own.PU y hx k e;omega) (fun z hz e=>h.uq z hz y hx e),o1,fun z hz=>nX (h.uq z hz) hr (fun e=>?_),Nat.le_trans h.rb hm.size,h.lo⟩;rcases hb _ e with e|e
 ·exact h.uq z hz y hx e
 have:=h.at_.lt z hz;omega
theorem At.perm {cs:List (Nat×TypeId×Array Value)} (h:At w W bs) (p:bs.Perm cs):At w W cs :=
 ⟨h.low,fun x hx=>h.has x (p.mem_iff.2 hx),fun x hx=>h.new x (p.mem_iff.2 hx),(p.map _).nodup_iff.1 h.Qr⟩
theorem dB.perm {cs:List (Nat×TypeId×Array Value)} (h:dB w R0 bs V l W) (p:bs.Perm cs):dB w R0 cs V l W :=
 ⟨h.at_.perm p,h.own,fun x hx=>h.uq x (p.mem_iff.2 hx),h.rb,h.lo⟩
theorem aV.slot {α:Type} {w:World} {B n:Nat} {e:TypeId} {f:α->List Value} {v:Value} {l:List α} (h:aV w B e n f v l) (hf:∀ x,(f x).length=n) (hn:0<n) {k:Nat} {x:α} (hk:l[k]?=some x) :
 ∃ g c,v=.slice (some ⟨g,0,none⟩) l.length c/\l.length<=c/\c<=maxLen/\(∀ (j:Nat) u,(f x)[j]?=some u->w.cell? ⟨g,k*n+j,none⟩=some u)/\∀ j,w.frozen? ⟨g,j,none⟩=false:=by
 obtain⟨g,c,rfl,hc,_,_,hz⟩:=h.block hk;have hR:=h.row hf hn;have cp:=hR.caps;obtain⟨b',o',e',_,hh⟩:=hR.at_ hk
 cases e'
 exact⟨g,c,rfl,hc,cp.2.2.1,fun j u hu=>by have:=hh j u hu;rw[Nat.zero_add] at this;exact this,hz⟩
theorem dB.low (h:dB w R0 bs V l W):Below w.heap.size w W:=h.at_.low
end Go.Bw
namespace Go.Bw.aI
open Go.Bw Go.Bw.Keep Go.Bw.Fall
section
variable {P:Program} {Q:Exit->Act->World->Prop} {effs pures:List Nat} {C:World->Prop} {R:List PanicEntry->List Deferred->World->Prop} {l:List Oper}
end
end Go.Bw.aI
namespace Go.Proofs.YtcepekniflaoaaaGreatDoor
open Go.RowKit Go.Bw Go.Maps Go.Shelf Go.Bw.Fall
noncomputable def jM (L:aH) (r:yP):aH×Int×Int:=by
 classical
 exact if L.Good then (if r.err=0 then (if (gJ r.led).2=0 then ((gJ r.led).1,r.num,0) else (L0,0,(gJ r.led).2)) else (L0,0,r.err)) else (L0,0,43)
theorem sF {L:aH} (h:¬ L.Good) (r:yP):jM L r=(L0,0,43):=by unfold jM;rw[if_neg h]
theorem jk {L:aH} (h:L.Good) {r:yP} (he:r.err≠0):jM L r=(L0,0,r.err):=by unfold jM;rw[if_pos h,if_neg he]
theorem uz {L:aH} (h:L.Good) {r:yP} (he:r.err=0) (hf:(gJ r.led).2≠0):jM L r=(L0,0,(gJ r.led).2):=by unfold jM;rw[if_pos h,if_pos he,if_neg hf]
theorem sG {L:aH} (h:L.Good) {r:yP} (he:r.err=0) (hf:(gJ r.led).2=0):jM L r=((gJ r.led).1,r.num,0):=by unfold jM;rw[if_pos h,if_pos he,if_pos hf]
def pV (w:World) (r:aH×Int×Int) (e:Ending) (w':World):Prop:=∃ U:aB,e=.returned (.tuple #[U.val r.1,.int .i64 r.2.1,.int .i64 r.2.2])/\bF w' w.heap.size U r.1/\Below w.heap.size w w'
end Go.Proofs.YtcepekniflaoaaaGreatDoor
namespace Go.Proofs.YtcepekniflaoaaaGreatDoor
open Go.RowKit Go.Bw Go.Maps Go.Shelf
end Go.Proofs.YtcepekniflaoaaaGreatDoor

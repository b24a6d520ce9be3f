/- Joined: AppP, LedS, Fbs, AdmF, AdmA, TreeN. -/
import Derived.Test.YtnkpdfjnjmmleaaGreatDoorGk
import Derived.Test.YtnkpdfjnjmmleaaGreatDoorGa
import Derived.Test.YtnkpdfjnjmmleaaGreatDoorGp
import Derived.Test.YtnkpdfjnjmmleaaGreatDoorGm
import Derived.Test.YtnkpdfjnjmmleaaGreatDoorGe
set_option linter.unusedVariables false
set_option linter.unusedSimpArgs false
set_option maxRecDepth 100000
set_option maxHeartbeats 2000000
namespace Go.Proofs.YtnkpdfjnjmmleaaGreatDoor
open Go.RowKit Go.Bw Go.Maps Go.Shelf
theorem app1_cur (w:World) (B:Nat) (v:Value) (l:List Cur) (ho:OwnOf w B 61 2 Cur.cells v l) (hB:B <= w.heap.size) (x:Cur) (cs:Array Value) (hcs:cs.toList=Cur.cells x) (hl:(l.length+1)*16 <= 140737488355328) :
 ∃ v' w',(Builtin.append_ #[22, 22] 22 #[v,.slice (some ⟨w.heap.size,0,none⟩) 1 1]).run Tryz.prog (w.alloc (.cells cs 61))=.ok v' w' /\ OwnOf w' B 61 2 Cur.cells v' (l++[x]) /\ Mod (fun k=>v.ownBlock=some k) w w' /\ ∀ k,v'.ownBlock=some k -> v.ownBlock=some k \/ w.heap.size <= k:=by
 obtain⟨i0,g1,g2,g3,g4⟩:=info_parts clone_cur_info
 exact app_one 22 61 i0 _ 2 16 Tryz.underlying22 g1 g2 g3 g4 rfl (by decide) (by decide) Cur.cells curcells_len w B v l ho hB x cs hcs (one_cur x) hl
theorem app1_under (w:World) (B:Nat) (v:Value) (l:List Und) (ho:OwnOf w B 33 4 Und.cells v l) (hB:B <= w.heap.size) (x:Und) (cs:Array Value) (hcs:cs.toList=Und.cells x) (hl:(l.length+1)*40 <= 140737488355328) :
 ∃ v' w',(Builtin.append_ #[23, 23] 23 #[v,.slice (some ⟨w.heap.size,0,none⟩) 1 1]).run Tryz.prog (w.alloc (.cells cs 33))=.ok v' w' /\ OwnOf w' B 33 4 Und.cells v' (l++[x]) /\ Mod (fun k=>v.ownBlock=some k) w w' /\ ∀ k,v'.ownBlock=some k -> v.ownBlock=some k \/ w.heap.size <= k:=by
 obtain⟨i0,g1,g2,g3,g4⟩:=info_parts clone_under_info
 exact app_one 23 33 i0 _ 4 40 Tryz.underlying23 g1 g2 g3 g4 rfl (by decide) (by decide) Und.cells undcells_len w B v l ho hB x cs hcs (one_under x) hl
theorem appr_instr (w:World) (B:Nat) (v:Value) (l:List Ins) (ho:OwnOf w B 35 7 Ins.cells v l) (hB:B <= w.heap.size) (xv:Value) (xs:List Ins) (hx:Reads w 7 xv xs.length (xs.flatMap Ins.cells)) (hl:(l.length+xs.length)*56 <= 140737488355328) :
 ∃ v' w',(Builtin.append_ #[24, 24] 24 #[v,xv]).run Tryz.prog w=.ok v' w' /\ OwnOf w' B 35 7 Ins.cells v' (l++xs) /\ Mod (fun k=>v.ownBlock=some k) w w' /\ ∀ k,v'.ownBlock=some k -> v.ownBlock=some k \/ k=w.heap.size:=by
 obtain⟨i0,g1,g2,g3,g4⟩:=info_parts clone_instr_info
 exact app_own 24 35 i0 _ 7 56 Tryz.underlying24 g1 g2 g3 g4 rfl (by decide) (by decide) Ins.cells w B v l ho hB xv xs hx (fun x hx=>one_instr x) hl
theorem appr_int (w:World) (B:Nat) (v:Value) (l:List Int) (ho:OwnOf w B 3 1 icell v l) (hB:B <= w.heap.size) (xv:Value) (xs:List Int) (hx:Reads w 1 xv xs.length (xs.flatMap icell)) (hl:(l.length+xs.length)*8 <= 140737488355328) :
 ∃ v' w',(Builtin.append_ #[28, 28] 28 #[v,xv]).run Tryz.prog w=.ok v' w' /\ OwnOf w' B 3 1 icell v' (l++xs) /\ Mod (fun k=>v.ownBlock=some k) w w' /\ ∀ k,v'.ownBlock=some k -> v.ownBlock=some k \/ k=w.heap.size:=by
 obtain⟨i0,g1,g2,g3,g4⟩:=info_parts clone_int_info
 exact app_own 28 3 i0 _ 1 8 Tryz.underlying28 g1 g2 g3 g4 rfl (by decide) (by decide) icell w B v l ho hB xv xs hx (fun x hx=>one_int x) hl
theorem app1_int (w:World) (B:Nat) (v:Value) (l:List Int) (ho:OwnOf w B 3 1 icell v l) (hB:B <= w.heap.size) (x:Int) (cs:Array Value) (hcs:cs.toList=icell x) (hl:(l.length+1)*8 <= 140737488355328) :
 ∃ v' w',(Builtin.append_ #[28, 28] 28 #[v,.slice (some ⟨w.heap.size,0,none⟩) 1 1]).run Tryz.prog (w.alloc (.cells cs 3))=.ok v' w' /\ OwnOf w' B 3 1 icell v' (l++[x]) /\ Mod (fun k=>v.ownBlock=some k) w w' /\ ∀ k,v'.ownBlock=some k -> v.ownBlock=some k \/ w.heap.size <= k:=by
 obtain⟨i0,g1,g2,g3,g4⟩:=info_parts clone_int_info
 exact app_one 28 3 i0 _ 1 8 Tryz.underlying28 g1 g2 g3 g4 rfl (by decide) (by decide) icell icell_len w B v l ho hB x cs hcs (one_int x) hl
end Go.Proofs.YtnkpdfjnjmmleaaGreatDoor
namespace Go.Bw
open Go.RowKit
theorem rows_apart {V:LedV} (h:V.rows.Pairwise ApartV) {i j:Nat} {x y:Value} (hij:i≠j) (hx:V.rows[i]?=some x) (hy:V.rows[j]?=some y):ApartV x y:=by
 obtain⟨i1,i2⟩:=List.getElem?_eq_some_iff.1 hx
 obtain⟨j1,j2⟩:=List.getElem?_eq_some_iff.1 hy
 rcases Nat.lt_or_gt_of_ne hij with hlt|hlt
 ·have:=List.pairwise_iff_getElem.1 h i j i1 j1 hlt
  rw[i2,j2] at this;exact this
 ·have:=List.pairwise_iff_getElem.1 h j i j1 i1 hlt
  rw[i2,j2] at this;exact this.symm
theorem rows_cash {V:LedV} {m:Nat} {p:Acc×Value} (h:V.ac[m]?=some p):V.rows[m+8]?=some p.2:=by
 show (V.ac.map (·.2))[m]?=_
 rw[List.getElem?_map,h];rfl
theorem rows_other {V:LedV} (h:V.rows.Pairwise ApartV) {j g:Nat} {y:Value} (hy:V.rows[j]?=some y) (hg:y.ownBlock=some g) {i:Nat} {x:Value} (hij:i≠j) (hx:V.rows[i]?=some x):∀ b,x.ownBlock=some b -> ¬ b=g :=
 fun b hb e=>rows_apart h hij hx hy b hb (by rw[hg,e])
theorem LedOwn.set_curs {w:World} {B:Nat} {V:LedV} {l:Led} (h:LedOwn w B V l) {g c k j:Nat} (hv:V.curs=.slice (some ⟨g,0,none⟩) l.curs.length c) {x x':Cur} {u:Value} (hk:l.curs[k]?=some x) (hj:j<2) (he:Cur.cells x'=(Cur.cells x).set j u) :
 LedOwn (w.setCell ⟨g,k*2+j,none⟩ u) B V { l with curs:=l.curs.set k x' } /\ Mod (fun b=>b=g) w (w.setCell ⟨g,k*2+j,none⟩ u):=by
 have hg:V.curs.ownBlock=some g:=by rw[hv];rfl
 have hy:V.rows[0]?=some V.curs:=rfl
 have hA:=h.curs
 rw[hv] at hA
 obtain⟨hs,M⟩:=hA.set (x':=x') (u:=u) (j:=j) curcells_len hk hj he
 refine⟨⟨by rw[hv];exact hs,h.unders.mod M (rows_other h.sep hy hg (i:=1) (by decide) rfl),h.instrs.mod M (rows_other h.sep hy hg (i:=2) (by decide) rfl),h.same,h.accts.mod M (rows_other h.sep hy hg (i:=3) (by decide) rfl),fun p hp=>?_,h.poss.mod M (rows_other h.sep hy hg (i:=4) (by decide) rfl),h.orders.mod M (rows_other h.sep hy hg (i:=5) (by decide) rfl),h.avail.mod M (rows_other h.sep hy hg (i:=6) (by decide) rfl),h.locs.mod M (rows_other h.sep hy hg (i:=7) (by decide) rfl),h.sep,h.names,h.nums⟩,M⟩
 ·obtain⟨m,hm,e⟩:=List.mem_iff_getElem.1 hp
  have hp':V.ac[m]?=some p:=by rw[List.getElem?_eq_getElem hm,e]
  exact (h.cash p hp).mod M (rows_other h.sep hy hg (i:=m+8) (by omega) (rows_cash hp'))
theorem LedOwn.set_unders {w:World} {B:Nat} {V:LedV} {l:Led} (h:LedOwn w B V l) {g c k j:Nat} (hv:V.unders=.slice (some ⟨g,0,none⟩) l.unders.length c) {x x':Und} {u:Value} (hk:l.unders[k]?=some x) (hj:j<4) (he:Und.cells x'=(Und.cells x).set j u) (hn:x'.name.size <= maxLen) :
 LedOwn (w.setCell ⟨g,k*4+j,none⟩ u) B V { l with unders:=l.unders.set k x' } /\ Mod (fun b=>b=g) w (w.setCell ⟨g,k*4+j,none⟩ u):=by
 have hg:V.unders.ownBlock=some g:=by rw[hv];rfl
 have hy:V.rows[1]?=some V.unders:=rfl
 have hA:=h.unders
 rw[hv] at hA
 obtain⟨hs,M⟩:=hA.set (x':=x') (u:=u) (j:=j) undcells_len hk hj he
 refine⟨⟨h.curs.mod M (rows_other h.sep hy hg (i:=0) (by decide) rfl),by rw[hv];exact hs,h.instrs.mod M (rows_other h.sep hy hg (i:=2) (by decide) rfl),h.same,h.accts.mod M (rows_other h.sep hy hg (i:=3) (by decide) rfl),fun p hp=>?_,h.poss.mod M (rows_other h.sep hy hg (i:=4) (by decide) rfl),h.orders.mod M (rows_other h.sep hy hg (i:=5) (by decide) rfl),h.avail.mod M (rows_other h.sep hy hg (i:=6) (by decide) rfl),h.locs.mod M (rows_other h.sep hy hg (i:=7) (by decide) rfl),h.sep,fun y hy=>?_,h.nums⟩,M⟩
 ·obtain⟨m,hm,e⟩:=List.mem_iff_getElem.1 hp
  have hp':V.ac[m]?=some p:=by rw[List.getElem?_eq_getElem hm,e]
  exact (h.cash p hp).mod M (rows_other h.sep hy hg (i:=m+8) (by omega) (rows_cash hp'))
 ·rcases List.mem_or_eq_of_mem_set hy with hy|rfl
  ·exact h.names y hy
  ·exact hn
theorem LedOwn.set_instrs {w:World} {B:Nat} {V:LedV} {l:Led} (h:LedOwn w B V l) {g c k j:Nat} (hv:V.instrs=.slice (some ⟨g,0,none⟩) l.instrs.length c) {x x':Ins} {u:Value} (hk:l.instrs[k]?=some x) (hj:j<7) (he:Ins.cells x'=(Ins.cells x).set j u) :
 LedOwn (w.setCell ⟨g,k*7+j,none⟩ u) B V { l with instrs:=l.instrs.set k x' } /\ Mod (fun b=>b=g) w (w.setCell ⟨g,k*7+j,none⟩ u):=by
 have hg:V.instrs.ownBlock=some g:=by rw[hv];rfl
 have hy:V.rows[2]?=some V.instrs:=rfl
 have hA:=h.instrs
 rw[hv] at hA
 obtain⟨hs,M⟩:=hA.set (x':=x') (u:=u) (j:=j) inscells_len hk hj he
 refine⟨⟨h.curs.mod M (rows_other h.sep hy hg (i:=0) (by decide) rfl),h.unders.mod M (rows_other h.sep hy hg (i:=1) (by decide) rfl),by rw[hv];exact hs,h.same,h.accts.mod M (rows_other h.sep hy hg (i:=3) (by decide) rfl),fun p hp=>?_,h.poss.mod M (rows_other h.sep hy hg (i:=4) (by decide) rfl),h.orders.mod M (rows_other h.sep hy hg (i:=5) (by decide) rfl),h.avail.mod M (rows_other h.sep hy hg (i:=6) (by decide) rfl),h.locs.mod M (rows_other h.sep hy hg (i:=7) (by decide) rfl),h.sep,h.names,h.nums⟩,M⟩
 ·obtain⟨m,hm,e⟩:=List.mem_iff_getElem.1 hp
  have hp':V.ac[m]?=some p:=by rw[List.getElem?_eq_getElem hm,e]
  exact (h.cash p hp).mod M (rows_other h.sep hy hg (i:=m+8) (by omega) (rows_cash hp'))
theorem LedOwn.set_avail {w:World} {B:Nat} {V:LedV} {l:Led} (h:LedOwn w B V l) {g c k:Nat} (hv:V.avail=.slice (some ⟨g,0,none⟩) l.avail.length c) {x x':Int} {u:Value} (hk:l.avail[k]?=some x) (he:icell x'=(icell x).set 0 u) :
 LedOwn (w.setCell ⟨g,k,none⟩ u) B V { l with avail:=l.avail.set k x' } /\ Mod (fun b=>b=g) w (w.setCell ⟨g,k,none⟩ u):=by
 have hg:V.avail.ownBlock=some g:=by rw[hv];rfl
 have hy:V.rows[6]?=some V.avail:=rfl
 have hA:=h.avail
 rw[hv] at hA
 obtain⟨hs,M⟩:=hA.set (x':=x') (u:=u) (j:=0) icell_len hk (by decide) he
 simp only[Nat.mul_one,Nat.add_zero] at hs M
 refine⟨⟨h.curs.mod M (rows_other h.sep hy hg (i:=0) (by decide) rfl),h.unders.mod M (rows_other h.sep hy hg (i:=1) (by decide) rfl),h.instrs.mod M (rows_other h.sep hy hg (i:=2) (by decide) rfl),h.same,h.accts.mod M (rows_other h.sep hy hg (i:=3) (by decide) rfl),fun p hp=>?_,h.poss.mod M (rows_other h.sep hy hg (i:=4) (by decide) rfl),h.orders.mod M (rows_other h.sep hy hg (i:=5) (by decide) rfl),by rw[hv];exact hs,h.locs.mod M (rows_other h.sep hy hg (i:=7) (by decide) rfl),h.sep,h.names,h.nums⟩,M⟩
 ·obtain⟨m,hm,e⟩:=List.mem_iff_getElem.1 hp
  have hp':V.ac[m]?=some p:=by rw[List.getElem?_eq_getElem hm,e]
  exact (h.cash p hp).mod M (rows_other h.sep hy hg (i:=m+8) (by omega) (rows_cash hp'))
theorem rows_set {V V':LedV} {w:World} {B q:Nat} {v:Value} {l:Led} (h:LedOwn w B V l) (hr:V'.rows=V.rows.set q v) (hv:∀ y,V.rows[q]?=some y -> ∀ k,v.ownBlock=some k -> y.ownBlock=some k \/ w.heap.size <= k) (hq:q<V.rows.length):V'.rows.Pairwise ApartV:=by
 rw[hr,List.pairwise_iff_getElem]
 intro i j hi hj hij
 rw[List.length_set] at hi hj
 rw[List.getElem_set,List.getElem_set]
 have key:∀ m (hm:m<V.rows.length),m≠q -> ApartV V.rows[m] v:=fun m hm hne b h1 h2=>by
  rcases hv _ (List.getElem?_eq_getElem hq) b h2 with h3|h3
  ·exact rows_apart h.sep hne (List.getElem?_eq_getElem hm) (List.getElem?_eq_getElem hq) b h1 h3
  ·have:=(h.lts _ (List.getElem_mem hm) b h1).2;omega
 by_cases e1:q=i
 ·rw[if_pos e1,if_neg (by omega)]
  exact (key j hj (by omega)).symm
 ·by_cases e2:q=j
  ·rw[if_neg e1,if_pos e2]
   exact key i hi (by omega)
  ·rw[if_neg e1,if_neg e2]
   exact List.pairwise_iff_getElem.1 h.sep i j hi hj hij
theorem LedOwn.new_curs {w w':World} {B:Nat} {V:LedV} {l:Led} (h:LedOwn w B V l) {v:Value} {xs:List Cur} (hm:Mod (fun k=>V.curs.ownBlock=some k) w w') (ho:OwnOf w' B 61 2 Cur.cells v xs) (hb:∀ k,v.ownBlock=some k -> V.curs.ownBlock=some k \/ w.heap.size <= k) :
 LedOwn w' B { V with curs:=v } { l with curs:=xs }:=by
 refine⟨ho,h.unders.mod hm (fun b hb e=>rows_apart h.sep (i:=1) (j:=0) (by decide) rfl rfl b hb e),h.instrs.mod hm (fun b hb e=>rows_apart h.sep (i:=2) (j:=0) (by decide) rfl rfl b hb e),h.same,h.accts.mod hm (fun b hb e=>rows_apart h.sep (i:=3) (j:=0) (by decide) rfl rfl b hb e),fun p hp=>?_,h.poss.mod hm (fun b hb e=>rows_apart h.sep (i:=4) (j:=0) (by decide) rfl rfl b hb e),h.orders.mod hm (fun b hb e=>rows_apart h.sep (i:=5) (j:=0) (by decide) rfl rfl b hb e),h.avail.mod hm (fun b hb e=>rows_apart h.sep (i:=6) (j:=0) (by decide) rfl rfl b hb e),h.locs.mod hm (fun b hb e=>rows_apart h.sep (i:=7) (j:=0) (by decide) rfl rfl b hb e),rows_set h (q:=0) rfl (fun y hy=>by cases hy;exact hb) (by simp[LedV.rows]),h.names,h.nums⟩
 obtain⟨m,hm',e⟩:=List.mem_iff_getElem.1 hp
 have hp':V.ac[m]?=some p:=by rw[List.getElem?_eq_getElem hm',e]
 exact (h.cash p hp).mod hm (fun b hb' e=>rows_apart h.sep (i:=m+8) (j:=0) (by omega) (rows_cash hp') rfl b hb' e)
theorem LedOwn.new_unders {w w':World} {B:Nat} {V:LedV} {l:Led} (h:LedOwn w B V l) {v:Value} {xs:List Und} (hm:Mod (fun k=>V.unders.ownBlock=some k) w w') (ho:OwnOf w' B 33 4 Und.cells v xs) (hb:∀ k,v.ownBlock=some k -> V.unders.ownBlock=some k \/ w.heap.size <= k) (hn:∀ y∈xs,y.name.size <= maxLen) :
 LedOwn w' B { V with unders:=v } { l with unders:=xs }:=by
 refine⟨h.curs.mod hm (fun b hb e=>rows_apart h.sep (i:=0) (j:=1) (by decide) rfl rfl b hb e),ho,h.instrs.mod hm (fun b hb e=>rows_apart h.sep (i:=2) (j:=1) (by decide) rfl rfl b hb e),h.same,h.accts.mod hm (fun b hb e=>rows_apart h.sep (i:=3) (j:=1) (by decide) rfl rfl b hb e),fun p hp=>?_,h.poss.mod hm (fun b hb e=>rows_apart h.sep (i:=4) (j:=1) (by decide) rfl rfl b hb e),h.orders.mod hm (fun b hb e=>rows_apart h.sep (i:=5) (j:=1) (by decide) rfl rfl b hb e),h.avail.mod hm (fun b hb e=>rows_apart h.sep (i:=6) (j:=1) (by decide) rfl rfl b hb e),h.locs.mod hm (fun b hb e=>rows_apart h.sep (i:=7) (j:=1) (by decide) rfl rfl b hb e),rows_set h (q:=1) rfl (fun y hy=>by cases hy;exact hb) (by simp[LedV.rows]),hn,h.nums⟩
 obtain⟨m,hm',e⟩:=List.mem_iff_getElem.1 hp
 have hp':V.ac[m]?=some p:=by rw[List.getElem?_eq_getElem hm',e]
 exact (h.cash p hp).mod hm (fun b hb' e=>rows_apart h.sep (i:=m+8) (j:=1) (by omega) (rows_cash hp') rfl b hb' e)
theorem LedOwn.new_instrs {w w':World} {B:Nat} {V:LedV} {l:Led} (h:LedOwn w B V l) {v:Value} {xs:List Ins} (hm:Mod (fun k=>V.instrs.ownBlock=some k) w w') (ho:OwnOf w' B 35 7 Ins.cells v xs) (hb:∀ k,v.ownBlock=some k -> V.instrs.ownBlock=some k \/ w.heap.size <= k) :
 LedOwn w' B { V with instrs:=v } { l with instrs:=xs }:=by
 refine⟨h.curs.mod hm (fun b hb e=>rows_apart h.sep (i:=0) (j:=2) (by decide) rfl rfl b hb e),h.unders.mod hm (fun b hb e=>rows_apart h.sep (i:=1) (j:=2) (by decide) rfl rfl b hb e),ho,h.same,h.accts.mod hm (fun b hb e=>rows_apart h.sep (i:=3) (j:=2) (by decide) rfl rfl b hb e),fun p hp=>?_,h.poss.mod hm (fun b hb e=>rows_apart h.sep (i:=4) (j:=2) (by decide) rfl rfl b hb e),h.orders.mod hm (fun b hb e=>rows_apart h.sep (i:=5) (j:=2) (by decide) rfl rfl b hb e),h.avail.mod hm (fun b hb e=>rows_apart h.sep (i:=6) (j:=2) (by decide) rfl rfl b hb e),h.locs.mod hm (fun b hb e=>rows_apart h.sep (i:=7) (j:=2) (by decide) rfl rfl b hb e),rows_set h (q:=2) rfl (fun y hy=>by cases hy;exact hb) (by simp[LedV.rows]),h.names,h.nums⟩
 obtain⟨m,hm',e⟩:=List.mem_iff_getElem.1 hp
 have hp':V.ac[m]?=some p:=by rw[List.getElem?_eq_getElem hm',e]
 exact (h.cash p hp).mod hm (fun b hb' e=>rows_apart h.sep (i:=m+8) (j:=2) (by omega) (rows_cash hp') rfl b hb' e)
theorem LedOwn.new_avail {w w':World} {B:Nat} {V:LedV} {l:Led} (h:LedOwn w B V l) {v:Value} {xs:List Int} (hm:Mod (fun k=>V.avail.ownBlock=some k) w w') (ho:OwnOf w' B 3 1 icell v xs) (hb:∀ k,v.ownBlock=some k -> V.avail.ownBlock=some k \/ w.heap.size <= k) :
 LedOwn w' B { V with avail:=v } { l with avail:=xs }:=by
 refine⟨h.curs.mod hm (fun b hb e=>rows_apart h.sep (i:=0) (j:=6) (by decide) rfl rfl b hb e),h.unders.mod hm (fun b hb e=>rows_apart h.sep (i:=1) (j:=6) (by decide) rfl rfl b hb e),h.instrs.mod hm (fun b hb e=>rows_apart h.sep (i:=2) (j:=6) (by decide) rfl rfl b hb e),h.same,h.accts.mod hm (fun b hb e=>rows_apart h.sep (i:=3) (j:=6) (by decide) rfl rfl b hb e),fun p hp=>?_,h.poss.mod hm (fun b hb e=>rows_apart h.sep (i:=4) (j:=6) (by decide) rfl rfl b hb e),h.orders.mod hm (fun b hb e=>rows_apart h.sep (i:=5) (j:=6) (by decide) rfl rfl b hb e),ho,h.locs.mod hm (fun b hb e=>rows_apart h.sep (i:=7) (j:=6) (by decide) rfl rfl b hb e),rows_set h (q:=6) rfl (fun y hy=>by cases hy;exact hb) (by simp[LedV.rows]),h.names,h.nums⟩
 obtain⟨m,hm',e⟩:=List.mem_iff_getElem.1 hp
 have hp':V.ac[m]?=some p:=by rw[List.getElem?_eq_getElem hm',e]
 exact (h.cash p hp).mod hm (fun b hb' e=>rows_apart h.sep (i:=m+8) (j:=6) (by omega) (rows_cash hp') rfl b hb' e)
theorem LedOwn.acctCash {w:World} {B:Nat} {V:LedV} {l:Led} (h:LedOwn w B V l) {g c k:Nat} (hv:V.accts=.slice (some ⟨g,0,none⟩) V.ac.length c) {p:Acc×Value} {u:Value} {cash:List Int} (hk:V.ac[k]?=some p) (hu:OwnOf w B 3 1 icell u cash)
 (ha:∀ (i:Nat) x,i≠k+8 -> V.rows[i]?=some x -> ApartV x u) (hn:∀ x∈cash,-9223372036854775808 <= x /\ x <= 9223372036854775807) :
 LedOwn (w.setCell ⟨g,k*4+1,none⟩ u) B { V with ac:=V.ac.set k ({ p.1 with cash:=cash },u) } { l with accts:=l.accts.set k { p.1 with cash:=cash } } /\ Mod (fun b=>b=g) w (w.setCell ⟨g,k*4+1,none⟩ u):=by
 have hg:V.accts.ownBlock=some g:=by rw[hv];rfl
 have hy:V.rows[3]?=some V.accts:=rfl
 have hA:=h.accts
 rw[hv] at hA
 have hkl:=(List.getElem?_eq_some_iff.1 hk).1
 obtain⟨hs,M⟩:=hA.set (x':=({ p.1 with cash:=cash },u)) (u:=u) (j:=1) acccells_len hk (by decide) rfl
 refine⟨⟨h.curs.mod M (rows_other h.sep hy hg (i:=0) (by decide) rfl),h.unders.mod M (rows_other h.sep hy hg (i:=1) (by decide) rfl),h.instrs.mod M (rows_other h.sep hy hg (i:=2) (by decide) rfl),?_,?_,fun q hq=>?_,h.poss.mod M (rows_other h.sep hy hg (i:=4) (by decide) rfl),h.orders.mod M (rows_other h.sep hy hg (i:=5) (by decide) rfl),h.avail.mod M (rows_other h.sep hy hg (i:=6) (by decide) rfl),h.locs.mod M (rows_other h.sep hy hg (i:=7) (by decide) rfl),?_,h.names,?_⟩,M⟩
 ·show l.accts.set k _=(V.ac.set k _).map (·.1)
  rw[List.map_set,h.same]
 ·show OwnOf _ B _ 4 Acc.cells V.accts _
  rw[hv]
  exact hs
 ·rcases List.mem_or_eq_of_mem_set hq with hq|rfl
  ·obtain⟨m,hm,e⟩:=List.mem_iff_getElem.1 hq
   have hp':V.ac[m]?=some q:=by rw[List.getElem?_eq_getElem hm,e]
   exact (h.cash q hq).mod M (rows_other h.sep hy hg (i:=m+8) (by omega) (rows_cash hp'))
  ·exact hu.mod M (fun b hb e=>ha 3 V.accts (by omega) rfl g hg (by rw[<- e];exact hb))
 ·have e:({ V with ac:=V.ac.set k ({ p.1 with cash:=cash },u) }:LedV).rows=V.rows.set (k+8) u:=by
   show V.curs::V.unders::V.instrs::V.accts::V.poss::V.orders::V.avail::V.locs::(V.ac.set k ({ p.1 with cash:=cash },u)).map (·.2)=V.curs::V.unders::V.instrs::V.accts::V.poss::V.orders::V.avail::V.locs::(V.ac.map (·.2)).set k u
   rw[List.map_set]
  rw[e,List.pairwise_iff_getElem]
  intro i j hi hj hij
  rw[List.length_set] at hi hj
  rw[List.getElem_set,List.getElem_set]
  by_cases e1:k+8=i
  ·rw[if_pos e1,if_neg (by omega)]
   exact (ha j _ (by omega) (List.getElem?_eq_getElem hj)).symm
  ·by_cases e2:k+8=j
   ·rw[if_neg e1,if_pos e2]
    exact ha i _ (by omega) (List.getElem?_eq_getElem hi)
   ·rw[if_neg e1,if_neg e2]
    exact List.pairwise_iff_getElem.1 h.sep i j hi hj hij
 ·intro a ha' x hx
  rcases List.mem_or_eq_of_mem_set ha' with ha'|rfl
  ·exact h.nums a ha' x hx
  ·exact hn x hx
theorem At.sub {w W:World} {bs cs:List (Nat×TypeId×Array Value)} (h:At w W bs) (hs:cs.Sublist bs):At w W cs :=
 ⟨h.low,fun x hx=>h.has x (hs.subset hx),fun x hx=>h.new x (hs.subset hx),h.nod.sublist (hs.map _)⟩
theorem own_one {α:Type} {n:Nat} {f:α -> List Value} (w:World) (B:Nat) (e:TypeId) (hB:B <= w.heap.size) (x:α) (cs:Array Value) (hcs:cs.toList=f x) (hf:(f x).length=n):OwnOf (w.alloc (.cells cs e)) B e n f (.slice (some ⟨w.heap.size,0,none⟩) 1 1) [x]:=by
 have h1:cs.size=n:=by rw[<- hf,<- hcs];simp
 refine⟨by simp[hf],Or.inr ⟨w.heap.size,1,cs,rfl,hB,heap_alloc_new w _,Nat.le_refl _,by unfold maxLen;omega,by omega,?_⟩⟩
 rw[hcs]
 simp
 exact List.take_of_length_le (by omega)
structure FBs (w:World) (R0:Nat) (bs:List (Nat×TypeId×Array Value)) (V:LedV) (l:Led) (W:World):Prop where
 at_:At w W bs
 own:LedOwn W R0 V l
 nin:∀ x∈bs,V.NotIn x.1
 rb:R0 <= W.heap.size
 lo:w.heap.size <= R0
variable {w W W':World} {R0 b i o:Nat} {bs:List (Nat×TypeId×Array Value)} {V:LedV} {l L:Led} {T:TypeId} {cs:Array Value}
theorem FBs.go (h:FBs w R0 bs V l W) (hb:Below W.heap.size W W'):FBs w R0 bs V l W':=⟨h.at_.go hb,h.own.below hb,h.nin,Nat.le_trans h.rb hb.size,h.lo⟩
theorem FBs.box (h:FBs w R0 bs V l W) (T:TypeId) (cs:Array Value):FBs w R0 (bs++[(W.heap.size,T,cs)]) V l (W.alloc (.cells cs T)):=by
 have hb:Below W.heap.size W (W.alloc (.cells cs T)):=(Below.refl _ _).alloc (Nat.le_refl _) _
 refine⟨h.at_.alloc T cs,h.own.below hb,fun x hx=>?_,Nat.le_trans h.rb hb.size,h.lo⟩
 rcases List.mem_append.1 hx with hx|hx
 ·exact h.nin x hx
 ·obtain rfl:=List.mem_singleton.1 hx
  exact h.own.notin (Or.inr (Nat.le_refl _))
theorem FBs.cell (h:FBs w R0 bs V l W) (i:Nat) (hi:bs[i]?=some (b,T,cs)) (o:Nat) (u:Value):FBs w R0 (bs.set i (b,T,cs.setIfInBounds o u)) V l (W.setCell ⟨b,o,none⟩ u):=by
 refine⟨h.at_.setCell i hi o u,h.own.keep ((Mod.refl (fun k=>k=b) W).setCell u (fun _=>rfl)) (fun k e=>by rw[e];exact h.nin _ (List.mem_of_getElem? hi)),fun x hx=>?_,Nat.le_trans h.rb (by simp[World.setCell]),h.lo⟩
 rcases List.mem_or_eq_of_mem_set hx with hx|rfl
 ·exact h.nin x hx
 ·exact h.nin (b,T,cs) (List.mem_of_getElem? hi)
theorem notin_set {V V':LedV} {q:Nat} {v:Value} (h:V.NotIn b) (hr:V'.rows=V.rows.set q v) (hv:v.ownBlock≠some b):V'.NotIn b:=by
 intro x hx
 rw[hr] at hx
 rcases List.mem_or_eq_of_mem_set hx with hx|rfl
 ·exact h x hx
 ·exact hv
theorem FBs.mark (h:FBs w R0 bs V l W) {g c k:Nat} (hv:V.instrs=.slice (some ⟨g,0,none⟩) l.instrs.length c) {x:Ins} (hk:l.instrs[k]?=some x) (m:Int) :
 FBs w R0 bs V { l with instrs:=l.instrs.set k { x with mark:=m } } (W.setCell ⟨g,k*7+6,none⟩ (.int .i64 m)):=by
 obtain⟨o1,M⟩:=h.own.set_instrs hv (x':={ x with mark:=m }) (u:=.int .i64 m) hk (j:=6) (by decide) rfl
 have hg:=h.own.lts V.instrs (by simp[LedV.rows]) g (by rw[hv];rfl)
 have hlo:=h.lo
 exact⟨h.at_.mod M (fun j e=>by omega) (fun y hy e=>h.nin y hy V.instrs (by simp[LedV.rows]) (by rw[hv,e];rfl)),o1,h.nin,Nat.le_trans h.rb M.size,h.lo⟩
end Go.Bw
namespace Go.Bw
open Go.RowKit
variable {w W W':World} {R0 b i o:Nat} {bs:List (Nat×TypeId×Array Value)} {V:LedV} {l L:Led} {T:TypeId} {cs:Array Value}
theorem FBs.row (h:FBs w R0 bs V l W) {V':LedV} {l':Led} {g q:Nat} {y:Value} (o1:LedOwn W' R0 V' l') (M:Mod (fun k=>k=g) W W') (hq:V.rows[q]?=some y) (hg:y.ownBlock=some g) (hr:V'.rows=V.rows):FBs w R0 bs V' l' W':=by
 have hx:=List.mem_of_getElem? hq
 have hl:=h.own.lts y hx g hg
 have hlo:=h.lo
 exact⟨h.at_.mod M (fun j e=>by omega) (fun z hz e=>h.nin z hz y hx (by rw[hg,e])),o1,fun z hz x hx=>h.nin z hz x (by rw[<- hr];exact hx),Nat.le_trans h.rb M.size,h.lo⟩
theorem FBs.newrow (h:FBs w R0 bs V l W) {V':LedV} {l':Led} {q:Nat} {y v:Value} (o1:LedOwn W' R0 V' l') (hm:Mod (fun k=>y.ownBlock=some k) W W') (hq:V.rows[q]?=some y) (hr:V'.rows=V.rows.set q v)
 (hb:∀ k,v.ownBlock=some k -> y.ownBlock=some k \/ W.heap.size <= k):FBs w R0 bs V' l' W':=by
 have hx:=List.mem_of_getElem? hq
 have hlo:=h.lo
 refine⟨h.at_.mod hm (fun k e=>by have:=h.own.lts y hx k e;omega) (fun z hz e=>h.nin z hz y hx e),o1,fun z hz=>notin_set (h.nin z hz) hr (fun e=>?_),Nat.le_trans h.rb hm.size,h.lo⟩
 rcases hb _ e with e|e
 ·exact h.nin z hz y hx e
 ·have:=h.at_.lt z hz;omega
theorem At.perm {cs:List (Nat×TypeId×Array Value)} (h:At w W bs) (p:bs.Perm cs):At w W cs :=
 ⟨h.low,fun x hx=>h.has x (p.mem_iff.2 hx),fun x hx=>h.new x (p.mem_iff.2 hx),(p.map _).nodup_iff.1 h.nod⟩
theorem FBs.perm {cs:List (Nat×TypeId×Array Value)} (h:FBs w R0 bs V l W) (p:bs.Perm cs):FBs w R0 cs V l W :=
 ⟨h.at_.perm p,h.own,fun x hx=>h.nin x (p.mem_iff.2 hx),h.rb,h.lo⟩
theorem OwnOf.slot {α:Type} {w:World} {B n:Nat} {e:TypeId} {f:α -> List Value} {v:Value} {l:List α} (h:OwnOf w B e n f v l) (hf:∀ x,(f x).length=n) (hn:0<n) {k:Nat} {x:α} (hk:l[k]?=some x) :
 ∃ g c,v=.slice (some ⟨g,0,none⟩) l.length c /\ l.length <= c /\ c <= maxLen /\ (∀ (j:Nat) u,(f x)[j]?=some u -> w.cell? ⟨g,k*n+j,none⟩=some u) /\ ∀ j,w.frozen? ⟨g,j,none⟩=false:=by
 obtain⟨g,c,rfl,hc,_,_,hz⟩:=h.block hk
 have hR:=h.row hf hn
 have cp:=hR.caps
 obtain⟨b',o',e',_,hh⟩:=hR.at_ hk
 cases e'
 exact⟨g,c,rfl,hc,cp.2.2.1,fun j u hu=>by have:=hh j u hu;rw[Nat.zero_add] at this;exact this,hz⟩
theorem FBs.led (h:FBs w R0 bs V l W):LedAt W V l:=h.own.led
theorem FBs.low (h:FBs w R0 bs V l W):Below w.heap.size w W:=h.at_.low
theorem set_mid {α:Type} (x y:α) (l r:List α) (b:α):(x::(l++b::r)).set (l.length+1) y=x::(l++y::r):=by
 rw[List.set_cons_succ,List.set_append_right _ _ (Nat.le_refl _),Nat.sub_self,List.set_cons_zero]
theorem get_mid {α:Type} (x:α) (l r:List α) (b:α):(x::(l++b::r))[l.length+1]?=some b:=by
 rw[List.getElem?_cons_succ,List.getElem?_append_right (Nat.le_refl _),Nat.sub_self];rfl
theorem At.mid {x:Nat×TypeId×Array Value} {p r:List (Nat×TypeId×Array Value)} (h:At w W (x::(p++(b,T,cs)::r))) (o:Nat) (u:Value) :
 At w (W.setCell ⟨b,o,none⟩ u) (x::(p++(b,T,cs.setIfInBounds o u)::r)):=by
 have:=h.setCell (p.length+1) (get_mid _ _ _ _) o u
 rw[set_mid] at this
 exact this
theorem LedOwn.new_accts {w w':World} {B:Nat} {V:LedV} {l:Led} (h:LedOwn w B V l) {v cv:Value} {a:Acc} (hm:Mod (fun k=>V.accts.ownBlock=some k) w w') (ho:OwnOf w' B 56 4 Acc.cells v (V.ac++[(a,cv)]))
 (hb:∀ k,v.ownBlock=some k -> V.accts.ownBlock=some k \/ w.heap.size <= k) (hc:OwnOf w' B 3 1 icell cv a.cash) (hcb:∀ k,cv.ownBlock=some k -> w.heap.size <= k) (hvc:ApartV v cv) (hn:∀ x∈a.cash,-9223372036854775808 <= x /\ x <= 9223372036854775807) :
 LedOwn w' B { V with accts:=v,ac:=V.ac++[(a,cv)] } { l with accts:=l.accts++[a] }:=by
 have hy:V.rows[3]?=some V.accts:=rfl
 have R:∀ {i:Nat} {x:Value},i≠3 -> V.rows[i]?=some x -> ∀ k,x.ownBlock=some k -> ¬ V.accts.ownBlock=some k:=fun hi hx k hk e=>rows_apart h.sep hi hx hy k hk e
 have hr:({ V with accts:=v }:LedV).rows=V.rows.set 3 v:=rfl
 have S:=rows_set h hr (fun y e=>by cases e;exact hb) (by simp[LedV.rows])
 refine⟨h.curs.mod hm (R (i:=0) (by decide) rfl),h.unders.mod hm (R (i:=1) (by decide) rfl),h.instrs.mod hm (R (i:=2) (by decide) rfl),?_,ho,fun q hq=>?_,h.poss.mod hm (R (i:=4) (by decide) rfl),h.orders.mod hm (R (i:=5) (by decide) rfl),h.avail.mod hm (R (i:=6) (by decide) rfl),h.locs.mod hm (R (i:=7) (by decide) rfl),?_,h.names,?_⟩
 ·show l.accts++[a]=(V.ac++[(a,cv)]).map (·.1)
  rw[List.map_append,h.same];rfl
 ·rcases List.mem_append.1 hq with hq|hq
  ·obtain⟨m,hm',e⟩:=List.mem_iff_getElem.1 hq
   exact (h.cash q hq).mod hm (R (i:=m+8) (by omega) (rows_cash (by rw[List.getElem?_eq_getElem hm',e])))
  ·obtain rfl:=List.mem_singleton.1 hq
   exact hc
 ·have e:({ V with accts:=v,ac:=V.ac++[(a,cv)] }:LedV).rows=({ V with accts:=v }:LedV).rows++[cv]:=by simp[LedV.rows]
  rw[e,List.pairwise_append]
  refine⟨S,by simp,fun x hx y hy' k hk hk2=>?_⟩
  obtain rfl:=List.mem_singleton.1 hy'
  rw[hr] at hx
  rcases List.mem_or_eq_of_mem_set hx with hx|rfl
  ·have:=(h.lts x hx k hk).2
   have:=hcb k hk2
   omega
  ·exact hvc k hk hk2
 ·intro b hb' x hx
  rcases List.mem_append.1 hb' with hb'|hb'
  ·exact h.nums b hb' x hx
  ·obtain rfl:=List.mem_singleton.1 hb'
   exact hn x hx
end Go.Bw
namespace Go.Bw.Fall2
open Go.Bw Go.Bw.Keep Go.Bw.Fall
section
variable {P:Program} {Q:Exit -> Act -> World -> Prop} {effs pures:List Nat} {C:World -> Prop} {R:List PanicEntry -> List Deferred -> World -> Prop} {l:List Oper}
theorem tree_effw {k:Nat} {t:Plan} {a:Act} {w:World} (he:effs.contains k=true) (hg:(nth l k).all (fun o=>Region.wanted o (yielded l.toArray a.tmps))=true)
 (h:∀ K:Act -> World -> Prop,(∀ a w,(needC l.toArray pures k=true -> C w) -> treeAll P l.toArray R Q C effs pures t a w -> K a w) -> wpOne P K (Fall R Q) (pickL l [k]) a w):treeAll P l.toArray R Q C effs pures (.step k t) a w:=by
 show lexStep P l.toArray R Q C effs pures k (treeAll P l.toArray R Q C effs pures t) a w
 cases hx:nth l k with
 | none =>
   have:=h (fun a w=>(needC l.toArray pures k=true -> C w) /\ treeAll P l.toArray R Q C effs pures t a w) (fun a w hc ht=>⟨hc,ht⟩)
   unfold pickL at this
   rw[hx] at this
   exact this.elim
 | some o =>
   have h0:l.toArray[k]?=some o:=by rw[nth_eq] at hx;simpa using hx
   unfold lexStep
   simp only[h0,he,if_true]
   unfold wpOp
   simp only[h0]
   rw[hx] at hg
   rw[if_pos (by simpa using hg)]
   refine Or.inl ?_
   have:=h (fun a w=>(needC l.toArray pures k=true -> C w) /\ treeAll P l.toArray R Q C effs pures t a w) (fun a w hc ht=>⟨hc,ht⟩)
   unfold pickL at this
   rw[hx] at this
   exact this
theorem tree_skip {k:Nat} {t:Plan} {a:Act} {w:World} {o:Oper} (he:effs.contains k=true) (ho:nth l k=some o) (hg:Region.wanted o (yielded l.toArray a.tmps)=false) (hC:needC l.toArray pures k=true -> C w)
 (h:treeAll P l.toArray R Q C effs pures t (a.put o.dst undef) w):treeAll P l.toArray R Q C effs pures (.step k t) a w:=by
 show lexStep P l.toArray R Q C effs pures k (treeAll P l.toArray R Q C effs pures t) a w
 have h0:l.toArray[k]?=some o:=by rw[nth_eq] at ho;simpa using ho
 unfold lexStep
 simp only[h0,he,if_true]
 unfold wpOp
 simp only[h0]
 rw[if_neg (by rw[hg];decide)]
 exact⟨hC,h⟩
end
end Go.Bw.Fall2
namespace Go.Proofs.YtnkpdfjnjmmleaaGreatDoor
open Go.RowKit Go.Bw Go.Maps Go.Shelf Go.Bw.Fall
noncomputable def admA (L:Led) (r:Adm):Led×Int×Int:=by
 classical
 exact if L.Good then (if r.err=0 then (if (flagsA r.led).2=0 then ((flagsA r.led).1,r.num,0) else (L0,0,(flagsA r.led).2)) else (L0,0,r.err)) else (L0,0,43)
theorem admA_bad {L:Led} (h:¬ L.Good) (r:Adm):admA L r=(L0,0,43):=by unfold admA;rw[if_neg h]
theorem admA_err {L:Led} (h:L.Good) {r:Adm} (he:r.err≠0):admA L r=(L0,0,r.err):=by unfold admA;rw[if_pos h,if_neg he]
theorem admA_over {L:Led} (h:L.Good) {r:Adm} (he:r.err=0) (hf:(flagsA r.led).2≠0):admA L r=(L0,0,(flagsA r.led).2):=by unfold admA;rw[if_pos h,if_pos he,if_neg hf]
theorem admA_ok {L:Led} (h:L.Good) {r:Adm} (he:r.err=0) (hf:(flagsA r.led).2=0):admA L r=((flagsA r.led).1,r.num,0):=by unfold admA;rw[if_pos h,if_pos he,if_pos hf]
def AdmRet (w:World) (r:Led×Int×Int) (e:Ending) (w':World):Prop:=∃ U:LedV,e=.returned (.tuple #[U.val r.1,.int .i64 r.2.1,.int .i64 r.2.2]) /\ LedOwn w' w.heap.size U r.1 /\ Below w.heap.size w w'
theorem admA_no {L:Led} {r:Adm} (h:(admA L r).2.2≠0):(admA L r).1=L0 /\ (admA L r).2.1=0:=by
 by_cases hg:L.Good
 ·by_cases he:r.err=0
  ·by_cases hf:(flagsA r.led).2=0
   ·rw[admA_ok hg he hf] at h;exact absurd rfl h
   ·rw[admA_over hg he hf];exact⟨rfl,rfl⟩
  ·rw[admA_err hg he];exact⟨rfl,rfl⟩
 ·rw[admA_bad hg];exact⟨rfl,rfl⟩
theorem admA_yes {L:Led} {r:Adm} (h:(admA L r).2.2=0):L.Good /\ r.err=0 /\ (flagsA r.led).2=0 /\ (admA L r).1=(flagsA r.led).1 /\ (admA L r).2.1=r.num:=by
 by_cases hg:L.Good
 ·by_cases he:r.err=0
  ·by_cases hf:(flagsA r.led).2=0
   ·rw[admA_ok hg he hf];exact⟨hg,he,hf,rfl,rfl⟩
   ·rw[admA_over hg he hf] at h;exact absurd h hf
  ·rw[admA_err hg he] at h;exact absurd h he
 ·rw[admA_bad hg] at h;exact absurd h (by decide)
theorem admA_stays {L:Led} {k:Nat} {A B C:Int} {u:Und} {i:Ins} (h:(admA L (admS L k A B C u i)).2.2=0) :
 (admA L (admS L k A B C u i)).1.Good /\ flagsA (admA L (admS L k A B C u i)).1=((admA L (admS L k A B C u i)).1,0):=by
 obtain⟨hg,he,hf,e,_⟩:=admA_yes h
 rw[e]
 have g:=flagsA_good (admS_good hg he) hf
 exact⟨g.2,flagsA_some g.2 (flagsO_again g.1)⟩
end Go.Proofs.YtnkpdfjnjmmleaaGreatDoor
namespace Go.Proofs.YtnkpdfjnjmmleaaGreatDoor
open Go.RowKit Go.Bw Go.Maps Go.Shelf
def ChkN (w:World) (ps:List Int) (e:Ending) (w':World):Prop:=∃ p:Int,e=.returned (.tuple #[.int .i64 p,.int .i64 (chkA ps)]) /\ Below w.heap.size w w'
theorem chkA_bad {ps:List Int} {er:Int} (h:¬ TreeOk ps) (h1:er=if 16<ps.length then 40 else 33):er=chkA ps:=by
 unfold chkA
 rw[h1]
 by_cases a:ps.length<2
 ·rw[if_pos a,if_neg (by omega)]
 ·rw[if_neg a,if_neg h]
theorem chkA_ok {ps:List Int} (h:TreeOk ps):(0:Int)=chkA ps:=by
 unfold chkA
 rw[if_neg (by have:=h.lo;omega),if_neg (by have:=h.hi;omega),if_pos h]
theorem chkn_bad {w w':World} {ps:List Int} {p er:Int} (h1:er=if 16<ps.length then 40 else 33) (hn:¬ TreeOk ps) (hb:Below w.heap.size w w'):ChkN w ps (.returned (.tuple #[.int .i64 p,.int .i64 er])) w' :=
 ⟨p,by rw[chkA_bad hn h1],hb⟩
theorem chkn_ok {w w':World} {ps:List Int} {p er:Int} (h0:er=0) (hn:TreeOk ps) (hb:Below w.heap.size w w'):ChkN w ps (.returned (.tuple #[.int .i64 p,.int .i64 er])) w' :=
 ⟨p,by rw[<- chkA_ok hn,h0],hb⟩
theorem check_num (w:World) (v:Value) (ps:List Int) (hR:RowOf w 1 icell v ps) :
 Calls Tryz.prog 59 #[v] w (ChkN w ps):=by
 obtain⟨a,c,rfl⟩:=hR.form
 have HR:=zq hR
 clear hR
 by_cases h2:ps.length<2
 ·have BAD:=zq (show ¬ TreeOk ps from fun h=>by have:=h.lo;omega)
  have h2':(ps.length:Int)<2:=by omega
  go_enter Tryz.func59,Tryz.ntmps59
  go_wp2_with fail
  go_ret2
  exact chkn_bad (by first|exact (if_pos (by omega)).symm|exact (if_neg (by omega)).symm|exact (if_neg (by have:=LB.o.2;omega)).symm) BAD.o (Below.refl _ _)
 by_cases h16:16<ps.length
 ·have BAD:=zq (show ¬ TreeOk ps from fun h=>by have:=h.hi;omega)
  have h2':¬ (ps.length:Int)<2:=by omega
  have h16':(16:Int)<(ps.length:Int):=by omega
  go_enter Tryz.func59,Tryz.ntmps59
  go_wp2_with fail
  go_ret2
  exact chkn_bad (by first|exact (if_pos (by omega)).symm|exact (if_neg (by omega)).symm|exact (if_neg (by have:=LB.o.2;omega)).symm) BAD.o (Below.refl _ _)
 have h2':¬ (ps.length:Int)<2:=by omega
 have h16':¬ (16:Int)<(ps.length:Int):=by omega
 have LB:=zq (And.intro (Nat.le_of_not_lt h2) (Nat.le_of_not_lt h16))
 obtain⟨i0,t1,t2,t3,t4⟩:=info_parts TInt.info
 obtain⟨DS,hDS⟩:∃ DS,DS=madeCells (Value.int .i64 0).cells (ps.length*i0.size):=⟨_,rfl⟩
 have hmk:∀ W:World,(Instr.makeSlice 28 (.int .i64 (ps.length:Nat)) (.int .i64 (ps.length:Nat))).run Tryz.prog W=.ok (.slice (some ⟨W.heap.size,0,none⟩) ps.length ps.length) (W.alloc (.cells DS 3)):=fun W=>by
  have:=run_make (P:=Tryz.prog) W 28 3 i0 (.int .i64 0) Tryz.underlying28 t1 t2 .i64 .i64 (ps.length:Nat) (ps.length:Nat) (by omega) (Int.le_refl _) (by rw[t4];omega) (by omega)
  rw[hDS]
  exact this
 have DSZ:=zq (show DS.size=ps.length from by rw[hDS,size_madeCells,t3,Nat.mul_one])
 clear h2 h16 hDS t1 t2 t3 t4
 have START:=zq (show DeepAt w ps 0 (w.alloc (.cells DS 3)) DS from ⟨heap_alloc_new w _,DSZ.o,fun j hj=>by omega,(Below.refl _ _).alloc (Nat.le_refl _) _⟩)
 go_enter Tryz.func59,Tryz.ntmps59
 go_wp2_with fail
 clear hmk h2' h16'
 go_loopw [18] (fun i wr=>∃ (k:Nat) (DS:Array Value),k <= ps.length /\ i=.int .i64 k /\ Hid (OkTo ps k) /\ Hid (DeepAt w ps k wr DS)) (fun i _=>ps.length - (intOf i).toNat)
 case atStart=>exact⟨0,DS,Nat.zero_le _,rfl,zq (fun v p hv=>by omega),START⟩
 case round =>
  obtain⟨k,DS,hk,rfl,OK,DP⟩:=hrel
  have ROW:=zq (HR.o.below DP.o.low)
  by_cases hlt:k<ps.length
  ·obtain⟨x,hx⟩:∃ x,ps[k]?=some x:=⟨_,List.getElem?_eq_getElem hlt⟩
   obtain⟨b,o,rfl,hbl,hc⟩:=ROW.o.at_ hx
   have c0:=hc 0 (.int .i64 x) rfl
   rw[Nat.mul_one,Nat.add_zero] at c0
   have hlt':(k:Int)<(ps.length:Int):=by omega
   have k0:(0:Int) <= (k:Int):=by omega
   have kb:(k:Int) <= 15:=by have:=LB.o.2;omega
   have HX:=zq hx
   have LT:=zq hlt
   have BAD:=zq (show ¬ OkAt ps k x -> ¬ TreeOk ps from fun hn ht=>hn (ht.ok k x HX.o))
   obtain⟨u,hu⟩:∃ u,DS[k]?=some u:=⟨_,Array.getElem?_eq_getElem (by rw[DP.o.size];exact hlt)⟩
   have dk:=(cell_of_heap DP.o.blk k).trans hu
   have fz:=free_of_heap DP.o.blk
   clear hx hc hu
   by_cases hm:x=-1
   ·have hb:(x==-1)=true:=by simp[hm]
    have OKA:=zq (show OkAt ps k x from Or.inl hm)
    have PL:=zq (show 1=(pathL ps k).length from by rw[pathL_root (by rw[HX.o,hm])];rfl)
    have NX:=zq (DP.o.next LT.o 1 PL.o)
    clear hm
    go_wp2_with fail
    go_roundw
    case rel=>exact⟨k+1,_,by have:=LT.o;omega,by go_num,zq (OK.o.next HX.o OKA.o),NX⟩
    case measure=>have:=LT.o;simp[intOf];omega
   have hb:(x==-1)=false:=by simp[hm]
   have HM:=zq hm
   clear hm
   by_cases h1:x <= 1
   ·have NO:=zq (BAD.o (fun h=>by rcases h with h|h;exact HM.o h;omega))
    go_wp2_with fail
    go_ret2
    exact chkn_bad (by first|exact (if_pos (by omega)).symm|exact (if_neg (by omega)).symm|exact (if_neg (by have:=LB.o.2;omega)).symm) NO.o DP.o.low
   by_cases h3:(k:Int) <= x
   ·have NO:=zq (BAD.o (fun h=>by rcases h with h|h;exact HM.o h;omega))
    go_wp2_with fail
    go_ret2
    exact chkn_bad (by first|exact (if_pos (by omega)).symm|exact (if_neg (by omega)).symm|exact (if_neg (by have:=LB.o.2;omega)).symm) NO.o DP.o.low
   obtain⟨q,rfl⟩:=Int.eq_ofNat_of_zero_le (show 0 <= x by omega)
   have hq:q<k:=by omega
   have hkk:¬ (k:Int) <= 1:=by omega
   obtain⟨d,hd⟩:∃ d,d=(pathL ps q).length:=⟨_,rfl⟩
   have dq:=(cell_of_heap DP.o.blk q).trans (DP.o.deep q hq)
   rw[<- hd] at dq
   have q0:(0:Int) <= (q:Int):=by omega
   have q1:(q:Int)<(ps.length:Int):=by omega
   have PL:=zq (show d+1=(pathL ps k).length from by
    rw[pathL_step (OK.o.falls1 HX.o (by omega) (by omega)) (Nat.lt_succ_self k) HX.o HM.o,List.length_cons,hd];rfl)
   clear hd
   by_cases h4:4 <= d
   ·have h4':(4:Int) <= (d:Int):=by omega
    have NO:=zq (BAD.o (fun h=>by rcases h with h|h;exact HM.o h;have:=PL.o;omega))
    go_wp2_with fail
    go_ret2
    exact chkn_bad (by first|exact (if_pos (by omega)).symm|exact (if_neg (by omega)).symm|exact (if_neg (by have:=LB.o.2;omega)).symm) NO.o DP.o.low
   ·have h4':¬ (4:Int) <= (d:Int):=by omega
    have OKA:=zq (show OkAt ps k (q:Int) from Or.inr (by have:=PL.o;omega))
    have NX:=zq (DP.o.next LT.o (d+1) PL.o)
    go_wp2_with fail
    go_roundw
    case rel=>exact⟨k+1,_,by have:=LT.o;omega,by go_num,zq (OK.o.next HX.o OKA.o),NX⟩
    case measure=>have:=LT.o;simp[intOf];omega
  ·have hlt':¬ (k:Int)<(ps.length:Int):=by omega
   have YES:=zq (show TreeOk ps from OkTo.tree (by have h:=OK.o;rwa [show k=ps.length from by omega] at h) LB.o.1 LB.o.2)
   go_wp2_with fail
   go_ret2
   exact chkn_ok rfl YES.o DP.o.low
end Go.Proofs.YtnkpdfjnjmmleaaGreatDoor

/- A row made ahead of a copy takes the place of one of the copy's rows. No program is named. -/
import Derived.Test.YtnkpdfjnjmmleaaGreatDoorGn
set_option linter.unusedVariables false
set_option linter.unusedSimpArgs false
namespace Go.Bw
open Go.RowKit
theorem rows_put {V V':LedV} {q:Nat} {v:Value} (h:V.rows.Pairwise ApartV) (hr:V'.rows=V.rows.set q v) (hv:∀ (m:Nat) y,m≠q -> V.rows[m]?=some y -> ApartV y v):V'.rows.Pairwise ApartV:=by
 rw[hr,List.pairwise_iff_getElem]
 intro i j hi hj hij
 rw[List.length_set] at hi hj
 rw[List.getElem_set,List.getElem_set]
 have key:∀ m (hm:m<V.rows.length),m≠q -> ApartV V.rows[m] v:=fun m hm hne=>hv m _ hne (List.getElem?_eq_getElem hm)
 by_cases e1:q=i
 ·rw[if_pos e1,if_neg (by omega)]
  exact (key j hj (by omega)).symm
 ·by_cases e2:q=j
  ·rw[if_neg e1,if_pos e2]
   exact key i hi (by omega)
  ·rw[if_neg e1,if_neg e2]
   exact List.pairwise_iff_getElem.1 h i j hi hj hij
theorem LedOwn.put_avail {w:World} {B:Nat} {V:LedV} {l:Led} (h:LedOwn w B V l) {v:Value} {xs:List Int} (ho:OwnOf w B 3 1 icell v xs) (hv:∀ y∈V.rows,ApartV y v) :
 LedOwn w B { V with avail:=v } { l with avail:=xs } :=
 ⟨h.curs,h.unders,h.instrs,h.same,h.accts,h.cash,h.poss,h.orders,ho,h.locs,rows_put h.sep (q:=6) rfl (fun m y _ hm=>hv y (List.mem_of_getElem? hm)),h.names,h.nums⟩
theorem LedOwn.put_locs {w:World} {B:Nat} {V:LedV} {l:Led} (h:LedOwn w B V l) {v:Value} {xs:List Pos} (ho:OwnOf w B 105 3 Pos.cells v xs) (hv:∀ y∈V.rows,ApartV y v) :
 LedOwn w B { V with locs:=v } { l with locs:=xs } :=
 ⟨h.curs,h.unders,h.instrs,h.same,h.accts,h.cash,h.poss,h.orders,h.avail,ho,rows_put h.sep (q:=7) rfl (fun m y _ hm=>hv y (List.mem_of_getElem? hm)),h.names,h.nums⟩
theorem FBs.base {w W:World} {R0 R1:Nat} {bs:List (Nat×TypeId×Array Value)} {V:LedV} {l:Led} (h:FBs w R0 bs V l W) (hR:R1 <= R0) (hw:w.heap.size <= R1):FBs w R1 bs V l W :=
 ⟨h.at_,h.own.base hR,h.nin,Nat.le_trans hR h.rb,hw⟩
theorem FBs.put_avail {w W:World} {R0 b:Nat} {bs:List (Nat×TypeId×Array Value)} {V:LedV} {l L:Led} {T:TypeId} (h:FBs w R0 bs V l W) (i:Nat) (hi:bs[i]?=some (b,T,V.cells L)) {v:Value} {xs:List Int} (ho:OwnOf W R0 3 1 icell v xs) (hv:∀ y∈V.rows,ApartV y v) (hn:∀ x∈bs,v.ownBlock≠some x.1) :
 FBs w R0 (bs.set i (b,T,({ V with avail:=v }:LedV).cells L)) { V with avail:=v } { l with avail:=xs } (W.setCell ⟨b,7,none⟩ v):=by
 have f:FBs w R0 bs { V with avail:=v } { l with avail:=xs } W:=⟨h.at_,h.own.put_avail ho hv,fun x hx=>notin_set (h.nin x hx) (q:=6) rfl (hn x hx),h.rb,h.lo⟩
 exact f.cell i hi 7 v
theorem FBs.put_locs {w W:World} {R0 b:Nat} {bs:List (Nat×TypeId×Array Value)} {V:LedV} {l L:Led} {T:TypeId} (h:FBs w R0 bs V l W) (i:Nat) (hi:bs[i]?=some (b,T,V.cells L)) {v:Value} {xs:List Pos} (ho:OwnOf W R0 105 3 Pos.cells v xs) (hv:∀ y∈V.rows,ApartV y v) (hn:∀ x∈bs,v.ownBlock≠some x.1) :
 FBs w R0 (bs.set i (b,T,({ V with locs:=v }:LedV).cells L)) { V with locs:=v } { l with locs:=xs } (W.setCell ⟨b,8,none⟩ v):=by
 have f:FBs w R0 bs { V with locs:=v } { l with locs:=xs } W:=⟨h.at_,h.own.put_locs ho hv,fun x hx=>notin_set (h.nin x hx) (q:=7) rfl (hn x hx),h.rb,h.lo⟩
 exact f.cell i hi 8 v
end Go.Bw

/- An account's cash grows: another row in its place, made of the old one. -/
import Derived.Test.YtnkpdfjnjmmleaaGreatDoorGn
namespace Go.Bw
open Go.RowKit
set_option linter.unusedVariables false
set_option linter.unusedSimpArgs false
theorem setCell_id {w:World} {b o:Nat} {v:Value} (h:w.cell? ⟨b,o,none⟩=some v):w.setCell ⟨b,o,none⟩ v=w:=by
 have hh:(w.setCell ⟨b,o,none⟩ v).heap=w.heap:=by
  apply Array.ext_getElem?
  intro i
  unfold World.setCell
  rw[Array.getElem?_modify]
  split
  ·next e =>
   subst e
   unfold World.cell? at h
   revert h
   cases hx:w.heap[b]? with
   | none=>intro h;rfl
   | some x =>
     intro h
     cases x with
     | cells c T f =>
       have h:c[o]?=some v:=by simpa using h
       have e2:c.setIfInBounds o v=c:=by
        apply Array.ext_getElem?
        intro j
        by_cases e:o=j
        ·subst e
         rw[Array.getElem?_setIfInBounds_self_of_lt (Array.getElem?_eq_some_iff.1 h).1,h]
        ·rw[Array.getElem?_setIfInBounds_ne e]
       simp[e2]
     | _=>rfl
  ·rfl
 have:w.setCell ⟨b,o,none⟩ v={ w with heap:=(w.setCell ⟨b,o,none⟩ v).heap }:=rfl
 rw[this,hh]
theorem LedOwn.growCash {w w':World} {B:Nat} {V:LedV} {l:Led} (h:LedOwn w B V l) {g c k:Nat} (hv:V.accts=.slice (some ⟨g,0,none⟩) V.ac.length c) {p:Acc×Value} {u:Value} {cash:List Int} (hk:V.ac[k]?=some p)
 (hm:Mod (fun b=>p.2.ownBlock=some b) w w') (hu:OwnOf w' B 3 1 icell u cash) (hb:∀ b,u.ownBlock=some b→p.2.ownBlock=some b∨w.heap.size≤b) (hn:∀ x∈cash,-9223372036854775808≤x∧x≤9223372036854775807) :
 LedOwn (w'.setCell ⟨g,k*4+1,none⟩ u) B { V with ac:=V.ac.set k ({ p.1 with cash:=cash },u) } { l with accts:=l.accts.set k { p.1 with cash:=cash } }∧Mod (fun b=>p.2.ownBlock=some b∨b=g) w (w'.setCell ⟨g,k*4+1,none⟩ u):=by
 have hg:V.accts.ownBlock=some g:=by rw[hv];rfl
 have hy:V.rows[3]?=some V.accts:=rfl
 have hp:V.rows[k+8]?=some p.2:=rows_cash hk
 have hgl:=(h.accts.lt g hg).2
 have hgp:¬ p.2.ownBlock=some g:=fun e=>rows_apart h.sep (i:=k+8) (j:=3) (by omega) hp hy g e hg
 have hA:=h.accts.mod hm (fun b hb' e=>hgp (by rw[hg] at hb';cases hb';exact e))
 rw[hv] at hA
 obtain⟨hs,M⟩:=hA.set (x':=({ p.1 with cash:=cash },u)) (u:=u) (j:=1) acccells_len hk (by decide) rfl
 have MM:Mod (fun b=>p.2.ownBlock=some b∨b=g) w (w'.setCell ⟨g,k*4+1,none⟩ u):=(hm.mono (T:=fun b=>p.2.ownBlock=some b∨b=g) (fun _ _ h=>Or.inl h)).trans M (fun _ _ h=>Or.inr h)
 have R:∀ {i:Nat} {x:Value},i≠3→i≠k+8→V.rows[i]?=some x→∀ b,x.ownBlock=some b→¬ (p.2.ownBlock=some b∨b=g):=fun h3 h8 hx b hb' e=>by
  rcases e with e|e
  ·exact rows_apart h.sep h8 hx hp b hb' e
  ·subst e;exact rows_apart h.sep h3 hx hy _ hb' hg
 refine⟨⟨h.curs.mod MM (R (i:=0) (by decide) (by omega) rfl),h.unders.mod MM (R (i:=1) (by decide) (by omega) rfl),h.instrs.mod MM (R (i:=2) (by decide) (by omega) rfl),?_,?_,fun q hq=>?_,h.poss.mod MM (R (i:=4) (by decide) (by omega) rfl),h.orders.mod MM (R (i:=5) (by decide) (by omega) rfl),h.avail.mod MM (R (i:=6) (by decide) (by omega) rfl),h.locs.mod MM (R (i:=7) (by decide) (by omega) rfl),?_,h.names,?_⟩,MM⟩
 ·show l.accts.set k _=(V.ac.set k _).map (·.1)
  rw[List.map_set,h.same]
 ·show OwnOf _ B _ 4 Acc.cells V.accts _
  rw[hv]
  exact hs
 ·obtain⟨m,hm',e⟩:=List.mem_iff_getElem.1 hq
  by_cases hmk:m=k
  ·subst hmk
   rw[List.getElem_set_self] at e
   subst e
   exact hu.mod M (fun b hb' e=>by
    subst e
    rcases hb _ hb' with h1|h1
    ·exact hgp h1
    ·omega)
  ·rw[List.getElem_set_ne (Ne.symm hmk)] at e
   rw[List.length_set] at hm'
   have hq':V.ac[m]?=some q:=by rw[List.getElem?_eq_getElem hm',e]
   exact (h.cash q (List.mem_of_getElem? hq')).mod MM (R (i:=m+8) (by omega) (by omega) (rows_cash hq'))
 ·have e:({ V with ac:=V.ac.set k ({ p.1 with cash:=cash },u) }:LedV).rows=V.rows.set (k+8) u:=by
   show V.curs::V.unders::V.instrs::V.accts::V.poss::V.orders::V.avail::V.locs::(V.ac.set k ({ p.1 with cash:=cash },u)).map (·.2)=V.curs::V.unders::V.instrs::V.accts::V.poss::V.orders::V.avail::V.locs::(V.ac.map (·.2)).set k u
   rw[List.map_set]
  exact rows_set h e (fun y hy b hb'=>by rw[hp] at hy;cases hy;exact hb b hb') (List.getElem?_eq_some_iff.1 hp).1
 ·intro a ha' x hx
  rcases List.mem_or_eq_of_mem_set ha' with ha'|rfl
  ·exact h.nums a ha' x hx
  ·exact hn x hx
theorem FBs.growCash {w W W':World} {R0:Nat} {bs:List (Nat×TypeId×Array Value)} {V:LedV} {l:Led} (h:FBs w R0 bs V l W) {g c k:Nat} (hv:V.accts=.slice (some ⟨g,0,none⟩) V.ac.length c) {p:Acc×Value} {u:Value} {cash:List Int} (hk:V.ac[k]?=some p)
 (hm:Mod (fun b=>p.2.ownBlock=some b) W W') (hu:OwnOf W' R0 3 1 icell u cash) (hb:∀ b,u.ownBlock=some b→p.2.ownBlock=some b∨W.heap.size≤b) (hn:∀ x∈cash,-9223372036854775808≤x∧x≤9223372036854775807) :
 FBs w R0 bs { V with ac:=V.ac.set k ({ p.1 with cash:=cash },u) } { l with accts:=l.accts.set k { p.1 with cash:=cash } } (W'.setCell ⟨g,k*4+1,none⟩ u):=by
 obtain⟨o,M⟩:=h.own.growCash hv hk hm hu hb hn
 have hg:V.accts.ownBlock=some g:=by rw[hv];rfl
 have hp:V.rows[k+8]?=some p.2:=rows_cash hk
 have hpm:=List.mem_of_getElem? hp
 have ham:V.accts∈V.rows:=by simp[LedV.rows]
 have hlo:=h.lo
 refine⟨h.at_.mod M (fun b e=>?_) (fun z hz e=>?_),o,fun z hz=>?_,Nat.le_trans h.rb M.size,h.lo⟩
 ·rcases e with e|e
  ·have:=h.own.lts _ hpm b e;omega
  ·subst e;have:=h.own.lts _ ham b hg;omega
 ·rcases e with e|e
  ·exact h.nin z hz _ hpm e
  ·exact h.nin z hz _ ham (by rw[hg,e])
 ·have e:({ V with ac:=V.ac.set k ({ p.1 with cash:=cash },u) }:LedV).rows=V.rows.set (k+8) u:=by
   show V.curs::V.unders::V.instrs::V.accts::V.poss::V.orders::V.avail::V.locs::(V.ac.set k ({ p.1 with cash:=cash },u)).map (·.2)=V.curs::V.unders::V.instrs::V.accts::V.poss::V.orders::V.avail::V.locs::(V.ac.map (·.2)).set k u
   rw[List.map_set]
  refine notin_set (h.nin z hz) e (fun e2=>?_)
  rcases hb _ e2 with h1|h1
  ·exact h.nin z hz _ hpm h1
  ·have:=h.at_.lt z hz;omega
def grown (xs:List Acc) (k:Nat):List Acc:=xs.mapIdx fun i a=>if i<k then { a with cash:=a.cash++[0] } else a
theorem grown_at (xs:List Acc) (k i:Nat):(grown xs k)[i]?=(xs[i]?).map fun a=>if i<k then { a with cash:=a.cash++[0] } else a:=by simp[grown,List.getElem?_mapIdx]
theorem grown_zero (xs:List Acc):grown xs 0=xs:=by
 apply List.ext_getElem?
 intro i
 rw[grown_at]
 simp
theorem grown_len (xs:List Acc) (k:Nat):(grown xs k).length=xs.length:=by simp[grown]
theorem grown_next {xs:List Acc} {k:Nat} {a:Acc} (ha:xs[k]?=some a):grown xs (k+1)=(grown xs k).set k { a with cash:=a.cash++[0] }:=by
 have hk:=(List.getElem?_eq_some_iff.1 ha).1
 apply List.ext_getElem?
 intro i
 by_cases e:k=i
 ·subst e
  rw[List.getElem?_set_self (by rw[grown_len];exact hk),grown_at,ha]
  simp
 ·rw[List.getElem?_set_ne e,grown_at,grown_at]
  congr 1
  funext a
  by_cases hc:i<k
  ·rw[if_pos (by omega),if_pos hc]
  ·rw[if_neg (by omega),if_neg hc]
theorem grown_all (xs:List Acc):grown xs xs.length=xs.map fun a=>{ a with cash:=a.cash++[0] }:=by
 apply List.ext_getElem?
 intro i
 rw[grown_at,List.getElem?_map]
 cases h:xs[i]? with
 | none=>rfl
 | some a=>simp[(List.getElem?_eq_some_iff.1 h).1]
end Go.Bw

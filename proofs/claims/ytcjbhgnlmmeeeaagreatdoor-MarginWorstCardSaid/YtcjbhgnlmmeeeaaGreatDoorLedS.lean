/- Stores into a ledger whose rows are its own: a thing's cell; an account's cash (printed by tools/gen_leds.py). -/
import Derived.Test.YtcjbhgnlmmeeeaaGreatDoorGk
namespace Go.Bw
open Go.RowKit
set_option linter.unusedVariables false
set_option linter.unusedSimpArgs false
theorem rows_apart {V : LedV} (h : V.rows.Pairwise ApartV) {i j : Nat} {x y : Value} (hij : i ≠ j) (hx : V.rows[i]? = some x) (hy : V.rows[j]? = some y) : ApartV x y := by
  obtain ⟨i1, i2⟩ := List.getElem?_eq_some_iff.1 hx
  obtain ⟨j1, j2⟩ := List.getElem?_eq_some_iff.1 hy
  rcases Nat.lt_or_gt_of_ne hij with hlt | hlt
  · have := List.pairwise_iff_getElem.1 h i j i1 j1 hlt
    rw [i2, j2] at this; exact this
  · have := List.pairwise_iff_getElem.1 h j i j1 i1 hlt
    rw [i2, j2] at this; exact this.symm
theorem rows_cash {V : LedV} {m : Nat} {p : Acc × Value} (h : V.ac[m]? = some p) : V.rows[m + 8]? = some p.2 := by
  show (V.ac.map (·.2))[m]? = _
  rw [List.getElem?_map, h]; rfl
/-- The rows of a field's block. -/
theorem rows_other {V : LedV} (h : V.rows.Pairwise ApartV) {j g : Nat} {y : Value} (hy : V.rows[j]? = some y) (hg : y.ownBlock = some g) {i : Nat} {x : Value} (hij : i ≠ j) (hx : V.rows[i]? = some x) : ∀ b, x.ownBlock = some b → ¬ b = g :=
  fun b hb e => rows_apart h hij hx hy b hb (by rw [hg, e])
theorem LedOwn.set_curs {w : World} {B : Nat} {V : LedV} {l : Led} (h : LedOwn w B V l) {g c k j : Nat} (hv : V.curs = .slice (some ⟨g, 0, none⟩) l.curs.length c) {x x' : Cur} {u : Value} (hk : l.curs[k]? = some x) (hj : j < 2) (he : Cur.cells x' = (Cur.cells x).set j u) :
    LedOwn (w.setCell ⟨g, k * 2 + j, none⟩ u) B V { l with curs := l.curs.set k x' } ∧ Mod (fun b => b = g) w (w.setCell ⟨g, k * 2 + j, none⟩ u) := by
  have hg : V.curs.ownBlock = some g := by rw [hv]; rfl
  have hy : V.rows[0]? = some V.curs := rfl
  have hA := h.curs
  rw [hv] at hA
  obtain ⟨hs, M⟩ := hA.set (x' := x') (u := u) (j := j) curcells_len hk hj he
  refine ⟨⟨by rw [hv]; exact hs, h.unders.mod M (rows_other h.sep hy hg (i := 1) (by decide) rfl), h.instrs.mod M (rows_other h.sep hy hg (i := 2) (by decide) rfl), h.same, h.accts.mod M (rows_other h.sep hy hg (i := 3) (by decide) rfl), fun p hp => ?_, h.poss.mod M (rows_other h.sep hy hg (i := 4) (by decide) rfl), h.orders.mod M (rows_other h.sep hy hg (i := 5) (by decide) rfl), h.avail.mod M (rows_other h.sep hy hg (i := 6) (by decide) rfl), h.locs.mod M (rows_other h.sep hy hg (i := 7) (by decide) rfl), h.sep, h.names, h.nums⟩, M⟩
  · obtain ⟨m, hm, e⟩ := List.mem_iff_getElem.1 hp
    have hp' : V.ac[m]? = some p := by rw [List.getElem?_eq_getElem hm, e]
    exact (h.cash p hp).mod M (rows_other h.sep hy hg (i := m + 8) (by omega) (rows_cash hp'))
theorem LedOwn.set_unders {w : World} {B : Nat} {V : LedV} {l : Led} (h : LedOwn w B V l) {g c k j : Nat} (hv : V.unders = .slice (some ⟨g, 0, none⟩) l.unders.length c) {x x' : Und} {u : Value} (hk : l.unders[k]? = some x) (hj : j < 4) (he : Und.cells x' = (Und.cells x).set j u) (hn : x'.name.size ≤ maxLen) :
    LedOwn (w.setCell ⟨g, k * 4 + j, none⟩ u) B V { l with unders := l.unders.set k x' } ∧ Mod (fun b => b = g) w (w.setCell ⟨g, k * 4 + j, none⟩ u) := by
  have hg : V.unders.ownBlock = some g := by rw [hv]; rfl
  have hy : V.rows[1]? = some V.unders := rfl
  have hA := h.unders
  rw [hv] at hA
  obtain ⟨hs, M⟩ := hA.set (x' := x') (u := u) (j := j) undcells_len hk hj he
  refine ⟨⟨h.curs.mod M (rows_other h.sep hy hg (i := 0) (by decide) rfl), by rw [hv]; exact hs, h.instrs.mod M (rows_other h.sep hy hg (i := 2) (by decide) rfl), h.same, h.accts.mod M (rows_other h.sep hy hg (i := 3) (by decide) rfl), fun p hp => ?_, h.poss.mod M (rows_other h.sep hy hg (i := 4) (by decide) rfl), h.orders.mod M (rows_other h.sep hy hg (i := 5) (by decide) rfl), h.avail.mod M (rows_other h.sep hy hg (i := 6) (by decide) rfl), h.locs.mod M (rows_other h.sep hy hg (i := 7) (by decide) rfl), h.sep, fun y hy => ?_, h.nums⟩, M⟩
  · obtain ⟨m, hm, e⟩ := List.mem_iff_getElem.1 hp
    have hp' : V.ac[m]? = some p := by rw [List.getElem?_eq_getElem hm, e]
    exact (h.cash p hp).mod M (rows_other h.sep hy hg (i := m + 8) (by omega) (rows_cash hp'))
  · rcases List.mem_or_eq_of_mem_set hy with hy | rfl
    · exact h.names y hy
    · exact hn
theorem LedOwn.set_instrs {w : World} {B : Nat} {V : LedV} {l : Led} (h : LedOwn w B V l) {g c k j : Nat} (hv : V.instrs = .slice (some ⟨g, 0, none⟩) l.instrs.length c) {x x' : Ins} {u : Value} (hk : l.instrs[k]? = some x) (hj : j < 7) (he : Ins.cells x' = (Ins.cells x).set j u) :
    LedOwn (w.setCell ⟨g, k * 7 + j, none⟩ u) B V { l with instrs := l.instrs.set k x' } ∧ Mod (fun b => b = g) w (w.setCell ⟨g, k * 7 + j, none⟩ u) := by
  have hg : V.instrs.ownBlock = some g := by rw [hv]; rfl
  have hy : V.rows[2]? = some V.instrs := rfl
  have hA := h.instrs
  rw [hv] at hA
  obtain ⟨hs, M⟩ := hA.set (x' := x') (u := u) (j := j) inscells_len hk hj he
  refine ⟨⟨h.curs.mod M (rows_other h.sep hy hg (i := 0) (by decide) rfl), h.unders.mod M (rows_other h.sep hy hg (i := 1) (by decide) rfl), by rw [hv]; exact hs, h.same, h.accts.mod M (rows_other h.sep hy hg (i := 3) (by decide) rfl), fun p hp => ?_, h.poss.mod M (rows_other h.sep hy hg (i := 4) (by decide) rfl), h.orders.mod M (rows_other h.sep hy hg (i := 5) (by decide) rfl), h.avail.mod M (rows_other h.sep hy hg (i := 6) (by decide) rfl), h.locs.mod M (rows_other h.sep hy hg (i := 7) (by decide) rfl), h.sep, h.names, h.nums⟩, M⟩
  · obtain ⟨m, hm, e⟩ := List.mem_iff_getElem.1 hp
    have hp' : V.ac[m]? = some p := by rw [List.getElem?_eq_getElem hm, e]
    exact (h.cash p hp).mod M (rows_other h.sep hy hg (i := m + 8) (by omega) (rows_cash hp'))
theorem LedOwn.set_poss {w : World} {B : Nat} {V : LedV} {l : Led} (h : LedOwn w B V l) {g c k j : Nat} (hv : V.poss = .slice (some ⟨g, 0, none⟩) l.poss.length c) {x x' : Pos} {u : Value} (hk : l.poss[k]? = some x) (hj : j < 3) (he : Pos.cells x' = (Pos.cells x).set j u) :
    LedOwn (w.setCell ⟨g, k * 3 + j, none⟩ u) B V { l with poss := l.poss.set k x' } ∧ Mod (fun b => b = g) w (w.setCell ⟨g, k * 3 + j, none⟩ u) := by
  have hg : V.poss.ownBlock = some g := by rw [hv]; rfl
  have hy : V.rows[4]? = some V.poss := rfl
  have hA := h.poss
  rw [hv] at hA
  obtain ⟨hs, M⟩ := hA.set (x' := x') (u := u) (j := j) poscells_len hk hj he
  refine ⟨⟨h.curs.mod M (rows_other h.sep hy hg (i := 0) (by decide) rfl), h.unders.mod M (rows_other h.sep hy hg (i := 1) (by decide) rfl), h.instrs.mod M (rows_other h.sep hy hg (i := 2) (by decide) rfl), h.same, h.accts.mod M (rows_other h.sep hy hg (i := 3) (by decide) rfl), fun p hp => ?_, by rw [hv]; exact hs, h.orders.mod M (rows_other h.sep hy hg (i := 5) (by decide) rfl), h.avail.mod M (rows_other h.sep hy hg (i := 6) (by decide) rfl), h.locs.mod M (rows_other h.sep hy hg (i := 7) (by decide) rfl), h.sep, h.names, h.nums⟩, M⟩
  · obtain ⟨m, hm, e⟩ := List.mem_iff_getElem.1 hp
    have hp' : V.ac[m]? = some p := by rw [List.getElem?_eq_getElem hm, e]
    exact (h.cash p hp).mod M (rows_other h.sep hy hg (i := m + 8) (by omega) (rows_cash hp'))
theorem LedOwn.set_orders {w : World} {B : Nat} {V : LedV} {l : Led} (h : LedOwn w B V l) {g c k j : Nat} (hv : V.orders = .slice (some ⟨g, 0, none⟩) l.orders.length c) {x x' : Ord} {u : Value} (hk : l.orders[k]? = some x) (hj : j < 5) (he : Ord.cells x' = (Ord.cells x).set j u) :
    LedOwn (w.setCell ⟨g, k * 5 + j, none⟩ u) B V { l with orders := l.orders.set k x' } ∧ Mod (fun b => b = g) w (w.setCell ⟨g, k * 5 + j, none⟩ u) := by
  have hg : V.orders.ownBlock = some g := by rw [hv]; rfl
  have hy : V.rows[5]? = some V.orders := rfl
  have hA := h.orders
  rw [hv] at hA
  obtain ⟨hs, M⟩ := hA.set (x' := x') (u := u) (j := j) ordcells_len hk hj he
  refine ⟨⟨h.curs.mod M (rows_other h.sep hy hg (i := 0) (by decide) rfl), h.unders.mod M (rows_other h.sep hy hg (i := 1) (by decide) rfl), h.instrs.mod M (rows_other h.sep hy hg (i := 2) (by decide) rfl), h.same, h.accts.mod M (rows_other h.sep hy hg (i := 3) (by decide) rfl), fun p hp => ?_, h.poss.mod M (rows_other h.sep hy hg (i := 4) (by decide) rfl), by rw [hv]; exact hs, h.avail.mod M (rows_other h.sep hy hg (i := 6) (by decide) rfl), h.locs.mod M (rows_other h.sep hy hg (i := 7) (by decide) rfl), h.sep, h.names, h.nums⟩, M⟩
  · obtain ⟨m, hm, e⟩ := List.mem_iff_getElem.1 hp
    have hp' : V.ac[m]? = some p := by rw [List.getElem?_eq_getElem hm, e]
    exact (h.cash p hp).mod M (rows_other h.sep hy hg (i := m + 8) (by omega) (rows_cash hp'))
theorem LedOwn.set_avail {w : World} {B : Nat} {V : LedV} {l : Led} (h : LedOwn w B V l) {g c k : Nat} (hv : V.avail = .slice (some ⟨g, 0, none⟩) l.avail.length c) {x x' : Int} {u : Value} (hk : l.avail[k]? = some x) (he : icell x' = (icell x).set 0 u) :
    LedOwn (w.setCell ⟨g, k, none⟩ u) B V { l with avail := l.avail.set k x' } ∧ Mod (fun b => b = g) w (w.setCell ⟨g, k, none⟩ u) := by
  have hg : V.avail.ownBlock = some g := by rw [hv]; rfl
  have hy : V.rows[6]? = some V.avail := rfl
  have hA := h.avail
  rw [hv] at hA
  obtain ⟨hs, M⟩ := hA.set (x' := x') (u := u) (j := 0) icell_len hk (by decide) he
  simp only [Nat.mul_one, Nat.add_zero] at hs M
  refine ⟨⟨h.curs.mod M (rows_other h.sep hy hg (i := 0) (by decide) rfl), h.unders.mod M (rows_other h.sep hy hg (i := 1) (by decide) rfl), h.instrs.mod M (rows_other h.sep hy hg (i := 2) (by decide) rfl), h.same, h.accts.mod M (rows_other h.sep hy hg (i := 3) (by decide) rfl), fun p hp => ?_, h.poss.mod M (rows_other h.sep hy hg (i := 4) (by decide) rfl), h.orders.mod M (rows_other h.sep hy hg (i := 5) (by decide) rfl), by rw [hv]; exact hs, h.locs.mod M (rows_other h.sep hy hg (i := 7) (by decide) rfl), h.sep, h.names, h.nums⟩, M⟩
  · obtain ⟨m, hm, e⟩ := List.mem_iff_getElem.1 hp
    have hp' : V.ac[m]? = some p := by rw [List.getElem?_eq_getElem hm, e]
    exact (h.cash p hp).mod M (rows_other h.sep hy hg (i := m + 8) (by omega) (rows_cash hp'))
theorem LedOwn.set_locs {w : World} {B : Nat} {V : LedV} {l : Led} (h : LedOwn w B V l) {g c k j : Nat} (hv : V.locs = .slice (some ⟨g, 0, none⟩) l.locs.length c) {x x' : Pos} {u : Value} (hk : l.locs[k]? = some x) (hj : j < 3) (he : Pos.cells x' = (Pos.cells x).set j u) :
    LedOwn (w.setCell ⟨g, k * 3 + j, none⟩ u) B V { l with locs := l.locs.set k x' } ∧ Mod (fun b => b = g) w (w.setCell ⟨g, k * 3 + j, none⟩ u) := by
  have hg : V.locs.ownBlock = some g := by rw [hv]; rfl
  have hy : V.rows[7]? = some V.locs := rfl
  have hA := h.locs
  rw [hv] at hA
  obtain ⟨hs, M⟩ := hA.set (x' := x') (u := u) (j := j) poscells_len hk hj he
  refine ⟨⟨h.curs.mod M (rows_other h.sep hy hg (i := 0) (by decide) rfl), h.unders.mod M (rows_other h.sep hy hg (i := 1) (by decide) rfl), h.instrs.mod M (rows_other h.sep hy hg (i := 2) (by decide) rfl), h.same, h.accts.mod M (rows_other h.sep hy hg (i := 3) (by decide) rfl), fun p hp => ?_, h.poss.mod M (rows_other h.sep hy hg (i := 4) (by decide) rfl), h.orders.mod M (rows_other h.sep hy hg (i := 5) (by decide) rfl), h.avail.mod M (rows_other h.sep hy hg (i := 6) (by decide) rfl), by rw [hv]; exact hs, h.sep, h.names, h.nums⟩, M⟩
  · obtain ⟨m, hm, e⟩ := List.mem_iff_getElem.1 hp
    have hp' : V.ac[m]? = some p := by rw [List.getElem?_eq_getElem hm, e]
    exact (h.cash p hp).mod M (rows_other h.sep hy hg (i := m + 8) (by omega) (rows_cash hp'))
theorem rows_set {V V' : LedV} {w : World} {B q : Nat} {v : Value} {l : Led} (h : LedOwn w B V l) (hr : V'.rows = V.rows.set q v) (hv : ∀ y, V.rows[q]? = some y → ∀ k, v.ownBlock = some k → y.ownBlock = some k ∨ w.heap.size ≤ k) (hq : q < V.rows.length) : V'.rows.Pairwise ApartV := by
  rw [hr, List.pairwise_iff_getElem]
  intro i j hi hj hij
  rw [List.length_set] at hi hj
  rw [List.getElem_set, List.getElem_set]
  have key : ∀ m (hm : m < V.rows.length), m ≠ q → ApartV V.rows[m] v := fun m hm hne b h1 h2 => by
    rcases hv _ (List.getElem?_eq_getElem hq) b h2 with h3 | h3
    · exact rows_apart h.sep hne (List.getElem?_eq_getElem hm) (List.getElem?_eq_getElem hq) b h1 h3
    · have := (h.lts _ (List.getElem_mem hm) b h1).2; omega
  by_cases e1 : q = i
  · rw [if_pos e1, if_neg (by omega)]
    exact (key j hj (by omega)).symm
  · by_cases e2 : q = j
    · rw [if_neg e1, if_pos e2]
      exact key i hi (by omega)
    · rw [if_neg e1, if_neg e2]
      exact List.pairwise_iff_getElem.1 h.sep i j hi hj hij
/-- Another row of its own in the place of the curs. -/
theorem LedOwn.new_curs {w w' : World} {B : Nat} {V : LedV} {l : Led} (h : LedOwn w B V l) {v : Value} {xs : List Cur} (hm : Mod (fun k => V.curs.ownBlock = some k) w w') (ho : OwnOf w' B 69 2 Cur.cells v xs) (hb : ∀ k, v.ownBlock = some k → V.curs.ownBlock = some k ∨ w.heap.size ≤ k) :
    LedOwn w' B { V with curs := v } { l with curs := xs } := by
  refine ⟨ho, h.unders.mod hm (fun b hb e => rows_apart h.sep (i := 1) (j := 0) (by decide) rfl rfl b hb e), h.instrs.mod hm (fun b hb e => rows_apart h.sep (i := 2) (j := 0) (by decide) rfl rfl b hb e), h.same, h.accts.mod hm (fun b hb e => rows_apart h.sep (i := 3) (j := 0) (by decide) rfl rfl b hb e), fun p hp => ?_, h.poss.mod hm (fun b hb e => rows_apart h.sep (i := 4) (j := 0) (by decide) rfl rfl b hb e), h.orders.mod hm (fun b hb e => rows_apart h.sep (i := 5) (j := 0) (by decide) rfl rfl b hb e), h.avail.mod hm (fun b hb e => rows_apart h.sep (i := 6) (j := 0) (by decide) rfl rfl b hb e), h.locs.mod hm (fun b hb e => rows_apart h.sep (i := 7) (j := 0) (by decide) rfl rfl b hb e), rows_set h (q := 0) rfl (fun y hy => by cases hy; exact hb) (by simp [LedV.rows]), h.names, h.nums⟩
  obtain ⟨m, hm', e⟩ := List.mem_iff_getElem.1 hp
  have hp' : V.ac[m]? = some p := by rw [List.getElem?_eq_getElem hm', e]
  exact (h.cash p hp).mod hm (fun b hb' e => rows_apart h.sep (i := m + 8) (j := 0) (by omega) (rows_cash hp') rfl b hb' e)
/-- Another row of its own in the place of the unders. -/
theorem LedOwn.new_unders {w w' : World} {B : Nat} {V : LedV} {l : Led} (h : LedOwn w B V l) {v : Value} {xs : List Und} (hm : Mod (fun k => V.unders.ownBlock = some k) w w') (ho : OwnOf w' B 60 4 Und.cells v xs) (hb : ∀ k, v.ownBlock = some k → V.unders.ownBlock = some k ∨ w.heap.size ≤ k) (hn : ∀ y ∈ xs, y.name.size ≤ maxLen) :
    LedOwn w' B { V with unders := v } { l with unders := xs } := by
  refine ⟨h.curs.mod hm (fun b hb e => rows_apart h.sep (i := 0) (j := 1) (by decide) rfl rfl b hb e), ho, h.instrs.mod hm (fun b hb e => rows_apart h.sep (i := 2) (j := 1) (by decide) rfl rfl b hb e), h.same, h.accts.mod hm (fun b hb e => rows_apart h.sep (i := 3) (j := 1) (by decide) rfl rfl b hb e), fun p hp => ?_, h.poss.mod hm (fun b hb e => rows_apart h.sep (i := 4) (j := 1) (by decide) rfl rfl b hb e), h.orders.mod hm (fun b hb e => rows_apart h.sep (i := 5) (j := 1) (by decide) rfl rfl b hb e), h.avail.mod hm (fun b hb e => rows_apart h.sep (i := 6) (j := 1) (by decide) rfl rfl b hb e), h.locs.mod hm (fun b hb e => rows_apart h.sep (i := 7) (j := 1) (by decide) rfl rfl b hb e), rows_set h (q := 1) rfl (fun y hy => by cases hy; exact hb) (by simp [LedV.rows]), hn, h.nums⟩
  obtain ⟨m, hm', e⟩ := List.mem_iff_getElem.1 hp
  have hp' : V.ac[m]? = some p := by rw [List.getElem?_eq_getElem hm', e]
  exact (h.cash p hp).mod hm (fun b hb' e => rows_apart h.sep (i := m + 8) (j := 1) (by omega) (rows_cash hp') rfl b hb' e)
/-- Another row of its own in the place of the instrs. -/
theorem LedOwn.new_instrs {w w' : World} {B : Nat} {V : LedV} {l : Led} (h : LedOwn w B V l) {v : Value} {xs : List Ins} (hm : Mod (fun k => V.instrs.ownBlock = some k) w w') (ho : OwnOf w' B 54 7 Ins.cells v xs) (hb : ∀ k, v.ownBlock = some k → V.instrs.ownBlock = some k ∨ w.heap.size ≤ k) :
    LedOwn w' B { V with instrs := v } { l with instrs := xs } := by
  refine ⟨h.curs.mod hm (fun b hb e => rows_apart h.sep (i := 0) (j := 2) (by decide) rfl rfl b hb e), h.unders.mod hm (fun b hb e => rows_apart h.sep (i := 1) (j := 2) (by decide) rfl rfl b hb e), ho, h.same, h.accts.mod hm (fun b hb e => rows_apart h.sep (i := 3) (j := 2) (by decide) rfl rfl b hb e), fun p hp => ?_, h.poss.mod hm (fun b hb e => rows_apart h.sep (i := 4) (j := 2) (by decide) rfl rfl b hb e), h.orders.mod hm (fun b hb e => rows_apart h.sep (i := 5) (j := 2) (by decide) rfl rfl b hb e), h.avail.mod hm (fun b hb e => rows_apart h.sep (i := 6) (j := 2) (by decide) rfl rfl b hb e), h.locs.mod hm (fun b hb e => rows_apart h.sep (i := 7) (j := 2) (by decide) rfl rfl b hb e), rows_set h (q := 2) rfl (fun y hy => by cases hy; exact hb) (by simp [LedV.rows]), h.names, h.nums⟩
  obtain ⟨m, hm', e⟩ := List.mem_iff_getElem.1 hp
  have hp' : V.ac[m]? = some p := by rw [List.getElem?_eq_getElem hm', e]
  exact (h.cash p hp).mod hm (fun b hb' e => rows_apart h.sep (i := m + 8) (j := 2) (by omega) (rows_cash hp') rfl b hb' e)
/-- Another row of its own in the place of the poss. -/
theorem LedOwn.new_poss {w w' : World} {B : Nat} {V : LedV} {l : Led} (h : LedOwn w B V l) {v : Value} {xs : List Pos} (hm : Mod (fun k => V.poss.ownBlock = some k) w w') (ho : OwnOf w' B 43 3 Pos.cells v xs) (hb : ∀ k, v.ownBlock = some k → V.poss.ownBlock = some k ∨ w.heap.size ≤ k) :
    LedOwn w' B { V with poss := v } { l with poss := xs } := by
  refine ⟨h.curs.mod hm (fun b hb e => rows_apart h.sep (i := 0) (j := 4) (by decide) rfl rfl b hb e), h.unders.mod hm (fun b hb e => rows_apart h.sep (i := 1) (j := 4) (by decide) rfl rfl b hb e), h.instrs.mod hm (fun b hb e => rows_apart h.sep (i := 2) (j := 4) (by decide) rfl rfl b hb e), h.same, h.accts.mod hm (fun b hb e => rows_apart h.sep (i := 3) (j := 4) (by decide) rfl rfl b hb e), fun p hp => ?_, ho, h.orders.mod hm (fun b hb e => rows_apart h.sep (i := 5) (j := 4) (by decide) rfl rfl b hb e), h.avail.mod hm (fun b hb e => rows_apart h.sep (i := 6) (j := 4) (by decide) rfl rfl b hb e), h.locs.mod hm (fun b hb e => rows_apart h.sep (i := 7) (j := 4) (by decide) rfl rfl b hb e), rows_set h (q := 4) rfl (fun y hy => by cases hy; exact hb) (by simp [LedV.rows]), h.names, h.nums⟩
  obtain ⟨m, hm', e⟩ := List.mem_iff_getElem.1 hp
  have hp' : V.ac[m]? = some p := by rw [List.getElem?_eq_getElem hm', e]
  exact (h.cash p hp).mod hm (fun b hb' e => rows_apart h.sep (i := m + 8) (j := 4) (by omega) (rows_cash hp') rfl b hb' e)
/-- Another row of its own in the place of the orders. -/
theorem LedOwn.new_orders {w w' : World} {B : Nat} {V : LedV} {l : Led} (h : LedOwn w B V l) {v : Value} {xs : List Ord} (hm : Mod (fun k => V.orders.ownBlock = some k) w w') (ho : OwnOf w' B 46 5 Ord.cells v xs) (hb : ∀ k, v.ownBlock = some k → V.orders.ownBlock = some k ∨ w.heap.size ≤ k) :
    LedOwn w' B { V with orders := v } { l with orders := xs } := by
  refine ⟨h.curs.mod hm (fun b hb e => rows_apart h.sep (i := 0) (j := 5) (by decide) rfl rfl b hb e), h.unders.mod hm (fun b hb e => rows_apart h.sep (i := 1) (j := 5) (by decide) rfl rfl b hb e), h.instrs.mod hm (fun b hb e => rows_apart h.sep (i := 2) (j := 5) (by decide) rfl rfl b hb e), h.same, h.accts.mod hm (fun b hb e => rows_apart h.sep (i := 3) (j := 5) (by decide) rfl rfl b hb e), fun p hp => ?_, h.poss.mod hm (fun b hb e => rows_apart h.sep (i := 4) (j := 5) (by decide) rfl rfl b hb e), ho, h.avail.mod hm (fun b hb e => rows_apart h.sep (i := 6) (j := 5) (by decide) rfl rfl b hb e), h.locs.mod hm (fun b hb e => rows_apart h.sep (i := 7) (j := 5) (by decide) rfl rfl b hb e), rows_set h (q := 5) rfl (fun y hy => by cases hy; exact hb) (by simp [LedV.rows]), h.names, h.nums⟩
  obtain ⟨m, hm', e⟩ := List.mem_iff_getElem.1 hp
  have hp' : V.ac[m]? = some p := by rw [List.getElem?_eq_getElem hm', e]
  exact (h.cash p hp).mod hm (fun b hb' e => rows_apart h.sep (i := m + 8) (j := 5) (by omega) (rows_cash hp') rfl b hb' e)
/-- Another row of its own in the place of the avail. -/
theorem LedOwn.new_avail {w w' : World} {B : Nat} {V : LedV} {l : Led} (h : LedOwn w B V l) {v : Value} {xs : List Int} (hm : Mod (fun k => V.avail.ownBlock = some k) w w') (ho : OwnOf w' B 3 1 icell v xs) (hb : ∀ k, v.ownBlock = some k → V.avail.ownBlock = some k ∨ w.heap.size ≤ k) :
    LedOwn w' B { V with avail := v } { l with avail := xs } := by
  refine ⟨h.curs.mod hm (fun b hb e => rows_apart h.sep (i := 0) (j := 6) (by decide) rfl rfl b hb e), h.unders.mod hm (fun b hb e => rows_apart h.sep (i := 1) (j := 6) (by decide) rfl rfl b hb e), h.instrs.mod hm (fun b hb e => rows_apart h.sep (i := 2) (j := 6) (by decide) rfl rfl b hb e), h.same, h.accts.mod hm (fun b hb e => rows_apart h.sep (i := 3) (j := 6) (by decide) rfl rfl b hb e), fun p hp => ?_, h.poss.mod hm (fun b hb e => rows_apart h.sep (i := 4) (j := 6) (by decide) rfl rfl b hb e), h.orders.mod hm (fun b hb e => rows_apart h.sep (i := 5) (j := 6) (by decide) rfl rfl b hb e), ho, h.locs.mod hm (fun b hb e => rows_apart h.sep (i := 7) (j := 6) (by decide) rfl rfl b hb e), rows_set h (q := 6) rfl (fun y hy => by cases hy; exact hb) (by simp [LedV.rows]), h.names, h.nums⟩
  obtain ⟨m, hm', e⟩ := List.mem_iff_getElem.1 hp
  have hp' : V.ac[m]? = some p := by rw [List.getElem?_eq_getElem hm', e]
  exact (h.cash p hp).mod hm (fun b hb' e => rows_apart h.sep (i := m + 8) (j := 6) (by omega) (rows_cash hp') rfl b hb' e)
/-- Another row of its own in the place of the locs. -/
theorem LedOwn.new_locs {w w' : World} {B : Nat} {V : LedV} {l : Led} (h : LedOwn w B V l) {v : Value} {xs : List Pos} (hm : Mod (fun k => V.locs.ownBlock = some k) w w') (ho : OwnOf w' B 95 3 Pos.cells v xs) (hb : ∀ k, v.ownBlock = some k → V.locs.ownBlock = some k ∨ w.heap.size ≤ k) :
    LedOwn w' B { V with locs := v } { l with locs := xs } := by
  refine ⟨h.curs.mod hm (fun b hb e => rows_apart h.sep (i := 0) (j := 7) (by decide) rfl rfl b hb e), h.unders.mod hm (fun b hb e => rows_apart h.sep (i := 1) (j := 7) (by decide) rfl rfl b hb e), h.instrs.mod hm (fun b hb e => rows_apart h.sep (i := 2) (j := 7) (by decide) rfl rfl b hb e), h.same, h.accts.mod hm (fun b hb e => rows_apart h.sep (i := 3) (j := 7) (by decide) rfl rfl b hb e), fun p hp => ?_, h.poss.mod hm (fun b hb e => rows_apart h.sep (i := 4) (j := 7) (by decide) rfl rfl b hb e), h.orders.mod hm (fun b hb e => rows_apart h.sep (i := 5) (j := 7) (by decide) rfl rfl b hb e), h.avail.mod hm (fun b hb e => rows_apart h.sep (i := 6) (j := 7) (by decide) rfl rfl b hb e), ho, rows_set h (q := 7) rfl (fun y hy => by cases hy; exact hb) (by simp [LedV.rows]), h.names, h.nums⟩
  obtain ⟨m, hm', e⟩ := List.mem_iff_getElem.1 hp
  have hp' : V.ac[m]? = some p := by rw [List.getElem?_eq_getElem hm', e]
  exact (h.cash p hp).mod hm (fun b hb' e => rows_apart h.sep (i := m + 8) (j := 7) (by omega) (rows_cash hp') rfl b hb' e)
/-- An account's cash is another row of its own. -/
theorem LedOwn.acctCash {w : World} {B : Nat} {V : LedV} {l : Led} (h : LedOwn w B V l) {g c k : Nat} (hv : V.accts = .slice (some ⟨g, 0, none⟩) V.ac.length c) {p : Acc × Value} {u : Value} {cash : List Int} (hk : V.ac[k]? = some p) (hu : OwnOf w B 3 1 icell u cash)
    (ha : ∀ (i : Nat) x, i ≠ k + 8 → V.rows[i]? = some x → ApartV x u) (hn : ∀ x ∈ cash, -9223372036854775808 ≤ x ∧ x ≤ 9223372036854775807) :
    LedOwn (w.setCell ⟨g, k * 4 + 1, none⟩ u) B { V with ac := V.ac.set k ({ p.1 with cash := cash }, u) } { l with accts := l.accts.set k { p.1 with cash := cash } } ∧ Mod (fun b => b = g) w (w.setCell ⟨g, k * 4 + 1, none⟩ u) := by
  have hg : V.accts.ownBlock = some g := by rw [hv]; rfl
  have hy : V.rows[3]? = some V.accts := rfl
  have hA := h.accts
  rw [hv] at hA
  have hkl := (List.getElem?_eq_some_iff.1 hk).1
  obtain ⟨hs, M⟩ := hA.set (x' := ({ p.1 with cash := cash }, u)) (u := u) (j := 1) acccells_len hk (by decide) rfl
  refine ⟨⟨h.curs.mod M (rows_other h.sep hy hg (i := 0) (by decide) rfl), h.unders.mod M (rows_other h.sep hy hg (i := 1) (by decide) rfl), h.instrs.mod M (rows_other h.sep hy hg (i := 2) (by decide) rfl), ?_, ?_, fun q hq => ?_, h.poss.mod M (rows_other h.sep hy hg (i := 4) (by decide) rfl), h.orders.mod M (rows_other h.sep hy hg (i := 5) (by decide) rfl), h.avail.mod M (rows_other h.sep hy hg (i := 6) (by decide) rfl), h.locs.mod M (rows_other h.sep hy hg (i := 7) (by decide) rfl), ?_, h.names, ?_⟩, M⟩
  · show l.accts.set k _ = (V.ac.set k _).map (·.1)
    rw [List.map_set, h.same]
  · show OwnOf _ B _ 4 Acc.cells V.accts _
    rw [hv]
    exact hs
  · rcases List.mem_or_eq_of_mem_set hq with hq | rfl
    · obtain ⟨m, hm, e⟩ := List.mem_iff_getElem.1 hq
      have hp' : V.ac[m]? = some q := by rw [List.getElem?_eq_getElem hm, e]
      exact (h.cash q hq).mod M (rows_other h.sep hy hg (i := m + 8) (by omega) (rows_cash hp'))
    · exact hu.mod M (fun b hb e => ha 3 V.accts (by omega) rfl g hg (by rw [← e]; exact hb))
  · have e : ({ V with ac := V.ac.set k ({ p.1 with cash := cash }, u) } : LedV).rows = V.rows.set (k + 8) u := by
      show V.curs :: V.unders :: V.instrs :: V.accts :: V.poss :: V.orders :: V.avail :: V.locs :: (V.ac.set k ({ p.1 with cash := cash }, u)).map (·.2) = V.curs :: V.unders :: V.instrs :: V.accts :: V.poss :: V.orders :: V.avail :: V.locs :: (V.ac.map (·.2)).set k u
      rw [List.map_set]
    rw [e, List.pairwise_iff_getElem]
    intro i j hi hj hij
    rw [List.length_set] at hi hj
    rw [List.getElem_set, List.getElem_set]
    by_cases e1 : k + 8 = i
    · rw [if_pos e1, if_neg (by omega)]
      exact (ha j _ (by omega) (List.getElem?_eq_getElem hj)).symm
    · by_cases e2 : k + 8 = j
      · rw [if_neg e1, if_pos e2]
        exact ha i _ (by omega) (List.getElem?_eq_getElem hi)
      · rw [if_neg e1, if_neg e2]
        exact List.pairwise_iff_getElem.1 h.sep i j hi hj hij
  · intro a ha' x hx
    rcases List.mem_or_eq_of_mem_set ha' with ha' | rfl
    · exact h.nums a ha' x hx
    · exact hn x hx
end Go.Bw

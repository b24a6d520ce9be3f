/- A ledger of its own is overwritten, what else there is stays: plain steps (printed by tools/gen_keep.py). -/
import Derived.Test.YtcjbhgnlmmeeeaaGreatDoorLedS
namespace Go.Bw
open Go.RowKit
set_option linter.unusedVariables false
set_option linter.unusedSimpArgs false
theorem LedAt.kept {w w' : World} {V : LedV} {l : Led} {S : Nat → Prop} (h : LedAt w V l) (hm : Mod S w w') (hS : ∀ k, S k → V.NotIn k) : LedAt w' V l := by
  have hr : ∀ x ∈ V.rows, ∀ k, x.ownBlock = some k → ¬ S k := fun x hx k hk hs => hS k hs x hx hk
  have ha : ∀ p ∈ V.ac, p.2 ∈ V.rows := fun p hp => by
    simp only [LedV.rows, List.mem_cons, List.mem_map]
    exact Or.inr (Or.inr (Or.inr (Or.inr (Or.inr (Or.inr (Or.inr (Or.inr ⟨p, hp, rfl⟩)))))))
  exact ⟨h.curs.kept hm (hr _ (by simp [LedV.rows])), h.unders.kept hm (hr _ (by simp [LedV.rows])), h.instrs.kept hm (hr _ (by simp [LedV.rows])), h.same, h.accts.kept hm (hr _ (by simp [LedV.rows])), fun p hp => (h.cash p hp).kept hm (hr _ (ha p hp)),
   h.poss.kept hm (hr _ (by simp [LedV.rows])), h.orders.kept hm (hr _ (by simp [LedV.rows])), h.avail.kept hm (hr _ (by simp [LedV.rows])), h.locs.kept hm (hr _ (by simp [LedV.rows])), h.names, h.nums⟩
/-- What lies where. -/
structure KC (w : World) (Ba E : Nat) (bs : List (Nat × TypeId × Array Value)) (Vm Vb Vw : LedV) : Prop where
  lo : w.heap.size ≤ Ba
  bs : ∀ x ∈ bs, x.1 < Ba ∨ E ≤ x.1
  m : ∀ x ∈ Vm.rows, ∀ k, x.ownBlock = some k → k < Ba
  b : ∀ x ∈ Vb.rows, ∀ k, x.ownBlock = some k → E ≤ k
  w : ∀ x ∈ Vw.rows, ∀ k, x.ownBlock = some k → E ≤ k
/-- The ledger that is overwritten. -/
structure KA (Ba E : Nat) (Va : LedV) (M : Led) (V : LedV) (l : Led) (W : World) : Prop where
  own : LedOwn W Ba V l
  lt : ∀ x ∈ V.rows, ∀ k, x.ownBlock = some k → k < E
  v2 : V.unders = Va.unders
  v4 : V.accts = Va.accts
  v5 : V.poss = Va.poss
  v6 : V.orders = Va.orders
  l2 : l.unders.length = M.unders.length
  l4 : l.accts.length = M.accts.length
  l5 : l.poss.length = M.poss.length
  l6 : l.orders.length = M.orders.length
structure KAt (w : World) (Ba E : Nat) (bs : List (Nat × TypeId × Array Value)) (Vm : LedV) (L : Led) (Va : LedV) (M : Led) (Vb Vw : LedV) (W : World) : Prop where
  at_ : At w W bs
  mine : LedAt W Vm L
  b : LedAt W Vb M
  want : LedAt W Vw M
  a : ∃ V l, KA Ba E Va M V l W
variable {a : Option Addr} {w W W' : World} {Ba E g k j c : Nat} {bs : List (Nat × TypeId × Array Value)} {Vm Va Vb Vw V : LedV} {L M l : Led}
theorem KAt.go (h : KAt w Ba E bs Vm L Va M Vb Vw W) (hb : Below W.heap.size W W') : KAt w Ba E bs Vm L Va M Vb Vw W' := by
  obtain ⟨V, l, a⟩ := h.a
  exact ⟨h.at_.go hb, h.mine.below hb, h.b.below hb, h.want.below hb, V, l, ⟨a.own.below hb, a.lt, a.v2, a.v4, a.v5, a.v6, a.l2, a.l4, a.l5, a.l6⟩⟩
theorem KAt.write (h : KAt w Ba E bs Vm L Va M Vb Vw W) (K : KC w Ba E bs Vm Vb Vw) (h1 : Ba ≤ g) (h2 : g < E) (hm : Mod (fun k => k = g) W W') (ha : ∃ V l, KA Ba E Va M V l W') : KAt w Ba E bs Vm L Va M Vb Vw W' :=
  ⟨h.at_.mod hm (fun k e => by have := K.lo; omega) (fun x hx e => by have := K.bs x hx; omega), h.mine.kept hm (fun k e x hx hk => by have := K.m x hx k hk; omega), h.b.kept hm (fun k e x hx hk => by have := K.b x hx k hk; omega), h.want.kept hm (fun k e x hx hk => by have := K.w x hx k hk; omega), ha⟩
theorem KA.block (h : KA Ba E Va M V l W) {x : Value} (hx : x ∈ V.rows) (hg : x.ownBlock = some g) : Ba ≤ g ∧ g < E := ⟨(h.own.lts x hx g hg).1, h.lt x hx g hg⟩
/-- One of the poss is blanked. -/
theorem KAt.blank_poss (h : KAt w Ba E bs Vm L Va M Vb Vw W) (K : KC w Ba E bs Vm Vb Vw) (hk : k < M.poss.length) (hv : Va.poss = .slice a M.poss.length c) :
    ∃ g, a = some ⟨g, 0, none⟩ ∧ (∃ x : Pos, W.cell? ⟨g, k * 3, none⟩ = some (.int .i64 x.acct) ∧ W.cell? ⟨g, k * 3 + 1, none⟩ = some (.int .i64 x.instr) ∧ W.cell? ⟨g, k * 3 + 2, none⟩ = some (.int .i64 x.qty)) ∧ (∀ j, W.frozen? ⟨g, j, none⟩ = false) ∧ KAt w Ba E bs Vm L Va M Vb Vw (((W.setCell ⟨g, k * 3, none⟩ (.int .i64 0)).setCell ⟨g, k * 3 + 1, none⟩ (.int .i64 0)).setCell ⟨g, k * 3 + 2, none⟩ (.int .i64 0)) := by
  obtain ⟨V, l, A⟩ := h.a
  obtain ⟨x, hx⟩ : ∃ x, l.poss[k]? = some x := ⟨_, List.getElem?_eq_getElem (by rw [A.l5]; exact hk)⟩
  have hkl := (List.getElem?_eq_some_iff.1 hx).1
  obtain ⟨g, c', e, _, _, _, hfr⟩ := A.own.poss.block hx
  have e2 : Va.poss = .slice (some ⟨g, 0, none⟩) l.poss.length c' := by rw [← A.v5]; exact e
  have e3 := hv.symm.trans e2
  injection e3 with e4 _ e5
  subst e4
  have hB := A.block (x := V.poss) (by simp [LedV.rows]) (g := g) (by rw [e]; rfl)
  have hR := A.own.poss.row poscells_len (by decide)
  rw [e] at hR
  obtain ⟨b', o', e', _, hc⟩ := hR.at_ hx
  cases e'
  have hc' : ∀ j u, (Pos.cells x)[j]? = some u → W.cell? ⟨g, k * 3 + j, none⟩ = some u := fun j u hj => by have := hc j u hj; rwa [Nat.zero_add] at this
  refine ⟨g, rfl, ⟨x, hc' 0 _ rfl, hc' 1 _ rfl, hc' 2 _ rfl⟩, hfr, ?_⟩
  have s0 := LedOwn.set_poss A.own (g := g) (c := c') (k := k) (j := 0) e (x := x) (x' := ⟨0, x.instr, x.qty⟩) (u := .int .i64 0) hx (by decide) rfl
  have s1 := LedOwn.set_poss s0.1 (g := g) (c := c') (k := k) (j := 1) (by rw [e]; simp) (x := ⟨0, x.instr, x.qty⟩) (x' := ⟨0, 0, x.qty⟩) (u := .int .i64 0) (by simp [hkl]) (by decide) rfl
  have s2 := LedOwn.set_poss s1.1 (g := g) (c := c') (k := k) (j := 2) (by rw [e]; simp) (x := ⟨0, 0, x.qty⟩) (x' := ⟨0, 0, 0⟩) (u := .int .i64 0) (by simp [hkl]) (by decide) rfl
  simp only [Nat.add_zero] at s0 s1 s2
  have M0 := ((s0.2.trans s1.2 (fun _ _ h => h)).trans s2.2 (fun _ _ h => h))
  refine h.write K hB.1 hB.2 M0 ⟨V, _, s2.1, A.lt, A.v2, A.v4, A.v5, A.v6, A.l2, A.l4, by simpa using A.l5, A.l6⟩
/-- One of the orders is blanked. -/
theorem KAt.blank_orders (h : KAt w Ba E bs Vm L Va M Vb Vw W) (K : KC w Ba E bs Vm Vb Vw) (hk : k < M.orders.length) (hv : Va.orders = .slice a M.orders.length c) :
    ∃ g, a = some ⟨g, 0, none⟩ ∧ (∃ x : Ord, W.cell? ⟨g, k * 5, none⟩ = some (.int .i64 x.acct) ∧ W.cell? ⟨g, k * 5 + 1, none⟩ = some (.int .i64 x.id) ∧ W.cell? ⟨g, k * 5 + 2, none⟩ = some (.int .i64 x.instr) ∧ W.cell? ⟨g, k * 5 + 3, none⟩ = some (.int .i64 x.qty) ∧ W.cell? ⟨g, k * 5 + 4, none⟩ = some (.int .i64 x.price)) ∧ (∀ j, W.frozen? ⟨g, j, none⟩ = false) ∧ KAt w Ba E bs Vm L Va M Vb Vw (((((W.setCell ⟨g, k * 5, none⟩ (.int .i64 0)).setCell ⟨g, k * 5 + 1, none⟩ (.int .i64 0)).setCell ⟨g, k * 5 + 2, none⟩ (.int .i64 0)).setCell ⟨g, k * 5 + 3, none⟩ (.int .i64 0)).setCell ⟨g, k * 5 + 4, none⟩ (.int .i64 0)) := by
  obtain ⟨V, l, A⟩ := h.a
  obtain ⟨x, hx⟩ : ∃ x, l.orders[k]? = some x := ⟨_, List.getElem?_eq_getElem (by rw [A.l6]; exact hk)⟩
  have hkl := (List.getElem?_eq_some_iff.1 hx).1
  obtain ⟨g, c', e, _, _, _, hfr⟩ := A.own.orders.block hx
  have e2 : Va.orders = .slice (some ⟨g, 0, none⟩) l.orders.length c' := by rw [← A.v6]; exact e
  have e3 := hv.symm.trans e2
  injection e3 with e4 _ e5
  subst e4
  have hB := A.block (x := V.orders) (by simp [LedV.rows]) (g := g) (by rw [e]; rfl)
  have hR := A.own.orders.row ordcells_len (by decide)
  rw [e] at hR
  obtain ⟨b', o', e', _, hc⟩ := hR.at_ hx
  cases e'
  have hc' : ∀ j u, (Ord.cells x)[j]? = some u → W.cell? ⟨g, k * 5 + j, none⟩ = some u := fun j u hj => by have := hc j u hj; rwa [Nat.zero_add] at this
  refine ⟨g, rfl, ⟨x, hc' 0 _ rfl, hc' 1 _ rfl, hc' 2 _ rfl, hc' 3 _ rfl, hc' 4 _ rfl⟩, hfr, ?_⟩
  have s0 := LedOwn.set_orders A.own (g := g) (c := c') (k := k) (j := 0) e (x := x) (x' := ⟨0, x.id, x.instr, x.qty, x.price⟩) (u := .int .i64 0) hx (by decide) rfl
  have s1 := LedOwn.set_orders s0.1 (g := g) (c := c') (k := k) (j := 1) (by rw [e]; simp) (x := ⟨0, x.id, x.instr, x.qty, x.price⟩) (x' := ⟨0, 0, x.instr, x.qty, x.price⟩) (u := .int .i64 0) (by simp [hkl]) (by decide) rfl
  have s2 := LedOwn.set_orders s1.1 (g := g) (c := c') (k := k) (j := 2) (by rw [e]; simp) (x := ⟨0, 0, x.instr, x.qty, x.price⟩) (x' := ⟨0, 0, 0, x.qty, x.price⟩) (u := .int .i64 0) (by simp [hkl]) (by decide) rfl
  have s3 := LedOwn.set_orders s2.1 (g := g) (c := c') (k := k) (j := 3) (by rw [e]; simp) (x := ⟨0, 0, 0, x.qty, x.price⟩) (x' := ⟨0, 0, 0, 0, x.price⟩) (u := .int .i64 0) (by simp [hkl]) (by decide) rfl
  have s4 := LedOwn.set_orders s3.1 (g := g) (c := c') (k := k) (j := 4) (by rw [e]; simp) (x := ⟨0, 0, 0, 0, x.price⟩) (x' := ⟨0, 0, 0, 0, 0⟩) (u := .int .i64 0) (by simp [hkl]) (by decide) rfl
  simp only [Nat.add_zero] at s0 s1 s2 s3 s4
  have M0 := ((((s0.2.trans s1.2 (fun _ _ h => h)).trans s2.2 (fun _ _ h => h)).trans s3.2 (fun _ _ h => h)).trans s4.2 (fun _ _ h => h))
  refine h.write K hB.1 hB.2 M0 ⟨V, _, s4.1, A.lt, A.v2, A.v4, A.v5, A.v6, A.l2, A.l4, A.l5, by simpa using A.l6⟩
/-- One of the unders is blanked. -/
theorem KAt.blank_unders (h : KAt w Ba E bs Vm L Va M Vb Vw W) (K : KC w Ba E bs Vm Vb Vw) (hk : k < M.unders.length) (hv : Va.unders = .slice a M.unders.length c) :
    ∃ g, a = some ⟨g, 0, none⟩ ∧ (∃ x : Und, W.cell? ⟨g, k * 4, none⟩ = some (.string x.name) ∧ W.cell? ⟨g, k * 4 + 1, none⟩ = some (.int .i64 x.cur) ∧ W.cell? ⟨g, k * 4 + 2, none⟩ = some (.int .i64 x.price) ∧ W.cell? ⟨g, k * 4 + 3, none⟩ = some (.int .i64 x.vol)) ∧ (∀ j, W.frozen? ⟨g, j, none⟩ = false) ∧ KAt w Ba E bs Vm L Va M Vb Vw ((((W.setCell ⟨g, k * 4, none⟩ (.string ⟨#[]⟩)).setCell ⟨g, k * 4 + 1, none⟩ (.int .i64 0)).setCell ⟨g, k * 4 + 2, none⟩ (.int .i64 0)).setCell ⟨g, k * 4 + 3, none⟩ (.int .i64 0)) := by
  obtain ⟨V, l, A⟩ := h.a
  obtain ⟨x, hx⟩ : ∃ x, l.unders[k]? = some x := ⟨_, List.getElem?_eq_getElem (by rw [A.l2]; exact hk)⟩
  have hkl := (List.getElem?_eq_some_iff.1 hx).1
  obtain ⟨g, c', e, _, _, _, hfr⟩ := A.own.unders.block hx
  have e2 : Va.unders = .slice (some ⟨g, 0, none⟩) l.unders.length c' := by rw [← A.v2]; exact e
  have e3 := hv.symm.trans e2
  injection e3 with e4 _ e5
  subst e4
  have hB := A.block (x := V.unders) (by simp [LedV.rows]) (g := g) (by rw [e]; rfl)
  have hR := A.own.unders.row undcells_len (by decide)
  rw [e] at hR
  obtain ⟨b', o', e', _, hc⟩ := hR.at_ hx
  cases e'
  have hc' : ∀ j u, (Und.cells x)[j]? = some u → W.cell? ⟨g, k * 4 + j, none⟩ = some u := fun j u hj => by have := hc j u hj; rwa [Nat.zero_add] at this
  refine ⟨g, rfl, ⟨x, hc' 0 _ rfl, hc' 1 _ rfl, hc' 2 _ rfl, hc' 3 _ rfl⟩, hfr, ?_⟩
  have s0 := LedOwn.set_unders A.own (g := g) (c := c') (k := k) (j := 0) e (x := x) (x' := ⟨⟨#[]⟩, x.cur, x.price, x.vol⟩) (u := .string ⟨#[]⟩) hx (by decide) rfl (Nat.zero_le _)
  have s1 := LedOwn.set_unders s0.1 (g := g) (c := c') (k := k) (j := 1) (by rw [e]; simp) (x := ⟨⟨#[]⟩, x.cur, x.price, x.vol⟩) (x' := ⟨⟨#[]⟩, 0, x.price, x.vol⟩) (u := .int .i64 0) (by simp [hkl]) (by decide) rfl (Nat.zero_le _)
  have s2 := LedOwn.set_unders s1.1 (g := g) (c := c') (k := k) (j := 2) (by rw [e]; simp) (x := ⟨⟨#[]⟩, 0, x.price, x.vol⟩) (x' := ⟨⟨#[]⟩, 0, 0, x.vol⟩) (u := .int .i64 0) (by simp [hkl]) (by decide) rfl (Nat.zero_le _)
  have s3 := LedOwn.set_unders s2.1 (g := g) (c := c') (k := k) (j := 3) (by rw [e]; simp) (x := ⟨⟨#[]⟩, 0, 0, x.vol⟩) (x' := ⟨⟨#[]⟩, 0, 0, 0⟩) (u := .int .i64 0) (by simp [hkl]) (by decide) rfl (Nat.zero_le _)
  simp only [Nat.add_zero] at s0 s1 s2 s3
  have M0 := (((s0.2.trans s1.2 (fun _ _ h => h)).trans s2.2 (fun _ _ h => h)).trans s3.2 (fun _ _ h => h))
  refine h.write K hB.1 hB.2 M0 ⟨V, _, s3.1, A.lt, A.v2, A.v4, A.v5, A.v6, by simpa using A.l2, A.l4, A.l5, A.l6⟩
/-- Within an account: its cash stays where it is. -/
def KIn (w : World) (Ba E : Nat) (bs : List (Nat × TypeId × Array Value)) (Vm : LedV) (L : Led) (Va : LedV) (M : Led) (Vb Vw : LedV) (k n : Nat) (pa : Option Addr) (pc : Nat) (W : World) : Prop :=
  KAt w Ba E bs Vm L Va M Vb Vw W ∧ ∃ V l p, KA Ba E Va M V l W ∧ V.ac[k]? = some p ∧ p.2 = .slice pa n pc ∧ p.1.cash.length = n
theorem KAt.inn (h : KAt w Ba E bs Vm L Va M Vb Vw W) (hk : k < M.accts.length) (hv : Va.accts = .slice a M.accts.length c) :
    ∃ g pa n pc, a = some ⟨g, 0, none⟩ ∧ W.cell? ⟨g, k * 4 + 1, none⟩ = some (.slice pa n pc) ∧ n ≤ maxLen ∧ KIn w Ba E bs Vm L Va M Vb Vw k n pa pc W := by
  obtain ⟨V, l, A⟩ := h.a
  have hn : V.ac.length = M.accts.length := by rw [← A.l4, A.own.same]; simp
  obtain ⟨p, hp⟩ : ∃ p, V.ac[k]? = some p := ⟨_, List.getElem?_eq_getElem (by omega)⟩
  obtain ⟨g, c', e, _, _, _, hfr⟩ := A.own.accts.block hp
  have e2 : Va.accts = .slice (some ⟨g, 0, none⟩) V.ac.length c' := by rw [← A.v4]; exact e
  have e3 := hv.symm.trans e2
  injection e3 with e4 _ e5
  subst e4
  have hR := A.own.accts.row acccells_len (by decide)
  rw [e] at hR
  obtain ⟨b', o', e', _, hc⟩ := hR.at_ hp
  cases e'
  obtain ⟨pa, pc, hpv, _⟩ := (A.own.cash p (List.mem_of_getElem? hp)).form
  have h1 := hc 1 p.2 rfl
  rw [Nat.zero_add] at h1
  have hlen : p.1.cash.length ≤ maxLen := by
    have hr := (A.own.cash p (List.mem_of_getElem? hp)).row icell_len (by decide)
    rw [hpv] at hr
    have := hr.caps
    omega
  exact ⟨g, pa, p.1.cash.length, pc, rfl, by rw [h1, hpv], hlen, h, V, l, p, A, hp, hpv, rfl⟩
theorem KIn.put {n : Nat} {pa : Option Addr} {pc : Nat} {x : Int} (h : KIn w Ba E bs Vm L Va M Vb Vw k n pa pc W) (K : KC w Ba E bs Vm Vb Vw) (hj : j < n) (hv : Va.accts = .slice (some ⟨g, 0, none⟩) M.accts.length c) (hx : -9223372036854775808 ≤ x ∧ x ≤ 9223372036854775807) :
    ∃ gp y, pa = some ⟨gp, 0, none⟩ ∧ W.cell? ⟨g, k * 4 + 1, none⟩ = some (.slice (some ⟨gp, 0, none⟩) n pc) ∧ W.cell? ⟨gp, j, none⟩ = some (.int .i64 y) ∧ W.frozen? ⟨gp, j, none⟩ = false ∧ KIn w Ba E bs Vm L Va M Vb Vw k n (some ⟨gp, 0, none⟩) pc (W.setCell ⟨gp, j, none⟩ (.int .i64 x)) := by
  obtain ⟨h0, V, l, p, A, hp, hpv, hpn⟩ := h
  have hn : V.ac.length = M.accts.length := by rw [← A.l4, A.own.same]; simp
  have e : V.accts = .slice (some ⟨g, 0, none⟩) V.ac.length c := by rw [A.v4, hv, hn]
  have hR := A.own.accts.row acccells_len (by decide)
  rw [e] at hR
  obtain ⟨b', o', e', _, hc⟩ := hR.at_ hp
  cases e'
  have oc := A.own.cash p (List.mem_of_getElem? hp)
  obtain ⟨y, hy⟩ : ∃ y, p.1.cash[j]? = some y := ⟨_, List.getElem?_eq_getElem (by omega)⟩
  obtain ⟨gp, pc', e2, _, _, _, hfr⟩ := oc.block hy
  have e3 := hpv.symm.trans e2
  injection e3 with e4 e5 e6
  subst e4 e5 e6
  have hrow := oc.row icell_len (by decide)
  rw [e2] at hrow
  obtain ⟨b2, o2, e7, _, hc2⟩ := hrow.at_ hy
  cases e7
  have h1 := hc 1 p.2 rfl
  have h2 := hc2 0 (.int .i64 y) rfl
  simp only [Nat.zero_add, Nat.mul_one, Nat.add_zero] at h1 h2
  have hmem : p.2 ∈ V.rows := by
    simp only [LedV.rows, List.mem_cons, List.mem_map]
    exact Or.inr (Or.inr (Or.inr (Or.inr (Or.inr (Or.inr (Or.inr (Or.inr ⟨p, List.mem_of_getElem? hp, rfl⟩)))))))
  have hB := A.block hmem (g := gp) (by rw [e2]; rfl)
  have S := A.own.setCash hp (g := gp) (c := pc) e2 hy hx
  have hrows : ({ V with ac := V.ac.set k ({ p.1 with cash := p.1.cash.set j x }, p.2) } : LedV).rows = V.rows := by
    simp only [LedV.rows]
    rw [map_set_same (fun q : Acc × Value => q.2) (x' := ({ p.1 with cash := p.1.cash.set j x }, p.2)) hp rfl]
  have A' : KA Ba E Va M { V with ac := V.ac.set k ({ p.1 with cash := p.1.cash.set j x }, p.2) } { l with accts := l.accts.set k { p.1 with cash := p.1.cash.set j x } } (W.setCell ⟨gp, j, none⟩ (.int .i64 x)) :=
    ⟨S.1, by rw [hrows]; exact A.lt, A.v2, A.v4, A.v5, A.v6, A.l2, by simpa using A.l4, A.l5, A.l6⟩
  refine ⟨gp, y, rfl, by rw [h1, e2], h2, hfr j, h0.write K hB.1 hB.2 S.2 ⟨_, _, A'⟩, _, _, ({ p.1 with cash := p.1.cash.set j x }, p.2), A', ?_, e2, by simp⟩
  exact List.getElem?_set_self (List.getElem?_eq_some_iff.1 hp).1
/-- An account is blanked. -/
theorem KAt.blank (h : KAt w Ba E bs Vm L Va M Vb Vw W) (K : KC w Ba E bs Vm Vb Vw) (hk : k < M.accts.length) (hv : Va.accts = .slice a M.accts.length c) :
    ∃ g, a = some ⟨g, 0, none⟩ ∧ (∃ u0 a1 n1 c1 u2 u3, W.cell? ⟨g, k * 4, none⟩ = some (.int .i64 u0) ∧ W.cell? ⟨g, k * 4 + 1, none⟩ = some (.slice a1 n1 c1) ∧ W.cell? ⟨g, k * 4 + 2, none⟩ = some (.bool u2) ∧ W.cell? ⟨g, k * 4 + 3, none⟩ = some (.int .i64 u3)) ∧ (∀ j, W.frozen? ⟨g, j, none⟩ = false) ∧
      KAt w Ba E bs Vm L Va M Vb Vw ((((W.setCell ⟨g, k * 4, none⟩ (.int .i64 0)).setCell ⟨g, k * 4 + 1, none⟩ (.slice none 0 0)).setCell ⟨g, k * 4 + 2, none⟩ (.bool false)).setCell ⟨g, k * 4 + 3, none⟩ (.int .i64 0)) := by
  obtain ⟨V, l, A⟩ := h.a
  have hn : V.ac.length = M.accts.length := by rw [← A.l4, A.own.same]; simp
  obtain ⟨p, hp⟩ : ∃ p, V.ac[k]? = some p := ⟨_, List.getElem?_eq_getElem (by omega)⟩
  have hkl := (List.getElem?_eq_some_iff.1 hp).1
  obtain ⟨g, c', e, _, _, _, hfr⟩ := A.own.accts.block hp
  have e2 : Va.accts = .slice (some ⟨g, 0, none⟩) V.ac.length c' := by rw [← A.v4]; exact e
  have e3 := hv.symm.trans e2
  injection e3 with e4 _ e5
  subst e4
  have hB := A.block (x := V.accts) (by simp [LedV.rows]) (g := g) (by rw [e]; rfl)
  have hR := A.own.accts.row acccells_len (by decide)
  rw [e] at hR
  obtain ⟨b', o', e', _, hc⟩ := hR.at_ hp
  cases e'
  have hc' : ∀ j u, (Acc.cells p)[j]? = some u → W.cell? ⟨g, k * 4 + j, none⟩ = some u := fun j u hj => by have := hc j u hj; rwa [Nat.zero_add] at this
  have s0 := A.own.acct (g := g) (c := c') (k := k) (j := 0) (u := .int .i64 0) e (p := p) (p' := ({ p.1 with parent := 0 }, p.2)) hp (by decide) rfl rfl rfl
  have s1 := s0.1.acctCash (g := g) (c := c') (k := k) (p := ({ p.1 with parent := 0 }, p.2)) (u := .slice none 0 0) (cash := []) (by simp [e]) (List.getElem?_set_self hkl) (OwnOf.nil _ _ _ _ _) (fun i x _ _ b _ hb => by simp [Value.ownBlock] at hb) (by simp)
  have s2 := s1.1.acct (g := g) (c := c') (k := k) (j := 2) (u := .bool false) (by simp [e]) (p := (⟨0, [], p.1.flag, p.1.last⟩, .slice none 0 0)) (p' := (⟨0, [], false, p.1.last⟩, .slice none 0 0)) (by simp [hkl]) (by decide) rfl rfl rfl
  have s3 := s2.1.acct (g := g) (c := c') (k := k) (j := 3) (u := .int .i64 0) (by simp [e]) (p := (⟨0, [], false, p.1.last⟩, .slice none 0 0)) (p' := (⟨0, [], false, 0⟩, .slice none 0 0)) (by simp [hkl]) (by decide) rfl rfl rfl
  simp only [Nat.add_zero] at s0 s1 s2 s3
  have M0 := ((s0.2.trans s1.2 (fun _ _ h => h)).trans s2.2 (fun _ _ h => h)).trans s3.2 (fun _ _ h => h)
  obtain ⟨a1, c1, hpv, _⟩ := (A.own.cash p (List.mem_of_getElem? hp)).form
  refine ⟨g, rfl, ⟨p.1.parent, a1, p.1.cash.length, c1, p.1.flag, p.1.last, hc' 0 _ rfl, (hc' 1 _ rfl).trans (by rw [hpv]), hc' 2 _ rfl, hc' 3 _ rfl⟩, hfr, h.write K hB.1 hB.2 M0 ⟨_, _, s3.1, ?_, A.v2, A.v4, A.v5, A.v6, A.l2, by simpa using A.l4, A.l5, A.l6⟩⟩
  intro x hx k' hk'
  simp only [LedV.rows, List.mem_cons, List.mem_map] at hx
  have key : ∀ y, y ∈ V.rows → y.ownBlock = some k' → k' < E := fun y hy h => A.lt y hy k' h
  rcases hx with rfl | rfl | rfl | rfl | rfl | rfl | rfl | rfl | ⟨q, hq, rfl⟩
  · exact key _ (by simp [LedV.rows]) hk'
  · exact key _ (by simp [LedV.rows]) hk'
  · exact key _ (by simp [LedV.rows]) hk'
  · exact key _ (by simp [LedV.rows]) hk'
  · exact key _ (by simp [LedV.rows]) hk'
  · exact key _ (by simp [LedV.rows]) hk'
  · exact key _ (by simp [LedV.rows]) hk'
  · exact key _ (by simp [LedV.rows]) hk'
  · have hq2 : q.2 = .slice none 0 0 ∨ ∃ q' ∈ V.ac, q'.2 = q.2 := by
      rcases List.mem_or_eq_of_mem_set hq with hq | rfl
      · rcases List.mem_or_eq_of_mem_set hq with hq | rfl
        · rcases List.mem_or_eq_of_mem_set hq with hq | rfl
          · rcases List.mem_or_eq_of_mem_set hq with hq | rfl
            · exact Or.inr ⟨q, hq, rfl⟩
            · exact Or.inr ⟨p, List.mem_of_getElem? hp, rfl⟩
          · exact Or.inl rfl
        · exact Or.inl rfl
      · exact Or.inl rfl
    rcases hq2 with e1 | ⟨q', hq2, e1⟩
    · rw [e1] at hk'; simp [Value.ownBlock] at hk'
    · rw [← e1] at hk'
      refine key q'.2 ?_ hk'
      simp only [LedV.rows, List.mem_cons, List.mem_map]
      exact Or.inr (Or.inr (Or.inr (Or.inr (Or.inr (Or.inr (Or.inr (Or.inr ⟨q', hq2, rfl⟩)))))))
end Go.Bw

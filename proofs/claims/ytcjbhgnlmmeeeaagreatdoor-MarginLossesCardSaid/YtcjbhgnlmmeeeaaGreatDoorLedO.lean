/- A ledger whose rows are its own: what it reads as, and what it is behind a store into one of them. -/
import Derived.Test.YtcjbhgnlmmeeeaaGreatDoorTree
namespace Go.Bw
open Go.RowKit
set_option linter.unusedVariables false
set_option linter.unusedSimpArgs false

/-! Rows of things of n cells each, one behind the other. -/
section
variable {α : Type} {n : Nat} {f : α → List Value}
theorem flatMap_len (hf : ∀ x, (f x).length = n) : ∀ l : List α, (l.flatMap f).length = l.length * n
  | [] => by simp
  | x :: r => by rw [List.flatMap_cons, List.length_append, hf, flatMap_len hf r, List.length_cons, Nat.succ_mul, Nat.add_comm]
theorem flatMap_at (hf : ∀ x, (f x).length = n) : ∀ {l : List α} {i j : Nat} {x : α}, l[i]? = some x → j < n → (l.flatMap f)[i * n + j]? = (f x)[j]?
  | [], i, j, x, h, _ => by simp at h
  | y :: t, 0, j, x, h, hj => by
    cases h
    rw [List.flatMap_cons, Nat.zero_mul, Nat.zero_add, List.getElem?_append_left (by rw [hf]; exact hj)]
  | y :: t, i + 1, j, x, h, hj => by
    rw [List.flatMap_cons, List.getElem?_append_right (by rw [hf, Nat.add_mul]; omega), hf, show (i + 1) * n + j - n = i * n + j by rw [Nat.add_mul]; omega]
    exact flatMap_at hf (by simpa using h) hj
theorem flatMap_set (hf : ∀ x, (f x).length = n) : ∀ {l : List α} {i j : Nat} {x x' : α} {u : Value}, l[i]? = some x → j < n → f x' = (f x).set j u → (l.flatMap f).set (i * n + j) u = (l.set i x').flatMap f
  | [], i, j, x, x', u, h, _, _ => by simp at h
  | y :: t, 0, j, x, x', u, h, hj, he => by
    cases h
    rw [List.flatMap_cons, List.set_cons_zero, List.flatMap_cons, Nat.zero_mul, Nat.zero_add, List.set_append_left _ _ (by rw [hf]; exact hj), he]
  | y :: t, i + 1, j, x, x', u, h, hj, he => by
    rw [List.flatMap_cons, List.set_cons_succ, List.flatMap_cons, List.set_append_right _ _ (by rw [hf, Nat.add_mul]; omega), hf, show (i + 1) * n + j - n = i * n + j by rw [Nat.add_mul]; omega]
    rw [flatMap_set hf (by simpa using h) hj he]
end

section
variable {α : Type} {w w' : World} {B n : Nat} {e : TypeId} {f : α → List Value} {v : Value} {l : List α}
/-- A row of one's own, as things. -/
def OwnOf (w : World) (B : Nat) (e : TypeId) (n : Nat) (f : α → List Value) (v : Value) (l : List α) : Prop := w.ownsRow B e n v l.length (l.flatMap f)
theorem OwnOf.nil (w : World) (B : Nat) (e : TypeId) (n : Nat) (f : α → List Value) : OwnOf w B e n f (.slice none 0 0) [] := World.ownsRow_nil _ _ _ _
theorem OwnOf.form (h : OwnOf w B e n f v l) : ∃ a c, v = .slice a l.length c ∧ l.length ≤ c := ownsRow_slice h
theorem OwnOf.mod {S : Nat → Prop} (h : OwnOf w B e n f v l) (hm : Mod S w w') (hS : ∀ k, v.ownBlock = some k → ¬ S k) : OwnOf w' B e n f v l :=
  ownsRow_kept h (fun k hk => hm.block k (World.ownsRow.lt h k hk).2 (hS k hk))
theorem OwnOf.base {B' : Nat} (h : OwnOf w B e n f v l) (hB : B' ≤ B) : OwnOf w B' e n f v l := ownsRow_base h (fun k hk => Nat.le_trans hB (World.ownsRow.lt h k hk).1)
theorem OwnOf.lt (h : OwnOf w B e n f v l) : ∀ k, v.ownBlock = some k → B ≤ k ∧ k < w.heap.size := World.ownsRow.lt h
theorem OwnOf.row (h : OwnOf w B e n f v l) (hf : ∀ x, (f x).length = n) (hn : 0 < n) : RowOf w n f v l := by
  have hR := ownsRow_reads h
  unfold OwnOf at h
  rcases h.2 with ⟨rfl, hl⟩ | ⟨g, cap, cur, rfl, hB, hg, hc, hm, hs, ht⟩
  · obtain rfl : l = [] := List.eq_nil_of_length_eq_zero hl
    exact ⟨none, 0, rfl, Nat.le_refl _, Nat.zero_le _, fun _ => rfl, fun i x hi => by simp at hi⟩
  · refine ⟨_, cap, rfl, hc, hm, (fun h => by cases h), fun i x hi => ⟨g, 0, rfl, lt_of_heap hg, fun j u hj => ?_⟩⟩
    have hjn : j < n := by have := (List.getElem?_eq_some_iff.1 hj).1; rwa [hf] at this
    rcases hR.2 with ⟨c', e', _⟩ | ⟨a', c', e', hh⟩
    · cases e'
    · cases e'
      have := hh (i * n + j) u (by rw [flatMap_at hf hi hjn]; exact hj)
      rw [add_plain] at this
      rw [show 0 + i * n + j = 0 + (i * n + j) by omega]
      exact this
/-- Where a row of one's own lies. -/
theorem OwnOf.block (h : OwnOf w B e n f v l) {k : Nat} {x : α} (hk : l[k]? = some x) : ∃ g c, v = .slice (some ⟨g, 0, none⟩) l.length c ∧ l.length ≤ c ∧ B ≤ g ∧ g < w.heap.size ∧ ∀ j, w.frozen? ⟨g, j, none⟩ = false := by
  have hl := (List.getElem?_eq_some_iff.1 hk).1
  unfold OwnOf at h
  rcases h.2 with ⟨rfl, hz⟩ | ⟨g, cap, cur, rfl, hB, hg, hc, hm, hs, ht⟩
  · omega
  · exact ⟨g, cap, rfl, hc, hB, lt_of_heap hg, fun j => free_of_heap hg j⟩
/-- One cell of one thing is written. -/
theorem OwnOf.set {g c : Nat} (h : OwnOf w B e n f (.slice (some ⟨g, 0, none⟩) l.length c) l) (hf : ∀ x, (f x).length = n) {k j : Nat} {x x' : α} {u : Value} (hk : l[k]? = some x) (hj : j < n) (he : f x' = (f x).set j u) :
    OwnOf (w.setCell ⟨g, k * n + j, none⟩ u) B e n f (.slice (some ⟨g, 0, none⟩) l.length c) (l.set k x') ∧ Mod (fun b => b = g) w (w.setCell ⟨g, k * n + j, none⟩ u) := by
  have hs := (World.ownsRow.stored h (k * n + j) u).1
  rw [flatMap_set hf hk hj he] at hs
  refine ⟨?_, (Mod.refl _ w).setCell u (fun _ => rfl)⟩
  unfold OwnOf
  rw [List.length_set]
  exact hs
end

theorem icell_len (x : Int) : (icell x).length = 1 := rfl
theorem curcells_len (x : Cur) : (Cur.cells x).length = 2 := rfl
theorem undcells_len (x : Und) : (Und.cells x).length = 4 := rfl
theorem inscells_len (x : Ins) : (Ins.cells x).length = 7 := rfl
theorem acccells_len (x : Acc × Value) : (Acc.cells x).length = 4 := rfl
theorem poscells_len (x : Pos) : (Pos.cells x).length = 3 := rfl
theorem ordcells_len (x : Ord) : (Ord.cells x).length = 5 := rfl

/-- Two values have no block in common. -/
def ApartV (x y : Value) : Prop := ∀ b, x.ownBlock = some b → y.ownBlock = some b → False
theorem ApartV.symm {x y : Value} (h : ApartV x y) : ApartV y x := fun b hy hx => h b hx hy
def LedV.rows (V : LedV) : List Value := V.curs :: V.unders :: V.instrs :: V.accts :: V.poss :: V.orders :: V.avail :: V.locs :: V.ac.map (·.2)
/-- A ledger whose rows are all its own. -/
structure LedOwn (w : World) (B : Nat) (V : LedV) (l : Led) : Prop where
  curs : OwnOf w B 69 2 Cur.cells V.curs l.curs
  unders : OwnOf w B 60 4 Und.cells V.unders l.unders
  instrs : OwnOf w B 54 7 Ins.cells V.instrs l.instrs
  same : l.accts = V.ac.map (·.1)
  accts : OwnOf w B 48 4 Acc.cells V.accts V.ac
  cash : ∀ p ∈ V.ac, OwnOf w B 3 1 icell p.2 p.1.cash
  poss : OwnOf w B 43 3 Pos.cells V.poss l.poss
  orders : OwnOf w B 46 5 Ord.cells V.orders l.orders
  avail : OwnOf w B 3 1 icell V.avail l.avail
  locs : OwnOf w B 95 3 Pos.cells V.locs l.locs
  sep : V.rows.Pairwise ApartV
  names : ∀ u ∈ l.unders, u.name.size ≤ maxLen
  nums : ∀ a ∈ l.accts, ∀ x ∈ a.cash, -9223372036854775808 ≤ x ∧ x ≤ 9223372036854775807
theorem LedOwn.led {w : World} {B : Nat} {V : LedV} {l : Led} (h : LedOwn w B V l) : LedAt w V l :=
  ⟨h.curs.row curcells_len (by decide), h.unders.row undcells_len (by decide), h.instrs.row inscells_len (by decide), h.same, h.accts.row acccells_len (by decide), fun p hp => (h.cash p hp).row icell_len (by decide),
   h.poss.row poscells_len (by decide), h.orders.row ordcells_len (by decide), h.avail.row icell_len (by decide), h.locs.row poscells_len (by decide), h.names, h.nums⟩
theorem LedOwn.mod {w w' : World} {B : Nat} {V : LedV} {l : Led} {S : Nat → Prop} (h : LedOwn w B V l) (hm : Mod S w w') (hS : ∀ k, B ≤ k → k < w.heap.size → ¬ S k) : LedOwn w' B V l :=
  ⟨h.curs.mod hm (fun k hk => hS k (h.curs.lt k hk).1 (h.curs.lt k hk).2), h.unders.mod hm (fun k hk => hS k (h.unders.lt k hk).1 (h.unders.lt k hk).2), h.instrs.mod hm (fun k hk => hS k (h.instrs.lt k hk).1 (h.instrs.lt k hk).2), h.same,
   h.accts.mod hm (fun k hk => hS k (h.accts.lt k hk).1 (h.accts.lt k hk).2), fun p hp => (h.cash p hp).mod hm (fun k hk => hS k ((h.cash p hp).lt k hk).1 ((h.cash p hp).lt k hk).2),
   h.poss.mod hm (fun k hk => hS k (h.poss.lt k hk).1 (h.poss.lt k hk).2), h.orders.mod hm (fun k hk => hS k (h.orders.lt k hk).1 (h.orders.lt k hk).2), h.avail.mod hm (fun k hk => hS k (h.avail.lt k hk).1 (h.avail.lt k hk).2), h.locs.mod hm (fun k hk => hS k (h.locs.lt k hk).1 (h.locs.lt k hk).2), h.sep, h.names, h.nums⟩
theorem LedOwn.below {w w' : World} {B : Nat} {V : LedV} {l : Led} (h : LedOwn w B V l) (hb : Below w.heap.size w w') : LedOwn w' B V l := h.mod (Mod.of_below hb) (fun _ _ _ h => h)
theorem LedOwn.base {w : World} {B B' : Nat} {V : LedV} {l : Led} (h : LedOwn w B V l) (hB : B' ≤ B) : LedOwn w B' V l :=
  ⟨h.curs.base hB, h.unders.base hB, h.instrs.base hB, h.same, h.accts.base hB, fun p hp => (h.cash p hp).base hB, h.poss.base hB, h.orders.base hB, h.avail.base hB, h.locs.base hB, h.sep, h.names, h.nums⟩
/-- What is known of the rows' blocks. -/
structure LedOwn.Seps (V : LedV) : Prop where
  curs : ∀ b, V.accts.ownBlock = some b → V.curs.ownBlock ≠ some b
  unders : ∀ b, V.accts.ownBlock = some b → V.unders.ownBlock ≠ some b
  instrs : ∀ b, V.accts.ownBlock = some b → V.instrs.ownBlock ≠ some b
  poss : ∀ b, V.accts.ownBlock = some b → V.poss.ownBlock ≠ some b
  orders : ∀ b, V.accts.ownBlock = some b → V.orders.ownBlock ≠ some b
  avail : ∀ b, V.accts.ownBlock = some b → V.avail.ownBlock ≠ some b
  locs : ∀ b, V.accts.ownBlock = some b → V.locs.ownBlock ≠ some b
  cash : ∀ b, V.accts.ownBlock = some b → ∀ p ∈ V.ac, p.2.ownBlock ≠ some b
theorem LedOwn.seps {w : World} {B : Nat} {V : LedV} {l : Led} (h : LedOwn w B V l) : LedOwn.Seps V := by
  have s := h.sep
  simp only [LedV.rows, List.pairwise_cons, List.mem_cons] at s
  obtain ⟨s1, s2, s3, s4, s5, s6, s7, s8, _⟩ := s
  exact ⟨fun b ha hx => s1 V.accts (by simp) b hx ha, fun b ha hx => s2 V.accts (by simp) b hx ha, fun b ha hx => s3 V.accts (by simp) b hx ha, fun b ha hx => s4 V.poss (by simp) b ha hx,
    fun b ha hx => s4 V.orders (by simp) b ha hx, fun b ha hx => s4 V.avail (by simp) b ha hx, fun b ha hx => s4 V.locs (by simp) b ha hx, fun b ha p hp hx => s4 p.2 (by simp only [List.mem_map]; exact Or.inr (Or.inr (Or.inr (Or.inr ⟨p, hp, rfl⟩)))) b ha hx⟩
theorem map_set_same {α β : Type} (f : α → β) {l : List α} {k : Nat} {x x' : α} (hk : l[k]? = some x) (h : f x' = f x) : (l.set k x').map f = l.map f := by
  rw [List.map_set, h]
  apply List.ext_getElem?
  intro i
  rw [List.getElem?_set]
  by_cases e : k = i
  · subst e
    have := (List.getElem?_eq_some_iff.1 hk).1
    simp [this, hk]
    rw [(List.getElem?_eq_some_iff.1 hk).2]
  · simp [e]
/-- One cell of an account is written, its cash stays. -/
theorem LedOwn.acct {w : World} {B : Nat} {V : LedV} {l : Led} (h : LedOwn w B V l) {g c k j : Nat} (hv : V.accts = .slice (some ⟨g, 0, none⟩) V.ac.length c) {p p' : Acc × Value} {u : Value} (hk : V.ac[k]? = some p) (hj : j < 4)
    (he : Acc.cells p' = (Acc.cells p).set j u) (h2 : p'.2 = p.2) (hc : p'.1.cash = p.1.cash) :
    LedOwn (w.setCell ⟨g, k * 4 + j, none⟩ u) B { V with ac := V.ac.set k p' } { l with accts := l.accts.set k p'.1 } ∧ Mod (fun b => b = g) w (w.setCell ⟨g, k * 4 + j, none⟩ u) := by
  have S := h.seps
  have hg : V.accts.ownBlock = some g := by rw [hv]; rfl
  have hA := h.accts
  rw [hv] at hA
  obtain ⟨hs, M⟩ := hA.set acccells_len hk hj he
  have mm : ∀ q ∈ V.ac.set k p', OwnOf w B 3 1 icell q.2 q.1.cash ∧ q.2.ownBlock ≠ some g := by
    intro q hq
    rcases List.mem_or_eq_of_mem_set hq with hq | rfl
    · exact ⟨h.cash q hq, S.cash g hg q hq⟩
    · have hp := List.mem_of_getElem? hk
      rw [h2, hc]
      exact ⟨h.cash p hp, S.cash g hg p hp⟩
  refine ⟨⟨h.curs.mod M (fun k hk e => S.curs g hg (by rw [← e]; exact hk)), h.unders.mod M (fun k hk e => S.unders g hg (by rw [← e]; exact hk)), h.instrs.mod M (fun k hk e => S.instrs g hg (by rw [← e]; exact hk)),
    by show l.accts.set k p'.1 = (V.ac.set k p').map (·.1); rw [List.map_set, h.same], ?_, fun q hq => (mm q hq).1.mod M (fun k hk e => (mm q hq).2 (by rw [← e]; exact hk)), h.poss.mod M (fun k hk e => S.poss g hg (by rw [← e]; exact hk)),
    h.orders.mod M (fun k hk e => S.orders g hg (by rw [← e]; exact hk)), h.avail.mod M (fun k hk e => S.avail g hg (by rw [← e]; exact hk)), h.locs.mod M (fun k hk e => S.locs g hg (by rw [← e]; exact hk)), ?_, h.names, ?_⟩, M⟩
  · show OwnOf _ B _ 4 Acc.cells V.accts (V.ac.set k p')
    rw [hv]; exact hs
  · have : ({ V with ac := V.ac.set k p' } : LedV).rows = V.rows := by
      simp only [LedV.rows]
      rw [map_set_same (fun q : Acc × Value => q.2) hk h2]
    rw [this]; exact h.sep
  · intro a ha x hx
    rcases List.mem_or_eq_of_mem_set ha with ha | rfl
    · exact h.nums a ha x hx
    · rw [hc] at hx
      exact h.nums p.1 (by rw [h.same]; exact List.mem_map.2 ⟨p, List.mem_of_getElem? hk, rfl⟩) x hx
/-- One amount of an account's cash is written. -/
theorem LedOwn.setCash {w : World} {B : Nat} {V : LedV} {l : Led} (h : LedOwn w B V l) {k : Nat} {p : Acc × Value} (hk : V.ac[k]? = some p) {g c : Nat} (hv : p.2 = .slice (some ⟨g, 0, none⟩) p.1.cash.length c) {n : Nat} {y x : Int} (hn : p.1.cash[n]? = some y)
    (hx : -9223372036854775808 ≤ x ∧ x ≤ 9223372036854775807) :
    LedOwn (w.setCell ⟨g, n, none⟩ (.int .i64 x)) B { V with ac := V.ac.set k ({ p.1 with cash := p.1.cash.set n x }, p.2) } { l with accts := l.accts.set k { p.1 with cash := p.1.cash.set n x } } ∧ Mod (fun b => b = g) w (w.setCell ⟨g, n, none⟩ (.int .i64 x)) := by
  have hg : p.2.ownBlock = some g := by rw [hv]; rfl
  have hp := List.mem_of_getElem? hk
  have s := h.sep
  simp only [LedV.rows, List.pairwise_cons, List.mem_cons] at s
  obtain ⟨s1, s2, s3, s4, s5, s6, s7, s8, s9⟩ := s
  have hin : p.2 ∈ V.ac.map (·.2) := List.mem_map.2 ⟨p, hp, rfl⟩
  have hA := h.cash p hp
  rw [hv] at hA
  obtain ⟨hs, M⟩ := hA.set (x' := x) (u := .int .i64 x) (j := 0) icell_len hn (by decide) rfl
  simp only [Nat.mul_one, Nat.add_zero] at hs M
  have other : ∀ (i : Nat) q, i ≠ k → V.ac[i]? = some q → q.2.ownBlock ≠ some g := by
    intro i q hi hq hb
    have e1 : (V.ac.map (·.2))[i]? = some q.2 := by rw [List.getElem?_map, hq]; rfl
    have e2 : (V.ac.map (·.2))[k]? = some p.2 := by rw [List.getElem?_map, hk]; rfl
    obtain ⟨i1, i2⟩ := List.getElem?_eq_some_iff.1 e1
    obtain ⟨k1, k2⟩ := List.getElem?_eq_some_iff.1 e2
    rcases Nat.lt_or_gt_of_ne hi with hlt | hlt
    · have := List.pairwise_iff_getElem.1 s9 i k i1 k1 hlt
      rw [i2, k2] at this
      exact this g hb hg
    · have := List.pairwise_iff_getElem.1 s9 k i k1 i1 hlt
      rw [i2, k2] at this
      exact this g hg hb
  have e2 : (V.ac.set k ({ p.1 with cash := p.1.cash.set n x }, p.2)).map (fun q => q.2) = V.ac.map (fun q => q.2) := map_set_same _ hk rfl
  refine ⟨⟨h.curs.mod M (fun b hb e => s1 p.2 (by simp [hin]) b hb (by rw [e]; exact hg)), h.unders.mod M (fun b hb e => s2 p.2 (by simp [hin]) b hb (by rw [e]; exact hg)), h.instrs.mod M (fun b hb e => s3 p.2 (by simp [hin]) b hb (by rw [e]; exact hg)),
    by show l.accts.set k _ = (V.ac.set k _).map (·.1); rw [List.map_set, h.same], ?_, ?_, h.poss.mod M (fun b hb e => s5 p.2 (by simp [hin]) b hb (by rw [e]; exact hg)),
    h.orders.mod M (fun b hb e => s6 p.2 (by simp [hin]) b hb (by rw [e]; exact hg)), h.avail.mod M (fun b hb e => s7 p.2 (by simp [hin]) b hb (by rw [e]; exact hg)), h.locs.mod M (fun b hb e => s8 p.2 (by simp only [hin]) b hb (by rw [e]; exact hg)), ?_, h.names, ?_⟩, M⟩
  · have hacc := h.accts.mod M (fun b hb e => s4 p.2 (by simp [hin]) b hb (by rw [e]; exact hg))
    show OwnOf _ B _ 4 Acc.cells V.accts (V.ac.set k ({ p.1 with cash := p.1.cash.set n x }, p.2))
    have e3 : (V.ac.set k ({ p.1 with cash := p.1.cash.set n x }, p.2)).flatMap Acc.cells = V.ac.flatMap Acc.cells := by
      rw [List.flatMap_def, List.flatMap_def, map_set_same Acc.cells (x' := ({ p.1 with cash := p.1.cash.set n x }, p.2)) hk rfl]
    unfold OwnOf at hacc ⊢
    rw [e3, List.length_set]; exact hacc
  · intro q hq
    obtain ⟨i, hi, rfl⟩ := List.mem_iff_getElem.1 hq
    rw [List.length_set] at hi
    rw [List.getElem_set]
    by_cases e : k = i
    · subst e
      rw [if_pos rfl]
      show OwnOf _ B _ 1 icell p.2 (p.1.cash.set n x)
      rw [hv]; exact hs
    · rw [if_neg e]
      exact (h.cash _ (List.getElem_mem hi)).mod M (fun b hb e' => other i _ (fun h => e h.symm) (List.getElem?_eq_getElem hi) (by rw [← e']; exact hb))
  · have : ({ V with ac := V.ac.set k ({ p.1 with cash := p.1.cash.set n x }, p.2) } : LedV).rows = V.rows := by
      simp only [LedV.rows]
      rw [e2]
    rw [this]; exact h.sep
  · intro a ha z hz
    rcases List.mem_or_eq_of_mem_set ha with ha | rfl
    · exact h.nums a ha z hz
    · rcases List.mem_or_eq_of_mem_set hz with hz | rfl
      · exact h.nums p.1 (by rw [h.same]; exact List.mem_map.2 ⟨p, hp, rfl⟩) z hz
      · exact hx
end Go.Bw

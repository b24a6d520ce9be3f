/- How a ledger lies in memory. No program is named. -/
import Derived.Test.YtcjbhgnlmmeeeaaGreatDoorMgA
import Derived.Test.YtcjbhgnlmmeeeaaGreatDoorMgB
namespace Go.Bw
open Go.RowKit
set_option linter.unusedVariables false
set_option linter.unusedSimpArgs false

/-- A slice of things of n cells each. -/
structure RowOf {α : Type} (w : World) (n : Nat) (f : α → List Value) (v : Value) (l : List α) : Prop where
  ex : ∃ a c, v = .slice a l.length c ∧ l.length ≤ c ∧ c ≤ maxLen ∧ (a = none → c = 0) ∧
    ∀ (i : Nat) (x : α), l[i]? = some x → ∃ b o, a = some ⟨b, o, none⟩ ∧ b < w.heap.size ∧ ∀ j u, (f x)[j]? = some u → w.cell? ⟨b, o + i * n + j, none⟩ = some u
variable {α : Type} {w w' : World} {n : Nat} {f : α → List Value} {v : Value} {l : List α}
theorem RowOf.form (h : RowOf w n f v l) : ∃ a c, v = .slice a l.length c := by obtain ⟨a, c, h, _⟩ := h.ex; exact ⟨a, c, h⟩
theorem RowOf.caps {a : Option Addr} {m c : Nat} (h : RowOf w n f (.slice a m c) l) : m = l.length ∧ l.length ≤ c ∧ c ≤ maxLen ∧ (a = none → c = 0) := by
  obtain ⟨a', c', e, h1, h2, h3, _⟩ := h.ex
  cases e
  exact ⟨rfl, h1, h2, h3⟩
theorem RowOf.at_ {a : Option Addr} {m c : Nat} (h : RowOf w n f (.slice a m c) l) {k : Nat} {x : α} (hx : l[k]? = some x) :
    ∃ b o, a = some ⟨b, o, none⟩ ∧ b < w.heap.size ∧ ∀ j u, (f x)[j]? = some u → w.cell? ⟨b, o + k * n + j, none⟩ = some u := by
  obtain ⟨a', c', e, _, _, _, h4⟩ := h.ex
  cases e
  exact h4 k x hx
theorem RowOf.mod {S : Nat → Prop} (h : RowOf w n f v l) (hm : Mod S w w') (hS : ∀ k, k < w.heap.size → ¬ S k) : RowOf w' n f v l := by
  obtain ⟨a, c, h1, h2, h3, h4, h5⟩ := h.ex
  refine ⟨a, c, h1, h2, h3, h4, fun i x hi => ?_⟩
  obtain ⟨b, o, e, hb, hc⟩ := h5 i x hi
  exact ⟨b, o, e, Nat.lt_of_lt_of_le hb hm.size, fun j u hj => hm.cell (hc j u hj) (hS b hb)⟩
theorem RowOf.kept {S : Nat → Prop} (h : RowOf w n f v l) (hm : Mod S w w') (hS : ∀ k, v.ownBlock = some k → ¬ S k) : RowOf w' n f v l := by
  obtain ⟨a, c, h1, h2, h3, h4, h5⟩ := h.ex
  refine ⟨a, c, h1, h2, h3, h4, fun i x hi => ?_⟩
  obtain ⟨b, o, e, hb, hc⟩ := h5 i x hi
  exact ⟨b, o, e, Nat.lt_of_lt_of_le hb hm.size, fun j u hj => hm.cell (hc j u hj) (hS b (by rw [h1, e]; rfl))⟩
theorem RowOf.below (h : RowOf w n f v l) (hb : Below w.heap.size w w') : RowOf w' n f v l := h.mod (Mod.of_below hb) (fun _ _ h => h)
theorem RowOf.reads (h : RowOf w n f v l) (hf : ∀ x, (f x).length = n) : Reads w n v l.length (l.flatMap f) := by
  obtain ⟨a, c, h1, h2, h3, h4, h5⟩ := h.ex
  have hlen : (l.flatMap f).length = l.length * n := by
    clear h5 h1 h2 h
    induction l with
    | nil => simp
    | cons x r ih => rw [List.flatMap_cons, List.length_append, hf, ih, List.length_cons, Nat.succ_mul, Nat.add_comm]
  refine ⟨hlen, ?_⟩
  cases l with
  | nil =>
    cases a with
    | none => exact Or.inl ⟨c, h1, rfl⟩
    | some a => exact Or.inr ⟨a, c, h1, fun j u hj => by simp at hj⟩
  | cons x r =>
    obtain ⟨b, o, e, _, _⟩ := h5 0 x rfl
    subst e
    refine Or.inr ⟨_, _, h1, fun j u hj => ?_⟩
    have hj' := (List.getElem?_eq_some_iff.1 hj).1
    rw [hlen] at hj'
    have hn : 0 < n := by
      rcases Nat.eq_zero_or_pos n with h0 | h0
      · subst h0; simp at hj'
      · exact h0
    have hi : j / n < (x :: r).length := by rw [Nat.div_lt_iff_lt_mul hn]; exact hj'
    obtain ⟨b', o', e', _, hc⟩ := h5 (j / n) _ (List.getElem?_eq_getElem hi)
    cases e'
    have hfl : ∀ (l : List α) (i : Nat) (j : Nat) (hi : i < l.length), j < n → (l.flatMap f)[i * n + j]? = (f l[i])[j]? := by
      intro l
      induction l with
      | nil => intro i j hi; simp at hi
      | cons y t ih =>
        intro i j hi hjn
        cases i with
        | zero => simp only [List.flatMap_cons, Nat.zero_mul, Nat.zero_add]; rw [List.getElem?_append_left (by rw [hf]; exact hjn)]; rfl
        | succ i =>
          simp only [List.flatMap_cons]
          rw [List.getElem?_append_right (by rw [hf, Nat.add_mul]; omega), hf, show (i + 1) * n + j - n = i * n + j by rw [Nat.add_mul]; omega]
          exact ih i j (by simpa using hi) hjn
    have hdm : j = j / n * n + j % n := by have := Nat.div_add_mod j n; rw [Nat.mul_comm] at this; exact this.symm
    rw [add_plain, hdm, ← Nat.add_assoc]
    refine hc (j % n) u ?_
    rw [← hfl (x :: r) (j / n) (j % n) hi (Nat.mod_lt _ hn), ← hdm]
    exact hj

def icell (x : Int) : List Value := [.int .i64 x]
def Cur.cells (c : Cur) : List Value := [.int .i64 c.rate, .int .i64 c.hair]
def Und.cells (u : Und) : List Value := [.string u.name, .int .i64 u.cur, .int .i64 u.price, .int .i64 u.vol]
def Ins.cells (i : Ins) : List Value := [.int .i64 i.kind, .int .i64 i.under, .int .i64 i.mult, .int .i64 i.strike, .int .i64 i.expiry, .bool i.call, .int .i64 i.mark]
def Acc.cells (p : Acc × Value) : List Value := [.int .i64 p.1.parent, p.2, .bool p.1.flag, .int .i64 p.1.last]
def Pos.cells (p : Pos) : List Value := [.int .i64 p.acct, .int .i64 p.instr, .int .i64 p.qty]
def Ord.cells (o : Ord) : List Value := [.int .i64 o.acct, .int .i64 o.id, .int .i64 o.instr, .int .i64 o.qty, .int .i64 o.price]

/-- A ledger's values: its slices; the accounts with their cash. -/
structure LedV where
  curs : Value
  unders : Value
  instrs : Value
  accts : Value
  poss : Value
  orders : Value
  avail : Value
  locs : Value
  ac : List (Acc × Value)
def LedV.cells (V : LedV) (l : Led) : Array Value := #[.int .i64 l.day, V.curs, V.unders, V.instrs, V.accts, V.poss, V.orders, V.avail, V.locs]
def LedV.val (V : LedV) (l : Led) : Value := .agg (V.cells l)
structure LedAt (w : World) (V : LedV) (l : Led) : Prop where
  curs : RowOf w 2 Cur.cells V.curs l.curs
  unders : RowOf w 4 Und.cells V.unders l.unders
  instrs : RowOf w 7 Ins.cells V.instrs l.instrs
  same : l.accts = V.ac.map (·.1)
  accts : RowOf w 4 Acc.cells V.accts V.ac
  cash : ∀ p ∈ V.ac, RowOf w 1 icell p.2 p.1.cash
  poss : RowOf w 3 Pos.cells V.poss l.poss
  orders : RowOf w 5 Ord.cells V.orders l.orders
  avail : RowOf w 1 icell V.avail l.avail
  locs : RowOf w 3 Pos.cells V.locs l.locs
  names : ∀ u ∈ l.unders, u.name.size ≤ maxLen
  nums : ∀ a ∈ l.accts, ∀ x ∈ a.cash, -9223372036854775808 ≤ x ∧ x ≤ 9223372036854775807
theorem LedAt.mod {V : LedV} {l : Led} {S : Nat → Prop} (h : LedAt w V l) (hm : Mod S w w') (hS : ∀ k, k < w.heap.size → ¬ S k) : LedAt w' V l :=
  ⟨h.curs.mod hm hS, h.unders.mod hm hS, h.instrs.mod hm hS, h.same, h.accts.mod hm hS, fun p hp => (h.cash p hp).mod hm hS, h.poss.mod hm hS, h.orders.mod hm hS, h.avail.mod hm hS, h.locs.mod hm hS, h.names, h.nums⟩
theorem LedAt.below {V : LedV} {l : Led} (h : LedAt w V l) (hb : Below w.heap.size w w') : LedAt w' V l := h.mod (Mod.of_below hb) (fun _ _ h => h)
/-- A ledger in a box of its own. -/
structure LedBox (w : World) (b : Nat) (V : LedV) (l : Led) (T : TypeId) : Prop where
  box : w.heap[b]? = some (.cells (V.cells l) T (0, 0))
  led : LedAt w V l

/-- The place of the first of which it holds; -1. -/
def idxL (p : α → Bool) (l : List α) : Int := match l.findIdx? p with | some i => (i : Int) | none => -1
theorem idxL_hit {p : α → Bool} {l : List α} {k : Nat} {x : α} (h : ∀ (j : Nat) y, j < k → l[j]? = some y → p y = false) (hk : l[k]? = some x) (hp : p x = true) : idxL p l = k := by
  have hkl := (List.getElem?_eq_some_iff.1 hk).1
  have : l.findIdx? p = some k := by
    rw [List.findIdx?_eq_some_iff_getElem]
    refine ⟨hkl, by rw [(List.getElem?_eq_some_iff.1 hk).2]; exact hp, fun j hj => ?_⟩
    have := h j _ hj (List.getElem?_eq_getElem (by omega))
    simp [this]
  unfold idxL; rw [this]
theorem idxL_miss {p : α → Bool} {l : List α} (h : ∀ (j : Nat) y, j < l.length → l[j]? = some y → p y = false) : idxL p l = -1 := by
  have : l.findIdx? p = none := by
    rw [List.findIdx?_eq_none_iff]
    intro x hx
    obtain ⟨j, hj, e⟩ := List.mem_iff_getElem.1 hx
    subst e
    exact h j _ hj (List.getElem?_eq_getElem hj)
  unfold idxL; rw [this]
theorem idxL_any (p : α → Bool) (l : List α) : decide (0 ≤ idxL p l) = l.any p := by
  unfold idxL
  cases h : l.findIdx? p with
  | none =>
    rw [List.findIdx?_eq_none_iff] at h
    simp only [Int.reduceNeg]
    symm
    rw [decide_eq_false (by omega), List.any_eq_false]
    intro x hx; simp [h x hx]
  | some i =>
    simp only
    rw [decide_eq_true (by omega)]
    symm
    rw [List.findIdx?_eq_some_iff_getElem] at h
    obtain ⟨hi, hp, _⟩ := h
    exact List.any_eq_true.2 ⟨l[i], List.getElem_mem _, hp⟩
end Go.Bw

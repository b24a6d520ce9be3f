/- A ledger that came in, opened. -/
import Derived.Test.YtcjbhgnlmmeeeaaGreatDoorMgA
import Derived.Test.YtcjbhgnlmmeeeaaGreatDoorGen
namespace Go.Proofs.YtcjbhgnlmmeeeaaGreatDoor
open Go.RowKit Go.Bw Go.Maps Go.Shelf
set_option linter.unusedVariables false
set_option linter.unusedSimpArgs false

/-- How much a ledger holds. -/
def _root_.Go.Bw.Led.bulk (L : Led) : Nat := L.curs.length + L.unders.length + L.instrs.length + L.poss.length + L.orders.length + L.avail.length + L.locs.length + L.accts.length
structure _root_.Go.Bw.Led.Short (L : Led) : Prop where
  b1 : L.curs.length ≤ 140737488355328
  b2 : L.unders.length ≤ 140737488355328
  b3 : L.instrs.length ≤ 140737488355328
  b4 : L.accts.length ≤ 140737488355328
  b5 : L.poss.length ≤ 140737488355328
  b6 : L.orders.length ≤ 140737488355328
  b7 : L.avail.length ≤ 140737488355328
  b8 : L.locs.length ≤ 140737488355328
theorem i64_in {w : World} {c : Value} (h : HasVal Tryz.prog w 3 [c]) : ∃ x : Int, c = .int .i64 x ∧ -9223372036854775808 ≤ x ∧ x ≤ 9223372036854775807 := by
  obtain ⟨n, h1, h2⟩ := h.int Tryz.underlying3
  simp at h1
  have m1 : IntKind.min .i64 = -9223372036854775808 := rfl
  have m2 : IntKind.max .i64 = 9223372036854775807 := rfl
  simp only [Lit.wf, Bool.and_eq_true, decide_eq_true_eq, m1, m2] at h2
  exact ⟨n, h1, h2⟩
theorem bool_in {w : World} {c : Value} (h : HasVal Tryz.prog w 4 [c]) : ∃ x : Bool, c = .bool x := by
  obtain ⟨n, h1⟩ := h.bool Tryz.underlying4
  simp at h1
  exact ⟨n, h1⟩
theorem str_in {w : World} {c : Value} (h : HasVal Tryz.prog w 9 [c]) : ∃ x : ByteArray, c = .string x ∧ x.size ≤ maxLen := by
  obtain ⟨n, h1, h2, h3⟩ := h.string Tryz.underlying9
  simp at h1
  exact ⟨n, h1, h3⟩
/-- A slice of things that came in. -/
theorem row_in {α : Type} {w : World} {t e : TypeId} {n : Nat} {v : Value} (f : α → List Value) (Pr : α → Prop) (ht : Tryz.prog.underlying t = some (.slice e)) (hn : Tryz.prog.cellsOf e = n) (h0 : 0 < n)
    (hby : Nat.ble 1 (Tryz.prog.bytesOf e) = true) (hel : ∀ cs, cs.length = n → HasVal Tryz.prog w e cs → ∃ x : α, cs = f x ∧ Pr x) (h : HasVal Tryz.prog w t [v]) : ∃ l : List α, RowOf w n f v l ∧ l.length ≤ 140737488355328 ∧ ∀ x ∈ l, Pr x := by
  obtain ⟨a, len, cap, hv, hl, hm, hnil, hre, hrow⟩ := h.row ht hn h0
  have hlen : len ≤ 140737488355328 := by
    have h1 : 0 < Tryz.prog.bytesOf e := Nat.le_of_ble_eq_true hby
    have h2 : cap * 1 ≤ cap * Tryz.prog.bytesOf e := Nat.mul_le_mul_left _ h1
    unfold reachBytes at hre
    omega
  cases hv
  have hI : ∀ i, i < len → ∃ x : α, Pr x ∧ ∃ b o, a = some ⟨b, o, none⟩ ∧ b < w.heap.size ∧ ∀ j u, (f x)[j]? = some u → w.cell? ⟨b, o + i * n + j, none⟩ = some u := fun i hi => by
    obtain ⟨b, o, cs, ha, hc, hcell, hval⟩ := hrow i (by omega)
    obtain ⟨x, rfl, hp⟩ := hel cs hc hval
    refine ⟨x, hp, b, o, ha, ?_, hcell⟩
    have := hcell 0 _ (List.getElem?_eq_getElem (by omega))
    exact World.block_lt_of_cell? w _ this
  by_cases hz : len = 0
  · subst hz
    exact ⟨[], ⟨a, cap, rfl, Nat.zero_le _, hm, hnil, fun i x hi => by simp at hi⟩, Nat.zero_le _, fun x hx => by cases hx⟩
  · obtain ⟨x0, _⟩ := hI 0 (by omega)
    haveI hne : Inhabited α := ⟨x0⟩
    obtain ⟨g, hg⟩ := Deep.choose_lt hI
    refine ⟨(List.range len).map g, ⟨a, cap, by simp, by simpa using hl, hm, hnil, fun i x hi => ?_⟩, by simpa using hlen, fun x hx => ?_⟩
    · have hil : i < len := by have := (List.getElem?_eq_some_iff.1 hi).1; simpa using this
      simp [hil] at hi
      subst hi
      exact (hg i hil).2
    · obtain ⟨i, hi, rfl⟩ := List.mem_map.1 hx
      exact (hg i (List.mem_range.1 hi)).1
theorem ints_in {w : World} {v : Value} (h : HasVal Tryz.prog w 28 [v]) : ∃ l : List Int, RowOf w 1 icell v l ∧ l.length ≤ 140737488355328 ∧ ∀ x ∈ l, -9223372036854775808 ≤ x ∧ x ≤ 9223372036854775807 :=
  row_in icell _ Tryz.underlying28 (by kernel_rfl) (by decide) (by kernel_rfl) (fun cs hc hv => by
    match cs, hc with
    | [c], _ => obtain ⟨x, rfl, h1⟩ := i64_in hv; exact ⟨x, rfl, h1⟩) h
theorem curs_in {w : World} {v : Value} (h : HasVal Tryz.prog w 22 [v]) : ∃ l : List Cur, RowOf w 2 Cur.cells v l ∧ l.length ≤ 140737488355328 ∧ ∀ x ∈ l, True :=
  row_in Cur.cells _ Tryz.underlying22 (by kernel_rfl) (by decide) (by kernel_rfl) (fun cs hc hv => by
    match cs, hc with
    | [c0, c1], _ =>
      have h0 := hv.field Tryz.underlying69 0 (u := 3) rfl (by kernel_rfl) (c := c0) rfl
      have h1 := hv.field Tryz.underlying69 1 (u := 3) rfl (by kernel_rfl) (c := c1) rfl
      obtain ⟨x0, rfl, _⟩ := i64_in h0
      obtain ⟨x1, rfl, _⟩ := i64_in h1
      exact ⟨⟨x0, x1⟩, rfl, trivial⟩) h
theorem unders_in {w : World} {v : Value} (h : HasVal Tryz.prog w 23 [v]) : ∃ l : List Und, RowOf w 4 Und.cells v l ∧ l.length ≤ 140737488355328 ∧ ∀ x ∈ l, x.name.size ≤ maxLen :=
  row_in Und.cells _ Tryz.underlying23 (by kernel_rfl) (by decide) (by kernel_rfl) (fun cs hc hv => by
    match cs, hc with
    | [c0, c1, c2, c3], _ =>
      have h0 := hv.field Tryz.underlying60 0 (u := 9) rfl (by kernel_rfl) (c := c0) rfl
      have h1 := hv.field Tryz.underlying60 1 (u := 3) rfl (by kernel_rfl) (c := c1) rfl
      have h2 := hv.field Tryz.underlying60 2 (u := 3) rfl (by kernel_rfl) (c := c2) rfl
      have h3 := hv.field Tryz.underlying60 3 (u := 3) rfl (by kernel_rfl) (c := c3) rfl
      obtain ⟨x0, rfl, hx⟩ := str_in h0
      obtain ⟨x1, rfl, _⟩ := i64_in h1
      obtain ⟨x2, rfl, _⟩ := i64_in h2
      obtain ⟨x3, rfl, _⟩ := i64_in h3
      exact ⟨⟨x0, x1, x2, x3⟩, rfl, hx⟩) h
theorem instrs_in {w : World} {v : Value} (h : HasVal Tryz.prog w 24 [v]) : ∃ l : List Ins, RowOf w 7 Ins.cells v l ∧ l.length ≤ 140737488355328 ∧ ∀ x ∈ l, True :=
  row_in Ins.cells _ Tryz.underlying24 (by kernel_rfl) (by decide) (by kernel_rfl) (fun cs hc hv => by
    match cs, hc with
    | [c0, c1, c2, c3, c4, c5, c6], _ =>
      have h0 := hv.field Tryz.underlying54 0 (u := 3) rfl (by kernel_rfl) (c := c0) rfl
      have h1 := hv.field Tryz.underlying54 1 (u := 3) rfl (by kernel_rfl) (c := c1) rfl
      have h2 := hv.field Tryz.underlying54 2 (u := 3) rfl (by kernel_rfl) (c := c2) rfl
      have h3 := hv.field Tryz.underlying54 3 (u := 3) rfl (by kernel_rfl) (c := c3) rfl
      have h4 := hv.field Tryz.underlying54 4 (u := 3) rfl (by kernel_rfl) (c := c4) rfl
      have h5 := hv.field Tryz.underlying54 5 (u := 4) rfl (by kernel_rfl) (c := c5) rfl
      have h6 := hv.field Tryz.underlying54 6 (u := 3) rfl (by kernel_rfl) (c := c6) rfl
      obtain ⟨x0, rfl, _⟩ := i64_in h0
      obtain ⟨x1, rfl, _⟩ := i64_in h1
      obtain ⟨x2, rfl, _⟩ := i64_in h2
      obtain ⟨x3, rfl, _⟩ := i64_in h3
      obtain ⟨x4, rfl, _⟩ := i64_in h4
      obtain ⟨x5, rfl⟩ := bool_in h5
      obtain ⟨x6, rfl, _⟩ := i64_in h6
      exact ⟨⟨x0, x1, x2, x3, x4, x5, x6⟩, rfl, trivial⟩) h
theorem accts_in {w : World} {v : Value} (h : HasVal Tryz.prog w 25 [v]) : ∃ l : List (Acc × Value), RowOf w 4 Acc.cells v l ∧ l.length ≤ 140737488355328 ∧ ∀ p ∈ l, RowOf w 1 icell p.2 p.1.cash ∧ ∀ x ∈ p.1.cash, -9223372036854775808 ≤ x ∧ x ≤ 9223372036854775807 :=
  row_in Acc.cells _ Tryz.underlying25 (by kernel_rfl) (by decide) (by kernel_rfl) (fun cs hc hv => by
    match cs, hc with
    | [c0, c1, c2, c3], _ =>
      have h0 := hv.field Tryz.underlying48 0 (u := 3) rfl (by kernel_rfl) (c := c0) rfl
      have h1 := hv.field Tryz.underlying48 1 (u := 28) rfl (by kernel_rfl) (c := c1) rfl
      have h2 := hv.field Tryz.underlying48 2 (u := 4) rfl (by kernel_rfl) (c := c2) rfl
      have h3 := hv.field Tryz.underlying48 3 (u := 3) rfl (by kernel_rfl) (c := c3) rfl
      obtain ⟨x0, rfl, _⟩ := i64_in h0
      obtain ⟨cash, hr, _, hb⟩ := ints_in h1
      obtain ⟨x2, rfl⟩ := bool_in h2
      obtain ⟨x3, rfl, _⟩ := i64_in h3
      exact ⟨(⟨x0, cash, x2, x3⟩, c1), rfl, hr, hb⟩) h
theorem poss_in {w : World} {v : Value} (h : HasVal Tryz.prog w 26 [v]) : ∃ l : List Pos, RowOf w 3 Pos.cells v l ∧ l.length ≤ 140737488355328 ∧ ∀ x ∈ l, True :=
  row_in Pos.cells _ Tryz.underlying26 (by kernel_rfl) (by decide) (by kernel_rfl) (fun cs hc hv => by
    match cs, hc with
    | [c0, c1, c2], _ =>
      have h0 := hv.field Tryz.underlying43 0 (u := 3) rfl (by kernel_rfl) (c := c0) rfl
      have h1 := hv.field Tryz.underlying43 1 (u := 3) rfl (by kernel_rfl) (c := c1) rfl
      have h2 := hv.field Tryz.underlying43 2 (u := 3) rfl (by kernel_rfl) (c := c2) rfl
      obtain ⟨x0, rfl, _⟩ := i64_in h0
      obtain ⟨x1, rfl, _⟩ := i64_in h1
      obtain ⟨x2, rfl, _⟩ := i64_in h2
      exact ⟨⟨x0, x1, x2⟩, rfl, trivial⟩) h
theorem locs_in {w : World} {v : Value} (h : HasVal Tryz.prog w 29 [v]) : ∃ l : List Pos, RowOf w 3 Pos.cells v l ∧ l.length ≤ 140737488355328 ∧ ∀ x ∈ l, True :=
  row_in Pos.cells _ Tryz.underlying29 (by kernel_rfl) (by decide) (by kernel_rfl) (fun cs hc hv => by
    match cs, hc with
    | [c0, c1, c2], _ =>
      have h0 := hv.field Tryz.underlying95 0 (u := 3) rfl (by kernel_rfl) (c := c0) rfl
      have h1 := hv.field Tryz.underlying95 1 (u := 3) rfl (by kernel_rfl) (c := c1) rfl
      have h2 := hv.field Tryz.underlying95 2 (u := 3) rfl (by kernel_rfl) (c := c2) rfl
      obtain ⟨x0, rfl, _⟩ := i64_in h0
      obtain ⟨x1, rfl, _⟩ := i64_in h1
      obtain ⟨x2, rfl, _⟩ := i64_in h2
      exact ⟨⟨x0, x1, x2⟩, rfl, trivial⟩) h
theorem orders_in {w : World} {v : Value} (h : HasVal Tryz.prog w 27 [v]) : ∃ l : List Ord, RowOf w 5 Ord.cells v l ∧ l.length ≤ 140737488355328 ∧ ∀ x ∈ l, True :=
  row_in Ord.cells _ Tryz.underlying27 (by kernel_rfl) (by decide) (by kernel_rfl) (fun cs hc hv => by
    match cs, hc with
    | [c0, c1, c2, c3, c4], _ =>
      have h0 := hv.field Tryz.underlying46 0 (u := 3) rfl (by kernel_rfl) (c := c0) rfl
      have h1 := hv.field Tryz.underlying46 1 (u := 3) rfl (by kernel_rfl) (c := c1) rfl
      have h2 := hv.field Tryz.underlying46 2 (u := 3) rfl (by kernel_rfl) (c := c2) rfl
      have h3 := hv.field Tryz.underlying46 3 (u := 3) rfl (by kernel_rfl) (c := c3) rfl
      have h4 := hv.field Tryz.underlying46 4 (u := 3) rfl (by kernel_rfl) (c := c4) rfl
      obtain ⟨x0, rfl, _⟩ := i64_in h0
      obtain ⟨x1, rfl, _⟩ := i64_in h1
      obtain ⟨x2, rfl, _⟩ := i64_in h2
      obtain ⟨x3, rfl, _⟩ := i64_in h3
      obtain ⟨x4, rfl, _⟩ := i64_in h4
      exact ⟨⟨x0, x1, x2, x3, x4⟩, rfl, trivial⟩) h
theorem led_cells : Tryz.prog.cellsOf 31 = 9 := by kernel_rfl
set_option maxRecDepth 100000 in
/-- A ledger that came in. -/
theorem led_in {w : World} {cs : Array Value} (h : HasVal Tryz.prog w 31 cs.toList) : ∃ V l, .agg cs = LedV.val V l ∧ LedAt w V l ∧ Led.Short l := by
  obtain ⟨hlen, _⟩ := h.struct Tryz.underlying31
  rw [led_cells] at hlen
  obtain ⟨cs⟩ := cs
  match cs, hlen with
  | [c0, c1, c2, c3, c4, c5, c6, c7, c8], _ =>
    have h0 := h.field Tryz.underlying31 0 (u := 3) rfl (by kernel_rfl) (c := c0) rfl
    have h1 := h.field Tryz.underlying31 1 (u := 22) rfl (by kernel_rfl) (c := c1) rfl
    have h2 := h.field Tryz.underlying31 2 (u := 23) rfl (by kernel_rfl) (c := c2) rfl
    have h3 := h.field Tryz.underlying31 3 (u := 24) rfl (by kernel_rfl) (c := c3) rfl
    have h4 := h.field Tryz.underlying31 4 (u := 25) rfl (by kernel_rfl) (c := c4) rfl
    have h5 := h.field Tryz.underlying31 5 (u := 26) rfl (by kernel_rfl) (c := c5) rfl
    have h6 := h.field Tryz.underlying31 6 (u := 27) rfl (by kernel_rfl) (c := c6) rfl
    have h7 := h.field Tryz.underlying31 7 (u := 28) rfl (by kernel_rfl) (c := c7) rfl
    have h8 := h.field Tryz.underlying31 8 (u := 29) rfl (by kernel_rfl) (c := c8) rfl
    obtain ⟨x0, rfl, _⟩ := i64_in h0
    obtain ⟨l1, r1, t1, _⟩ := curs_in h1
    obtain ⟨l2, r2, t2, s2⟩ := unders_in h2
    obtain ⟨l3, r3, t3, _⟩ := instrs_in h3
    obtain ⟨l4, r4, t4, s4⟩ := accts_in h4
    obtain ⟨l5, r5, t5, _⟩ := poss_in h5
    obtain ⟨l6, r6, t6, _⟩ := orders_in h6
    obtain ⟨l7, r7, t7, _⟩ := ints_in h7
    obtain ⟨l8, r8, t8, _⟩ := locs_in h8
    refine ⟨⟨c1, c2, c3, c4, c5, c6, c7, c8, l4⟩, ⟨x0, l1, l2, l3, l4.map (·.1), l5, l6, l7, l8⟩, rfl, ⟨r1, r2, r3, rfl, r4, fun p hp => (s4 p hp).1, r5, r6, r7, r8, s2, fun a ha => ?_⟩, ⟨t1, t2, t3, by simpa using t4, t5, t6, t7, t8⟩⟩
    obtain ⟨p, hp, rfl⟩ := List.mem_map.1 ha
    exact (s4 p hp).2
end Go.Proofs.YtcjbhgnlmmeeeaaGreatDoor

/- Accounts' cash set to nothing, one amount after the other: plain steps. -/
import Derived.Test.YtcjbhgnlmmeeeaaGreatDoorGk
import Derived.Test.YtcjbhgnlmmeeeaaGreatDoorGb
namespace Go.Bw
open Go.RowKit
set_option linter.unusedVariables false
set_option linter.unusedSimpArgs false
/-- An account, its first j amounts nothing. -/
structure Zero (a b : Acc) (j : Nat) : Prop where
  parent : b.parent = a.parent
  flag : b.flag = a.flag
  last : b.last = a.last
  len : b.cash.length = a.cash.length
  zero : ∀ c, c < j → c < a.cash.length → b.cash[c]? = some 0
theorem Zero.start (a : Acc) : Zero a a 0 := ⟨rfl, rfl, rfl, rfl, fun c h => by omega⟩
theorem Zero.next {a b : Acc} {j : Nat} (h : Zero a b j) : Zero a { b with cash := b.cash.set j 0 } (j + 1) :=
  ⟨h.parent, h.flag, h.last, by simpa using h.len, fun c h1 h2 => by
    show (b.cash.set j 0)[c]? = some 0
    by_cases e : j = c
    · subst e; rw [List.getElem?_set_self (by rw [h.len]; exact h2)]
    · rw [List.getElem?_set_ne e]; exact h.zero c (by omega) h2⟩
theorem Zero.getD {a b : Acc} (h : Zero a b a.cash.length) (n : Nat) : b.cash.getD n 0 = 0 := by
  rw [List.getD_eq_getElem?_getD]
  by_cases hn : n < a.cash.length
  · rw [h.zero n hn hn]; rfl
  · rw [List.getElem?_eq_none (by rw [h.len]; omega)]; rfl
/-- Gone over so far: those of which P holds are emptied. -/
structure ZeroUp (xs : List Acc) (P : Nat → Prop) (bs : List Acc) (k : Nat) : Prop where
  len : bs.length = xs.length
  low : ∀ (i : Nat) a b, i < k → xs[i]? = some a → bs[i]? = some b → (P i → Zero a b a.cash.length) ∧ (¬ P i → b = a)
  high : ∀ (i : Nat) a b, k ≤ i → xs[i]? = some a → bs[i]? = some b → b = a
theorem ZeroUp.start (xs : List Acc) (P : Nat → Prop) : ZeroUp xs P xs 0 := ⟨rfl, fun i a b h => by omega, fun i a b _ h1 h2 => by rw [h1] at h2; exact (Option.some.inj h2).symm⟩
theorem ZeroUp.skip {xs bs : List Acc} {P : Nat → Prop} {k : Nat} (h : ZeroUp xs P bs k) (hp : ¬ P k) : ZeroUp xs P bs (k + 1) :=
  ⟨h.len, fun i a b hi h1 h2 => by
    by_cases e : i = k
    · subst e; exact ⟨fun h => absurd h hp, fun _ => h.high i a b (Nat.le_refl _) h1 h2⟩
    · exact h.low i a b (by omega) h1 h2, fun i a b hi h1 h2 => h.high i a b (by omega) h1 h2⟩
/-- Within an account. -/
structure ZeroIn (xs : List Acc) (P : Nat → Prop) (bs : List Acc) (k j : Nat) : Prop where
  len : bs.length = xs.length
  low : ∀ (i : Nat) a b, i < k → xs[i]? = some a → bs[i]? = some b → (P i → Zero a b a.cash.length) ∧ (¬ P i → b = a)
  mid : ∀ a b, xs[k]? = some a → bs[k]? = some b → Zero a b j
  high : ∀ (i : Nat) a b, k < i → xs[i]? = some a → bs[i]? = some b → b = a
theorem ZeroUp.inn {xs bs : List Acc} {P : Nat → Prop} {k : Nat} (h : ZeroUp xs P bs k) : ZeroIn xs P bs k 0 :=
  ⟨h.len, h.low, fun a b h1 h2 => by rw [h.high k a b (Nat.le_refl _) h1 h2]; exact Zero.start a, fun i a b hi h1 h2 => h.high i a b (by omega) h1 h2⟩
theorem ZeroIn.next {xs bs : List Acc} {P : Nat → Prop} {k j : Nat} {b0 : Acc} (h : ZeroIn xs P bs k j) (hk : bs[k]? = some b0) : ZeroIn xs P (bs.set k { b0 with cash := b0.cash.set j 0 }) k (j + 1) := by
  have hkl := (List.getElem?_eq_some_iff.1 hk).1
  refine ⟨by simpa using h.len, fun i a b hi h1 h2 => ?_, fun a b h1 h2 => ?_, fun i a b hi h1 h2 => ?_⟩
  · rw [List.getElem?_set_ne (by omega)] at h2; exact h.low i a b hi h1 h2
  · rw [List.getElem?_set_self hkl] at h2
    cases h2
    exact (h.mid a b0 h1 hk).next
  · rw [List.getElem?_set_ne (by omega)] at h2; exact h.high i a b hi h1 h2
theorem ZeroIn.out {xs bs : List Acc} {P : Nat → Prop} {k j : Nat} {a : Acc} (h : ZeroIn xs P bs k j) (ha : xs[k]? = some a) (hj : a.cash.length ≤ j) (hp : P k) : ZeroUp xs P bs (k + 1) :=
  ⟨h.len, fun i a' b hi h1 h2 => by
    by_cases e : i = k
    · subst e
      have hm := h.mid a' b h1 h2
      rw [ha] at h1; cases h1
      exact ⟨fun _ => ⟨hm.parent, hm.flag, hm.last, hm.len, fun c h1 h2 => hm.zero c (by omega) h2⟩, fun hn => absurd hp hn⟩
    · exact h.low i a' b (by omega) h1 h2, fun i a' b hi h1 h2 => h.high i a' b (by omega) h1 h2⟩
/-- When all have been gone over. -/
theorem ZeroUp.all {xs bs : List Acc} {P : Nat → Prop} {n : Nat} (h : ZeroUp xs P bs n) (hn : xs.length ≤ n) : ∀ (i : Nat) a b, xs[i]? = some a → bs[i]? = some b → (P i → Zero a b a.cash.length) ∧ (¬ P i → b = a) :=
  fun i a b h1 h2 => h.low i a b (by have := (List.getElem?_eq_some_iff.1 h1).1; omega) h1 h2
theorem ZeroUp.map {β : Type} (f : Acc → β) {xs bs : List Acc} {P : Nat → Prop} {n : Nat} (h : ZeroUp xs P bs n) (hn : xs.length ≤ n) (hf : ∀ a b, Zero a b a.cash.length → f b = f a) : bs.map f = xs.map f := by
  refine map_same f h.len (fun k a b ha hb => ?_)
  obtain ⟨h1, h2⟩ := h.all hn k a b ha hb
  by_cases hp : P k
  · exact hf a b (h1 hp)
  · rw [h2 hp]
theorem zero_ok {a b : Acc} {v n : Nat} (h : Zero a b a.cash.length) (ha : a.Ok v n) : b.Ok v n := by
  obtain ⟨h1, h2, h3, h4, h5⟩ := ha
  refine ⟨by rw [h.len]; exact h1, by rw [h.last]; exact h2, by rw [h.last]; exact h3, fun hv => by rw [h.flag, h.last]; exact h4 hv, fun x hx => ?_⟩
  obtain ⟨i, hi, e⟩ := List.mem_iff_getElem.1 hx
  have := h.zero i (by rw [← h.len]; exact hi) (by rw [← h.len]; exact hi)
  rw [List.getElem?_eq_getElem hi, e] at this
  cases this; decide
/-- Emptied, a ledger can be xs before. -/
theorem ZeroUp.good {L : Led} {bs : List Acc} {P : Nat → Prop} {n : Nat} (hg : L.Good) (h : ZeroUp L.accts P bs n) (hn : L.accts.length ≤ n) : ({ L with accts := bs } : Led).Good := by
  refine hg.recash (h.map (·.parent) hn (fun a b z => z.parent)) (h.map (·.last) hn (fun a b z => z.last)) (fun v b hb => ?_)
  have hv : v < L.accts.length := by have := (List.getElem?_eq_some_iff.1 hb).1; have := h.len; omega
  have ha := List.getElem?_eq_getElem hv
  have ok := hg.accounts.accts v _ ha
  obtain ⟨h1, h2⟩ := h.all hn v _ b ha hb
  by_cases hp : P v
  · exact zero_ok (h1 hp) ok
  · rw [h2 hp]; exact ok
/-- One without positions and orders. -/
theorem LedOwn.bare {w : World} {B : Nat} {V : LedV} {l : Led} (h : LedOwn w B V l) : LedOwn w B { V with poss := .slice none 0 0, orders := .slice none 0 0 } { l with poss := [], orders := [] } := by
  refine ⟨h.curs, h.unders, h.instrs, h.same, h.accts, h.cash, OwnOf.nil _ _ _ _ _, OwnOf.nil _ _ _ _ _, h.avail, h.locs, ?_, h.names, h.nums⟩
  have s := h.sep
  have nl : ∀ x, ApartV x (.slice none 0 0) := fun x b _ h => by simp [Value.ownBlock] at h
  have nr : ∀ x, ApartV (.slice none 0 0) x := fun x b h _ => by simp [Value.ownBlock] at h
  simp only [LedV.rows, List.pairwise_cons, List.mem_cons] at s ⊢
  obtain ⟨s1, s2, s3, s4, s5, s6, s7, s8, s9⟩ := s
  have f : ∀ {x : Value} {p o : Value} {r : List Value} {Q : Value → Prop}, (∀ a', Q a' → ApartV x a') → (Q = fun a => a ∈ r) → True := fun _ _ => trivial
  refine ⟨fun a ha => ?_, fun a ha => ?_, fun a ha => ?_, fun a ha => ?_, fun a ha => nr a, fun a ha => nr a, s7, s8, s9⟩
  · rcases ha with rfl | rfl | rfl | rfl | rfl | ha
    · exact s1 _ (by simp)
    · exact s1 _ (by simp)
    · exact s1 _ (by simp)
    · exact nl _
    · exact nl _
    · exact s1 _ (by simp only [ha, or_true])
  · rcases ha with rfl | rfl | rfl | rfl | ha
    · exact s2 _ (by simp)
    · exact s2 _ (by simp)
    · exact nl _
    · exact nl _
    · exact s2 _ (by simp only [ha, or_true])
  · rcases ha with rfl | rfl | rfl | ha
    · exact s3 _ (by simp)
    · exact nl _
    · exact nl _
    · exact s3 _ (by simp only [ha, or_true])
  · rcases ha with rfl | rfl | ha
    · exact nl _
    · exact nl _
    · exact s4 _ (by simp only [ha, or_true])
end Go.Bw
namespace Go.Proofs.YtcjbhgnlmmeeeaaGreatDoor
open Go.RowKit Go.Bw
set_option linter.unusedVariables false
set_option linter.unusedSimpArgs false
/-- Between accounts. -/
structure ZAt (w : World) (R0 : Nat) (bs : List (Nat × TypeId × Array Value)) (V : LedV) (L : Led) (P : Nat → Prop) (k : Nat) (W : World) : Prop where
  at_ : At w W bs
  own : ∃ ac A, LedOwn W R0 { V with ac := ac } { L with accts := A } ∧ ZeroUp L.accts P A k ∧ ac.map (·.2) = V.ac.map (·.2)
/-- Within an account. -/
structure ZIn (w : World) (R0 : Nat) (bs : List (Nat × TypeId × Array Value)) (V : LedV) (L : Led) (P : Nat → Prop) (k j : Nat) (W : World) : Prop where
  at_ : At w W bs
  own : ∃ ac A, LedOwn W R0 { V with ac := ac } { L with accts := A } ∧ ZeroIn L.accts P A k j ∧ ac.map (·.2) = V.ac.map (·.2)
variable {w W W' : World} {R0 k j g c n : Nat} {bs : List (Nat × TypeId × Array Value)} {V : LedV} {L : Led} {P : Nat → Prop} {a : Acc}
theorem ZAt.start (h : At w W bs) (ho : LedOwn W R0 V L) : ZAt w R0 bs V L P 0 W := ⟨h, V.ac, L.accts, ho, ZeroUp.start _ _, rfl⟩
theorem ZAt.go (h : ZAt w R0 bs V L P k W) (hb : Below W.heap.size W W') : ZAt w R0 bs V L P k W' := by
  obtain ⟨ac, A, o, z, e⟩ := h.own
  exact ⟨h.at_.go hb, ac, A, o.below hb, z, e⟩
theorem ZAt.skip (h : ZAt w R0 bs V L P k W) (hp : ¬ P k) : ZAt w R0 bs V L P (k + 1) W := by
  obtain ⟨ac, A, o, z, e⟩ := h.own
  exact ⟨h.at_, ac, A, o, z.skip hp, e⟩
theorem ZAt.inn (h : ZAt w R0 bs V L P k W) : ZIn w R0 bs V L P k 0 W := by
  obtain ⟨ac, A, o, z, e⟩ := h.own
  exact ⟨h.at_, ac, A, o, z.inn, e⟩
theorem ZIn.out (h : ZIn w R0 bs V L P k j W) (ha : L.accts[k]? = some a) (hj : a.cash.length ≤ j) (hp : P k) : ZAt w R0 bs V L P (k + 1) W := by
  obtain ⟨ac, A, o, z, e⟩ := h.own
  exact ⟨h.at_, ac, A, o, z.out ha hj hp, e⟩
theorem own_at {A : List Acc} {ac : List (Acc × Value)} (o : LedOwn W R0 { V with ac := ac } { L with accts := A }) (hl : A.length = L.accts.length) (ha : L.accts[k]? = some a) : ∃ p, ac[k]? = some p ∧ A[k]? = some p.1 := by
  have hk := (List.getElem?_eq_some_iff.1 ha).1
  have hs : A = ac.map (·.1) := o.same
  have hn : ac.length = A.length := by rw [hs]; simp
  have h1 := List.getElem?_eq_getElem (l := ac) (i := k) (by omega)
  refine ⟨_, h1, ?_⟩
  rw [congrArg (·[k]?) hs]
  show (ac.map (·.1))[k]? = _
  rw [List.getElem?_map, h1]; rfl
/-- The cells of an account, and its cash. -/
theorem ZIn.row (h : ZIn w R0 bs V L P k j W) (ha : L.accts[k]? = some a) : ∃ g c pa pc, V.accts = .slice (some ⟨g, 0, none⟩) L.accts.length c ∧ W.cell? ⟨g, k * 4 + 1, none⟩ = some (.slice pa a.cash.length pc) := by
  obtain ⟨ac, A, o, z, e⟩ := h.own
  obtain ⟨p, hp, hA⟩ := own_at o z.len ha
  obtain ⟨g, c, hv, _, _, _, _⟩ := o.accts.block hp
  have hv' : V.accts = .slice (some ⟨g, 0, none⟩) ac.length c := hv
  have hl : ac.length = L.accts.length := by have hs : A = ac.map (·.1) := o.same; rw [← z.len, hs]; simp
  have hR : RowOf W 4 Acc.cells V.accts ac := o.accts.row acccells_len (by decide)
  rw [hv'] at hR
  obtain ⟨b', o', e', _, hc⟩ := hR.at_ hp
  cases e'
  obtain ⟨pa, pc, hpv, _⟩ := (o.cash p (List.mem_of_getElem? hp)).form
  refine ⟨g, c, pa, pc, by rw [hv', hl], ?_⟩
  have := hc 1 p.2 rfl
  rw [Nat.zero_add] at this
  rw [this, hpv, (z.mid a p.1 ha hA).len]
/-- One amount is set to nothing. -/
theorem ZIn.put (h : ZIn w R0 bs V L P k j W) (ha : L.accts[k]? = some a) (hj : j < a.cash.length) (hN : ∀ x ∈ bs, V.NotIn x.1) (hR : w.heap.size ≤ R0) (hv : V.accts = .slice (some ⟨g, 0, none⟩) n c) :
    ∃ gp pc y, W.cell? ⟨g, k * 4 + 1, none⟩ = some (.slice (some ⟨gp, 0, none⟩) a.cash.length pc) ∧ W.cell? ⟨gp, j, none⟩ = some (.int .i64 y) ∧ W.frozen? ⟨gp, j, none⟩ = false ∧ ZIn w R0 bs V L P k (j + 1) (W.setCell ⟨gp, j, none⟩ (.int .i64 0)) := by
  obtain ⟨ac, A, o, z, e⟩ := h.own
  obtain ⟨p, hp, hA⟩ := own_at o z.len ha
  have zm := z.mid a p.1 ha hA
  have hRow : RowOf W 4 Acc.cells V.accts ac := o.accts.row acccells_len (by decide)
  rw [hv] at hRow
  obtain ⟨b', o', e', _, hc⟩ := hRow.at_ hp
  cases e'
  have oc := o.cash p (List.mem_of_getElem? hp)
  obtain ⟨y, hy⟩ : ∃ y, p.1.cash[j]? = some y := ⟨_, List.getElem?_eq_getElem (by rw [zm.len]; exact hj)⟩
  obtain ⟨gp, pc, hpv, _, hB, _, hfr⟩ := oc.block hy
  have hrow := oc.row icell_len (by decide)
  rw [hpv] at hrow
  obtain ⟨b2, o2, e2, _, hc2⟩ := hrow.at_ hy
  cases e2
  have hc1 := hc 1 p.2 rfl
  rw [Nat.zero_add] at hc1
  have hy0 := hc2 0 (.int .i64 y) rfl
  simp only [Nat.zero_add, Nat.mul_one, Nat.add_zero] at hy0
  have S := o.setCash (k := k) (p := p) hp (g := gp) (c := pc) (by rw [hpv]) (n := j) hy (x := 0) (by omega)
  refine ⟨gp, pc, y, by rw [hc1, hpv, zm.len], hy0, hfr j, h.at_.mod S.2 (fun i hi => by subst hi; omega) (fun x hx e3 => ?_), ac.set k ({ p.1 with cash := p.1.cash.set j 0 }, p.2), A.set k { p.1 with cash := p.1.cash.set j 0 }, S.1, z.next hA, ?_⟩
  · have hin : p.2 ∈ V.rows := by
      simp only [LedV.rows, List.mem_cons]
      refine Or.inr (Or.inr (Or.inr (Or.inr (Or.inr (Or.inr (Or.inr (Or.inr ?_)))))))
      rw [← e]; exact List.mem_map.2 ⟨p, List.mem_of_getElem? hp, rfl⟩
    exact hN x hx p.2 hin (by rw [hpv, e3]; rfl)
  · rw [map_set_same (fun q : Acc × Value => q.2) (x' := ({ p.1 with cash := p.1.cash.set j 0 }, p.2)) hp rfl]; exact e
end Go.Proofs.YtcjbhgnlmmeeeaaGreatDoor

/- The document's Under, counts, walked. -/
import Derived.Test.YtcjbhgnlmmeeeaaGreatDoorTreeB
namespace Go.Proofs.YtcjbhgnlmmeeeaaGreatDoor
open Go.RowKit Go.Bw Go.Maps Go.Shelf
set_option linter.unusedVariables false
set_option linter.unusedSimpArgs false

/-- Under, from what Above makes. -/
theorem runder_from (w : World) (vv : Value) (v u : Int) (l : List Int) (hf : ∃ a n c, vv = .slice a n c) (hA : Calls Tryz.prog 127 #[vv, .int .i64 v] w (RowOut w l)) :
    Calls Tryz.prog 87 #[vv, .int .i64 v, .int .i64 u] w fun e w' => e = .returned (.bool (decide (u ∈ l))) ∧ Below w.heap.size w w' := by
  obtain ⟨a, n, c, rfl⟩ := hf
  have AB := Lib.hid hA
  obtain ⟨R, hRr⟩ : ∃ R, R = decide (u ∈ l) := ⟨_, rfl⟩
  rw [← hRr]
  have EQ := Lib.hid hRr
  clear hA hRr
  go_enter Tryz.func87, Tryz.ntmps87
  go_wp2_with fail
  refine AB.out.mono ?_
  rintro e w2 ⟨v2, rfl, ho, hb⟩
  obtain ⟨ao, co, rfl, _⟩ := ownsRow_slice ho
  have ROW := Lib.hid (row_of_owns ho)
  have B2 := Lib.hid hb
  obtain ⟨N, hN⟩ : ∃ N, N = l.length := ⟨_, rfl⟩
  rw [← hN] at ROW ⊢
  have LN := Lib.hid hN
  have capN : N ≤ 9223372036854775807 := by have := ROW.out.caps; unfold maxLen at this; omega
  clear ho hb hN AB
  go_wp2_with fail
  go_loop [13] (fun i => ∃ k : Nat, k ≤ N ∧ i = .int .i64 k ∧ Hid (∀ (j : Nat) x, j < k → l[j]? = some x → x ≠ u)) (fun i => N - (intOf i).toNat)
  case atStart => exact ⟨0, Nat.zero_le _, rfl, Lib.hid (fun j x hj => by omega)⟩
  case round =>
    obtain ⟨k, hk, rfl, INV⟩ := hrel
    by_cases hlt : k < N
    · obtain ⟨x, hx⟩ : ∃ x, l[k]? = some x := ⟨_, List.getElem?_eq_getElem (by have := LN.out; omega)⟩
      obtain ⟨b, o, rfl, hbl, hc⟩ := ROW.out.at_ hx
      have c0 := hc 0 (.int .i64 x) rfl
      rw [Nat.mul_one, Nat.add_zero] at c0
      have hlt' : (k : Int) < (N : Int) := by omega
      have HX := Lib.hid hx
      have LT := Lib.hid hlt
      clear hx hc
      by_cases he : x = u
      · have FL := Lib.hid (EQ.out.trans (decide_eq_true (he ▸ List.mem_of_getElem? HX.out)))
        have e0 : (x == u) = true := beq_iff_eq.2 he
        clear he
        go_wp2_with fail
        go_ret
        exact ⟨ret_bool FL.out.symm, B2.out⟩
      · have NE := Lib.hid he
        have e0 : (x == u) = false := beq_eq_false_iff_ne.2 he
        clear he
        go_wp2_with fail
        go_round
        case rel => exact ⟨k + 1, by have := LT.out; omega, by go_num, Lib.hid (fun j z hj hz => by
          by_cases e : j = k
          · subst e; have h1 := HX.out; rw [hz] at h1; cases h1; exact NE.out
          · exact INV.out j z (by omega) hz)⟩
        case measure => have := LT.out; simp [intOf]; omega
    · have hlt' : ¬ (k : Int) < (N : Int) := by omega
      have FL := Lib.hid (EQ.out.trans (decide_eq_false (fun h => by
        obtain ⟨j, hj, e⟩ := List.mem_iff_getElem.1 h
        exact INV.out j u (by have := LN.out; omega) (by rw [← e]; exact List.getElem?_eq_getElem hj) rfl)))
      clear hlt hk INV
      go_wp2_with fail
      go_ret
      exact ⟨ret_bool FL.out.symm, B2.out⟩
theorem mem_ints {l : List Nat} {v : Nat} : ((v : Nat) : Int) ∈ ints l ↔ v ∈ l := by
  unfold ints
  rw [List.mem_map]
  constructor
  · rintro ⟨x, hx, e⟩; have : x = v := by omega
    rw [← this]; exact hx
  · intro h; exact ⟨v, h, rfl⟩
theorem runder_any (w : World) (vv : Value) (ps : List Int) (v : Nat) (u : Int) (hR : RowOf w 1 icell vv ps) (hT : TreeOk ps) (hv : v < ps.length) :
    Calls Tryz.prog 87 #[vv, .int .i64 (v : Nat), .int .i64 u] w fun e w' => e = .returned (.bool (decide (u ∈ ints (pathL ps v)))) ∧ Below w.heap.size w w' := by
  obtain ⟨a, c, e⟩ := hR.form
  exact runder_from w vv v u _ ⟨a, _, c, e⟩ (above_any w vv ps v hR hT hv)
theorem runder_none (w : World) (vv : Value) (ps : List Int) (v u : Int) (hR : RowOf w 1 icell vv ps) (hbad : ¬ AtOk ps v) :
    Calls Tryz.prog 87 #[vv, .int .i64 v, .int .i64 u] w fun e w' => e = .returned (.bool false) ∧ Below w.heap.size w w' := by
  obtain ⟨a, c, e⟩ := hR.form
  have := runder_from w vv v u _ ⟨a, _, c, e⟩ (above_none w vv ps v hR hbad)
  exact this.mono fun e w' h => ⟨by rw [h.1]; simp, h.2⟩

/-- counts, from what Under answers of the parents. -/
theorem counts_from (w : World) (V : LedV) (L : Led) (h : LedAt w V L) (hL : L.accts.length ≤ 1024) (v u : Int) (B : Bool)
    (hU : ∀ W vv, RowOf W 1 icell vv L.parents → Calls Tryz.prog 87 #[vv, .int .i64 v, .int .i64 u] W fun e w' => e = .returned (.bool B) ∧ Below W.heap.size W w') :
    Calls Tryz.prog 47 #[V.val L, .int .i64 v, .int .i64 u] w fun e w' => e = .returned (.bool B) ∧ Below w.heap.size w w' := by
  obtain ⟨a1, c1', a2, c2', a3, c3', a4, c4', a5, c5', a6, c6', a7, c7', a8, c8', asl, hV⟩ := h.forms
  have PAR := Lib.hid (fun W (hb : Below w.heap.size w W) => rparents_any W V L (h.below hb) hL)
  rw [hV] at PAR ⊢
  simp only [LedV.val, LedV.cells] at PAR ⊢
  have HU := Lib.hid hU
  obtain ⟨PS, hPS⟩ : ∃ PS, PS = L.parents := ⟨_, rfl⟩
  rw [← hPS] at PAR HU
  have BX := Lib.hid (show ∃ W, W = w.alloc (.cells #[.int .i64 L.day, .slice a1 L.curs.length c1', .slice a2 L.unders.length c2', .slice a3 L.instrs.length c3', .slice a4 asl.length c4', .slice a5 L.poss.length c5', .slice a6 L.orders.length c6', .slice a7 L.avail.length c7', .slice a8 L.locs.length c8'] 31) ∧ Below w.heap.size w W from
    ⟨_, rfl, (Below.refl _ _).alloc (Nat.le_refl _) _⟩)
  clear h hL hU hPS hV
  go_enter Tryz.func47, Tryz.ntmps47
  go_wp2_with fail
  obtain ⟨W, hW, hb⟩ := BX.out
  rw [← hW]
  have B0 := Lib.hid hb
  clear hW hb BX
  refine (PAR.out W B0.out).mono ?_
  rintro e w1 ⟨v1, rfl, ho, hb⟩
  have B1 := Lib.hid (B0.out.trans (hb.mono B0.out.size))
  have RW := Lib.hid (row_of_owns ho)
  clear ho hb
  go_wp2_with fail
  refine (HU.out w1 v1 RW.out).mono ?_
  rintro e w2 ⟨rfl, hb⟩
  have B2 := Lib.hid (B1.out.trans (hb.mono B1.out.size))
  clear hb
  go_wp2_with fail
  go_ret
  exact ⟨rfl, B2.out⟩
end Go.Proofs.YtcjbhgnlmmeeeaaGreatDoor

/- The document's PosRise, OrderRise, walked (printed by tools/gen_rise.py). -/
import Derived.Test.YtcjbhgnlmmeeeaaGreatDoorBy
namespace Go.Proofs.YtcjbhgnlmmeeeaaGreatDoor
open Go.RowKit Go.Bw Go.Maps Go.Shelf
set_option linter.unusedVariables false
set_option linter.unusedSimpArgs false

def qtyB (q : Int) : Bool := decide (-1000000000 ≤ q ∧ q ≤ 1000000000)
def supB (q : Int) : Bool := decide (0 ≤ q ∧ q ≤ 1000000000)

set_option maxHeartbeats 400000 in
theorem rqty_any (q : Int) (w : World) : Calls Tryz.prog 121 #[.int .i64 q] w fun e w' => e = .returned (.bool (qtyB q)) ∧ w = w' := by
  obtain ⟨r, hr⟩ : ∃ r, r = qtyB q := ⟨_, rfl⟩
  rw [← hr]
  have ch : ¬ -1000000000 ≤ q ∨ (-1000000000 ≤ q ∧ ¬ q ≤ 1000000000) ∨ (-1000000000 ≤ q ∧ q ≤ 1000000000) := by omega
  rcases ch with h1 | ⟨h1, h2⟩ | ⟨h1, h2⟩
  all_goals
    first
    | (have R := Lib.hid (show r = true from by rw [hr]; exact decide_eq_true (by omega)))
    | (have R := Lib.hid (show r = false from by rw [hr]; exact decide_eq_false (by omega)))
    clear hr
    go_enter Tryz.func121, Tryz.ntmps121
    go_wp2_with fail
    go_ret
    exact ⟨ret_bool (by first | (rw [R.out]; done) | (rw [R.out, decide_eq_true_iff]; omega) | (rw [R.out, decide_eq_false_iff_not]; omega)), rfl⟩

set_option maxHeartbeats 400000 in
theorem rsup_any (q : Int) (w : World) : Calls Tryz.prog 122 #[.int .i64 q] w fun e w' => e = .returned (.bool (supB q)) ∧ w = w' := by
  obtain ⟨r, hr⟩ : ∃ r, r = supB q := ⟨_, rfl⟩
  rw [← hr]
  have ch : ¬ 0 ≤ q ∨ (0 ≤ q ∧ ¬ q ≤ 1000000000) ∨ (0 ≤ q ∧ q ≤ 1000000000) := by omega
  rcases ch with h1 | ⟨h1, h2⟩ | ⟨h1, h2⟩
  all_goals
    first
    | (have R := Lib.hid (show r = true from by rw [hr]; exact decide_eq_true (by omega)))
    | (have R := Lib.hid (show r = false from by rw [hr]; exact decide_eq_false (by omega)))
    clear hr
    go_enter Tryz.func122, Tryz.ntmps122
    go_wp2_with fail
    go_ret
    exact ⟨ret_bool (by first | (rw [R.out]; done) | (rw [R.out, decide_eq_true_iff]; omega) | (rw [R.out, decide_eq_false_iff_not]; omega)), rfl⟩

structure rposRiseOk (l : List Pos) : Prop where
  all : ∀ x ∈ l, qtyB x.qty = true
  rise : Rises Pos.Lt l
open Classical in
set_option maxRecDepth 100000 in
set_option maxHeartbeats 2000000 in
theorem rposRise_any (w : World) (v : Value) (l : List Pos) (hR : RowOf w 3 Pos.cells v l) :
    Calls Tryz.prog 83 #[v] w fun e w' => e = .returned (.bool (decide (rposRiseOk l))) ∧ Below w.heap.size w w' := by
  obtain ⟨a, c, rfl⟩ := hR.form
  have hl : l.length ≤ 9223372036854775807 := by have := hR.caps; unfold maxLen at this; omega
  obtain ⟨R, hRr⟩ : ∃ R, R = decide (rposRiseOk l) := ⟨_, rfl⟩
  rw [← hRr]
  have EQ := Lib.hid hRr
  have HR := Lib.hid hR
  clear hR hRr
  go_enter Tryz.func83, Tryz.ntmps83
  go_wp2_with fail
  go_loopw [7] (fun i wr => ∃ k : Nat, k ≤ l.length ∧ i = .int .i64 k ∧ Hid ((∀ (j : Nat) x, j < k → l[j]? = some x → qtyB x.qty = true) ∧ (∀ (j : Nat) x y, j + 1 < k → l[j]? = some x → l[j + 1]? = some y → x.Lt y)) ∧ Below w.heap.size w wr) (fun i _ => l.length - (intOf i).toNat)
  case atStart => exact ⟨0, Nat.zero_le _, rfl, Lib.hid ⟨fun j x hj => by omega, fun j x y hj => by omega⟩, Below.refl _ _⟩
  case round =>
    obtain ⟨k, hk, rfl, INV, hb⟩ := hrel
    have BW := Lib.hid hb
    have ROW := Lib.hid (HR.out.below hb)
    clear hb
    by_cases hlt : k < l.length
    · obtain ⟨x, hx⟩ : ∃ x, l[k]? = some x := ⟨_, List.getElem?_eq_getElem hlt⟩
      obtain ⟨b, o, rfl, hbl, hc⟩ := ROW.out.at_ hx
      have c0 := hc 0 (.int .i64 x.acct) rfl
      have c1 := hc 1 (.int .i64 x.instr) rfl
      have c2 := hc 2 (.int .i64 x.qty) rfl
      rw [Nat.add_zero] at c0
      have hlt' : (k : Int) < (l.length : Int) := by omega
      have i0 : (0 : Int) ≤ (k : Int) := by omega
      have HX := Lib.hid hx
      have LT := Lib.hid hlt
      have B2 := Lib.hid (BW.out.alloc BW.out.size (.cells #[.int .i64 x.acct, .int .i64 x.instr, .int .i64 x.qty] 43))
      cases hq : qtyB x.qty with
      | false =>
        have FL := Lib.hid (EQ.out.trans (decide_eq_false (fun h => by have := h.all x (List.mem_of_getElem? HX.out); rw [hq] at this; cases this)))
        have Q := Lib.hid (rqty_any x.qty)
        rw [hq] at Q
        clear hx hc hq
        go_wp2_with (go_at_call 121; refine (Q.out _).mono ?_; rintro e w' ⟨rfl, rfl⟩)
        go_ret
        exact ⟨ret_bool FL.out.symm, B2.out⟩
      | true =>
      have Q := Lib.hid (rqty_any x.qty)
      rw [hq] at Q
      have HQ := Lib.hid hq
      clear hq
      cases k with
      | zero =>
        clear hx hc
        simp only [Nat.zero_mul, Nat.add_zero] at c0 c1 c2
        go_wp2_with (go_at_call 121; refine (Q.out _).mono ?_; rintro e w' ⟨rfl, rfl⟩)
        go_quiet (fail)
        go_wp2_with fail
        go_roundw
        case rel => exact ⟨1, by have := LT.out; omega, by go_num, Lib.hid ⟨fun j z hj hz => by
          obtain rfl : j = 0 := by omega
          have h1 := HX.out; rw [hz] at h1; cases h1; exact HQ.out, fun j y z hj => by omega⟩, below_drewN B2.out _⟩
        case measure => have := LT.out; simp [intOf]; omega
      | succ k =>
        obtain ⟨y, hy⟩ : ∃ y, l[k]? = some y := ⟨_, List.getElem?_eq_getElem (by omega)⟩
        obtain ⟨b', o', e', hbl', hd⟩ := ROW.out.at_ hy
        cases e'
        have d0 := hd 0 (.int .i64 y.acct) rfl
        have d1 := hd 1 (.int .i64 y.instr) rfl
        rw [Nat.add_zero] at d0
        have HY := Lib.hid hy
        have j1 : (0 : Int) ≤ (k : Int) := by omega
        have j2 : (k : Int) < (l.length : Int) := by omega
        have w1 : IntKind.i64.wrap (((k + 1 : Nat) : Int) - 1) = (k : Int) := by rw [show ((k + 1 : Nat) : Int) - 1 = (k : Int) from by omega]; exact IntWalk.i64_in _ (by omega)
        have g0 : decide ((0 : Int) < ((k + 1 : Nat) : Int)) = true := decide_eq_true (by omega)
        clear hx hc hy hd
        have ch : (x.acct < y.acct) ∨ (¬ x.acct < y.acct ∧ y.acct = x.acct ∧ x.instr ≤ y.instr) ∨ (¬ x.acct < y.acct ∧ y.acct = x.acct ∧ ¬ x.instr ≤ y.instr) ∨ (¬ x.acct < y.acct ∧ ¬ y.acct = x.acct) := by omega
        have DEC := Lib.hid (show ¬ y.Lt x → R = false from fun hn => EQ.out.trans (decide_eq_false (fun h => hn (h.rise k y x HY.out HX.out))))
        rcases ch with h1 | ⟨h1, h2, h3⟩ | ⟨h1, h2, h3⟩ | ⟨h1, h2⟩
        · have FL := Lib.hid (DEC.out (by unfold Pos.Lt; omega))
          have g1 : decide (x.acct < y.acct) = true := decide_eq_true h1
          go_wp2_with (go_at_call 121; refine (Q.out _).mono ?_; rintro e w' ⟨rfl, rfl⟩)
          go_quiet (fail)
          go_wp2_with fail
          go_ret
          exact ⟨ret_bool FL.out.symm, below_drewN B2.out _⟩
        · have FL := Lib.hid (DEC.out (by unfold Pos.Lt; omega))
          have g1 : decide (x.acct < y.acct) = false := decide_eq_false h1
          have g2 : (y.acct == x.acct) = true := by simp [h2]
          clear h2
          go_wp2_with (go_at_call 121; refine (Q.out _).mono ?_; rintro e w' ⟨rfl, rfl⟩)
          go_quiet (fail)
          go_wp2_with fail
          go_ret
          exact ⟨ret_bool FL.out.symm, below_drewN B2.out _⟩
        all_goals
          have LTT := Lib.hid (show y.Lt x from by unfold Pos.Lt; omega)
          have g1 : decide (x.acct < y.acct) = false := decide_eq_false h1
          first
          | (have g2 : (y.acct == x.acct) = true := by simp [h2])
          | (have g2 : (y.acct == x.acct) = false := by simp [h2])
          clear h2
          go_wp2_with (go_at_call 121; refine (Q.out _).mono ?_; rintro e w' ⟨rfl, rfl⟩)
          go_quiet (fail)
          go_wp2_with fail
          go_roundw
          case rel => exact ⟨k + 1 + 1, by have := LT.out; omega, by go_num, Lib.hid ⟨fun j z hj hz => by
            by_cases e : j = k + 1
            · subst e; have h1 := HX.out; rw [hz] at h1; cases h1; exact HQ.out
            · exact INV.out.1 j z (by omega) hz, fun j z z' hj hz hz' => by
            by_cases e : j = k
            · subst e; have h1 := HY.out; rw [hz] at h1; cases h1; have h2 := HX.out; rw [hz'] at h2; cases h2; exact LTT.out
            · exact INV.out.2 j z z' (by omega) hz hz'⟩, below_drewN B2.out _⟩
          case measure => have := LT.out; simp [intOf]; omega
    · have hlt' : ¬ (k : Int) < (l.length : Int) := by omega
      have FL := Lib.hid (EQ.out.trans (decide_eq_true ⟨fun x hx => by
        obtain ⟨j, hj, e⟩ := List.mem_iff_getElem.1 hx
        exact INV.out.1 j x (by omega) (by rw [← e]; exact List.getElem?_eq_getElem hj), fun j x y hx hy => INV.out.2 j x y (by have := (List.getElem?_eq_some_iff.1 hy).1; omega) hx hy⟩))
      go_wp2_with fail
      go_ret
      exact ⟨ret_bool FL.out.symm, BW.out⟩

structure rordRiseOk (l : List Ord) : Prop where
  all : ∀ x ∈ l, qtyB x.qty = true
  rise : Rises Ord.Lt l
open Classical in
set_option maxRecDepth 100000 in
set_option maxHeartbeats 2000000 in
theorem rordRise_any (w : World) (v : Value) (l : List Ord) (hR : RowOf w 5 Ord.cells v l) :
    Calls Tryz.prog 84 #[v] w fun e w' => e = .returned (.bool (decide (rordRiseOk l))) ∧ Below w.heap.size w w' := by
  obtain ⟨a, c, rfl⟩ := hR.form
  have hl : l.length ≤ 9223372036854775807 := by have := hR.caps; unfold maxLen at this; omega
  obtain ⟨R, hRr⟩ : ∃ R, R = decide (rordRiseOk l) := ⟨_, rfl⟩
  rw [← hRr]
  have EQ := Lib.hid hRr
  have HR := Lib.hid hR
  clear hR hRr
  go_enter Tryz.func84, Tryz.ntmps84
  go_wp2_with fail
  go_loopw [7] (fun i wr => ∃ k : Nat, k ≤ l.length ∧ i = .int .i64 k ∧ Hid ((∀ (j : Nat) x, j < k → l[j]? = some x → qtyB x.qty = true) ∧ (∀ (j : Nat) x y, j + 1 < k → l[j]? = some x → l[j + 1]? = some y → x.Lt y)) ∧ Below w.heap.size w wr) (fun i _ => l.length - (intOf i).toNat)
  case atStart => exact ⟨0, Nat.zero_le _, rfl, Lib.hid ⟨fun j x hj => by omega, fun j x y hj => by omega⟩, Below.refl _ _⟩
  case round =>
    obtain ⟨k, hk, rfl, INV, hb⟩ := hrel
    have BW := Lib.hid hb
    have ROW := Lib.hid (HR.out.below hb)
    clear hb
    by_cases hlt : k < l.length
    · obtain ⟨x, hx⟩ : ∃ x, l[k]? = some x := ⟨_, List.getElem?_eq_getElem hlt⟩
      obtain ⟨b, o, rfl, hbl, hc⟩ := ROW.out.at_ hx
      have c0 := hc 0 (.int .i64 x.acct) rfl
      have c1 := hc 1 (.int .i64 x.id) rfl
      have c2 := hc 2 (.int .i64 x.instr) rfl
      have c3 := hc 3 (.int .i64 x.qty) rfl
      have c4 := hc 4 (.int .i64 x.price) rfl
      rw [Nat.add_zero] at c0
      have hlt' : (k : Int) < (l.length : Int) := by omega
      have i0 : (0 : Int) ≤ (k : Int) := by omega
      have HX := Lib.hid hx
      have LT := Lib.hid hlt
      have B2 := Lib.hid (BW.out.alloc BW.out.size (.cells #[.int .i64 x.acct, .int .i64 x.id, .int .i64 x.instr, .int .i64 x.qty, .int .i64 x.price] 46))
      cases hq : qtyB x.qty with
      | false =>
        have FL := Lib.hid (EQ.out.trans (decide_eq_false (fun h => by have := h.all x (List.mem_of_getElem? HX.out); rw [hq] at this; cases this)))
        have Q := Lib.hid (rqty_any x.qty)
        rw [hq] at Q
        clear hx hc hq
        go_wp2_with (go_at_call 121; refine (Q.out _).mono ?_; rintro e w' ⟨rfl, rfl⟩)
        go_ret
        exact ⟨ret_bool FL.out.symm, B2.out⟩
      | true =>
      have Q := Lib.hid (rqty_any x.qty)
      rw [hq] at Q
      have HQ := Lib.hid hq
      clear hq
      cases k with
      | zero =>
        clear hx hc
        simp only [Nat.zero_mul, Nat.add_zero] at c0 c1 c2 c3 c4
        go_wp2_with (go_at_call 121; refine (Q.out _).mono ?_; rintro e w' ⟨rfl, rfl⟩)
        go_quiet (fail)
        go_wp2_with fail
        go_roundw
        case rel => exact ⟨1, by have := LT.out; omega, by go_num, Lib.hid ⟨fun j z hj hz => by
          obtain rfl : j = 0 := by omega
          have h1 := HX.out; rw [hz] at h1; cases h1; exact HQ.out, fun j y z hj => by omega⟩, below_drewN B2.out _⟩
        case measure => have := LT.out; simp [intOf]; omega
      | succ k =>
        obtain ⟨y, hy⟩ : ∃ y, l[k]? = some y := ⟨_, List.getElem?_eq_getElem (by omega)⟩
        obtain ⟨b', o', e', hbl', hd⟩ := ROW.out.at_ hy
        cases e'
        have d0 := hd 0 (.int .i64 y.acct) rfl
        have d1 := hd 1 (.int .i64 y.id) rfl
        rw [Nat.add_zero] at d0
        have HY := Lib.hid hy
        have j1 : (0 : Int) ≤ (k : Int) := by omega
        have j2 : (k : Int) < (l.length : Int) := by omega
        have w1 : IntKind.i64.wrap (((k + 1 : Nat) : Int) - 1) = (k : Int) := by rw [show ((k + 1 : Nat) : Int) - 1 = (k : Int) from by omega]; exact IntWalk.i64_in _ (by omega)
        have g0 : decide ((0 : Int) < ((k + 1 : Nat) : Int)) = true := decide_eq_true (by omega)
        clear hx hc hy hd
        have ch : (x.acct < y.acct) ∨ (¬ x.acct < y.acct ∧ y.acct = x.acct ∧ x.id ≤ y.id) ∨ (¬ x.acct < y.acct ∧ y.acct = x.acct ∧ ¬ x.id ≤ y.id) ∨ (¬ x.acct < y.acct ∧ ¬ y.acct = x.acct) := by omega
        have DEC := Lib.hid (show ¬ y.Lt x → R = false from fun hn => EQ.out.trans (decide_eq_false (fun h => hn (h.rise k y x HY.out HX.out))))
        rcases ch with h1 | ⟨h1, h2, h3⟩ | ⟨h1, h2, h3⟩ | ⟨h1, h2⟩
        · have FL := Lib.hid (DEC.out (by unfold Ord.Lt; omega))
          have g1 : decide (x.acct < y.acct) = true := decide_eq_true h1
          go_wp2_with (go_at_call 121; refine (Q.out _).mono ?_; rintro e w' ⟨rfl, rfl⟩)
          go_quiet (fail)
          go_wp2_with fail
          go_ret
          exact ⟨ret_bool FL.out.symm, below_drewN B2.out _⟩
        · have FL := Lib.hid (DEC.out (by unfold Ord.Lt; omega))
          have g1 : decide (x.acct < y.acct) = false := decide_eq_false h1
          have g2 : (y.acct == x.acct) = true := by simp [h2]
          clear h2
          go_wp2_with (go_at_call 121; refine (Q.out _).mono ?_; rintro e w' ⟨rfl, rfl⟩)
          go_quiet (fail)
          go_wp2_with fail
          go_ret
          exact ⟨ret_bool FL.out.symm, below_drewN B2.out _⟩
        all_goals
          have LTT := Lib.hid (show y.Lt x from by unfold Ord.Lt; omega)
          have g1 : decide (x.acct < y.acct) = false := decide_eq_false h1
          first
          | (have g2 : (y.acct == x.acct) = true := by simp [h2])
          | (have g2 : (y.acct == x.acct) = false := by simp [h2])
          clear h2
          go_wp2_with (go_at_call 121; refine (Q.out _).mono ?_; rintro e w' ⟨rfl, rfl⟩)
          go_quiet (fail)
          go_wp2_with fail
          go_roundw
          case rel => exact ⟨k + 1 + 1, by have := LT.out; omega, by go_num, Lib.hid ⟨fun j z hj hz => by
            by_cases e : j = k + 1
            · subst e; have h1 := HX.out; rw [hz] at h1; cases h1; exact HQ.out
            · exact INV.out.1 j z (by omega) hz, fun j z z' hj hz hz' => by
            by_cases e : j = k
            · subst e; have h1 := HY.out; rw [hz] at h1; cases h1; have h2 := HX.out; rw [hz'] at h2; cases h2; exact LTT.out
            · exact INV.out.2 j z z' (by omega) hz hz'⟩, below_drewN B2.out _⟩
          case measure => have := LT.out; simp [intOf]; omega
    · have hlt' : ¬ (k : Int) < (l.length : Int) := by omega
      have FL := Lib.hid (EQ.out.trans (decide_eq_true ⟨fun x hx => by
        obtain ⟨j, hj, e⟩ := List.mem_iff_getElem.1 hx
        exact INV.out.1 j x (by omega) (by rw [← e]; exact List.getElem?_eq_getElem hj), fun j x y hx hy => INV.out.2 j x y (by have := (List.getElem?_eq_some_iff.1 hy).1; omega) hx hy⟩))
      go_wp2_with fail
      go_ret
      exact ⟨ret_bool FL.out.symm, BW.out⟩
end Go.Proofs.YtcjbhgnlmmeeeaaGreatDoor

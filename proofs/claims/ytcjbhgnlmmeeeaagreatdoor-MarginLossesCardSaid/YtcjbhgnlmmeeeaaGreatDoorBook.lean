/- book.Poss, book.Orders; the document's Poss, Orders, walked. -/
import Derived.Test.YtcjbhgnlmmeeeaaGreatDoorRise
namespace Go.Proofs.YtcjbhgnlmmeeeaaGreatDoor
open Go.RowKit Go.Bw Go.Maps Go.Shelf
set_option linter.unusedVariables false
set_option linter.unusedSimpArgs false

def trB (a n : Int) : Bool := decide (1 < a ∧ a < n)
def fitB (q : Int) : Bool := decide (q ≠ 0 ∧ -1000000000 ≤ q ∧ q ≤ 1000000000)
set_option maxHeartbeats 400000 in
theorem trades_any (a n : Int) (w : World) : Calls Tryz.prog 104 #[.int .i64 a, .int .i64 n] w fun e w' => e = .returned (.bool (trB a n)) ∧ w = w' := by
  obtain ⟨r, hr⟩ : ∃ r, r = trB a n := ⟨_, rfl⟩
  rw [← hr]
  have ch : ¬ 1 < a ∨ (1 < a ∧ ¬ a < n) ∨ (1 < a ∧ a < n) := by omega
  rcases ch with h1 | ⟨h1, h2⟩ | ⟨h1, h2⟩
  all_goals
    first
    | (have R := Lib.hid (show r = true from by rw [hr]; exact decide_eq_true (by omega)))
    | (have R := Lib.hid (show r = false from by rw [hr]; exact decide_eq_false (by omega)))
    clear hr
    go_enter Tryz.func104, Tryz.ntmps104
    go_wp2_with fail
    go_ret
    refine ⟨ret_bool ?_, rfl⟩
    first | (rw [R.out]; done) | (rw [R.out, decide_eq_true_iff]; omega) | (rw [R.out, decide_eq_false_iff_not]; omega) | (rw [R.out]; simp; done) | (rw [R.out]; simp; omega)
set_option maxHeartbeats 400000 in
theorem bfits_any (q : Int) (w : World) : Calls Tryz.prog 105 #[.int .i64 q] w fun e w' => e = .returned (.bool (fitB q)) ∧ w = w' := by
  obtain ⟨r, hr⟩ : ∃ r, r = fitB q := ⟨_, rfl⟩
  rw [← hr]
  have ch : (q = 0 ∧ q = 0) ∨ (q ≠ 0 ∧ ¬ -1000000000 ≤ q) ∨ (q ≠ 0 ∧ -1000000000 ≤ q ∧ ¬ q ≤ 1000000000) ∨ (q ≠ 0 ∧ -1000000000 ≤ q ∧ q ≤ 1000000000) := by omega
  rcases ch with ⟨h0, h1⟩ | ⟨h0, h1⟩ | ⟨h0, h1, h2⟩ | ⟨h0, h1, h2⟩
  all_goals
    first
    | (have R := Lib.hid (show r = true from by rw [hr]; exact decide_eq_true (by omega)))
    | (have R := Lib.hid (show r = false from by rw [hr]; exact decide_eq_false (by omega)))
    clear hr
    first
    | (have hb : (q != 0) = false := by simp [h0])
    | (have hb : (q != 0) = true := by simp [h0])
    have H0 := Lib.hid h0
    clear h0
    go_enter Tryz.func105, Tryz.ntmps105
    go_wp2_with fail
    go_ret
    refine ⟨ret_bool ?_, rfl⟩
    first | (rw [R.out]; done) | (rw [R.out, decide_eq_true_iff]; omega) | (rw [R.out, decide_eq_false_iff_not]; omega) | (rw [R.out]; simp; done) | (rw [R.out]; simp; have := H0.out; omega) | (rw [R.out]; have := H0.out; simp_all; done) | trace_state
def posB (p : Pos) (A I : Nat) : Bool := trB p.acct A && decide (0 ≤ p.instr ∧ p.instr < I) && fitB p.qty
theorem posB_iff (p : Pos) (A I : Nat) : posB p A I = true ↔ p.Ok A I := by
  simp only [posB, trB, fitB, Pos.Ok, Bool.and_eq_true, decide_eq_true_eq]; omega
def ordB (o : Ord) (A I : Nat) : Bool := trB o.acct A && decide (1 ≤ o.id ∧ o.id ≤ 1099511627776) && decide (0 ≤ o.instr ∧ o.instr < I) && fitB o.qty && decide (1 ≤ o.price ∧ o.price ≤ 100000000000000)
theorem ordB_iff (p : Ord) (A I : Nat) : ordB p A I = true ↔ p.Ok A I := by
  simp only [ordB, trB, fitB, Ord.Ok, Bool.and_eq_true, decide_eq_true_eq]; omega

set_option maxRecDepth 100000 in
set_option maxHeartbeats 1000000 in
theorem possBad_any (w : World) (p : Pos) (A I b4 b5 : Nat) (h4 : w.cell? ⟨b4, 0, none⟩ = some (.int .i64 A)) (h5 : w.cell? ⟨b5, 0, none⟩ = some (.int .i64 I)) :
    Calls Tryz.prog 103 #[.agg #[.int .i64 p.acct, .int .i64 p.instr, .int .i64 p.qty], .pointer (some ⟨b4, 0, none⟩), .pointer (some ⟨b5, 0, none⟩)] w fun e w' => e = .returned (.bool (!posB p A I)) ∧ Below w.heap.size w w' := by
  have l4 := World.block_lt_of_cell? w _ h4
  have l5 := World.block_lt_of_cell? w _ h5
  have M := (Mod.refl (fun _ => False) w).alloc (.cells #[.int .i64 p.acct, .int .i64 p.instr, .int .i64 p.qty] 43)
  have c4 := M.cell h4 (fun h => h)
  have c5 := M.cell h5 (fun h => h)
  obtain ⟨r, hr⟩ : ∃ r, r = posB p A I := ⟨_, rfl⟩
  rw [← hr]
  cases ht : trB p.acct A with
  | false =>
    have R := Lib.hid (show r = false from by rw [hr]; simp [posB, ht])
    have T := Lib.hid (trades_any p.acct A)
    rw [ht] at T
    clear hr ht h4 h5 M l4 l5
    go_enter Tryz.func103, Tryz.ntmps103
    go_wp2_with (go_at_call 104; refine (T.out _).mono ?_; rintro e w' ⟨rfl, rfl⟩)
    go_ret
    exact ⟨ret_bool (by first | (rw [R.out]; rfl) | (rw [R.out]; simp; done) | (rw [R.out]; simp; omega)), (Below.refl _ _).alloc (Nat.le_refl _) _⟩
  | true =>
  have T := Lib.hid (trades_any p.acct A)
  rw [ht] at T
  by_cases hi : 0 ≤ p.instr ∧ p.instr < I
  · have Q := Lib.hid (bfits_any p.qty)
    cases hq : fitB p.qty
    all_goals
      rw [hq] at Q
      have R := Lib.hid ((show r = fitB p.qty from by rw [hr]; simp only [posB, ht, decide_eq_true hi, Bool.true_and]).trans hq)
      have i1 : ¬ p.instr < 0 := by omega
      have i2 : ¬ (I : Int) ≤ p.instr := by omega
      clear hr ht hi hq h4 h5 M l4 l5
      go_enter Tryz.func103, Tryz.ntmps103
      go_wp2_with fail
      refine (T.out _).mono ?_
      rintro e w' ⟨rfl, rfl⟩
      go_wp2_with (go_at_call 105; refine (Q.out _).mono ?_; rintro e w' ⟨rfl, rfl⟩)
      go_ret
      exact ⟨ret_bool (by first | (rw [R.out]; rfl) | (rw [R.out]; simp; done) | (rw [R.out]; simp; omega)), (Below.refl _ _).alloc (Nat.le_refl _) _⟩
  · have R := Lib.hid (show r = false from by rw [hr]; simp only [posB]; rw [decide_eq_false hi]; simp)
    have two : p.instr < 0 ∨ (¬ p.instr < 0 ∧ (I : Int) ≤ p.instr) := by omega
    clear hr ht hi h4 h5 M l4 l5
    rcases two with i1 | ⟨i1, i2⟩
    all_goals
      go_enter Tryz.func103, Tryz.ntmps103
      go_wp2_with (go_at_call 104; refine (T.out _).mono ?_; rintro e w' ⟨rfl, rfl⟩)
      go_ret
      exact ⟨ret_bool (by first | (rw [R.out]; rfl) | (rw [R.out]; simp; done) | (rw [R.out]; simp; omega)), (Below.refl _ _).alloc (Nat.le_refl _) _⟩

set_option maxRecDepth 100000 in
set_option maxHeartbeats 2000000 in
theorem ordersBad_any (w : World) (p : Ord) (A I b4 b5 : Nat) (h4 : w.cell? ⟨b4, 0, none⟩ = some (.int .i64 A)) (h5 : w.cell? ⟨b5, 0, none⟩ = some (.int .i64 I)) :
    Calls Tryz.prog 109 #[.agg #[.int .i64 p.acct, .int .i64 p.id, .int .i64 p.instr, .int .i64 p.qty, .int .i64 p.price], .pointer (some ⟨b4, 0, none⟩), .pointer (some ⟨b5, 0, none⟩)] w fun e w' => e = .returned (.bool (!ordB p A I)) ∧ Below w.heap.size w w' := by
  have M := (Mod.refl (fun _ => False) w).alloc (.cells #[.int .i64 p.acct, .int .i64 p.id, .int .i64 p.instr, .int .i64 p.qty, .int .i64 p.price] 46)
  have c4 := M.cell h4 (fun h => h)
  have c5 := M.cell h5 (fun h => h)
  obtain ⟨r, hr⟩ : ∃ r, r = ordB p A I := ⟨_, rfl⟩
  rw [← hr]
  cases ht : trB p.acct A with
  | false =>
    have R := Lib.hid (show r = false from by rw [hr]; simp [ordB, ht])
    have T := Lib.hid (trades_any p.acct A)
    rw [ht] at T
    clear hr ht h4 h5 M
    go_enter Tryz.func109, Tryz.ntmps109
    go_wp2_with (go_at_call 104; refine (T.out _).mono ?_; rintro e w' ⟨rfl, rfl⟩)
    go_ret
    exact ⟨ret_bool (by first | (rw [R.out]; rfl) | (rw [R.out]; simp; done) | (rw [R.out]; simp; omega)), (Below.refl _ _).alloc (Nat.le_refl _) _⟩
  | true =>
  have T := Lib.hid (trades_any p.acct A)
  rw [ht] at T
  by_cases hi : (1 ≤ p.id ∧ p.id ≤ 1099511627776) ∧ (0 ≤ p.instr ∧ p.instr < I)
  · have Q := Lib.hid (bfits_any p.qty)
    have i1 : ¬ p.id < 1 := by omega
    have i2 : ¬ 1099511627776 < p.id := by omega
    have i3 : ¬ p.instr < 0 := by omega
    have i4 : ¬ (I : Int) ≤ p.instr := by omega
    cases hq : fitB p.qty with
    | false =>
      rw [hq] at Q
      have R := Lib.hid (show r = false from by rw [hr]; simp [ordB, hq])
      clear hr ht hi hq h4 h5 M
      go_enter Tryz.func109, Tryz.ntmps109
      go_wp2_with fail
      refine (T.out _).mono ?_
      rintro e w' ⟨rfl, rfl⟩
      go_wp2_with (go_at_call 105; refine (Q.out _).mono ?_; rintro e w' ⟨rfl, rfl⟩)
      go_ret
      exact ⟨ret_bool (by first | (rw [R.out]; rfl) | (rw [R.out]; simp; done) | (rw [R.out]; simp; omega)), (Below.refl _ _).alloc (Nat.le_refl _) _⟩
    | true =>
      rw [hq] at Q
      have three : p.price < 1 ∨ (¬ p.price < 1 ∧ 100000000000000 < p.price) ∨ (¬ p.price < 1 ∧ ¬ 100000000000000 < p.price) := by omega
      rcases three with g1 | ⟨g1, g2⟩ | ⟨g1, g2⟩
      all_goals
        first
        | (have R := Lib.hid (show r = true from by rw [hr]; simp only [ordB, ht, hq, decide_eq_true hi.1, decide_eq_true hi.2, Bool.true_and, Bool.and_true]; exact decide_eq_true (by omega)))
        | (have R := Lib.hid (show r = false from by rw [hr]; simp only [ordB, ht, hq, decide_eq_true hi.1, decide_eq_true hi.2, Bool.true_and, Bool.and_true]; exact decide_eq_false (by omega)))
        clear hr ht hi hq h4 h5 M
        go_enter Tryz.func109, Tryz.ntmps109
        go_wp2_with fail
        refine (T.out _).mono ?_
        rintro e w' ⟨rfl, rfl⟩
        go_wp2_with (go_at_call 105; refine (Q.out _).mono ?_; rintro e w' ⟨rfl, rfl⟩)
        go_ret
        exact ⟨ret_bool (by first | (rw [R.out]; rfl) | (rw [R.out]; simp; omega)), (Below.refl _ _).alloc (Nat.le_refl _) _⟩
  · have R := Lib.hid (show r = false from by
      rw [hr]
      by_cases h1 : (1 ≤ p.id ∧ p.id ≤ 1099511627776)
      · simp only [ordB]; rw [decide_eq_false (show ¬ (0 ≤ p.instr ∧ p.instr < I) from fun h => hi ⟨h1, h⟩)]; simp
      · simp only [ordB]; rw [decide_eq_false h1]; simp)
    have ch : p.id < 1 ∨ (¬ p.id < 1 ∧ 1099511627776 < p.id) ∨ (¬ p.id < 1 ∧ ¬ 1099511627776 < p.id ∧ p.instr < 0) ∨ (¬ p.id < 1 ∧ ¬ 1099511627776 < p.id ∧ ¬ p.instr < 0 ∧ (I : Int) ≤ p.instr) := by omega
    clear hr ht hi h4 h5 M
    rcases ch with i1 | ⟨i1, i2⟩ | ⟨i1, i2, i3⟩ | ⟨i1, i2, i3, i4⟩
    all_goals
      go_enter Tryz.func109, Tryz.ntmps109
      go_wp2_with (go_at_call 104; refine (T.out _).mono ?_; rintro e w' ⟨rfl, rfl⟩)
      go_ret
      exact ⟨ret_bool (by first | (rw [R.out]; rfl) | (rw [R.out]; simp; done) | (rw [R.out]; simp; omega)), (Below.refl _ _).alloc (Nat.le_refl _) _⟩
end Go.Proofs.YtcjbhgnlmmeeeaaGreatDoor

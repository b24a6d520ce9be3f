/- Small library functions at the ledger's types, walked (printed by tools/gen_gen.py): cmp.Compare, cmp.Or, slices.Index, Contains, IndexFunc, ContainsFunc. -/
import Derived.Test.YtcjbhgnlmmeeeaaGreatDoorMgE
import Derived.Test.YtcjbhgnlmmeeeaaGreatDoorLedM
import Derived.Shelf.Abstract
namespace Go.Proofs.YtcjbhgnlmmeeeaaGreatDoor
open Go.RowKit Go.Bw Go.Maps Go.Shelf
set_option linter.unusedVariables false
set_option linter.unusedSimpArgs false

/-- The order of two numbers, as a number. -/
def cmpI (a b : Int) : Int := if a < b then -1 else if b < a then 1 else 0
set_option maxHeartbeats 400000 in
theorem nan_any (x : Int) (w : World) : Calls Tryz.prog 153 #[.int .i64 x] w fun e w' => e = .returned (.bool false) ∧ w = w' := by
  go_enter Tryz.func153, Tryz.ntmps153
  go_wp2_with fail
  go_ret
  exact ⟨ret_bool (by simp), rfl⟩
set_option maxHeartbeats 400000 in
theorem cmp_any (a b : Int) (w : World) : Calls Tryz.prog 140 #[.int .i64 a, .int .i64 b] w fun e w' => e = .returned (.int .i64 (cmpI a b)) ∧ w = w' := by
  have three : (a < b ∧ cmpI a b = -1) ∨ (¬ a < b ∧ b < a ∧ cmpI a b = 1) ∨ (¬ a < b ∧ ¬ b < a ∧ cmpI a b = 0) := by
    unfold cmpI
    by_cases h1 : a < b
    · exact Or.inl ⟨h1, if_pos h1⟩
    · by_cases h2 : b < a
      · exact Or.inr (Or.inl ⟨h1, h2, by rw [if_neg h1, if_pos h2]⟩)
      · exact Or.inr (Or.inr ⟨h1, h2, by rw [if_neg h1, if_neg h2]⟩)
  obtain ⟨r, hr⟩ : ∃ r, r = cmpI a b := ⟨_, rfl⟩
  rw [← hr] at three ⊢
  clear hr
  rcases three with ⟨h1, rfl⟩ | ⟨h1, h2, rfl⟩ | ⟨h1, h2, rfl⟩
  all_goals
    go_enter Tryz.func140, Tryz.ntmps140
    go_wp2_with fail
    refine (nan_any a _).mono ?_
    rintro e w' ⟨rfl, rfl⟩
    go_wp2_with fail
    refine (nan_any b _).mono ?_
    rintro e w' ⟨rfl, rfl⟩
    go_wp2_with fail
    go_ret
    exact ⟨rfl, rfl⟩
set_option maxHeartbeats 1000000 in
theorem cmpor_any (w : World) (b : Nat) (x y : Int) (h0 : w.cell? ⟨b, 0, none⟩ = some (.int .i64 x)) (h1 : w.cell? ⟨b, 1, none⟩ = some (.int .i64 y)) :
    Calls Tryz.prog 139 #[.slice (some ⟨b, 0, none⟩) 2 2] w fun e w' => e = .returned (.int .i64 (if x ≠ 0 then x else y)) ∧ w = w' := by
  obtain ⟨R, hR⟩ : ∃ R, R = (if x ≠ 0 then x else y) := ⟨_, rfl⟩
  rw [← hR]
  have HR := Lib.hid hR
  have H0 := Lib.hid h0
  have H1 := Lib.hid h1
  clear hR h0 h1
  go_enter Tryz.func139, Tryz.ntmps139
  go_wp2_with fail
  go_loop [8] (fun i => i = .int .i64 0 ∨ (i = .int .i64 1 ∧ x = 0) ∨ (i = .int .i64 2 ∧ x = 0 ∧ y = 0)) (fun i => 2 - (intOf i).toNat)
  case atStart => exact Or.inl rfl
  case round =>
    rcases hrel with rfl | ⟨rfl, hx⟩ | ⟨rfl, hx, hy⟩
    · have c0 := H0.out
      by_cases hx : x = 0
      · have hb : (x != 0) = false := by simp [hx]
        have X := Lib.hid hx
        clear hx
        go_wp2_with fail
        go_round
        case rel => exact Or.inr (Or.inl ⟨rfl, X.out⟩)
        case measure => first | (simp [intOf]; done) | (simp [intOf]; omega)
      · have hb : (x != 0) = true := by simp [hx]
        have X := Lib.hid (HR.out.trans (if_pos hx))
        clear hx
        go_wp2_with fail
        go_ret
        exact ⟨ret_int X.out.symm, rfl⟩
    · have c0 := H1.out
      have X := Lib.hid (HR.out.trans (if_neg (by simp [hx])))
      have X0 := Lib.hid hx
      clear hx
      by_cases hy : y = 0
      · have hb : (y != 0) = false := by simp [hy]
        have Y := Lib.hid hy
        clear hy
        go_wp2_with fail
        go_round
        case rel => exact Or.inr (Or.inr ⟨rfl, X0.out, Y.out⟩)
        case measure => first | (simp [intOf]; done) | (simp [intOf]; omega)
      · have hb : (y != 0) = true := by simp [hy]
        clear hy
        go_wp2_with fail
        go_ret
        exact ⟨ret_int X.out.symm, rfl⟩
    · have X := Lib.hid (HR.out.trans (if_neg (by simp [hx])))
      have Y := Lib.hid hy
      clear hx hy
      go_wp2_with fail
      go_ret
      exact ⟨ret_int (by rw [X.out, Y.out]), rfl⟩

set_option maxHeartbeats 1000000 in
theorem index_any (w : World) (v : Value) (l : List Int) (y : Int) (hR : RowOf w 1 icell v l) :
    Calls Tryz.prog 128 #[v, .int .i64 y] w fun e w' => e = .returned (.int .i64 (idxL (fun x => decide (y = x)) l)) ∧ w = w' := by
  obtain ⟨a, c, rfl⟩ := hR.form
  have hl : l.length ≤ 9223372036854775807 := by have := hR.caps; unfold maxLen at this; omega
  obtain ⟨R, hRr⟩ : ∃ R, R = idxL (fun x => decide (y = x)) l := ⟨_, rfl⟩
  rw [← hRr]
  have EQ := Lib.hid hRr
  have HR := Lib.hid hR
  clear hR hRr
  go_enter Tryz.func128, Tryz.ntmps128
  go_wp2_with fail
  go_loop [8] (fun i => ∃ k : Nat, k ≤ l.length ∧ i = .int .i64 k ∧ Hid (∀ (j : Nat) x, j < k → l[j]? = some x → decide (y = x) = false)) (fun i => l.length - (intOf i).toNat)
  case atStart => exact ⟨0, Nat.zero_le _, rfl, Lib.hid (fun j x hj => absurd hj (Nat.not_lt_zero _))⟩
  case round =>
    obtain ⟨k, hk, rfl, INV⟩ := hrel
    by_cases hlt : k < l.length
    · obtain ⟨x, hx⟩ : ∃ x, l[k]? = some x := ⟨_, List.getElem?_eq_getElem hlt⟩
      obtain ⟨b, o, rfl, _, hc⟩ := HR.out.at_ hx
      have c0 := hc 0 (.int .i64 x) rfl
      rw [Nat.mul_one, Nat.add_zero] at c0
      have hlt' : (k : Int) < (l.length : Int) := by omega
      have HX := Lib.hid hx
      clear hx hc
      by_cases hy : y = x
      · have hb : (y == x) = true := by simp [hy]
        have HY := Lib.hid hy
        clear hy
        go_wp2_with fail
        go_ret
        exact ⟨ret_int (by rw [EQ.out, idxL_hit INV.out HX.out (decide_eq_true HY.out)]), rfl⟩
      · have hb : (y == x) = false := by simp [hy]
        have HY := Lib.hid hy
        clear hy
        go_wp2_with fail
        go_round
        case rel => exact ⟨k + 1, by omega, by go_num, Lib.hid (fun j z hj hz => by
          by_cases e : j = k
          · subst e; have h1 := HX.out; rw [hz] at h1; cases h1; exact decide_eq_false HY.out
          · exact INV.out j z (by omega) hz)⟩
        case measure => simp [intOf]; omega
    · have hlt' : ¬ (k : Int) < (l.length : Int) := by omega
      have hkl : k = l.length := by omega
      have MS := Lib.hid (EQ.out.trans (idxL_miss (fun j z hj hz => INV.out j z (by omega) hz)))
      clear hkl
      go_wp2_with fail
      go_ret
      exact ⟨ret_int MS.out.symm, rfl⟩
set_option maxHeartbeats 400000 in
theorem contains_any (w : World) (v : Value) (l : List Int) (y : Int) (hR : RowOf w 1 icell v l) :
    Calls Tryz.prog 89 #[v, .int .i64 y] w fun e w' => e = .returned (.bool (l.any fun x => decide (y = x))) ∧ w = w' := by
  rw [← idxL_any]
  have HI := Lib.hid (index_any w v l y hR)
  clear hR
  obtain ⟨i, hi⟩ : ∃ i, i = idxL (fun x => decide (y = x)) l := ⟨_, rfl⟩
  rw [← hi] at HI ⊢
  clear hi
  go_enter Tryz.func89, Tryz.ntmps89
  go_wp2_with fail
  refine HI.out.mono ?_
  rintro e w' ⟨rfl, rfl⟩
  go_wp2_with fail
  go_ret
  exact ⟨rfl, rfl⟩
/-- What is asked of a test that is handed over. -/
def Tests {α : Type} (g : Nat) (lb : Array Value) (enc : α → Value) (p : α → Bool) (w : World) (l : List α) : Prop :=
  ∀ (W : World) (x : α), Below w.heap.size w W → x ∈ l → Calls Tryz.prog g (#[enc x] ++ lb) W fun e w' => e = .returned (.bool (p x)) ∧ Below W.heap.size W w'

set_option maxRecDepth 100000 in
set_option maxHeartbeats 1000000 in
theorem indexFunc_order (w : World) (v : Value) (l : List Ord) (g : Nat) (lb : Array Value) (p : Ord → Bool) (eg : Enters Tryz.prog g) (hR : RowOf w 5 Ord.cells v l) (ht : Tests g lb (fun x : Ord => .agg #[.int .i64 x.acct, .int .i64 x.id, .int .i64 x.instr, .int .i64 x.qty, .int .i64 x.price]) p w l) :
    Calls Tryz.prog 114 #[v, .func (.func g) #[] lb] w fun e w' => e = .returned (.int .i64 (idxL p l)) ∧ Below w.heap.size w w' := by
  obtain ⟨a, c, rfl⟩ := hR.form
  have hl : l.length ≤ 9223372036854775807 := by have := hR.caps; unfold maxLen at this; omega
  obtain ⟨R, hRr⟩ : ∃ R, R = idxL p l := ⟨_, rfl⟩
  rw [← hRr]
  have EQ := Lib.hid hRr
  have HR := Lib.hid hR
  have HT := Lib.hid ht
  have EG := Lib.hid eg
  clear hR hRr ht eg
  go_enter Tryz.func114, Tryz.ntmps114
  go_wp2_with fail
  go_loopw [8] (fun i wr => ∃ k : Nat, k ≤ l.length ∧ i = .int .i64 k ∧ Hid (∀ (j : Nat) x, j < k → l[j]? = some x → p x = false) ∧ Below w.heap.size w wr) (fun i _ => l.length - (intOf i).toNat)
  case atStart => exact ⟨0, Nat.zero_le _, rfl, Lib.hid (fun j x hj => absurd hj (Nat.not_lt_zero _)), Below.refl _ _⟩
  case round =>
    obtain ⟨k, hk, rfl, INV, hb⟩ := hrel
    have BW := Lib.hid hb
    clear hb
    by_cases hlt : k < l.length
    · obtain ⟨x, hx⟩ : ∃ x, l[k]? = some x := ⟨_, List.getElem?_eq_getElem hlt⟩
      obtain ⟨b, o, rfl, _, hc⟩ := (HR.out.below BW.out).at_ hx
      have c0 := hc 0 (.int .i64 x.acct) rfl
      have c1 := hc 1 (.int .i64 x.id) rfl
      have c2 := hc 2 (.int .i64 x.instr) rfl
      have c3 := hc 3 (.int .i64 x.qty) rfl
      have c4 := hc 4 (.int .i64 x.price) rfl
      rw [Nat.add_zero] at c0
      have hlt' : (k : Int) < (l.length : Int) := by omega
      have HX := Lib.hid hx
      have CALL := HT.out wr x BW.out (List.mem_of_getElem? hx)
      have eg : ∀ (args : Array Value) (w : World), (callFunc g args).run Tryz.prog w = .ok (.enter g args) w := EG.out
      clear hx hc
      cases hp : p x with
      | true =>
        rw [hp] at CALL
        have HP := Lib.hid hp
        have CL := Lib.hid CALL
        clear hp CALL
        go_wp2_with (go_at_fn g; refine CL.out.mono ?_; rintro e w' ⟨rfl, hb'⟩)
        have B2 := Lib.hid (BW.out.trans (hb'.mono BW.out.size))
        clear hb'
        go_ret
        exact ⟨ret_int (by rw [EQ.out, idxL_hit INV.out HX.out HP.out]), B2.out⟩
      | false =>
        rw [hp] at CALL
        have HP := Lib.hid hp
        have CL := Lib.hid CALL
        clear hp CALL
        go_wp2_with (go_at_fn g; refine CL.out.mono ?_; rintro e w' ⟨rfl, hb'⟩)
        have B2 := Lib.hid (BW.out.trans (hb'.mono BW.out.size))
        clear hb'
        go_roundw
        case rel => exact ⟨k + 1, by omega, by go_num, Lib.hid (fun j z hj hz => by
          by_cases e : j = k
          · subst e; have h1 := HX.out; rw [hz] at h1; cases h1; exact HP.out
          · exact INV.out j z (by omega) hz), B2.out⟩
        case measure => simp [intOf]; omega
    · have hlt' : ¬ (k : Int) < (l.length : Int) := by omega
      have hkl : k = l.length := by omega
      have MS := Lib.hid (EQ.out.trans (idxL_miss (fun j z hj hz => INV.out j z (by omega) hz)))
      clear hkl
      go_wp2_with fail
      go_ret
      exact ⟨ret_int MS.out.symm, BW.out⟩

set_option maxHeartbeats 400000 in
theorem containsFunc_order (w : World) (v : Value) (l : List Ord) (g : Nat) (lb : Array Value) (p : Ord → Bool) (eg : Enters Tryz.prog g) (hR : RowOf w 5 Ord.cells v l) (ht : Tests g lb (fun x : Ord => .agg #[.int .i64 x.acct, .int .i64 x.id, .int .i64 x.instr, .int .i64 x.qty, .int .i64 x.price]) p w l) :
    Calls Tryz.prog 58 #[v, .func (.func g) #[] lb] w fun e w' => e = .returned (.bool (l.any p)) ∧ Below w.heap.size w w' := by
  rw [← idxL_any]
  have HI := Lib.hid (indexFunc_order w v l g lb p eg hR ht)
  clear hR ht eg
  obtain ⟨i, hi⟩ : ∃ i, i = idxL p l := ⟨_, rfl⟩
  rw [← hi] at HI ⊢
  clear hi
  go_enter Tryz.func58, Tryz.ntmps58
  go_wp2_with fail
  refine HI.out.mono ?_
  rintro e w' ⟨rfl, hb⟩
  have B := Lib.hid hb
  clear hb
  go_wp2_with fail
  go_ret
  exact ⟨rfl, B.out⟩

set_option maxRecDepth 100000 in
set_option maxHeartbeats 1000000 in
theorem indexFunc_instr (w : World) (v : Value) (l : List Ins) (g : Nat) (lb : Array Value) (p : Ins → Bool) (eg : Enters Tryz.prog g) (hR : RowOf w 7 Ins.cells v l) (ht : Tests g lb (fun x : Ins => .agg #[.int .i64 x.kind, .int .i64 x.under, .int .i64 x.mult, .int .i64 x.strike, .int .i64 x.expiry, .bool x.call, .int .i64 x.mark]) p w l) :
    Calls Tryz.prog 137 #[v, .func (.func g) #[] lb] w fun e w' => e = .returned (.int .i64 (idxL p l)) ∧ Below w.heap.size w w' := by
  obtain ⟨a, c, rfl⟩ := hR.form
  have hl : l.length ≤ 9223372036854775807 := by have := hR.caps; unfold maxLen at this; omega
  obtain ⟨R, hRr⟩ : ∃ R, R = idxL p l := ⟨_, rfl⟩
  rw [← hRr]
  have EQ := Lib.hid hRr
  have HR := Lib.hid hR
  have HT := Lib.hid ht
  have EG := Lib.hid eg
  clear hR hRr ht eg
  go_enter Tryz.func137, Tryz.ntmps137
  go_wp2_with fail
  go_loopw [8] (fun i wr => ∃ k : Nat, k ≤ l.length ∧ i = .int .i64 k ∧ Hid (∀ (j : Nat) x, j < k → l[j]? = some x → p x = false) ∧ Below w.heap.size w wr) (fun i _ => l.length - (intOf i).toNat)
  case atStart => exact ⟨0, Nat.zero_le _, rfl, Lib.hid (fun j x hj => absurd hj (Nat.not_lt_zero _)), Below.refl _ _⟩
  case round =>
    obtain ⟨k, hk, rfl, INV, hb⟩ := hrel
    have BW := Lib.hid hb
    clear hb
    by_cases hlt : k < l.length
    · obtain ⟨x, hx⟩ : ∃ x, l[k]? = some x := ⟨_, List.getElem?_eq_getElem hlt⟩
      obtain ⟨b, o, rfl, _, hc⟩ := (HR.out.below BW.out).at_ hx
      have c0 := hc 0 (.int .i64 x.kind) rfl
      have c1 := hc 1 (.int .i64 x.under) rfl
      have c2 := hc 2 (.int .i64 x.mult) rfl
      have c3 := hc 3 (.int .i64 x.strike) rfl
      have c4 := hc 4 (.int .i64 x.expiry) rfl
      have c5 := hc 5 (.bool x.call) rfl
      have c6 := hc 6 (.int .i64 x.mark) rfl
      rw [Nat.add_zero] at c0
      have hlt' : (k : Int) < (l.length : Int) := by omega
      have HX := Lib.hid hx
      have CALL := HT.out wr x BW.out (List.mem_of_getElem? hx)
      have eg : ∀ (args : Array Value) (w : World), (callFunc g args).run Tryz.prog w = .ok (.enter g args) w := EG.out
      clear hx hc
      cases hp : p x with
      | true =>
        rw [hp] at CALL
        have HP := Lib.hid hp
        have CL := Lib.hid CALL
        clear hp CALL
        go_wp2_with (go_at_fn g; refine CL.out.mono ?_; rintro e w' ⟨rfl, hb'⟩)
        have B2 := Lib.hid (BW.out.trans (hb'.mono BW.out.size))
        clear hb'
        go_ret
        exact ⟨ret_int (by rw [EQ.out, idxL_hit INV.out HX.out HP.out]), B2.out⟩
      | false =>
        rw [hp] at CALL
        have HP := Lib.hid hp
        have CL := Lib.hid CALL
        clear hp CALL
        go_wp2_with (go_at_fn g; refine CL.out.mono ?_; rintro e w' ⟨rfl, hb'⟩)
        have B2 := Lib.hid (BW.out.trans (hb'.mono BW.out.size))
        clear hb'
        go_roundw
        case rel => exact ⟨k + 1, by omega, by go_num, Lib.hid (fun j z hj hz => by
          by_cases e : j = k
          · subst e; have h1 := HX.out; rw [hz] at h1; cases h1; exact HP.out
          · exact INV.out j z (by omega) hz), B2.out⟩
        case measure => simp [intOf]; omega
    · have hlt' : ¬ (k : Int) < (l.length : Int) := by omega
      have hkl : k = l.length := by omega
      have MS := Lib.hid (EQ.out.trans (idxL_miss (fun j z hj hz => INV.out j z (by omega) hz)))
      clear hkl
      go_wp2_with fail
      go_ret
      exact ⟨ret_int MS.out.symm, BW.out⟩

set_option maxHeartbeats 400000 in
theorem containsFunc_instr (w : World) (v : Value) (l : List Ins) (g : Nat) (lb : Array Value) (p : Ins → Bool) (eg : Enters Tryz.prog g) (hR : RowOf w 7 Ins.cells v l) (ht : Tests g lb (fun x : Ins => .agg #[.int .i64 x.kind, .int .i64 x.under, .int .i64 x.mult, .int .i64 x.strike, .int .i64 x.expiry, .bool x.call, .int .i64 x.mark]) p w l) :
    Calls Tryz.prog 96 #[v, .func (.func g) #[] lb] w fun e w' => e = .returned (.bool (l.any p)) ∧ Below w.heap.size w w' := by
  rw [← idxL_any]
  have HI := Lib.hid (indexFunc_instr w v l g lb p eg hR ht)
  clear hR ht eg
  obtain ⟨i, hi⟩ : ∃ i, i = idxL p l := ⟨_, rfl⟩
  rw [← hi] at HI ⊢
  clear hi
  go_enter Tryz.func96, Tryz.ntmps96
  go_wp2_with fail
  refine HI.out.mono ?_
  rintro e w' ⟨rfl, hb⟩
  have B := Lib.hid hb
  clear hb
  go_wp2_with fail
  go_ret
  exact ⟨rfl, B.out⟩

set_option maxRecDepth 100000 in
set_option maxHeartbeats 1000000 in
theorem indexFunc_pos (w : World) (v : Value) (l : List Pos) (g : Nat) (lb : Array Value) (p : Pos → Bool) (eg : Enters Tryz.prog g) (hR : RowOf w 3 Pos.cells v l) (ht : Tests g lb (fun x : Pos => .agg #[.int .i64 x.acct, .int .i64 x.instr, .int .i64 x.qty]) p w l) :
    Calls Tryz.prog 141 #[v, .func (.func g) #[] lb] w fun e w' => e = .returned (.int .i64 (idxL p l)) ∧ Below w.heap.size w w' := by
  obtain ⟨a, c, rfl⟩ := hR.form
  have hl : l.length ≤ 9223372036854775807 := by have := hR.caps; unfold maxLen at this; omega
  obtain ⟨R, hRr⟩ : ∃ R, R = idxL p l := ⟨_, rfl⟩
  rw [← hRr]
  have EQ := Lib.hid hRr
  have HR := Lib.hid hR
  have HT := Lib.hid ht
  have EG := Lib.hid eg
  clear hR hRr ht eg
  go_enter Tryz.func141, Tryz.ntmps141
  go_wp2_with fail
  go_loopw [8] (fun i wr => ∃ k : Nat, k ≤ l.length ∧ i = .int .i64 k ∧ Hid (∀ (j : Nat) x, j < k → l[j]? = some x → p x = false) ∧ Below w.heap.size w wr) (fun i _ => l.length - (intOf i).toNat)
  case atStart => exact ⟨0, Nat.zero_le _, rfl, Lib.hid (fun j x hj => absurd hj (Nat.not_lt_zero _)), Below.refl _ _⟩
  case round =>
    obtain ⟨k, hk, rfl, INV, hb⟩ := hrel
    have BW := Lib.hid hb
    clear hb
    by_cases hlt : k < l.length
    · obtain ⟨x, hx⟩ : ∃ x, l[k]? = some x := ⟨_, List.getElem?_eq_getElem hlt⟩
      obtain ⟨b, o, rfl, _, hc⟩ := (HR.out.below BW.out).at_ hx
      have c0 := hc 0 (.int .i64 x.acct) rfl
      have c1 := hc 1 (.int .i64 x.instr) rfl
      have c2 := hc 2 (.int .i64 x.qty) rfl
      rw [Nat.add_zero] at c0
      have hlt' : (k : Int) < (l.length : Int) := by omega
      have HX := Lib.hid hx
      have CALL := HT.out wr x BW.out (List.mem_of_getElem? hx)
      have eg : ∀ (args : Array Value) (w : World), (callFunc g args).run Tryz.prog w = .ok (.enter g args) w := EG.out
      clear hx hc
      cases hp : p x with
      | true =>
        rw [hp] at CALL
        have HP := Lib.hid hp
        have CL := Lib.hid CALL
        clear hp CALL
        go_wp2_with (go_at_fn g; refine CL.out.mono ?_; rintro e w' ⟨rfl, hb'⟩)
        have B2 := Lib.hid (BW.out.trans (hb'.mono BW.out.size))
        clear hb'
        go_ret
        exact ⟨ret_int (by rw [EQ.out, idxL_hit INV.out HX.out HP.out]), B2.out⟩
      | false =>
        rw [hp] at CALL
        have HP := Lib.hid hp
        have CL := Lib.hid CALL
        clear hp CALL
        go_wp2_with (go_at_fn g; refine CL.out.mono ?_; rintro e w' ⟨rfl, hb'⟩)
        have B2 := Lib.hid (BW.out.trans (hb'.mono BW.out.size))
        clear hb'
        go_roundw
        case rel => exact ⟨k + 1, by omega, by go_num, Lib.hid (fun j z hj hz => by
          by_cases e : j = k
          · subst e; have h1 := HX.out; rw [hz] at h1; cases h1; exact HP.out
          · exact INV.out j z (by omega) hz), B2.out⟩
        case measure => simp [intOf]; omega
    · have hlt' : ¬ (k : Int) < (l.length : Int) := by omega
      have hkl : k = l.length := by omega
      have MS := Lib.hid (EQ.out.trans (idxL_miss (fun j z hj hz => INV.out j z (by omega) hz)))
      clear hkl
      go_wp2_with fail
      go_ret
      exact ⟨ret_int MS.out.symm, BW.out⟩

set_option maxHeartbeats 400000 in
theorem containsFunc_pos (w : World) (v : Value) (l : List Pos) (g : Nat) (lb : Array Value) (p : Pos → Bool) (eg : Enters Tryz.prog g) (hR : RowOf w 3 Pos.cells v l) (ht : Tests g lb (fun x : Pos => .agg #[.int .i64 x.acct, .int .i64 x.instr, .int .i64 x.qty]) p w l) :
    Calls Tryz.prog 108 #[v, .func (.func g) #[] lb] w fun e w' => e = .returned (.bool (l.any p)) ∧ Below w.heap.size w w' := by
  rw [← idxL_any]
  have HI := Lib.hid (indexFunc_pos w v l g lb p eg hR ht)
  clear hR ht eg
  obtain ⟨i, hi⟩ : ∃ i, i = idxL p l := ⟨_, rfl⟩
  rw [← hi] at HI ⊢
  clear hi
  go_enter Tryz.func108, Tryz.ntmps108
  go_wp2_with fail
  refine HI.out.mono ?_
  rintro e w' ⟨rfl, hb⟩
  have B := Lib.hid hb
  clear hb
  go_wp2_with fail
  go_ret
  exact ⟨rfl, B.out⟩

set_option maxRecDepth 100000 in
set_option maxHeartbeats 1000000 in
theorem indexFunc_under (w : World) (v : Value) (l : List Und) (g : Nat) (lb : Array Value) (p : Und → Bool) (eg : Enters Tryz.prog g) (hR : RowOf w 4 Und.cells v l) (ht : Tests g lb (fun x : Und => .agg #[.string x.name, .int .i64 x.cur, .int .i64 x.price, .int .i64 x.vol]) p w l) :
    Calls Tryz.prog 135 #[v, .func (.func g) #[] lb] w fun e w' => e = .returned (.int .i64 (idxL p l)) ∧ Below w.heap.size w w' := by
  obtain ⟨a, c, rfl⟩ := hR.form
  have hl : l.length ≤ 9223372036854775807 := by have := hR.caps; unfold maxLen at this; omega
  obtain ⟨R, hRr⟩ : ∃ R, R = idxL p l := ⟨_, rfl⟩
  rw [← hRr]
  have EQ := Lib.hid hRr
  have HR := Lib.hid hR
  have HT := Lib.hid ht
  have EG := Lib.hid eg
  clear hR hRr ht eg
  go_enter Tryz.func135, Tryz.ntmps135
  go_wp2_with fail
  go_loopw [8] (fun i wr => ∃ k : Nat, k ≤ l.length ∧ i = .int .i64 k ∧ Hid (∀ (j : Nat) x, j < k → l[j]? = some x → p x = false) ∧ Below w.heap.size w wr) (fun i _ => l.length - (intOf i).toNat)
  case atStart => exact ⟨0, Nat.zero_le _, rfl, Lib.hid (fun j x hj => absurd hj (Nat.not_lt_zero _)), Below.refl _ _⟩
  case round =>
    obtain ⟨k, hk, rfl, INV, hb⟩ := hrel
    have BW := Lib.hid hb
    clear hb
    by_cases hlt : k < l.length
    · obtain ⟨x, hx⟩ : ∃ x, l[k]? = some x := ⟨_, List.getElem?_eq_getElem hlt⟩
      obtain ⟨b, o, rfl, _, hc⟩ := (HR.out.below BW.out).at_ hx
      have c0 := hc 0 (.string x.name) rfl
      have c1 := hc 1 (.int .i64 x.cur) rfl
      have c2 := hc 2 (.int .i64 x.price) rfl
      have c3 := hc 3 (.int .i64 x.vol) rfl
      rw [Nat.add_zero] at c0
      have hlt' : (k : Int) < (l.length : Int) := by omega
      have HX := Lib.hid hx
      have CALL := HT.out wr x BW.out (List.mem_of_getElem? hx)
      have eg : ∀ (args : Array Value) (w : World), (callFunc g args).run Tryz.prog w = .ok (.enter g args) w := EG.out
      clear hx hc
      cases hp : p x with
      | true =>
        rw [hp] at CALL
        have HP := Lib.hid hp
        have CL := Lib.hid CALL
        clear hp CALL
        go_wp2_with (go_at_fn g; refine CL.out.mono ?_; rintro e w' ⟨rfl, hb'⟩)
        have B2 := Lib.hid (BW.out.trans (hb'.mono BW.out.size))
        clear hb'
        go_ret
        exact ⟨ret_int (by rw [EQ.out, idxL_hit INV.out HX.out HP.out]), B2.out⟩
      | false =>
        rw [hp] at CALL
        have HP := Lib.hid hp
        have CL := Lib.hid CALL
        clear hp CALL
        go_wp2_with (go_at_fn g; refine CL.out.mono ?_; rintro e w' ⟨rfl, hb'⟩)
        have B2 := Lib.hid (BW.out.trans (hb'.mono BW.out.size))
        clear hb'
        go_roundw
        case rel => exact ⟨k + 1, by omega, by go_num, Lib.hid (fun j z hj hz => by
          by_cases e : j = k
          · subst e; have h1 := HX.out; rw [hz] at h1; cases h1; exact HP.out
          · exact INV.out j z (by omega) hz), B2.out⟩
        case measure => simp [intOf]; omega
    · have hlt' : ¬ (k : Int) < (l.length : Int) := by omega
      have hkl : k = l.length := by omega
      have MS := Lib.hid (EQ.out.trans (idxL_miss (fun j z hj hz => INV.out j z (by omega) hz)))
      clear hkl
      go_wp2_with fail
      go_ret
      exact ⟨ret_int MS.out.symm, BW.out⟩

set_option maxRecDepth 100000 in
set_option maxHeartbeats 1000000 in
theorem indexFunc_int (w : World) (v : Value) (l : List Int) (g : Nat) (lb : Array Value) (p : Int → Bool) (eg : Enters Tryz.prog g) (hR : RowOf w 1 icell v l) (ht : Tests g lb (fun x : Int => .int .i64 x) p w l) :
    Calls Tryz.prog 138 #[v, .func (.func g) #[] lb] w fun e w' => e = .returned (.int .i64 (idxL p l)) ∧ Below w.heap.size w w' := by
  obtain ⟨a, c, rfl⟩ := hR.form
  have hl : l.length ≤ 9223372036854775807 := by have := hR.caps; unfold maxLen at this; omega
  obtain ⟨R, hRr⟩ : ∃ R, R = idxL p l := ⟨_, rfl⟩
  rw [← hRr]
  have EQ := Lib.hid hRr
  have HR := Lib.hid hR
  have HT := Lib.hid ht
  have EG := Lib.hid eg
  clear hR hRr ht eg
  go_enter Tryz.func138, Tryz.ntmps138
  go_wp2_with fail
  go_loopw [8] (fun i wr => ∃ k : Nat, k ≤ l.length ∧ i = .int .i64 k ∧ Hid (∀ (j : Nat) x, j < k → l[j]? = some x → p x = false) ∧ Below w.heap.size w wr) (fun i _ => l.length - (intOf i).toNat)
  case atStart => exact ⟨0, Nat.zero_le _, rfl, Lib.hid (fun j x hj => absurd hj (Nat.not_lt_zero _)), Below.refl _ _⟩
  case round =>
    obtain ⟨k, hk, rfl, INV, hb⟩ := hrel
    have BW := Lib.hid hb
    clear hb
    by_cases hlt : k < l.length
    · obtain ⟨x, hx⟩ : ∃ x, l[k]? = some x := ⟨_, List.getElem?_eq_getElem hlt⟩
      obtain ⟨b, o, rfl, _, hc⟩ := (HR.out.below BW.out).at_ hx
      have c0 := hc 0 (.int .i64 x) rfl
      rw [Nat.mul_one, Nat.add_zero] at c0
      have hlt' : (k : Int) < (l.length : Int) := by omega
      have HX := Lib.hid hx
      have CALL := HT.out wr x BW.out (List.mem_of_getElem? hx)
      have eg : ∀ (args : Array Value) (w : World), (callFunc g args).run Tryz.prog w = .ok (.enter g args) w := EG.out
      clear hx hc
      cases hp : p x with
      | true =>
        rw [hp] at CALL
        have HP := Lib.hid hp
        have CL := Lib.hid CALL
        clear hp CALL
        go_wp2_with (go_at_fn g; refine CL.out.mono ?_; rintro e w' ⟨rfl, hb'⟩)
        have B2 := Lib.hid (BW.out.trans (hb'.mono BW.out.size))
        clear hb'
        go_ret
        exact ⟨ret_int (by rw [EQ.out, idxL_hit INV.out HX.out HP.out]), B2.out⟩
      | false =>
        rw [hp] at CALL
        have HP := Lib.hid hp
        have CL := Lib.hid CALL
        clear hp CALL
        go_wp2_with (go_at_fn g; refine CL.out.mono ?_; rintro e w' ⟨rfl, hb'⟩)
        have B2 := Lib.hid (BW.out.trans (hb'.mono BW.out.size))
        clear hb'
        go_roundw
        case rel => exact ⟨k + 1, by omega, by go_num, Lib.hid (fun j z hj hz => by
          by_cases e : j = k
          · subst e; have h1 := HX.out; rw [hz] at h1; cases h1; exact HP.out
          · exact INV.out j z (by omega) hz), B2.out⟩
        case measure => simp [intOf]; omega
    · have hlt' : ¬ (k : Int) < (l.length : Int) := by omega
      have hkl : k = l.length := by omega
      have MS := Lib.hid (EQ.out.trans (idxL_miss (fun j z hj hz => INV.out j z (by omega) hz)))
      clear hkl
      go_wp2_with fail
      go_ret
      exact ⟨ret_int MS.out.symm, BW.out⟩

set_option maxHeartbeats 400000 in
theorem containsFunc_int (w : World) (v : Value) (l : List Int) (g : Nat) (lb : Array Value) (p : Int → Bool) (eg : Enters Tryz.prog g) (hR : RowOf w 1 icell v l) (ht : Tests g lb (fun x : Int => .int .i64 x) p w l) :
    Calls Tryz.prog 101 #[v, .func (.func g) #[] lb] w fun e w' => e = .returned (.bool (l.any p)) ∧ Below w.heap.size w w' := by
  rw [← idxL_any]
  have HI := Lib.hid (indexFunc_int w v l g lb p eg hR ht)
  clear hR ht eg
  obtain ⟨i, hi⟩ : ∃ i, i = idxL p l := ⟨_, rfl⟩
  rw [← hi] at HI ⊢
  clear hi
  go_enter Tryz.func101, Tryz.ntmps101
  go_wp2_with fail
  refine HI.out.mono ?_
  rintro e w' ⟨rfl, hb⟩
  have B := Lib.hid hb
  clear hb
  go_wp2_with fail
  go_ret
  exact ⟨rfl, B.out⟩
end Go.Proofs.YtcjbhgnlmmeeeaaGreatDoor

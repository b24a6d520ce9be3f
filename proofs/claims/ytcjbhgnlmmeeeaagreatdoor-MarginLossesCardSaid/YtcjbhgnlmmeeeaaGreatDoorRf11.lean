/- bulwarkref11 (fits, Value, Unit) of what a ledger that can be holds, walked. -/
import Derived.Test.YtcjbhgnlmmeeeaaGreatDoorRf01b
import Derived.Test.YtcjbhgnlmmeeeaaGreatDoorMgB
import Derived.Test.YtcjbhgnlmmeeeaaGreatDoorRefN
namespace Go.Proofs.YtcjbhgnlmmeeeaaGreatDoor
open Go.RowKit Go.Bw Go.Maps Go.Shelf
set_option linter.unusedVariables false
set_option linter.unusedSimpArgs false

set_option maxHeartbeats 400000 in
theorem rfits11_yes (x : Int) (h0 : 0 ≤ x) (h1 : x ≤ 100000000000000) (w : World) : Calls Tryz.prog 150 #[.int .i64 x] w fun e w' => e = .returned (.bool true) ∧ w = w' := by
  go_enter Tryz.func150, Tryz.ntmps150
  go_wp2_with fail
  go_ret
  refine ⟨ret_bool ?_, rfl⟩
  first | rfl | simp | (simp; omega)

set_option maxRecDepth 100000 in
set_option maxHeartbeats 4000000 in
theorem rvalue_any (call : Bool) (strike price vol days : Int) (s0 : 0 ≤ strike) (s1 : strike ≤ 1000000000000) (p0 : 0 ≤ price) (p1 : price ≤ 1200000000000) (v0 : 0 ≤ vol) (v1 : vol ≤ 62500) (d0 : -100000 ≤ days) (d1 : days ≤ 100000) (w : World) :
    Calls Tryz.prog 151 #[.bool call, .int .i64 strike, .int .i64 price, .int .i64 vol, .int .i64 days] w fun e w' => e = .returned (.tuple #[.int .i64 (valueA call strike price vol days).1, .int .i64 0]) ∧ Below w.heap.size w w' := by
  obtain ⟨R, hR⟩ : ∃ R, R = (valueA call strike price vol days).1 := ⟨_, rfl⟩
  rw [← hR]
  have EQ := Lib.hid hR
  have I1 := Lib.hid (fun W => rfits11_yes strike s0 (by omega) W)
  have I2 := Lib.hid (fun W => rfits11_yes price p0 (by omega) W)
  have I3 := Lib.hid (fun W => rfits11_yes vol v0 (by omega) W)
  clear hR
  obtain ⟨gap, hgap⟩ : ∃ gap, gap = if call = true then price - strike else strike - price := ⟨_, rfl⟩
  have GA := Lib.hid hgap
  have gb : -1200000000000 ≤ gap ∧ gap ≤ 1200000000000 := by rw [hgap]; split <;> omega
  have gn : (price - strike).natAbs = gap.natAbs := by rw [hgap]; split <;> omega
  have GN := Lib.hid gn
  obtain ⟨gb0, gb1⟩ := gb
  clear gn
  by_cases hd : days ≤ 0
  · have RG := Lib.hid (show R = max gap 0 from by rw [EQ.out]; unfold valueA; rw [if_neg (by omega), if_pos hd, ← GA.out])
    clear GN EQ
    by_cases hg0 : gap < 0
    · have EG := Lib.hid (show R = 0 from by rw [RG.out]; omega)
      cases call
      all_goals
        have e0 := GA.out
        first | rw [if_neg (by decide)] at e0 | rw [if_pos rfl] at e0
        clear hgap GA
        subst e0
        go_enter Tryz.func151, Tryz.ntmps151
        go_wp2_with fail
        refine (I1.out _).mono ?_
        rintro e w' ⟨rfl, rfl⟩
        go_wp2_with fail
        refine (I2.out _).mono ?_
        rintro e w' ⟨rfl, rfl⟩
        go_wp2_with fail
        refine (I3.out _).mono ?_
        rintro e w' ⟨rfl, rfl⟩
        go_wp2_with fail
        go_ret2
        exact ⟨by rw [EG.out]; first | done | rfl | simp, Below.refl _ _⟩
    · have EG := Lib.hid (show R = gap from by rw [RG.out]; omega)
      cases call
      all_goals
        have e0 := GA.out
        first | rw [if_neg (by decide)] at e0 | rw [if_pos rfl] at e0
        clear hgap GA
        subst e0
        go_enter Tryz.func151, Tryz.ntmps151
        go_wp2_with fail
        refine (I1.out _).mono ?_
        rintro e w' ⟨rfl, rfl⟩
        go_wp2_with fail
        refine (I2.out _).mono ?_
        rintro e w' ⟨rfl, rfl⟩
        go_wp2_with fail
        refine (I3.out _).mono ?_
        rintro e w' ⟨rfl, rfl⟩
        go_wp2_with fail
        go_ret2
        exact ⟨by rw [EG.out]; first | done | rfl | simp, Below.refl _ _⟩
  · have m1 := mul_le v0 (show 0 ≤ days by omega) v1 d1
    have m0 : 0 ≤ vol * days := Int.mul_nonneg v0 (by omega)
    have e1 : mulA vol days = (vol * days, 0) := by
      rw [mulA_eq, if_pos ⟨fitsA_true.2 (by omega), fitsA_true.2 (by omega), fitsA_true.2 (by omega)⟩]
    have m2 := mul_le s0 m0 s1 (show vol * days ≤ 6250000000 by omega)
    obtain ⟨e2, h0, h1⟩ := mdA_small strike (vol * days) 3650000 1800000000000000 s0 m0 (by omega) (by omega) (by omega) (by omega) (by omega) (by omega)
    have FM := Lib.hid (fun W => rmul_any vol days W)
    have FD := Lib.hid (fun W => rmd_any strike (vol * days) 3650000 0 W)
    rw [e1] at FM
    rw [e2] at FD
    have EV := Lib.hid (show valueA call strike price vol days = addA (max (if call then price - strike else strike - price) 0) (max (strike * (vol * days) / 3650000 - ((price - strike).natAbs : Int) / 2) 0) from by
      unfold valueA; rw [if_neg (by omega), if_neg hd, if_neg (by omega), e1, if_neg (by simp)]; simp only; rw [e2, if_neg (by simp)])
    obtain ⟨M, hM⟩ : ∃ M, M = vol * days := ⟨_, rfl⟩
    obtain ⟨t, ht⟩ : ∃ t, t = strike * (vol * days) / 3650000 := ⟨_, rfl⟩
    rw [← ht] at h0 h1 FD EV
    rw [← hM] at FM FD
    clear hM ht e1 e2 m0 m1 m2
    have hd' : ¬ 100000 < days := by omega
    rw [← GA.out, GN.out] at EV
    obtain ⟨A, hA⟩ : ∃ A, A = max gap 0 := ⟨_, rfl⟩
    obtain ⟨B, hB⟩ : ∃ B, B = max (t - (gap.natAbs : Int) / 2) 0 := ⟨_, rfl⟩
    have a0 : 0 ≤ A ∧ A ≤ 1200000000000 := by omega
    have b0 : 0 ≤ B ∧ B ≤ 1800000000000000 := by omega
    have FA := Lib.hid (fun W => radd_any A B W)
    have ea : addA A B = (A + B, 0) := addA_small (fitsA_true.2 (by omega)) (fitsA_true.2 (by omega)) (fitsA_true.2 (by omega))
    rw [ea] at FA
    have GV := Lib.hid (show R = A + B from by rw [EQ.out, EV.out, ← hA, ← hB, ea])
    have HA := Lib.hid hA
    have HB := Lib.hid hB
    clear EV EQ GN hA hB ea a0 b0
    by_cases hg0 : gap < 0
    · have hA0 := Lib.hid (show (0 : Int) = A from by have := HA.out; omega)
      have q1 : Int.tdiv (-gap) 2 = -gap / 2 := Int.tdiv_eq_ediv_of_nonneg (by omega)
      by_cases hm : t - -gap / 2 < 0
      · have hB0 := Lib.hid (show (0 : Int) = B from by have := HB.out; omega)
        rw [← hA0.out, ← hB0.out] at FA GV
        clear HA HB hA0 hB0
        cases call
        all_goals
          have e0 := GA.out
          first | rw [if_neg (by decide)] at e0 | rw [if_pos rfl] at e0
          clear hgap GA
          subst e0
          go_enter Tryz.func151, Tryz.ntmps151
          go_wp2_with fail
          refine (I1.out _).mono ?_
          rintro e w' ⟨rfl, rfl⟩
          go_wp2_with fail
          refine (I2.out _).mono ?_
          rintro e w' ⟨rfl, rfl⟩
          go_wp2_with fail
          refine (I3.out _).mono ?_
          rintro e w' ⟨rfl, rfl⟩
          go_wp2_with fail
          refine (FM.out _).mono ?_
          rintro e w1 ⟨rfl, hb⟩
          have B1 := Lib.hid hb
          clear hb
          go_wp2_with fail
          refine (FD.out _).mono ?_
          rintro e w2 ⟨rfl, hb⟩
          have B2 := Lib.hid (B1.out.trans (hb.mono B1.out.size))
          clear hb
          go_wp2_with fail
          refine (FA.out _).mono ?_
          rintro e w3 ⟨rfl, rfl⟩
          go_wp2_with fail
          go_ret2
          exact ⟨by rw [GV.out]; first | done | rfl | simp, B2.out⟩
      · have hB0 := Lib.hid (show t - -gap / 2 = B from by have := HB.out; omega)
        rw [← hA0.out, ← hB0.out] at FA GV
        clear HA HB hA0 hB0
        cases call
        all_goals
          have e0 := GA.out
          first | rw [if_neg (by decide)] at e0 | rw [if_pos rfl] at e0
          clear hgap GA
          subst e0
          go_enter Tryz.func151, Tryz.ntmps151
          go_wp2_with fail
          refine (I1.out _).mono ?_
          rintro e w' ⟨rfl, rfl⟩
          go_wp2_with fail
          refine (I2.out _).mono ?_
          rintro e w' ⟨rfl, rfl⟩
          go_wp2_with fail
          refine (I3.out _).mono ?_
          rintro e w' ⟨rfl, rfl⟩
          go_wp2_with fail
          refine (FM.out _).mono ?_
          rintro e w1 ⟨rfl, hb⟩
          have B1 := Lib.hid hb
          clear hb
          go_wp2_with fail
          refine (FD.out _).mono ?_
          rintro e w2 ⟨rfl, hb⟩
          have B2 := Lib.hid (B1.out.trans (hb.mono B1.out.size))
          clear hb
          go_wp2_with fail
          refine (FA.out _).mono ?_
          rintro e w3 ⟨rfl, rfl⟩
          go_wp2_with fail
          go_ret2
          exact ⟨by rw [GV.out]; first | done | rfl | simp, B2.out⟩
    · have hA0 := Lib.hid (show gap = A from by have := HA.out; omega)
      have q1 : Int.tdiv gap 2 = gap / 2 := Int.tdiv_eq_ediv_of_nonneg (by omega)
      by_cases hm : t - gap / 2 < 0
      · have hB0 := Lib.hid (show (0 : Int) = B from by have := HB.out; omega)
        rw [← hA0.out, ← hB0.out] at FA GV
        clear HA HB hA0 hB0
        cases call
        all_goals
          have e0 := GA.out
          first | rw [if_neg (by decide)] at e0 | rw [if_pos rfl] at e0
          clear hgap GA
          subst e0
          go_enter Tryz.func151, Tryz.ntmps151
          go_wp2_with fail
          refine (I1.out _).mono ?_
          rintro e w' ⟨rfl, rfl⟩
          go_wp2_with fail
          refine (I2.out _).mono ?_
          rintro e w' ⟨rfl, rfl⟩
          go_wp2_with fail
          refine (I3.out _).mono ?_
          rintro e w' ⟨rfl, rfl⟩
          go_wp2_with fail
          refine (FM.out _).mono ?_
          rintro e w1 ⟨rfl, hb⟩
          have B1 := Lib.hid hb
          clear hb
          go_wp2_with fail
          refine (FD.out _).mono ?_
          rintro e w2 ⟨rfl, hb⟩
          have B2 := Lib.hid (B1.out.trans (hb.mono B1.out.size))
          clear hb
          go_wp2_with fail
          refine (FA.out _).mono ?_
          rintro e w3 ⟨rfl, rfl⟩
          go_wp2_with fail
          go_ret2
          exact ⟨by rw [GV.out]; first | done | rfl | simp, B2.out⟩
      · have hB0 := Lib.hid (show t - gap / 2 = B from by have := HB.out; omega)
        rw [← hA0.out, ← hB0.out] at FA GV
        clear HA HB hA0 hB0
        cases call
        all_goals
          have e0 := GA.out
          first | rw [if_neg (by decide)] at e0 | rw [if_pos rfl] at e0
          clear hgap GA
          subst e0
          go_enter Tryz.func151, Tryz.ntmps151
          go_wp2_with fail
          refine (I1.out _).mono ?_
          rintro e w' ⟨rfl, rfl⟩
          go_wp2_with fail
          refine (I2.out _).mono ?_
          rintro e w' ⟨rfl, rfl⟩
          go_wp2_with fail
          refine (I3.out _).mono ?_
          rintro e w' ⟨rfl, rfl⟩
          go_wp2_with fail
          refine (FM.out _).mono ?_
          rintro e w1 ⟨rfl, hb⟩
          have B1 := Lib.hid hb
          clear hb
          go_wp2_with fail
          refine (FD.out _).mono ?_
          rintro e w2 ⟨rfl, hb⟩
          have B2 := Lib.hid (B1.out.trans (hb.mono B1.out.size))
          clear hb
          go_wp2_with fail
          refine (FA.out _).mono ?_
          rintro e w3 ⟨rfl, rfl⟩
          go_wp2_with fail
          go_ret2
          exact ⟨by rw [GV.out]; first | done | rfl | simp, B2.out⟩

set_option maxRecDepth 100000 in
set_option maxHeartbeats 4000000 in
theorem runit_any (i : Ins) (n : Nat) (hi : i.Ok n) (price vol day : Int) (p0 : 0 ≤ price) (p1 : price ≤ 1200000000000) (v0 : 0 ≤ vol) (v1 : vol ≤ 62500) (d0 : 0 ≤ day) (d1 : day ≤ 100000) (w : World) :
    Calls Tryz.prog 132 #[.agg #[.int .i64 i.kind, .int .i64 i.under, .int .i64 i.mult, .int .i64 i.strike, .int .i64 i.expiry, .bool i.call, .int .i64 i.mark], .int .i64 price, .int .i64 vol, .int .i64 day] w fun e w' => e = .returned (.tuple #[.int .i64 (unitA i price vol day).1, .int .i64 0]) ∧ Below w.heap.size w w' := by
  obtain ⟨R, hR⟩ : ∃ R, R = (unitA i price vol day).1 := ⟨_, rfl⟩
  rw [← hR]
  obtain ⟨_, _, _, _, _, _, hk⟩ := hi
  have EQ := Lib.hid hR
  have I1 := Lib.hid (fun W => rfits11_yes price p0 (by omega) W)
  have I2 := Lib.hid (fun W => rfits11_yes vol v0 (by omega) W)
  have B0 := Lib.hid ((Below.refl w.heap.size w).alloc (Nat.le_refl _) (.cells #[.int .i64 i.kind, .int .i64 i.under, .int .i64 i.mult, .int .i64 i.strike, .int .i64 i.expiry, .bool i.call, .int .i64 i.mark] 54))
  have g5 : ¬ day < 0 := by omega
  have g6 : ¬ 100000 < day := by omega
  clear hR
  by_cases h3 : i.kind = 3
  · have hk3 : 1 ≤ i.strike ∧ i.strike ≤ 1000000000000 ∧ 1 ≤ i.expiry ∧ i.expiry ≤ 100000 := by
      rcases hk with h | h | h
      · omega
      · omega
      · exact h.2
    obtain ⟨s0, s1, e0, e1⟩ := hk3
    have VA := Lib.hid (fun W => rvalue_any i.call i.strike price vol (i.expiry - day) (by omega) s1 p0 p1 v0 v1 (by omega) (by omega) W)
    have EV := Lib.hid (show R = (valueA i.call i.strike price vol (i.expiry - day)).1 from by
      rw [EQ.out]; unfold unitA; rw [if_neg (by omega), if_neg (by omega), if_neg (by simp [h3]), if_neg (by omega)])
    rw [← EV.out] at VA
    have g1 : ¬ i.kind < 1 := by omega
    have g2 : ¬ 3 < i.kind := by omega
    have g3 : ¬ i.kind < 3 := by omega
    have g7 : ¬ i.expiry < 0 := by omega
    have g8 : ¬ 100000 < i.expiry := by omega
    clear h3 hk
    go_enter Tryz.func132, Tryz.ntmps132
    go_wp2_with fail
    refine (I1.out _).mono ?_
    rintro e w' ⟨rfl, rfl⟩
    go_wp2_with fail
    refine (I2.out _).mono ?_
    rintro e w' ⟨rfl, rfl⟩
    go_wp2_with fail
    refine (VA.out _).mono ?_
    rintro e w' ⟨rfl, hb⟩
    have B1 := Lib.hid (B0.out.trans (hb.mono (by simp)))
    clear hb
    go_wp2_with fail
    go_ret2
    exact ⟨rfl, B1.out⟩
  · have RV := Lib.hid (show R = price from by rw [EQ.out]; unfold unitA; rw [if_neg (by omega), if_neg (by omega), if_pos h3])
    have g1 : ¬ i.kind < 1 := by omega
    have g2 : ¬ 3 < i.kind := by omega
    have g3 : i.kind < 3 := by omega
    clear h3 hk
    go_enter Tryz.func132, Tryz.ntmps132
    go_wp2_with fail
    refine (I1.out _).mono ?_
    rintro e w' ⟨rfl, rfl⟩
    go_wp2_with fail
    refine (I2.out _).mono ?_
    rintro e w' ⟨rfl, rfl⟩
    go_wp2_with fail
    go_ret2
    exact ⟨by rw [RV.out]; rfl, B0.out⟩
end Go.Proofs.YtcjbhgnlmmeeeaaGreatDoor

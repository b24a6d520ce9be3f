/- Joined: OptA, OptV, OptU, GridP. -/
import Derived.Test.YtcjbhgnlmmeeeaaGreatDoorRefN
import Derived.Defers
import Derived.Recover
import Derived.Laws.Pointers
import Derived.Test.YtcjbhgnlmmeeeaaGreatDoorMgE
import Derived.Test.YtcjbhgnlmmeeeaaGreatDoorMgB
import Derived.Test.YtcjbhgnlmmeeeaaGreatDoorMLib
/- opt.within, must, caught; what Value defers. -/
namespace Go.Proofs.YtcjbhgnlmmeeeaaGreatDoor
open Go.RowKit Go.Bw Go.Maps Go.Shelf
set_option linter.unusedVariables false
set_option linter.unusedSimpArgs false

set_option maxHeartbeats 400000 in
theorem owithin_any (x lo hi : Int) (w : World) : Calls Tryz.prog 165 #[.int .i64 x, .int .i64 lo, .int .i64 hi] w fun e w' => e = .returned (.bool (inB x lo hi)) ∧ w = w' := by
  obtain ⟨r, hr⟩ : ∃ r, r = inB x lo hi := ⟨_, rfl⟩
  rw [← hr]
  have ch : ¬ lo ≤ x ∨ (lo ≤ x ∧ ¬ x ≤ hi) ∨ (lo ≤ x ∧ x ≤ hi) := by omega
  rcases ch with h1 | ⟨h1, h2⟩ | ⟨h1, h2⟩
  all_goals
    first
    | (have R := Lib.hid (show r = true from by rw [hr]; exact decide_eq_true (by omega)))
    | (have R := Lib.hid (show r = false from by rw [hr]; exact decide_eq_false (by omega)))
    clear hr
    go_enter Tryz.func165, Tryz.ntmps165
    go_wp2_with fail
    go_ret
    refine ⟨ret_bool ?_, rfl⟩
    first | (rw [R.out]; done) | (rw [R.out]; simp; done) | (rw [R.out]; simp; omega)
theorem owithin_to {x lo hi : Int} {b : Bool} (h : inB x lo hi = b) (w : World) : Calls Tryz.prog 165 #[.int .i64 x, .int .i64 lo, .int .i64 hi] w fun e w' => e = .returned (.bool b) ∧ w = w' := by
  rw [← h]; exact owithin_any x lo hi w
set_option maxHeartbeats 400000 in
theorem omust_ok (x : Int) (w : World) : Calls Tryz.prog 173 #[.int .i64 x, .int .i64 0] w fun e w' => e = .returned (.int .i64 x) ∧ w = w' := by
  go_enter Tryz.func173, Tryz.ntmps173
  go_wp2_with fail
  go_ret
  exact ⟨rfl, rfl⟩
set_option maxHeartbeats 1000000 in
theorem ocaught_nil (p : Value) (w : World) : Calls Tryz.prog 172 #[p, .nilIface] w fun e w' => e = .returned (.tuple #[]) ∧ w = w' := by
  go_enter Tryz.func172, Tryz.ntmps172
  go_wp2_with fail
  go_end0
  exact ⟨rfl, rfl⟩
set_option maxHeartbeats 1000000 in
theorem valued_ok (pe px : Nat) (w : World) (he : w.cell? ⟨pe, 0, none⟩ = some (.int .i64 0)) :
    CallsD Tryz.prog 171 #[.pointer (some ⟨pe, 0, none⟩), .pointer (some ⟨px, 0, none⟩)] .returning w fun e u' w' => e = .returned (.tuple #[]) ∧ u' = .returning ∧ w' = w := by
  refine callsD_of_wpS Tryz.func171 rfl fun c₀ cs hu => ?_
  apply wpS_seq
  apply wpS_region
  simp [wpOpsS, go_sem, recoverD, hu, Tryz.ntmps171, Exit.thenS]
  refine (ocaught_nil _ w).mono ?_
  rintro e w' ⟨rfl, rfl⟩
  apply wpS_seq
  apply wpS_region
  simp [wpOpsS, go_sem, he, Exit.thenS]
  refine wpS_cond (t := false) (by simp [Act.eval]) ?_
  simp only [Bool.false_eq_true, if_false]
  refine wpS_of_wp (wp_skip ?_)
  cases c₀
  simp_all [bodyPostS, results, Tryz.results171]
end Go.Proofs.YtcjbhgnlmmeeeaaGreatDoor
/- opt.Value of what a ledger that can be holds, walked. -/
namespace Go.Proofs.YtcjbhgnlmmeeeaaGreatDoor
open Go.RowKit Go.Bw Go.Maps Go.Shelf
set_option linter.unusedVariables false
set_option linter.unusedSimpArgs false

/-- The two results' own variables. -/
structure Res2 (w0 w : World) (x e : Int) : Prop where
  a : w.heap[w0.heap.size]? = some (.cells #[.int .i64 x] 3 (0, 0))
  b : w.heap[w0.heap.size + 1]? = some (.cells #[.int .i64 e] 34 (0, 0))
  low : Below w0.heap.size w0 w
theorem Res2.drewN {w0 w : World} {x e : Int} (h : Res2 w0 w x e) (n : Nat) : Res2 w0 (w.drewN n) x e :=
  ⟨((Mod.refl (fun _ => False) w).drewN n).heap h.a (fun h => h), ((Mod.refl (fun _ => False) w).drewN n).heap h.b (fun h => h), below_drewN h.low n⟩
theorem Res2.set {w0 w : World} {x e : Int} (h : Res2 w0 w x e) (y f : Int) : Res2 w0 ((w.setCell ⟨w0.heap.size, 0, none⟩ (.int .i64 y)).setCell ⟨w0.heap.size + 1, 0, none⟩ (.int .i64 f)) y f := by
  have h1 := heap_setCell_at h.a 0 (.int .i64 y)
  have h2 : (w.setCell ⟨w0.heap.size, 0, none⟩ (.int .i64 y)).heap[w0.heap.size + 1]? = _ := (Below.heap_setCell w ⟨w0.heap.size, 0, none⟩ (.int .i64 y) (w0.heap.size + 1) (by simp)).trans h.b
  have h3 := heap_setCell_at h2 0 (.int .i64 f)
  refine ⟨(Below.heap_setCell _ ⟨w0.heap.size + 1, 0, none⟩ (.int .i64 f) w0.heap.size (by simp)).trans (by simpa using h1), by simpa using h3, (h.low.setCell (Nat.le_refl _) _).setCell (Nat.le_succ _) _⟩
set_option maxRecDepth 100000 in
set_option maxHeartbeats 4000000 in
theorem ovalue_any (call : Bool) (strike price vol days : Int) (s0 : 0 ≤ strike) (s1 : strike ≤ 1000000000000) (p0 : 0 ≤ price) (p1 : price ≤ 1200000000000) (v0 : 0 ≤ vol) (v1 : vol ≤ 62500) (d0 : -100000 ≤ days) (d1 : days ≤ 100000) (w : World) :
    Calls Tryz.prog 166 #[.bool call, .int .i64 strike, .int .i64 price, .int .i64 vol, .int .i64 days] w fun e w' => e = .returned (.tuple #[.int .i64 (valueA call strike price vol days).1, .int .i64 0]) ∧ Below w.heap.size w w' := by
  obtain ⟨R, hR⟩ : ∃ R, R = (valueA call strike price vol days).1 := ⟨_, rfl⟩
  rw [← hR]
  have EQ := Lib.hid hR
  have I1 := Lib.hid (fun W => owithin_to (x := strike) (lo := 0) (hi := 100000000000000) (inB_true.2 (by omega)) W)
  have I2 := Lib.hid (fun W => owithin_to (x := price) (lo := 0) (hi := 100000000000000) (inB_true.2 (by omega)) W)
  have I3 := Lib.hid (fun W => owithin_to (x := vol) (lo := 0) (hi := 100000000000000) (inB_true.2 (by omega)) W)
  have RES := Lib.hid (show ∃ W, W = (w.alloc (.cells #[.int .i64 0] 3)).alloc (.cells #[.int .i64 0] 34) ∧ Res2 w W 0 0 from
    ⟨_, rfl, (Below.heap_alloc _ _ _ (by simp)).trans (heap_alloc_new w _), by have := heap_alloc_new (w.alloc (.cells #[.int .i64 0] 3)) (.cells #[.int .i64 0] 34); simpa using this, ((Below.refl _ _).alloc (Nat.le_refl _) _).alloc (by simp) _⟩)
  clear hR
  by_cases hd : days ≤ 0
  · obtain ⟨g, hg⟩ : ∃ g, g = max (if call then price - strike else strike - price) 0 := ⟨_, rfl⟩
    have RG := Lib.hid (show R = g from by rw [EQ.out, hg]; unfold valueA; rw [if_neg (by omega), if_pos hd])
    have GG := Lib.hid hg
    clear hg
    cases call
    all_goals
      go_enter_defers Tryz.func166, Tryz.ntmps166
      go_wp2_with fail
      obtain ⟨W, hW, hres⟩ := RES.out
      rw [← hW]
      have RS := Lib.hid hres
      clear hW hres RES
      refine (I1.out W).mono ?_
      rintro e w' ⟨rfl, rfl⟩
      go_wp2_with fail
      refine (I2.out _).mono ?_
      rintro e w' ⟨rfl, rfl⟩
      go_wp2_with fail
      refine (I3.out _).mono ?_
      rintro e w' ⟨rfl, rfl⟩
      have k0 := cell_of_heap RS.out.a 0
      have k1 := cell_of_heap RS.out.b 0
      have z0 := free_of_heap RS.out.a 0
      have z1 := free_of_heap RS.out.b 0
      go_wp2_with fail
      first
      | (have RS2 := RS.out.set (max (price - strike) 0) 0
         obtain ⟨W2, hW2⟩ : ∃ W2, W2 = (W.setCell ⟨w.heap.size, 0, none⟩ (.int .i64 (max (price - strike) 0))).setCell ⟨w.heap.size + 1, 0, none⟩ (.int .i64 0) := ⟨_, rfl⟩
         rw [← hW2] at RS2 ⊢
         have GV := Lib.hid (show R = max (price - strike) 0 from by rw [RG.out, GG.out]; rfl))
      | (have RS2 := RS.out.set (max (-(price - strike)) 0) 0
         obtain ⟨W2, hW2⟩ : ∃ W2, W2 = (W.setCell ⟨w.heap.size, 0, none⟩ (.int .i64 (max (-(price - strike)) 0))).setCell ⟨w.heap.size + 1, 0, none⟩ (.int .i64 0) := ⟨_, rfl⟩
         rw [← hW2] at RS2 ⊢
         have GV := Lib.hid (show R = max (-(price - strike)) 0 from by rw [RG.out, GG.out]; show max (strike - price) 0 = _; rw [show strike - price = -(price - strike) by omega]))
      clear hW2 k0 k1 z0 z1
      have j0 := cell_of_heap RS2.a 0
      have j1 := cell_of_heap RS2.b 0
      have BB := Lib.hid RS2.low
      have E1 := GV.out
      refine leaves_cons (f := 171) (args := #[.pointer (some ⟨w.heap.size + 1, 0, none⟩), .pointer (some ⟨w.heap.size, 0, none⟩)]) (by simp) (by simp [go_sem]) ?_
      refine (valued_ok (w.heap.size + 1) w.heap.size W2 j1).mono ?_
      rintro e u' w9 ⟨rfl, rfl, rfl⟩
      simp [Leaves, settle, results, Tryz.results166, go_sem, j0, j1]
      exact ⟨E1.symm, BB.out⟩
  · have m1 := mul_le v0 (show 0 ≤ days by omega) v1 d1
    have m0 : 0 ≤ vol * days := Int.mul_nonneg v0 (by omega)
    have e1 : mulA vol days = (vol * days, 0) := by
      rw [mulA_eq, if_pos ⟨fitsA_true.2 (by omega), fitsA_true.2 (by omega), fitsA_true.2 (by omega)⟩]
    have m2 := mul_le s0 m0 s1 (show vol * days ≤ 6250000000 by omega)
    obtain ⟨e2, h0, h1⟩ := mdA_small strike (vol * days) 3650000 1800000000000000 s0 m0 (by omega) (by omega) (by omega) (by omega) (by omega) (by omega)
    have FM := Lib.hid (fun W => fmul_any vol days ⟨by omega, by omega⟩ ⟨by omega, by omega⟩ W)
    have FD := Lib.hid (fun W => fmd_any strike (vol * days) 3650000 0 ⟨by omega, by omega⟩ ⟨by omega, by omega⟩ ⟨by omega, by omega⟩ W)
    rw [e1] at FM
    rw [e2] at FD
    have EV := Lib.hid (show valueA call strike price vol days = addA (max (if call then price - strike else strike - price) 0) (max (strike * (vol * days) / 3650000 - ((price - strike).natAbs : Int) / 2) 0) from by
      unfold valueA; rw [if_neg (by omega), if_neg hd, if_neg (by omega), e1, if_neg (by simp)]; simp only; rw [e2, if_neg (by simp)])
    obtain ⟨M, hM⟩ : ∃ M, M = vol * days := ⟨_, rfl⟩
    obtain ⟨t, ht⟩ : ∃ t, t = strike * (vol * days) / 3650000 := ⟨_, rfl⟩
    rw [← ht] at h0 h1 FD EV
    rw [← hM] at FM FD
    clear hM ht e1 e2 m0 m1 m2
    have hd' : ¬ 100000 < days := by omega
    cases call
    all_goals
      go_enter_defers Tryz.func166, Tryz.ntmps166
      go_wp2_with fail
      obtain ⟨W, hW, hres⟩ := RES.out
      rw [← hW]
      have RS := Lib.hid hres
      clear hW hres RES
      refine (I1.out W).mono ?_
      rintro e w' ⟨rfl, rfl⟩
      go_wp2_with fail
      refine (I2.out _).mono ?_
      rintro e w' ⟨rfl, rfl⟩
      go_wp2_with fail
      refine (I3.out _).mono ?_
      rintro e w' ⟨rfl, rfl⟩
      go_wp2_with fail
      refine (FM.out _).mono ?_
      rintro e w' ⟨rfl, rfl⟩
      go_wp2_with fail
      refine (omust_ok _ _).mono ?_
      rintro e w' ⟨rfl, rfl⟩
      go_wp2_with fail
      refine (FD.out _).mono ?_
      rintro e w' ⟨rfl, n, rfl⟩
      have RS2 := Lib.hid (RS.out.drewN n)
      generalize W.drewN n = W1 at RS2 ⊢
      go_wp2_with fail
      refine (omust_ok _ _).mono ?_
      rintro e w' ⟨rfl, rfl⟩
      go_wp2_with fail
    · skip
      have e3 : ((price - strike).natAbs : Int) = max (-(price - strike)) (price - strike) := by omega
      have e4 : (if false = true then price - strike else strike - price) = -(price - strike) := by simp; omega
      obtain ⟨A, hA⟩ : ∃ A, A = max (-(price - strike)) 0 := ⟨_, rfl⟩
      obtain ⟨B, hB⟩ : ∃ B, B = max (t - max (-(price - strike)) (price - strike) / 2) 0 := ⟨_, rfl⟩
      have a0 : 0 ≤ A ∧ A ≤ 1200000000000 := by omega
      have b0 : 0 ≤ B ∧ B ≤ 1800000000000000 := by omega
      have FA := Lib.hid (fun W => fadd_any A B ⟨by omega, by omega⟩ ⟨by omega, by omega⟩ W)
      have ea : addA A B = (A + B, 0) := addA_small (fitsA_true.2 (by omega)) (fitsA_true.2 (by omega)) (fitsA_true.2 (by omega))
      rw [ea] at FA
      have GV := Lib.hid (show R = A + B from by
      have ev := EV.out
      rw [e3] at ev
      first | rw [e4] at ev | rw [if_pos trivial] at ev
      rw [EQ.out, ev, ← hA, ← hB, ea])
      rw [← hA, ← hB]
      clear EV hA hB e3 e4 ea
      refine (FA.out _).mono ?_
      rintro e w' ⟨rfl, rfl⟩
      go_wp2_with fail
      refine (omust_ok _ _).mono ?_
      rintro e w' ⟨rfl, rfl⟩
      have k0 := cell_of_heap RS2.out.a 0
      have k1 := cell_of_heap RS2.out.b 0
      have z0 := free_of_heap RS2.out.a 0
      have z1 := free_of_heap RS2.out.b 0
      go_wp2_with fail
      have RS3 := RS2.out.set (A + B) 0
      obtain ⟨W2, hW2⟩ : ∃ W2, W2 = (W1.setCell ⟨w.heap.size, 0, none⟩ (.int .i64 (A + B))).setCell ⟨w.heap.size + 1, 0, none⟩ (.int .i64 0) := ⟨_, rfl⟩
      rw [← hW2] at RS3 ⊢
      clear hW2 k0 k1 z0 z1
      have j0 := cell_of_heap RS3.a 0
      have j1 := cell_of_heap RS3.b 0
      have BB := Lib.hid RS3.low
      have E1 := GV.out
      refine leaves_cons (f := 171) (args := #[.pointer (some ⟨w.heap.size + 1, 0, none⟩), .pointer (some ⟨w.heap.size, 0, none⟩)]) (by simp) (by simp [go_sem]) ?_
      refine (valued_ok (w.heap.size + 1) w.heap.size W2 j1).mono ?_
      rintro e u' w9 ⟨rfl, rfl, rfl⟩
      simp [Leaves, settle, results, Tryz.results166, go_sem, j0, j1]
      exact ⟨E1.symm, BB.out⟩
    · skip
      have e3 : ((price - strike).natAbs : Int) = max (price - strike) (-(price - strike)) := by omega
      have e4 : (if true = true then price - strike else strike - price) = price - strike := by simp
      obtain ⟨A, hA⟩ : ∃ A, A = max (price - strike) 0 := ⟨_, rfl⟩
      obtain ⟨B, hB⟩ : ∃ B, B = max (t - max (price - strike) (-(price - strike)) / 2) 0 := ⟨_, rfl⟩
      have a0 : 0 ≤ A ∧ A ≤ 1200000000000 := by omega
      have b0 : 0 ≤ B ∧ B ≤ 1800000000000000 := by omega
      have FA := Lib.hid (fun W => fadd_any A B ⟨by omega, by omega⟩ ⟨by omega, by omega⟩ W)
      have ea : addA A B = (A + B, 0) := addA_small (fitsA_true.2 (by omega)) (fitsA_true.2 (by omega)) (fitsA_true.2 (by omega))
      rw [ea] at FA
      have GV := Lib.hid (show R = A + B from by
      have ev := EV.out
      rw [e3] at ev
      first | rw [e4] at ev | rw [if_pos trivial] at ev
      rw [EQ.out, ev, ← hA, ← hB, ea])
      rw [← hA, ← hB]
      clear EV hA hB e3 e4 ea
      refine (FA.out _).mono ?_
      rintro e w' ⟨rfl, rfl⟩
      go_wp2_with fail
      refine (omust_ok _ _).mono ?_
      rintro e w' ⟨rfl, rfl⟩
      have k0 := cell_of_heap RS2.out.a 0
      have k1 := cell_of_heap RS2.out.b 0
      have z0 := free_of_heap RS2.out.a 0
      have z1 := free_of_heap RS2.out.b 0
      go_wp2_with fail
      have RS3 := RS2.out.set (A + B) 0
      obtain ⟨W2, hW2⟩ : ∃ W2, W2 = (W1.setCell ⟨w.heap.size, 0, none⟩ (.int .i64 (A + B))).setCell ⟨w.heap.size + 1, 0, none⟩ (.int .i64 0) := ⟨_, rfl⟩
      rw [← hW2] at RS3 ⊢
      clear hW2 k0 k1 z0 z1
      have j0 := cell_of_heap RS3.a 0
      have j1 := cell_of_heap RS3.b 0
      have BB := Lib.hid RS3.low
      have E1 := GV.out
      refine leaves_cons (f := 171) (args := #[.pointer (some ⟨w.heap.size + 1, 0, none⟩), .pointer (some ⟨w.heap.size, 0, none⟩)]) (by simp) (by simp [go_sem]) ?_
      refine (valued_ok (w.heap.size + 1) w.heap.size W2 j1).mono ?_
      rintro e u' w9 ⟨rfl, rfl, rfl⟩
      simp [Leaves, settle, results, Tryz.results166, go_sem, j0, j1]
      exact ⟨E1.symm, BB.out⟩
end Go.Proofs.YtcjbhgnlmmeeeaaGreatDoor
/- opt.Unit of what a ledger that can be holds, walked. -/
namespace Go.Proofs.YtcjbhgnlmmeeeaaGreatDoor
open Go.RowKit Go.Bw Go.Maps Go.Shelf
set_option linter.unusedVariables false
set_option linter.unusedSimpArgs false

set_option maxRecDepth 100000 in
set_option maxHeartbeats 4000000 in
theorem ounit_any (i : Ins) (n : Nat) (hi : i.Ok n) (price vol day : Int) (p0 : 0 ≤ price) (p1 : price ≤ 1200000000000) (v0 : 0 ≤ vol) (v1 : vol ≤ 62500) (d0 : 0 ≤ day) (d1 : day ≤ 100000) (w : World) :
    Calls Tryz.prog 156 #[.agg #[.int .i64 i.kind, .int .i64 i.under, .int .i64 i.mult, .int .i64 i.strike, .int .i64 i.expiry, .bool i.call, .int .i64 i.mark], .int .i64 price, .int .i64 vol, .int .i64 day] w fun e w' => e = .returned (.tuple #[.int .i64 (unitA i price vol day).1, .int .i64 0]) ∧ Below w.heap.size w w' := by
  obtain ⟨R, hR⟩ : ∃ R, R = (unitA i price vol day).1 := ⟨_, rfl⟩
  rw [← hR]
  obtain ⟨_, _, _, _, _, _, hk⟩ := hi
  have EQ := Lib.hid hR
  have I1 := Lib.hid (fun W => owithin_to (x := price) (lo := 0) (hi := 100000000000000) (inB_true.2 (by omega)) W)
  have I2 := Lib.hid (fun W => owithin_to (x := vol) (lo := 0) (hi := 100000000000000) (inB_true.2 (by omega)) W)
  have I3 := Lib.hid (fun W => owithin_to (x := day) (lo := 0) (hi := 100000) (inB_true.2 (by omega)) W)
  have B0 := Lib.hid ((Below.refl w.heap.size w).alloc (Nat.le_refl _) (.cells #[.int .i64 i.kind, .int .i64 i.under, .int .i64 i.mult, .int .i64 i.strike, .int .i64 i.expiry, .bool i.call, .int .i64 i.mark] 54))
  clear hR
  by_cases h3 : i.kind = 3
  · have hk3 : 1 ≤ i.strike ∧ i.strike ≤ 1000000000000 ∧ 1 ≤ i.expiry ∧ i.expiry ≤ 100000 := by
      rcases hk with h | h | h
      · omega
      · omega
      · exact h.2
    obtain ⟨s0, s1, e0, e1⟩ := hk3
    have I4 := Lib.hid (fun W => owithin_to (x := i.expiry) (lo := 0) (hi := 100000) (inB_true.2 (by omega)) W)
    have VA := Lib.hid (fun W => ovalue_any i.call i.strike price vol (i.expiry - day) (by omega) s1 p0 p1 v0 v1 (by omega) (by omega) W)
    have EV := Lib.hid (show R = (valueA i.call i.strike price vol (i.expiry - day)).1 from by
      rw [EQ.out]; unfold unitA; rw [if_neg (by omega), if_neg (by omega), if_neg (by simp [h3]), if_neg (by omega)])
    rw [← EV.out] at VA
    have g1 : ¬ i.kind < 1 := by omega
    have g2 : ¬ 3 < i.kind := by omega
    have g3 : (i.kind == 3) = true := beq_iff_eq.2 h3
    have g4 : (i.kind != 3) = false := by rw [bne, g3]; rfl
    clear h3 hk
    go_enter Tryz.func156, Tryz.ntmps156
    go_wp2_with fail
    refine (I1.out _).mono ?_
    rintro e w' ⟨rfl, rfl⟩
    go_wp2_with fail
    refine (I2.out _).mono ?_
    rintro e w' ⟨rfl, rfl⟩
    go_wp2_with fail
    refine (I3.out _).mono ?_
    rintro e w' ⟨rfl, rfl⟩
    go_wp2_with fail
    refine (I4.out _).mono ?_
    rintro e w' ⟨rfl, rfl⟩
    go_wp2_with fail
    refine (VA.out _).mono ?_
    rintro e w' ⟨rfl, hb⟩
    have B1 := Lib.hid (B0.out.trans (hb.mono (by simp)))
    clear hb
    go_wp2_with fail
    go_ret2
    exact ⟨rfl, B1.out⟩
  · have RV := Lib.hid (show R = price from by rw [EQ.out]; unfold unitA; rw [if_neg (by omega), if_neg (by omega), if_pos h3])
    have g1 : ¬ i.kind < 1 := by omega
    have g2 : ¬ 3 < i.kind := by omega
    have g3 : (i.kind == 3) = false := beq_eq_false_iff_ne.2 h3
    have g4 : (i.kind != 3) = true := by rw [bne, g3]; rfl
    clear h3 hk
    go_enter Tryz.func156, Tryz.ntmps156
    go_wp2_with fail
    refine (I1.out _).mono ?_
    rintro e w' ⟨rfl, rfl⟩
    go_wp2_with fail
    refine (I2.out _).mono ?_
    rintro e w' ⟨rfl, rfl⟩
    go_wp2_with fail
    refine (I3.out _).mono ?_
    rintro e w' ⟨rfl, rfl⟩
    go_wp2_with fail
    go_ret2
    exact ⟨by rw [RV.out]; rfl, B0.out⟩
end Go.Proofs.YtcjbhgnlmmeeeaaGreatDoor
/- grid.Point, walked. -/
namespace Go.Proofs.YtcjbhgnlmmeeeaaGreatDoor
open Go.RowKit Go.Bw Go.Maps Go.Shelf
set_option linter.unusedVariables false
set_option linter.unusedSimpArgs false

/-- What the listed variables hold. -/
structure Grd (w : World) : Prop where
  sh : ∃ t f, w.heap[2]? = some (.cells #[.int .i64 (-2000), .int .i64 (-1000), .int .i64 (-500), .int .i64 0, .int .i64 500, .int .i64 1000, .int .i64 2000] t f)
  vo : ∃ t f, w.heap[3]? = some (.cells #[.int .i64 (-2500), .int .i64 0, .int .i64 2500] t f)
theorem Grd.mod {S : Nat → Prop} {w w' : World} (h : Grd w) (hm : Mod S w w') (h1 : ¬ S 2) (h2 : ¬ S 3) : Grd w' := by
  obtain ⟨⟨t, f, h3⟩, ⟨t2, f2, h4⟩⟩ := h
  exact ⟨⟨t, f, hm.heap h3 h1⟩, ⟨t2, f2, hm.heap h4 h2⟩⟩
theorem Grd.below {w w' : World} (h : Grd w) (hb : Below w.heap.size w w') : Grd w' := h.mod (Mod.of_below hb) (fun h => h) (fun h => h)
theorem Grd.shift {w : World} (h : Grd w) (s : Nat) (hs : s < 21) : w.cell? ⟨2, s / 3, none⟩ = some (.int .i64 (shiftA s)) := by
  obtain ⟨t, f, h1⟩ := h.sh
  rw [cell_of_heap h1]
  have : s / 3 < 7 := by omega
  unfold shiftA
  generalize s / 3 = k at this ⊢
  match k, this with
  | 0, _ | 1, _ | 2, _ | 3, _ | 4, _ | 5, _ | 6, _ => rfl
theorem Grd.vol {w : World} (h : Grd w) (s : Nat) : w.cell? ⟨3, s % 3, none⟩ = some (.int .i64 (volA s)) := by
  obtain ⟨t, f, h1⟩ := h.vo
  rw [cell_of_heap h1]
  have : s % 3 < 3 := by omega
  unfold volA
  generalize s % 3 = k at this ⊢
  match k, this with
  | 0, _ | 1, _ | 2, _ => rfl

set_option maxRecDepth 100000 in
set_option maxHeartbeats 4000000 in
theorem point_any (price vol : Int) (s : Nat) (hs : s < 21) (p0 : 0 ≤ price) (p1 : price ≤ 1000000000000) (v0 : 0 ≤ vol) (v1 : vol ≤ 50000) (w : World) (hG : Grd w) :
    Calls Tryz.prog 155 #[.int .i64 price, .int .i64 vol, .int .i64 (s : Nat)] w fun e w' => e = .returned (.tuple #[.int .i64 (pointP price s), .int .i64 (pointV vol s), .int .i64 0]) ∧ Below w.heap.size w w' := by
  obtain ⟨e1, _, _⟩ := pointP_bd p0 p1 s
  obtain ⟨e2, _, _⟩ := pointV_bd v0 v1 s
  have b1 := shiftA_bd s
  have b2 := volA_bd s
  have F1 := Lib.hid (fun W => fmd_any price (10000 + shiftA s) 10000 0 ⟨by omega, by omega⟩ ⟨by omega, by omega⟩ ⟨by omega, by omega⟩ W)
  have F2 := Lib.hid (fun W => fmd_any vol (10000 + volA s) 10000 0 ⟨by omega, by omega⟩ ⟨by omega, by omega⟩ ⟨by omega, by omega⟩ W)
  rw [e1] at F1
  rw [e2] at F2
  have c1 := hG.shift s hs
  have c2 := hG.vol s
  obtain ⟨PP, hPP⟩ : ∃ P, P = pointP price s := ⟨_, rfl⟩
  obtain ⟨PV, hPV⟩ : ∃ P, P = pointV vol s := ⟨_, rfl⟩
  rw [← hPP] at F1 ⊢
  rw [← hPV] at F2 ⊢
  obtain ⟨S, hS⟩ : ∃ S, S = shiftA s := ⟨_, rfl⟩
  obtain ⟨T, hT⟩ : ∃ S, S = volA s := ⟨_, rfl⟩
  rw [← hS] at F1 c1 b1
  rw [← hT] at F2 c2 b2
  obtain ⟨q, hq⟩ : ∃ q, q = s / 3 := ⟨_, rfl⟩
  obtain ⟨r, hr⟩ : ∃ r, r = s % 3 := ⟨_, rfl⟩
  rw [← hq] at c1
  rw [← hr] at c2
  have q1 : (s : Int) / 3 = (q : Int) := by omega
  have r1 : (s : Int) % 3 = (r : Int) := by omega
  have q2 : (q : Int) < 7 := by omega
  have r2 : (r : Int) < 3 := by omega
  have s1 : (s : Int) < 21 := by omega
  have s0 : (0 : Int) ≤ (s : Int) := by omega
  have q0 : (0 : Int) ≤ (q : Int) := by omega
  have r0 : (0 : Int) ≤ (r : Int) := by omega
  have t1 : Int.tdiv (s : Int) 3 = (q : Int) := by rw [Int.tdiv_eq_ediv_of_nonneg s0]; exact q1
  have t2 : Int.tmod (s : Int) 3 = (r : Int) := by rw [Int.tmod_eq_emod_of_nonneg s0]; exact r1
  clear hPP hPV hS hT hq hr e1 e2 hG hs
  go_enter Tryz.func155, Tryz.ntmps155
  go_wp2_with fail
  refine (F1.out _).mono ?_
  rintro e w' ⟨rfl, n, rfl⟩
  have B1 := Lib.hid (below_drewN (Below.refl w.heap.size w) n)
  have c2' := (Mod.of_below B1.out).cell c2 (fun h => h)
  clear c1 c2
  generalize w.drewN n = W1 at B1 c2' ⊢
  go_wp2_with fail
  refine (F2.out _).mono ?_
  rintro e w' ⟨rfl, n, rfl⟩
  have B2 := Lib.hid (below_drewN B1.out n)
  go_wp2_with fail
  go_ret3
  exact ⟨rfl, B2.out⟩
end Go.Proofs.YtcjbhgnlmmeeeaaGreatDoor

/- ref.Cur, Under, Instr; the document's Cur, Under, Instr, walked (printed by tools/gen_thing.py). -/
import Derived.Test.YtcjbhgnlmmeeeaaGreatDoorRefN
namespace Go.Proofs.YtcjbhgnlmmeeeaaGreatDoor
open Go.RowKit Go.Bw Go.Maps Go.Shelf
set_option linter.unusedVariables false
set_option linter.unusedSimpArgs false

theorem name_to {s : ByteArray} {b : Bool} (h : nameB s = b) (hs : s.size ≤ maxLen) (w : World) : Calls Tryz.prog 134 #[.string s] w fun e w' => e = .returned (.bool b) ∧ Below w.heap.size w w' := by
  rw [← h]; exact name_any s hs w
theorem name_toR {s : ByteArray} {b : Bool} (h : nameB s = b) (hs : s.size ≤ maxLen) (w : World) : Calls Tryz.prog 81 #[.string s] w fun e w' => e = .returned (.bool b) ∧ w = w' := by
  rw [← h]; exact rname_any s hs w

open Classical in
set_option maxRecDepth 100000 in
set_option maxHeartbeats 4000000 in
theorem cur_any (x : Cur) (n : Nat) (hn : n ≤ 4) (w : World) : Calls Tryz.prog 93 #[.agg #[.int .i64 x.rate, .int .i64 x.hair], .int .i64 (n : Nat)] w fun e w' => e = .returned (.bool (decide (x.Ok n))) ∧ Below w.heap.size w w' := by
  obtain ⟨r, hr⟩ : ∃ r, r = decide (x.Ok n) := ⟨_, rfl⟩
  rw [← hr]
  have n0 : (0 : Int) ≤ (n : Int) := by omega
  have n1 : (n : Int) ≤ 6 := by omega
  by_cases h0 : (n : Int) = 0
  · skip
    by_cases h1 : x.rate = 1000000
    · skip
      cases h2 : inB x.rate 1 1000000000000
      case true =>
        cases h3 : inB x.hair 0 10000
        case true =>
          have ih2 := inB_true.1 h2
          have ih3 := inB_true.1 h3
          have R := Lib.hid (show r = true from by
            rw [hr]
            refine decide_eq_true ?_
            first | (simp [Cur.Ok]; done) | (simp only [Cur.Ok, true_and, and_true]; omega) | (simp [Cur.Ok]; omega))
          have eh0 : ((n : Int) == 0) = true := beq_iff_eq.2 h0
          have gh0 : ((n : Int) != 0) = false := show (!((n : Int) == 0)) = _ from by rw [eh0]; rfl
          have eh1 : (x.rate == 1000000) = true := beq_iff_eq.2 h1
          have gh1 : (x.rate != 1000000) = false := show (!(x.rate == 1000000)) = _ from by rw [eh1]; rfl
          have Kh2 := Lib.hid (fun W => within_to h2 W)
          clear ih2 h2
          have Kh3 := Lib.hid (fun W => within_to h3 W)
          clear ih3 h3
          clear h0
          clear h1
          clear hr
          go_enter Tryz.func93, Tryz.ntmps93
          go_wp2_with fail
          refine (Kh2.out _).mono ?_
          rintro e w' ⟨rfl, rfl⟩
          go_wp2_with fail
          refine (Kh3.out _).mono ?_
          rintro e w' ⟨rfl, rfl⟩
          go_wp2_with fail
          go_ret
          exact ⟨ret_bool (by first | (rw [R.out]; done) | (rw [R.out]; rfl) | (rw [R.out]; simp; done) | (rw [R.out]; simp; omega)), (Below.refl _ _).alloc (Nat.le_refl _) _⟩
        case false =>
          have ih2 := inB_true.1 h2
          have ih3 := inB_false.1 h3
          have R := Lib.hid (show r = false from by
            rw [hr]
            refine decide_eq_false ?_
            first | (simp [Cur.Ok]; done) | (simp only [Cur.Ok, true_and, and_true]; omega) | (simp [Cur.Ok]; omega))
          have eh0 : ((n : Int) == 0) = true := beq_iff_eq.2 h0
          have gh0 : ((n : Int) != 0) = false := show (!((n : Int) == 0)) = _ from by rw [eh0]; rfl
          have eh1 : (x.rate == 1000000) = true := beq_iff_eq.2 h1
          have gh1 : (x.rate != 1000000) = false := show (!(x.rate == 1000000)) = _ from by rw [eh1]; rfl
          have Kh2 := Lib.hid (fun W => within_to h2 W)
          clear ih2 h2
          have Kh3 := Lib.hid (fun W => within_to h3 W)
          clear ih3 h3
          clear h0
          clear h1
          clear hr
          go_enter Tryz.func93, Tryz.ntmps93
          go_wp2_with fail
          refine (Kh2.out _).mono ?_
          rintro e w' ⟨rfl, rfl⟩
          go_wp2_with fail
          refine (Kh3.out _).mono ?_
          rintro e w' ⟨rfl, rfl⟩
          go_wp2_with fail
          go_ret
          exact ⟨ret_bool (by first | (rw [R.out]; done) | (rw [R.out]; rfl) | (rw [R.out]; simp; done) | (rw [R.out]; simp; omega)), (Below.refl _ _).alloc (Nat.le_refl _) _⟩
      case false =>
        have ih2 := inB_false.1 h2
        have R := Lib.hid (show r = false from by
          rw [hr]
          refine decide_eq_false ?_
          first | (simp [Cur.Ok]; done) | (simp only [Cur.Ok, true_and, and_true]; omega) | (simp [Cur.Ok]; omega))
        have eh0 : ((n : Int) == 0) = true := beq_iff_eq.2 h0
        have gh0 : ((n : Int) != 0) = false := show (!((n : Int) == 0)) = _ from by rw [eh0]; rfl
        have eh1 : (x.rate == 1000000) = true := beq_iff_eq.2 h1
        have gh1 : (x.rate != 1000000) = false := show (!(x.rate == 1000000)) = _ from by rw [eh1]; rfl
        have Kh2 := Lib.hid (fun W => within_to h2 W)
        clear ih2 h2
        clear h0
        clear h1
        clear hr
        go_enter Tryz.func93, Tryz.ntmps93
        go_wp2_with fail
        refine (Kh2.out _).mono ?_
        rintro e w' ⟨rfl, rfl⟩
        go_wp2_with fail
        go_ret
        exact ⟨ret_bool (by first | (rw [R.out]; done) | (rw [R.out]; rfl) | (rw [R.out]; simp; done) | (rw [R.out]; simp; omega)), (Below.refl _ _).alloc (Nat.le_refl _) _⟩
    · skip
      have R := Lib.hid (show r = false from by
        rw [hr]
        refine decide_eq_false ?_
        first | (simp [Cur.Ok]; done) | (simp only [Cur.Ok, true_and, and_true]; omega) | (simp [Cur.Ok]; omega))
      have eh0 : ((n : Int) == 0) = true := beq_iff_eq.2 h0
      have gh0 : ((n : Int) != 0) = false := show (!((n : Int) == 0)) = _ from by rw [eh0]; rfl
      have eh1 : (x.rate == 1000000) = false := beq_eq_false_iff_ne.2 h1
      have gh1 : (x.rate != 1000000) = true := show (!(x.rate == 1000000)) = _ from by rw [eh1]; rfl
      clear h0
      clear h1
      clear hr
      go_enter Tryz.func93, Tryz.ntmps93
      go_wp2_with fail
      go_ret
      exact ⟨ret_bool (by first | (rw [R.out]; done) | (rw [R.out]; rfl) | (rw [R.out]; simp; done) | (rw [R.out]; simp; omega)), (Below.refl _ _).alloc (Nat.le_refl _) _⟩
  · skip
    cases h1 : inB x.rate 1 1000000000000
    case true =>
      cases h2 : inB x.hair 0 10000
      case true =>
        have ih1 := inB_true.1 h1
        have ih2 := inB_true.1 h2
        have R := Lib.hid (show r = true from by
          rw [hr]
          refine decide_eq_true ?_
          first | (simp [Cur.Ok]; done) | (simp only [Cur.Ok, true_and, and_true]; omega) | (simp [Cur.Ok]; omega))
        have eh0 : ((n : Int) == 0) = false := beq_eq_false_iff_ne.2 h0
        have gh0 : ((n : Int) != 0) = true := show (!((n : Int) == 0)) = _ from by rw [eh0]; rfl
        have Kh1 := Lib.hid (fun W => within_to h1 W)
        clear ih1 h1
        have Kh2 := Lib.hid (fun W => within_to h2 W)
        clear ih2 h2
        clear h0
        clear hr
        go_enter Tryz.func93, Tryz.ntmps93
        go_wp2_with fail
        refine (Kh1.out _).mono ?_
        rintro e w' ⟨rfl, rfl⟩
        go_wp2_with fail
        refine (Kh2.out _).mono ?_
        rintro e w' ⟨rfl, rfl⟩
        go_wp2_with fail
        go_ret
        exact ⟨ret_bool (by first | (rw [R.out]; done) | (rw [R.out]; rfl) | (rw [R.out]; simp; done) | (rw [R.out]; simp; omega)), (Below.refl _ _).alloc (Nat.le_refl _) _⟩
      case false =>
        have ih1 := inB_true.1 h1
        have ih2 := inB_false.1 h2
        have R := Lib.hid (show r = false from by
          rw [hr]
          refine decide_eq_false ?_
          first | (simp [Cur.Ok]; done) | (simp only [Cur.Ok, true_and, and_true]; omega) | (simp [Cur.Ok]; omega))
        have eh0 : ((n : Int) == 0) = false := beq_eq_false_iff_ne.2 h0
        have gh0 : ((n : Int) != 0) = true := show (!((n : Int) == 0)) = _ from by rw [eh0]; rfl
        have Kh1 := Lib.hid (fun W => within_to h1 W)
        clear ih1 h1
        have Kh2 := Lib.hid (fun W => within_to h2 W)
        clear ih2 h2
        clear h0
        clear hr
        go_enter Tryz.func93, Tryz.ntmps93
        go_wp2_with fail
        refine (Kh1.out _).mono ?_
        rintro e w' ⟨rfl, rfl⟩
        go_wp2_with fail
        refine (Kh2.out _).mono ?_
        rintro e w' ⟨rfl, rfl⟩
        go_wp2_with fail
        go_ret
        exact ⟨ret_bool (by first | (rw [R.out]; done) | (rw [R.out]; rfl) | (rw [R.out]; simp; done) | (rw [R.out]; simp; omega)), (Below.refl _ _).alloc (Nat.le_refl _) _⟩
    case false =>
      have ih1 := inB_false.1 h1
      have R := Lib.hid (show r = false from by
        rw [hr]
        refine decide_eq_false ?_
        first | (simp [Cur.Ok]; done) | (simp only [Cur.Ok, true_and, and_true]; omega) | (simp [Cur.Ok]; omega))
      have eh0 : ((n : Int) == 0) = false := beq_eq_false_iff_ne.2 h0
      have gh0 : ((n : Int) != 0) = true := show (!((n : Int) == 0)) = _ from by rw [eh0]; rfl
      have Kh1 := Lib.hid (fun W => within_to h1 W)
      clear ih1 h1
      clear h0
      clear hr
      go_enter Tryz.func93, Tryz.ntmps93
      go_wp2_with fail
      refine (Kh1.out _).mono ?_
      rintro e w' ⟨rfl, rfl⟩
      go_wp2_with fail
      go_ret
      exact ⟨ret_bool (by first | (rw [R.out]; done) | (rw [R.out]; rfl) | (rw [R.out]; simp; done) | (rw [R.out]; simp; omega)), (Below.refl _ _).alloc (Nat.le_refl _) _⟩

open Classical in
set_option maxRecDepth 100000 in
set_option maxHeartbeats 4000000 in
theorem und_any (x : Und) (n : Nat) (hn : n ≤ 4) (hs : x.name.size ≤ maxLen) (w : World) : Calls Tryz.prog 94 #[.agg #[.string x.name, .int .i64 x.cur, .int .i64 x.price, .int .i64 x.vol], .int .i64 (n : Nat)] w fun e w' => e = .returned (.bool (decide (x.Ok n))) ∧ Below w.heap.size w w' := by
  obtain ⟨r, hr⟩ : ∃ r, r = decide (x.Ok n) := ⟨_, rfl⟩
  rw [← hr]
  have n0 : (0 : Int) ≤ (n : Int) := by omega
  have n1 : (n : Int) ≤ 6 := by omega
  have Q1 := Lib.hid (show (w.alloc (.cells #[.string x.name, .int .i64 x.cur, .int .i64 x.price, .int .i64 x.vol] 60)).cell? ⟨w.heap.size, 1, none⟩ = some (.int .i64 x.cur) from by rw [cell_of_heap (heap_alloc_new w _)]; rfl)
  have Q2 := Lib.hid (show (w.alloc (.cells #[.string x.name, .int .i64 x.cur, .int .i64 x.price, .int .i64 x.vol] 60)).cell? ⟨w.heap.size, 2, none⟩ = some (.int .i64 x.price) from by rw [cell_of_heap (heap_alloc_new w _)]; rfl)
  have Q3 := Lib.hid (show (w.alloc (.cells #[.string x.name, .int .i64 x.cur, .int .i64 x.price, .int .i64 x.vol] 60)).cell? ⟨w.heap.size, 3, none⟩ = some (.int .i64 x.vol) from by rw [cell_of_heap (heap_alloc_new w _)]; rfl)
  cases h0 : nameB x.name
  case true =>
    cases h1 : inB x.cur 0 ((n : Int) - 1)
    case true =>
      cases h2 : inB x.price 1 1000000000000
      case true =>
        cases h3 : inB x.vol 0 50000
        case true =>
          have ih1 := inB_true.1 h1
          have ih2 := inB_true.1 h2
          have ih3 := inB_true.1 h3
          have R := Lib.hid (show r = true from by
            rw [hr]
            refine decide_eq_true ?_
            first | (simp [Und.Ok, h0]; done) | (simp only [Und.Ok, h0, true_and, and_true]; omega) | (simp [Und.Ok, h0]; omega))
          have Kh0 := Lib.hid (fun W => name_to h0 hs W)
          clear h0
          have Kh1 := Lib.hid (fun W => within_to h1 W)
          clear ih1 h1
          have Kh2 := Lib.hid (fun W => within_to h2 W)
          clear ih2 h2
          have Kh3 := Lib.hid (fun W => within_to h3 W)
          clear ih3 h3
          clear hr
          go_enter Tryz.func94, Tryz.ntmps94
          go_wp2_with fail
          refine (Kh0.out _).mono ?_
          rintro e w' ⟨rfl, hb⟩
          have q1 := (Mod.of_below hb).cell Q1.out (by simp)
          have q2 := (Mod.of_below hb).cell Q2.out (by simp)
          have q3 := (Mod.of_below hb).cell Q3.out (by simp)
          have BB := Lib.hid (((Below.refl _ _).alloc (Nat.le_refl _) _).trans (hb.mono (by simp)) : Below w.heap.size w w')
          clear hb
          go_wp2_with fail
          refine (Kh1.out _).mono ?_
          rintro e w' ⟨rfl, rfl⟩
          go_wp2_with fail
          refine (Kh2.out _).mono ?_
          rintro e w' ⟨rfl, rfl⟩
          go_wp2_with fail
          refine (Kh3.out _).mono ?_
          rintro e w' ⟨rfl, rfl⟩
          go_wp2_with fail
          go_ret
          exact ⟨ret_bool (by first | (rw [R.out]; done) | (rw [R.out]; rfl) | (rw [R.out]; simp; done) | (rw [R.out]; simp; omega)), BB.out⟩
        case false =>
          have ih1 := inB_true.1 h1
          have ih2 := inB_true.1 h2
          have ih3 := inB_false.1 h3
          have R := Lib.hid (show r = false from by
            rw [hr]
            refine decide_eq_false ?_
            first | (simp [Und.Ok, h0]; done) | (simp only [Und.Ok, h0, true_and, and_true]; omega) | (simp [Und.Ok, h0]; omega))
          have Kh0 := Lib.hid (fun W => name_to h0 hs W)
          clear h0
          have Kh1 := Lib.hid (fun W => within_to h1 W)
          clear ih1 h1
          have Kh2 := Lib.hid (fun W => within_to h2 W)
          clear ih2 h2
          have Kh3 := Lib.hid (fun W => within_to h3 W)
          clear ih3 h3
          clear hr
          go_enter Tryz.func94, Tryz.ntmps94
          go_wp2_with fail
          refine (Kh0.out _).mono ?_
          rintro e w' ⟨rfl, hb⟩
          have q1 := (Mod.of_below hb).cell Q1.out (by simp)
          have q2 := (Mod.of_below hb).cell Q2.out (by simp)
          have q3 := (Mod.of_below hb).cell Q3.out (by simp)
          have BB := Lib.hid (((Below.refl _ _).alloc (Nat.le_refl _) _).trans (hb.mono (by simp)) : Below w.heap.size w w')
          clear hb
          go_wp2_with fail
          refine (Kh1.out _).mono ?_
          rintro e w' ⟨rfl, rfl⟩
          go_wp2_with fail
          refine (Kh2.out _).mono ?_
          rintro e w' ⟨rfl, rfl⟩
          go_wp2_with fail
          refine (Kh3.out _).mono ?_
          rintro e w' ⟨rfl, rfl⟩
          go_wp2_with fail
          go_ret
          exact ⟨ret_bool (by first | (rw [R.out]; done) | (rw [R.out]; rfl) | (rw [R.out]; simp; done) | (rw [R.out]; simp; omega)), BB.out⟩
      case false =>
        have ih1 := inB_true.1 h1
        have ih2 := inB_false.1 h2
        have R := Lib.hid (show r = false from by
          rw [hr]
          refine decide_eq_false ?_
          first | (simp [Und.Ok, h0]; done) | (simp only [Und.Ok, h0, true_and, and_true]; omega) | (simp [Und.Ok, h0]; omega))
        have Kh0 := Lib.hid (fun W => name_to h0 hs W)
        clear h0
        have Kh1 := Lib.hid (fun W => within_to h1 W)
        clear ih1 h1
        have Kh2 := Lib.hid (fun W => within_to h2 W)
        clear ih2 h2
        clear hr
        go_enter Tryz.func94, Tryz.ntmps94
        go_wp2_with fail
        refine (Kh0.out _).mono ?_
        rintro e w' ⟨rfl, hb⟩
        have q1 := (Mod.of_below hb).cell Q1.out (by simp)
        have q2 := (Mod.of_below hb).cell Q2.out (by simp)
        have q3 := (Mod.of_below hb).cell Q3.out (by simp)
        have BB := Lib.hid (((Below.refl _ _).alloc (Nat.le_refl _) _).trans (hb.mono (by simp)) : Below w.heap.size w w')
        clear hb
        go_wp2_with fail
        refine (Kh1.out _).mono ?_
        rintro e w' ⟨rfl, rfl⟩
        go_wp2_with fail
        refine (Kh2.out _).mono ?_
        rintro e w' ⟨rfl, rfl⟩
        go_wp2_with fail
        go_ret
        exact ⟨ret_bool (by first | (rw [R.out]; done) | (rw [R.out]; rfl) | (rw [R.out]; simp; done) | (rw [R.out]; simp; omega)), BB.out⟩
    case false =>
      have ih1 := inB_false.1 h1
      have R := Lib.hid (show r = false from by
        rw [hr]
        refine decide_eq_false ?_
        first | (simp [Und.Ok, h0]; done) | (simp only [Und.Ok, h0, true_and, and_true]; omega) | (simp [Und.Ok, h0]; omega))
      have Kh0 := Lib.hid (fun W => name_to h0 hs W)
      clear h0
      have Kh1 := Lib.hid (fun W => within_to h1 W)
      clear ih1 h1
      clear hr
      go_enter Tryz.func94, Tryz.ntmps94
      go_wp2_with fail
      refine (Kh0.out _).mono ?_
      rintro e w' ⟨rfl, hb⟩
      have q1 := (Mod.of_below hb).cell Q1.out (by simp)
      have q2 := (Mod.of_below hb).cell Q2.out (by simp)
      have q3 := (Mod.of_below hb).cell Q3.out (by simp)
      have BB := Lib.hid (((Below.refl _ _).alloc (Nat.le_refl _) _).trans (hb.mono (by simp)) : Below w.heap.size w w')
      clear hb
      go_wp2_with fail
      refine (Kh1.out _).mono ?_
      rintro e w' ⟨rfl, rfl⟩
      go_wp2_with fail
      go_ret
      exact ⟨ret_bool (by first | (rw [R.out]; done) | (rw [R.out]; rfl) | (rw [R.out]; simp; done) | (rw [R.out]; simp; omega)), BB.out⟩
  case false =>
    have R := Lib.hid (show r = false from by
      rw [hr]
      refine decide_eq_false ?_
      first | (simp [Und.Ok, h0]; done) | (simp only [Und.Ok, h0, true_and, and_true]; omega) | (simp [Und.Ok, h0]; omega))
    have Kh0 := Lib.hid (fun W => name_to h0 hs W)
    clear h0
    clear hr
    go_enter Tryz.func94, Tryz.ntmps94
    go_wp2_with fail
    refine (Kh0.out _).mono ?_
    rintro e w' ⟨rfl, hb⟩
    have q1 := (Mod.of_below hb).cell Q1.out (by simp)
    have q2 := (Mod.of_below hb).cell Q2.out (by simp)
    have q3 := (Mod.of_below hb).cell Q3.out (by simp)
    have BB := Lib.hid (((Below.refl _ _).alloc (Nat.le_refl _) _).trans (hb.mono (by simp)) : Below w.heap.size w w')
    clear hb
    go_wp2_with fail
    go_ret
    exact ⟨ret_bool (by first | (rw [R.out]; done) | (rw [R.out]; rfl) | (rw [R.out]; simp; done) | (rw [R.out]; simp; omega)), BB.out⟩

open Classical in
set_option maxRecDepth 100000 in
set_option maxHeartbeats 4000000 in
theorem ins_any (x : Ins) (n : Nat) (hn : n ≤ 6) (w : World) : Calls Tryz.prog 98 #[.agg #[.int .i64 x.kind, .int .i64 x.under, .int .i64 x.mult, .int .i64 x.strike, .int .i64 x.expiry, .bool x.call, .int .i64 x.mark], .int .i64 (n : Nat)] w fun e w' => e = .returned (.bool (decide (x.Ok n))) ∧ Below w.heap.size w w' := by
  obtain ⟨r, hr⟩ : ∃ r, r = decide (x.Ok n) := ⟨_, rfl⟩
  rw [← hr]
  have n0 : (0 : Int) ≤ (n : Int) := by omega
  have n1 : (n : Int) ≤ 6 := by omega
  cases h0 : inB x.under 0 ((n : Int) - 1)
  case true =>
    cases h1 : inB x.mult 1 1000000
    case true =>
      cases h2 : inB x.mark 0 100000000000000
      case true =>
        by_cases h3 : x.kind = 1
        · skip
          by_cases h4 : x.strike = 0
          · skip
            by_cases h5 : x.expiry = 0
            · skip
              cases h6 : x.call
              case true =>
                have ih0 := inB_true.1 h0
                have ih1 := inB_true.1 h1
                have ih2 := inB_true.1 h2
                have R := Lib.hid (show r = false from by
                  rw [hr]
                  refine decide_eq_false ?_
                  first | (simp [Ins.Ok, h6]; done) | (simp only [Ins.Ok, h6, true_and, and_true]; omega) | (simp [Ins.Ok, h6]; omega))
                have Kh0 := Lib.hid (fun W => within_to h0 W)
                clear ih0 h0
                have Kh1 := Lib.hid (fun W => within_to h1 W)
                clear ih1 h1
                have Kh2 := Lib.hid (fun W => within_to h2 W)
                clear ih2 h2
                have eh3 : (x.kind == 1) = true := beq_iff_eq.2 h3
                have gh3 : (x.kind != 1) = false := show (!(x.kind == 1)) = _ from by rw [eh3]; rfl
                have eh4 : (x.strike == 0) = true := beq_iff_eq.2 h4
                have gh4 : (x.strike != 0) = false := show (!(x.strike == 0)) = _ from by rw [eh4]; rfl
                have eh5 : (x.expiry == 0) = true := beq_iff_eq.2 h5
                have gh5 : (x.expiry != 0) = false := show (!(x.expiry == 0)) = _ from by rw [eh5]; rfl
                clear h3
                clear h4
                clear h5
                clear hr
                go_enter Tryz.func98, Tryz.ntmps98
                go_wp2_with fail
                refine (Kh0.out _).mono ?_
                rintro e w' ⟨rfl, rfl⟩
                go_wp2_with fail
                refine (Kh1.out _).mono ?_
                rintro e w' ⟨rfl, rfl⟩
                go_wp2_with fail
                refine (Kh2.out _).mono ?_
                rintro e w' ⟨rfl, rfl⟩
                go_wp2_with fail
                go_ret
                exact ⟨ret_bool (by first | (rw [R.out]; done) | (rw [R.out]; rfl) | (rw [R.out]; simp; done) | (rw [R.out]; simp; omega)), (Below.refl _ _).alloc (Nat.le_refl _) _⟩
              case false =>
                have ih0 := inB_true.1 h0
                have ih1 := inB_true.1 h1
                have ih2 := inB_true.1 h2
                have R := Lib.hid (show r = true from by
                  rw [hr]
                  refine decide_eq_true ?_
                  first | (simp [Ins.Ok, h6]; done) | (simp only [Ins.Ok, h6, true_and, and_true]; omega) | (simp [Ins.Ok, h6]; omega))
                have Kh0 := Lib.hid (fun W => within_to h0 W)
                clear ih0 h0
                have Kh1 := Lib.hid (fun W => within_to h1 W)
                clear ih1 h1
                have Kh2 := Lib.hid (fun W => within_to h2 W)
                clear ih2 h2
                have eh3 : (x.kind == 1) = true := beq_iff_eq.2 h3
                have gh3 : (x.kind != 1) = false := show (!(x.kind == 1)) = _ from by rw [eh3]; rfl
                have eh4 : (x.strike == 0) = true := beq_iff_eq.2 h4
                have gh4 : (x.strike != 0) = false := show (!(x.strike == 0)) = _ from by rw [eh4]; rfl
                have eh5 : (x.expiry == 0) = true := beq_iff_eq.2 h5
                have gh5 : (x.expiry != 0) = false := show (!(x.expiry == 0)) = _ from by rw [eh5]; rfl
                clear h3
                clear h4
                clear h5
                clear hr
                go_enter Tryz.func98, Tryz.ntmps98
                go_wp2_with fail
                refine (Kh0.out _).mono ?_
                rintro e w' ⟨rfl, rfl⟩
                go_wp2_with fail
                refine (Kh1.out _).mono ?_
                rintro e w' ⟨rfl, rfl⟩
                go_wp2_with fail
                refine (Kh2.out _).mono ?_
                rintro e w' ⟨rfl, rfl⟩
                go_wp2_with fail
                go_ret
                exact ⟨ret_bool (by first | (rw [R.out]; done) | (rw [R.out]; rfl) | (rw [R.out]; simp; done) | (rw [R.out]; simp; omega)), (Below.refl _ _).alloc (Nat.le_refl _) _⟩
            · skip
              have ih0 := inB_true.1 h0
              have ih1 := inB_true.1 h1
              have ih2 := inB_true.1 h2
              have R := Lib.hid (show r = false from by
                rw [hr]
                refine decide_eq_false ?_
                first | (simp [Ins.Ok]; done) | (simp only [Ins.Ok, true_and, and_true]; omega) | (simp [Ins.Ok]; omega))
              have Kh0 := Lib.hid (fun W => within_to h0 W)
              clear ih0 h0
              have Kh1 := Lib.hid (fun W => within_to h1 W)
              clear ih1 h1
              have Kh2 := Lib.hid (fun W => within_to h2 W)
              clear ih2 h2
              have eh3 : (x.kind == 1) = true := beq_iff_eq.2 h3
              have gh3 : (x.kind != 1) = false := show (!(x.kind == 1)) = _ from by rw [eh3]; rfl
              have eh4 : (x.strike == 0) = true := beq_iff_eq.2 h4
              have gh4 : (x.strike != 0) = false := show (!(x.strike == 0)) = _ from by rw [eh4]; rfl
              have eh5 : (x.expiry == 0) = false := beq_eq_false_iff_ne.2 h5
              have gh5 : (x.expiry != 0) = true := show (!(x.expiry == 0)) = _ from by rw [eh5]; rfl
              clear h3
              clear h4
              clear h5
              clear hr
              go_enter Tryz.func98, Tryz.ntmps98
              go_wp2_with fail
              refine (Kh0.out _).mono ?_
              rintro e w' ⟨rfl, rfl⟩
              go_wp2_with fail
              refine (Kh1.out _).mono ?_
              rintro e w' ⟨rfl, rfl⟩
              go_wp2_with fail
              refine (Kh2.out _).mono ?_
              rintro e w' ⟨rfl, rfl⟩
              go_wp2_with fail
              go_ret
              exact ⟨ret_bool (by first | (rw [R.out]; done) | (rw [R.out]; rfl) | (rw [R.out]; simp; done) | (rw [R.out]; simp; omega)), (Below.refl _ _).alloc (Nat.le_refl _) _⟩
          · skip
            have ih0 := inB_true.1 h0
            have ih1 := inB_true.1 h1
            have ih2 := inB_true.1 h2
            have R := Lib.hid (show r = false from by
              rw [hr]
              refine decide_eq_false ?_
              first | (simp [Ins.Ok]; done) | (simp only [Ins.Ok, true_and, and_true]; omega) | (simp [Ins.Ok]; omega))
            have Kh0 := Lib.hid (fun W => within_to h0 W)
            clear ih0 h0
            have Kh1 := Lib.hid (fun W => within_to h1 W)
            clear ih1 h1
            have Kh2 := Lib.hid (fun W => within_to h2 W)
            clear ih2 h2
            have eh3 : (x.kind == 1) = true := beq_iff_eq.2 h3
            have gh3 : (x.kind != 1) = false := show (!(x.kind == 1)) = _ from by rw [eh3]; rfl
            have eh4 : (x.strike == 0) = false := beq_eq_false_iff_ne.2 h4
            have gh4 : (x.strike != 0) = true := show (!(x.strike == 0)) = _ from by rw [eh4]; rfl
            clear h3
            clear h4
            clear hr
            go_enter Tryz.func98, Tryz.ntmps98
            go_wp2_with fail
            refine (Kh0.out _).mono ?_
            rintro e w' ⟨rfl, rfl⟩
            go_wp2_with fail
            refine (Kh1.out _).mono ?_
            rintro e w' ⟨rfl, rfl⟩
            go_wp2_with fail
            refine (Kh2.out _).mono ?_
            rintro e w' ⟨rfl, rfl⟩
            go_wp2_with fail
            go_ret
            exact ⟨ret_bool (by first | (rw [R.out]; done) | (rw [R.out]; rfl) | (rw [R.out]; simp; done) | (rw [R.out]; simp; omega)), (Below.refl _ _).alloc (Nat.le_refl _) _⟩
        · skip
          by_cases h4 : x.kind = 2
          · skip
            by_cases h5 : x.strike = 0
            · skip
              cases h6 : inB x.expiry 1 100000
              case true =>
                cases h7 : x.call
                case true =>
                  have ih0 := inB_true.1 h0
                  have ih1 := inB_true.1 h1
                  have ih2 := inB_true.1 h2
                  have ih6 := inB_true.1 h6
                  have R := Lib.hid (show r = false from by
                    rw [hr]
                    refine decide_eq_false ?_
                    first | (simp [Ins.Ok, h7]; done) | (simp only [Ins.Ok, h7, true_and, and_true]; omega) | (simp [Ins.Ok, h7]; omega))
                  have Kh0 := Lib.hid (fun W => within_to h0 W)
                  clear ih0 h0
                  have Kh1 := Lib.hid (fun W => within_to h1 W)
                  clear ih1 h1
                  have Kh2 := Lib.hid (fun W => within_to h2 W)
                  clear ih2 h2
                  have eh3 : (x.kind == 1) = false := beq_eq_false_iff_ne.2 h3
                  have gh3 : (x.kind != 1) = true := show (!(x.kind == 1)) = _ from by rw [eh3]; rfl
                  have eh4 : (x.kind == 2) = true := beq_iff_eq.2 h4
                  have gh4 : (x.kind != 2) = false := show (!(x.kind == 2)) = _ from by rw [eh4]; rfl
                  have eh5 : (x.strike == 0) = true := beq_iff_eq.2 h5
                  have gh5 : (x.strike != 0) = false := show (!(x.strike == 0)) = _ from by rw [eh5]; rfl
                  have Kh6 := Lib.hid (fun W => within_to h6 W)
                  clear ih6 h6
                  clear h3
                  clear h4
                  clear h5
                  clear hr
                  go_enter Tryz.func98, Tryz.ntmps98
                  go_wp2_with fail
                  refine (Kh0.out _).mono ?_
                  rintro e w' ⟨rfl, rfl⟩
                  go_wp2_with fail
                  refine (Kh1.out _).mono ?_
                  rintro e w' ⟨rfl, rfl⟩
                  go_wp2_with fail
                  refine (Kh2.out _).mono ?_
                  rintro e w' ⟨rfl, rfl⟩
                  go_wp2_with fail
                  refine (Kh6.out _).mono ?_
                  rintro e w' ⟨rfl, rfl⟩
                  go_wp2_with fail
                  go_ret
                  exact ⟨ret_bool (by first | (rw [R.out]; done) | (rw [R.out]; rfl) | (rw [R.out]; simp; done) | (rw [R.out]; simp; omega)), (Below.refl _ _).alloc (Nat.le_refl _) _⟩
                case false =>
                  have ih0 := inB_true.1 h0
                  have ih1 := inB_true.1 h1
                  have ih2 := inB_true.1 h2
                  have ih6 := inB_true.1 h6
                  have R := Lib.hid (show r = true from by
                    rw [hr]
                    refine decide_eq_true ?_
                    first | (simp [Ins.Ok, h7]; done) | (simp only [Ins.Ok, h7, true_and, and_true]; omega) | (simp [Ins.Ok, h7]; omega))
                  have Kh0 := Lib.hid (fun W => within_to h0 W)
                  clear ih0 h0
                  have Kh1 := Lib.hid (fun W => within_to h1 W)
                  clear ih1 h1
                  have Kh2 := Lib.hid (fun W => within_to h2 W)
                  clear ih2 h2
                  have eh3 : (x.kind == 1) = false := beq_eq_false_iff_ne.2 h3
                  have gh3 : (x.kind != 1) = true := show (!(x.kind == 1)) = _ from by rw [eh3]; rfl
                  have eh4 : (x.kind == 2) = true := beq_iff_eq.2 h4
                  have gh4 : (x.kind != 2) = false := show (!(x.kind == 2)) = _ from by rw [eh4]; rfl
                  have eh5 : (x.strike == 0) = true := beq_iff_eq.2 h5
                  have gh5 : (x.strike != 0) = false := show (!(x.strike == 0)) = _ from by rw [eh5]; rfl
                  have Kh6 := Lib.hid (fun W => within_to h6 W)
                  clear ih6 h6
                  clear h3
                  clear h4
                  clear h5
                  clear hr
                  go_enter Tryz.func98, Tryz.ntmps98
                  go_wp2_with fail
                  refine (Kh0.out _).mono ?_
                  rintro e w' ⟨rfl, rfl⟩
                  go_wp2_with fail
                  refine (Kh1.out _).mono ?_
                  rintro e w' ⟨rfl, rfl⟩
                  go_wp2_with fail
                  refine (Kh2.out _).mono ?_
                  rintro e w' ⟨rfl, rfl⟩
                  go_wp2_with fail
                  refine (Kh6.out _).mono ?_
                  rintro e w' ⟨rfl, rfl⟩
                  go_wp2_with fail
                  go_ret
                  exact ⟨ret_bool (by first | (rw [R.out]; done) | (rw [R.out]; rfl) | (rw [R.out]; simp; done) | (rw [R.out]; simp; omega)), (Below.refl _ _).alloc (Nat.le_refl _) _⟩
              case false =>
                have ih0 := inB_true.1 h0
                have ih1 := inB_true.1 h1
                have ih2 := inB_true.1 h2
                have ih6 := inB_false.1 h6
                have R := Lib.hid (show r = false from by
                  rw [hr]
                  refine decide_eq_false ?_
                  first | (simp [Ins.Ok]; done) | (simp only [Ins.Ok, true_and, and_true]; omega) | (simp [Ins.Ok]; omega))
                have Kh0 := Lib.hid (fun W => within_to h0 W)
                clear ih0 h0
                have Kh1 := Lib.hid (fun W => within_to h1 W)
                clear ih1 h1
                have Kh2 := Lib.hid (fun W => within_to h2 W)
                clear ih2 h2
                have eh3 : (x.kind == 1) = false := beq_eq_false_iff_ne.2 h3
                have gh3 : (x.kind != 1) = true := show (!(x.kind == 1)) = _ from by rw [eh3]; rfl
                have eh4 : (x.kind == 2) = true := beq_iff_eq.2 h4
                have gh4 : (x.kind != 2) = false := show (!(x.kind == 2)) = _ from by rw [eh4]; rfl
                have eh5 : (x.strike == 0) = true := beq_iff_eq.2 h5
                have gh5 : (x.strike != 0) = false := show (!(x.strike == 0)) = _ from by rw [eh5]; rfl
                have Kh6 := Lib.hid (fun W => within_to h6 W)
                clear ih6 h6
                clear h3
                clear h4
                clear h5
                clear hr
                go_enter Tryz.func98, Tryz.ntmps98
                go_wp2_with fail
                refine (Kh0.out _).mono ?_
                rintro e w' ⟨rfl, rfl⟩
                go_wp2_with fail
                refine (Kh1.out _).mono ?_
                rintro e w' ⟨rfl, rfl⟩
                go_wp2_with fail
                refine (Kh2.out _).mono ?_
                rintro e w' ⟨rfl, rfl⟩
                go_wp2_with fail
                refine (Kh6.out _).mono ?_
                rintro e w' ⟨rfl, rfl⟩
                go_wp2_with fail
                go_ret
                exact ⟨ret_bool (by first | (rw [R.out]; done) | (rw [R.out]; rfl) | (rw [R.out]; simp; done) | (rw [R.out]; simp; omega)), (Below.refl _ _).alloc (Nat.le_refl _) _⟩
            · skip
              have ih0 := inB_true.1 h0
              have ih1 := inB_true.1 h1
              have ih2 := inB_true.1 h2
              have R := Lib.hid (show r = false from by
                rw [hr]
                refine decide_eq_false ?_
                first | (simp [Ins.Ok]; done) | (simp only [Ins.Ok, true_and, and_true]; omega) | (simp [Ins.Ok]; omega))
              have Kh0 := Lib.hid (fun W => within_to h0 W)
              clear ih0 h0
              have Kh1 := Lib.hid (fun W => within_to h1 W)
              clear ih1 h1
              have Kh2 := Lib.hid (fun W => within_to h2 W)
              clear ih2 h2
              have eh3 : (x.kind == 1) = false := beq_eq_false_iff_ne.2 h3
              have gh3 : (x.kind != 1) = true := show (!(x.kind == 1)) = _ from by rw [eh3]; rfl
              have eh4 : (x.kind == 2) = true := beq_iff_eq.2 h4
              have gh4 : (x.kind != 2) = false := show (!(x.kind == 2)) = _ from by rw [eh4]; rfl
              have eh5 : (x.strike == 0) = false := beq_eq_false_iff_ne.2 h5
              have gh5 : (x.strike != 0) = true := show (!(x.strike == 0)) = _ from by rw [eh5]; rfl
              clear h3
              clear h4
              clear h5
              clear hr
              go_enter Tryz.func98, Tryz.ntmps98
              go_wp2_with fail
              refine (Kh0.out _).mono ?_
              rintro e w' ⟨rfl, rfl⟩
              go_wp2_with fail
              refine (Kh1.out _).mono ?_
              rintro e w' ⟨rfl, rfl⟩
              go_wp2_with fail
              refine (Kh2.out _).mono ?_
              rintro e w' ⟨rfl, rfl⟩
              go_wp2_with fail
              go_ret
              exact ⟨ret_bool (by first | (rw [R.out]; done) | (rw [R.out]; rfl) | (rw [R.out]; simp; done) | (rw [R.out]; simp; omega)), (Below.refl _ _).alloc (Nat.le_refl _) _⟩
          · skip
            by_cases h5 : x.kind = 3
            · skip
              cases h6 : inB x.strike 1 1000000000000
              case true =>
                cases h7 : inB x.expiry 1 100000
                case true =>
                  have ih0 := inB_true.1 h0
                  have ih1 := inB_true.1 h1
                  have ih2 := inB_true.1 h2
                  have ih6 := inB_true.1 h6
                  have ih7 := inB_true.1 h7
                  have R := Lib.hid (show r = true from by
                    rw [hr]
                    refine decide_eq_true ?_
                    first | (simp [Ins.Ok]; done) | (simp only [Ins.Ok, true_and, and_true]; omega) | (simp [Ins.Ok]; omega))
                  have Kh0 := Lib.hid (fun W => within_to h0 W)
                  clear ih0 h0
                  have Kh1 := Lib.hid (fun W => within_to h1 W)
                  clear ih1 h1
                  have Kh2 := Lib.hid (fun W => within_to h2 W)
                  clear ih2 h2
                  have eh3 : (x.kind == 1) = false := beq_eq_false_iff_ne.2 h3
                  have gh3 : (x.kind != 1) = true := show (!(x.kind == 1)) = _ from by rw [eh3]; rfl
                  have eh4 : (x.kind == 2) = false := beq_eq_false_iff_ne.2 h4
                  have gh4 : (x.kind != 2) = true := show (!(x.kind == 2)) = _ from by rw [eh4]; rfl
                  have eh5 : (x.kind == 3) = true := beq_iff_eq.2 h5
                  have gh5 : (x.kind != 3) = false := show (!(x.kind == 3)) = _ from by rw [eh5]; rfl
                  have Kh6 := Lib.hid (fun W => within_to h6 W)
                  clear ih6 h6
                  have Kh7 := Lib.hid (fun W => within_to h7 W)
                  clear ih7 h7
                  clear h3
                  clear h4
                  clear h5
                  clear hr
                  go_enter Tryz.func98, Tryz.ntmps98
                  go_wp2_with fail
                  refine (Kh0.out _).mono ?_
                  rintro e w' ⟨rfl, rfl⟩
                  go_wp2_with fail
                  refine (Kh1.out _).mono ?_
                  rintro e w' ⟨rfl, rfl⟩
                  go_wp2_with fail
                  refine (Kh2.out _).mono ?_
                  rintro e w' ⟨rfl, rfl⟩
                  go_wp2_with fail
                  refine (Kh6.out _).mono ?_
                  rintro e w' ⟨rfl, rfl⟩
                  go_wp2_with fail
                  refine (Kh7.out _).mono ?_
                  rintro e w' ⟨rfl, rfl⟩
                  go_wp2_with fail
                  go_ret
                  exact ⟨ret_bool (by first | (rw [R.out]; done) | (rw [R.out]; rfl) | (rw [R.out]; simp; done) | (rw [R.out]; simp; omega)), (Below.refl _ _).alloc (Nat.le_refl _) _⟩
                case false =>
                  have ih0 := inB_true.1 h0
                  have ih1 := inB_true.1 h1
                  have ih2 := inB_true.1 h2
                  have ih6 := inB_true.1 h6
                  have ih7 := inB_false.1 h7
                  have R := Lib.hid (show r = false from by
                    rw [hr]
                    refine decide_eq_false ?_
                    first | (simp [Ins.Ok]; done) | (simp only [Ins.Ok, true_and, and_true]; omega) | (simp [Ins.Ok]; omega))
                  have Kh0 := Lib.hid (fun W => within_to h0 W)
                  clear ih0 h0
                  have Kh1 := Lib.hid (fun W => within_to h1 W)
                  clear ih1 h1
                  have Kh2 := Lib.hid (fun W => within_to h2 W)
                  clear ih2 h2
                  have eh3 : (x.kind == 1) = false := beq_eq_false_iff_ne.2 h3
                  have gh3 : (x.kind != 1) = true := show (!(x.kind == 1)) = _ from by rw [eh3]; rfl
                  have eh4 : (x.kind == 2) = false := beq_eq_false_iff_ne.2 h4
                  have gh4 : (x.kind != 2) = true := show (!(x.kind == 2)) = _ from by rw [eh4]; rfl
                  have eh5 : (x.kind == 3) = true := beq_iff_eq.2 h5
                  have gh5 : (x.kind != 3) = false := show (!(x.kind == 3)) = _ from by rw [eh5]; rfl
                  have Kh6 := Lib.hid (fun W => within_to h6 W)
                  clear ih6 h6
                  have Kh7 := Lib.hid (fun W => within_to h7 W)
                  clear ih7 h7
                  clear h3
                  clear h4
                  clear h5
                  clear hr
                  go_enter Tryz.func98, Tryz.ntmps98
                  go_wp2_with fail
                  refine (Kh0.out _).mono ?_
                  rintro e w' ⟨rfl, rfl⟩
                  go_wp2_with fail
                  refine (Kh1.out _).mono ?_
                  rintro e w' ⟨rfl, rfl⟩
                  go_wp2_with fail
                  refine (Kh2.out _).mono ?_
                  rintro e w' ⟨rfl, rfl⟩
                  go_wp2_with fail
                  refine (Kh6.out _).mono ?_
                  rintro e w' ⟨rfl, rfl⟩
                  go_wp2_with fail
                  refine (Kh7.out _).mono ?_
                  rintro e w' ⟨rfl, rfl⟩
                  go_wp2_with fail
                  go_ret
                  exact ⟨ret_bool (by first | (rw [R.out]; done) | (rw [R.out]; rfl) | (rw [R.out]; simp; done) | (rw [R.out]; simp; omega)), (Below.refl _ _).alloc (Nat.le_refl _) _⟩
              case false =>
                have ih0 := inB_true.1 h0
                have ih1 := inB_true.1 h1
                have ih2 := inB_true.1 h2
                have ih6 := inB_false.1 h6
                have R := Lib.hid (show r = false from by
                  rw [hr]
                  refine decide_eq_false ?_
                  first | (simp [Ins.Ok]; done) | (simp only [Ins.Ok, true_and, and_true]; omega) | (simp [Ins.Ok]; omega))
                have Kh0 := Lib.hid (fun W => within_to h0 W)
                clear ih0 h0
                have Kh1 := Lib.hid (fun W => within_to h1 W)
                clear ih1 h1
                have Kh2 := Lib.hid (fun W => within_to h2 W)
                clear ih2 h2
                have eh3 : (x.kind == 1) = false := beq_eq_false_iff_ne.2 h3
                have gh3 : (x.kind != 1) = true := show (!(x.kind == 1)) = _ from by rw [eh3]; rfl
                have eh4 : (x.kind == 2) = false := beq_eq_false_iff_ne.2 h4
                have gh4 : (x.kind != 2) = true := show (!(x.kind == 2)) = _ from by rw [eh4]; rfl
                have eh5 : (x.kind == 3) = true := beq_iff_eq.2 h5
                have gh5 : (x.kind != 3) = false := show (!(x.kind == 3)) = _ from by rw [eh5]; rfl
                have Kh6 := Lib.hid (fun W => within_to h6 W)
                clear ih6 h6
                clear h3
                clear h4
                clear h5
                clear hr
                go_enter Tryz.func98, Tryz.ntmps98
                go_wp2_with fail
                refine (Kh0.out _).mono ?_
                rintro e w' ⟨rfl, rfl⟩
                go_wp2_with fail
                refine (Kh1.out _).mono ?_
                rintro e w' ⟨rfl, rfl⟩
                go_wp2_with fail
                refine (Kh2.out _).mono ?_
                rintro e w' ⟨rfl, rfl⟩
                go_wp2_with fail
                refine (Kh6.out _).mono ?_
                rintro e w' ⟨rfl, rfl⟩
                go_wp2_with fail
                go_ret
                exact ⟨ret_bool (by first | (rw [R.out]; done) | (rw [R.out]; rfl) | (rw [R.out]; simp; done) | (rw [R.out]; simp; omega)), (Below.refl _ _).alloc (Nat.le_refl _) _⟩
            · skip
              have ih0 := inB_true.1 h0
              have ih1 := inB_true.1 h1
              have ih2 := inB_true.1 h2
              have R := Lib.hid (show r = false from by
                rw [hr]
                refine decide_eq_false ?_
                first | (simp [Ins.Ok]; done) | (simp only [Ins.Ok, true_and, and_true]; omega) | (simp [Ins.Ok]; omega))
              have Kh0 := Lib.hid (fun W => within_to h0 W)
              clear ih0 h0
              have Kh1 := Lib.hid (fun W => within_to h1 W)
              clear ih1 h1
              have Kh2 := Lib.hid (fun W => within_to h2 W)
              clear ih2 h2
              have eh3 : (x.kind == 1) = false := beq_eq_false_iff_ne.2 h3
              have gh3 : (x.kind != 1) = true := show (!(x.kind == 1)) = _ from by rw [eh3]; rfl
              have eh4 : (x.kind == 2) = false := beq_eq_false_iff_ne.2 h4
              have gh4 : (x.kind != 2) = true := show (!(x.kind == 2)) = _ from by rw [eh4]; rfl
              have eh5 : (x.kind == 3) = false := beq_eq_false_iff_ne.2 h5
              have gh5 : (x.kind != 3) = true := show (!(x.kind == 3)) = _ from by rw [eh5]; rfl
              clear h3
              clear h4
              clear h5
              clear hr
              go_enter Tryz.func98, Tryz.ntmps98
              go_wp2_with fail
              refine (Kh0.out _).mono ?_
              rintro e w' ⟨rfl, rfl⟩
              go_wp2_with fail
              refine (Kh1.out _).mono ?_
              rintro e w' ⟨rfl, rfl⟩
              go_wp2_with fail
              refine (Kh2.out _).mono ?_
              rintro e w' ⟨rfl, rfl⟩
              go_wp2_with fail
              go_ret
              exact ⟨ret_bool (by first | (rw [R.out]; done) | (rw [R.out]; rfl) | (rw [R.out]; simp; done) | (rw [R.out]; simp; omega)), (Below.refl _ _).alloc (Nat.le_refl _) _⟩
      case false =>
        have ih0 := inB_true.1 h0
        have ih1 := inB_true.1 h1
        have ih2 := inB_false.1 h2
        have R := Lib.hid (show r = false from by
          rw [hr]
          refine decide_eq_false ?_
          first | (simp [Ins.Ok]; done) | (simp only [Ins.Ok, true_and, and_true]; omega) | (simp [Ins.Ok]; omega))
        have Kh0 := Lib.hid (fun W => within_to h0 W)
        clear ih0 h0
        have Kh1 := Lib.hid (fun W => within_to h1 W)
        clear ih1 h1
        have Kh2 := Lib.hid (fun W => within_to h2 W)
        clear ih2 h2
        clear hr
        go_enter Tryz.func98, Tryz.ntmps98
        go_wp2_with fail
        refine (Kh0.out _).mono ?_
        rintro e w' ⟨rfl, rfl⟩
        go_wp2_with fail
        refine (Kh1.out _).mono ?_
        rintro e w' ⟨rfl, rfl⟩
        go_wp2_with fail
        refine (Kh2.out _).mono ?_
        rintro e w' ⟨rfl, rfl⟩
        go_wp2_with fail
        go_ret
        exact ⟨ret_bool (by first | (rw [R.out]; done) | (rw [R.out]; rfl) | (rw [R.out]; simp; done) | (rw [R.out]; simp; omega)), (Below.refl _ _).alloc (Nat.le_refl _) _⟩
    case false =>
      have ih0 := inB_true.1 h0
      have ih1 := inB_false.1 h1
      have R := Lib.hid (show r = false from by
        rw [hr]
        refine decide_eq_false ?_
        first | (simp [Ins.Ok]; done) | (simp only [Ins.Ok, true_and, and_true]; omega) | (simp [Ins.Ok]; omega))
      have Kh0 := Lib.hid (fun W => within_to h0 W)
      clear ih0 h0
      have Kh1 := Lib.hid (fun W => within_to h1 W)
      clear ih1 h1
      clear hr
      go_enter Tryz.func98, Tryz.ntmps98
      go_wp2_with fail
      refine (Kh0.out _).mono ?_
      rintro e w' ⟨rfl, rfl⟩
      go_wp2_with fail
      refine (Kh1.out _).mono ?_
      rintro e w' ⟨rfl, rfl⟩
      go_wp2_with fail
      go_ret
      exact ⟨ret_bool (by first | (rw [R.out]; done) | (rw [R.out]; rfl) | (rw [R.out]; simp; done) | (rw [R.out]; simp; omega)), (Below.refl _ _).alloc (Nat.le_refl _) _⟩
  case false =>
    have ih0 := inB_false.1 h0
    have R := Lib.hid (show r = false from by
      rw [hr]
      refine decide_eq_false ?_
      first | (simp [Ins.Ok]; done) | (simp only [Ins.Ok, true_and, and_true]; omega) | (simp [Ins.Ok]; omega))
    have Kh0 := Lib.hid (fun W => within_to h0 W)
    clear ih0 h0
    clear hr
    go_enter Tryz.func98, Tryz.ntmps98
    go_wp2_with fail
    refine (Kh0.out _).mono ?_
    rintro e w' ⟨rfl, rfl⟩
    go_wp2_with fail
    go_ret
    exact ⟨ret_bool (by first | (rw [R.out]; done) | (rw [R.out]; rfl) | (rw [R.out]; simp; done) | (rw [R.out]; simp; omega)), (Below.refl _ _).alloc (Nat.le_refl _) _⟩

open Classical in
set_option maxRecDepth 100000 in
set_option maxHeartbeats 4000000 in
theorem rcur_any (x : Cur) (n : Nat) (hn : n ≤ 4) (w : World) : Calls Tryz.prog 36 #[.agg #[.int .i64 x.rate, .int .i64 x.hair], .int .i64 (n : Nat)] w fun e w' => e = .returned (.bool (decide (x.Ok n))) ∧ Below w.heap.size w w' := by
  obtain ⟨r, hr⟩ : ∃ r, r = decide (x.Ok n) := ⟨_, rfl⟩
  rw [← hr]
  have n0 : (0 : Int) ≤ (n : Int) := by omega
  have n1 : (n : Int) ≤ 6 := by omega
  by_cases h0 : x.rate < 1
  · skip
    have R := Lib.hid (show r = false from by
      rw [hr]
      refine decide_eq_false ?_
      first | (simp [Cur.Ok]; done) | (simp only [Cur.Ok, true_and, and_true]; omega) | (simp [Cur.Ok]; omega))
    clear hr
    go_enter Tryz.func36, Tryz.ntmps36
    go_wp2_with fail
    go_ret
    exact ⟨ret_bool (by first | (rw [R.out]; done) | (rw [R.out]; rfl) | (rw [R.out]; simp; done) | (rw [R.out]; simp; omega)), (Below.refl _ _).alloc (Nat.le_refl _) _⟩
  · skip
    by_cases h1 : 1000000000000 < x.rate
    · skip
      have R := Lib.hid (show r = false from by
        rw [hr]
        refine decide_eq_false ?_
        first | (simp [Cur.Ok]; done) | (simp only [Cur.Ok, true_and, and_true]; omega) | (simp [Cur.Ok]; omega))
      clear hr
      go_enter Tryz.func36, Tryz.ntmps36
      go_wp2_with fail
      go_ret
      exact ⟨ret_bool (by first | (rw [R.out]; done) | (rw [R.out]; rfl) | (rw [R.out]; simp; done) | (rw [R.out]; simp; omega)), (Below.refl _ _).alloc (Nat.le_refl _) _⟩
    · skip
      by_cases h2 : x.hair < 0
      · skip
        have R := Lib.hid (show r = false from by
          rw [hr]
          refine decide_eq_false ?_
          first | (simp [Cur.Ok]; done) | (simp only [Cur.Ok, true_and, and_true]; omega) | (simp [Cur.Ok]; omega))
        clear hr
        go_enter Tryz.func36, Tryz.ntmps36
        go_wp2_with fail
        go_ret
        exact ⟨ret_bool (by first | (rw [R.out]; done) | (rw [R.out]; rfl) | (rw [R.out]; simp; done) | (rw [R.out]; simp; omega)), (Below.refl _ _).alloc (Nat.le_refl _) _⟩
      · skip
        by_cases h3 : 10000 < x.hair
        · skip
          have R := Lib.hid (show r = false from by
            rw [hr]
            refine decide_eq_false ?_
            first | (simp [Cur.Ok]; done) | (simp only [Cur.Ok, true_and, and_true]; omega) | (simp [Cur.Ok]; omega))
          clear hr
          go_enter Tryz.func36, Tryz.ntmps36
          go_wp2_with fail
          go_ret
          exact ⟨ret_bool (by first | (rw [R.out]; done) | (rw [R.out]; rfl) | (rw [R.out]; simp; done) | (rw [R.out]; simp; omega)), (Below.refl _ _).alloc (Nat.le_refl _) _⟩
        · skip
          by_cases h4 : (n : Int) = 0
          · skip
            by_cases h5 : x.rate = 1000000
            · skip
              have R := Lib.hid (show r = true from by
                rw [hr]
                refine decide_eq_true ?_
                first | (simp [Cur.Ok]; done) | (simp only [Cur.Ok, true_and, and_true]; omega) | (simp [Cur.Ok]; omega))
              have eh4 : ((n : Int) == 0) = true := beq_iff_eq.2 h4
              have gh4 : ((n : Int) != 0) = false := show (!((n : Int) == 0)) = _ from by rw [eh4]; rfl
              have eh5 : (x.rate == 1000000) = true := beq_iff_eq.2 h5
              have gh5 : (x.rate != 1000000) = false := show (!(x.rate == 1000000)) = _ from by rw [eh5]; rfl
              clear h4
              clear h5
              clear hr
              go_enter Tryz.func36, Tryz.ntmps36
              go_wp2_with fail
              go_ret
              exact ⟨ret_bool (by first | (rw [R.out]; done) | (rw [R.out]; rfl) | (rw [R.out]; simp; done) | (rw [R.out]; simp; omega)), (Below.refl _ _).alloc (Nat.le_refl _) _⟩
            · skip
              have R := Lib.hid (show r = false from by
                rw [hr]
                refine decide_eq_false ?_
                first | (simp [Cur.Ok]; done) | (simp only [Cur.Ok, true_and, and_true]; omega) | (simp [Cur.Ok]; omega))
              have eh4 : ((n : Int) == 0) = true := beq_iff_eq.2 h4
              have gh4 : ((n : Int) != 0) = false := show (!((n : Int) == 0)) = _ from by rw [eh4]; rfl
              have eh5 : (x.rate == 1000000) = false := beq_eq_false_iff_ne.2 h5
              have gh5 : (x.rate != 1000000) = true := show (!(x.rate == 1000000)) = _ from by rw [eh5]; rfl
              clear h4
              clear h5
              clear hr
              go_enter Tryz.func36, Tryz.ntmps36
              go_wp2_with fail
              go_ret
              exact ⟨ret_bool (by first | (rw [R.out]; done) | (rw [R.out]; rfl) | (rw [R.out]; simp; done) | (rw [R.out]; simp; omega)), (Below.refl _ _).alloc (Nat.le_refl _) _⟩
          · skip
            have R := Lib.hid (show r = true from by
              rw [hr]
              refine decide_eq_true ?_
              first | (simp [Cur.Ok]; done) | (simp only [Cur.Ok, true_and, and_true]; omega) | (simp [Cur.Ok]; omega))
            have eh4 : ((n : Int) == 0) = false := beq_eq_false_iff_ne.2 h4
            have gh4 : ((n : Int) != 0) = true := show (!((n : Int) == 0)) = _ from by rw [eh4]; rfl
            clear h4
            clear hr
            go_enter Tryz.func36, Tryz.ntmps36
            go_wp2_with fail
            go_ret
            exact ⟨ret_bool (by first | (rw [R.out]; done) | (rw [R.out]; rfl) | (rw [R.out]; simp; done) | (rw [R.out]; simp; omega)), (Below.refl _ _).alloc (Nat.le_refl _) _⟩

open Classical in
set_option maxRecDepth 100000 in
set_option maxHeartbeats 4000000 in
theorem rund_any (x : Und) (n : Nat) (hn : n ≤ 4) (hs : x.name.size ≤ maxLen) (w : World) : Calls Tryz.prog 37 #[.agg #[.string x.name, .int .i64 x.cur, .int .i64 x.price, .int .i64 x.vol], .int .i64 (n : Nat)] w fun e w' => e = .returned (.bool (decide (x.Ok n))) ∧ Below w.heap.size w w' := by
  obtain ⟨r, hr⟩ : ∃ r, r = decide (x.Ok n) := ⟨_, rfl⟩
  rw [← hr]
  have n0 : (0 : Int) ≤ (n : Int) := by omega
  have n1 : (n : Int) ≤ 6 := by omega
  cases h0 : nameB x.name
  case true =>
    by_cases h1 : 0 ≤ x.cur
    · skip
      by_cases h2 : x.cur < (n : Int)
      · skip
        by_cases h3 : 0 < x.price
        · skip
          by_cases h4 : x.price ≤ 1000000000000
          · skip
            by_cases h5 : 0 ≤ x.vol
            · skip
              by_cases h6 : x.vol ≤ 50000
              · skip
                have R := Lib.hid (show r = true from by
                  rw [hr]
                  refine decide_eq_true ?_
                  first | (simp [Und.Ok, h0]; done) | (simp only [Und.Ok, h0, true_and, and_true]; omega) | (simp [Und.Ok, h0]; omega))
                have Kh0 := Lib.hid (fun W => name_toR h0 hs W)
                clear h0
                clear hr
                go_enter Tryz.func37, Tryz.ntmps37
                go_wp2_with fail
                refine (Kh0.out _).mono ?_
                rintro e w' ⟨rfl, rfl⟩
                go_wp2_with fail
                go_ret
                exact ⟨ret_bool (by first | (rw [R.out]; done) | (rw [R.out]; rfl) | (rw [R.out]; simp; done) | (rw [R.out]; simp; omega)), (Below.refl _ _).alloc (Nat.le_refl _) _⟩
              · skip
                have R := Lib.hid (show r = false from by
                  rw [hr]
                  refine decide_eq_false ?_
                  first | (simp [Und.Ok, h0]; done) | (simp only [Und.Ok, h0, true_and, and_true]; omega) | (simp [Und.Ok, h0]; omega))
                have Kh0 := Lib.hid (fun W => name_toR h0 hs W)
                clear h0
                clear hr
                go_enter Tryz.func37, Tryz.ntmps37
                go_wp2_with fail
                refine (Kh0.out _).mono ?_
                rintro e w' ⟨rfl, rfl⟩
                go_wp2_with fail
                go_ret
                exact ⟨ret_bool (by first | (rw [R.out]; done) | (rw [R.out]; rfl) | (rw [R.out]; simp; done) | (rw [R.out]; simp; omega)), (Below.refl _ _).alloc (Nat.le_refl _) _⟩
            · skip
              have R := Lib.hid (show r = false from by
                rw [hr]
                refine decide_eq_false ?_
                first | (simp [Und.Ok, h0]; done) | (simp only [Und.Ok, h0, true_and, and_true]; omega) | (simp [Und.Ok, h0]; omega))
              have Kh0 := Lib.hid (fun W => name_toR h0 hs W)
              clear h0
              clear hr
              go_enter Tryz.func37, Tryz.ntmps37
              go_wp2_with fail
              refine (Kh0.out _).mono ?_
              rintro e w' ⟨rfl, rfl⟩
              go_wp2_with fail
              go_ret
              exact ⟨ret_bool (by first | (rw [R.out]; done) | (rw [R.out]; rfl) | (rw [R.out]; simp; done) | (rw [R.out]; simp; omega)), (Below.refl _ _).alloc (Nat.le_refl _) _⟩
          · skip
            have R := Lib.hid (show r = false from by
              rw [hr]
              refine decide_eq_false ?_
              first | (simp [Und.Ok, h0]; done) | (simp only [Und.Ok, h0, true_and, and_true]; omega) | (simp [Und.Ok, h0]; omega))
            have Kh0 := Lib.hid (fun W => name_toR h0 hs W)
            clear h0
            clear hr
            go_enter Tryz.func37, Tryz.ntmps37
            go_wp2_with fail
            refine (Kh0.out _).mono ?_
            rintro e w' ⟨rfl, rfl⟩
            go_wp2_with fail
            go_ret
            exact ⟨ret_bool (by first | (rw [R.out]; done) | (rw [R.out]; rfl) | (rw [R.out]; simp; done) | (rw [R.out]; simp; omega)), (Below.refl _ _).alloc (Nat.le_refl _) _⟩
        · skip
          have R := Lib.hid (show r = false from by
            rw [hr]
            refine decide_eq_false ?_
            first | (simp [Und.Ok, h0]; done) | (simp only [Und.Ok, h0, true_and, and_true]; omega) | (simp [Und.Ok, h0]; omega))
          have Kh0 := Lib.hid (fun W => name_toR h0 hs W)
          clear h0
          clear hr
          go_enter Tryz.func37, Tryz.ntmps37
          go_wp2_with fail
          refine (Kh0.out _).mono ?_
          rintro e w' ⟨rfl, rfl⟩
          go_wp2_with fail
          go_ret
          exact ⟨ret_bool (by first | (rw [R.out]; done) | (rw [R.out]; rfl) | (rw [R.out]; simp; done) | (rw [R.out]; simp; omega)), (Below.refl _ _).alloc (Nat.le_refl _) _⟩
      · skip
        have R := Lib.hid (show r = false from by
          rw [hr]
          refine decide_eq_false ?_
          first | (simp [Und.Ok, h0]; done) | (simp only [Und.Ok, h0, true_and, and_true]; omega) | (simp [Und.Ok, h0]; omega))
        have Kh0 := Lib.hid (fun W => name_toR h0 hs W)
        clear h0
        clear hr
        go_enter Tryz.func37, Tryz.ntmps37
        go_wp2_with fail
        refine (Kh0.out _).mono ?_
        rintro e w' ⟨rfl, rfl⟩
        go_wp2_with fail
        go_ret
        exact ⟨ret_bool (by first | (rw [R.out]; done) | (rw [R.out]; rfl) | (rw [R.out]; simp; done) | (rw [R.out]; simp; omega)), (Below.refl _ _).alloc (Nat.le_refl _) _⟩
    · skip
      have R := Lib.hid (show r = false from by
        rw [hr]
        refine decide_eq_false ?_
        first | (simp [Und.Ok, h0]; done) | (simp only [Und.Ok, h0, true_and, and_true]; omega) | (simp [Und.Ok, h0]; omega))
      have Kh0 := Lib.hid (fun W => name_toR h0 hs W)
      clear h0
      clear hr
      go_enter Tryz.func37, Tryz.ntmps37
      go_wp2_with fail
      refine (Kh0.out _).mono ?_
      rintro e w' ⟨rfl, rfl⟩
      go_wp2_with fail
      go_ret
      exact ⟨ret_bool (by first | (rw [R.out]; done) | (rw [R.out]; rfl) | (rw [R.out]; simp; done) | (rw [R.out]; simp; omega)), (Below.refl _ _).alloc (Nat.le_refl _) _⟩
  case false =>
    have R := Lib.hid (show r = false from by
      rw [hr]
      refine decide_eq_false ?_
      first | (simp [Und.Ok, h0]; done) | (simp only [Und.Ok, h0, true_and, and_true]; omega) | (simp [Und.Ok, h0]; omega))
    have Kh0 := Lib.hid (fun W => name_toR h0 hs W)
    clear h0
    clear hr
    go_enter Tryz.func37, Tryz.ntmps37
    go_wp2_with fail
    refine (Kh0.out _).mono ?_
    rintro e w' ⟨rfl, rfl⟩
    go_wp2_with fail
    go_ret
    exact ⟨ret_bool (by first | (rw [R.out]; done) | (rw [R.out]; rfl) | (rw [R.out]; simp; done) | (rw [R.out]; simp; omega)), (Below.refl _ _).alloc (Nat.le_refl _) _⟩

open Classical in
set_option maxRecDepth 100000 in
set_option maxHeartbeats 4000000 in
theorem rins_any (x : Ins) (n : Nat) (hn : n ≤ 6) (w : World) : Calls Tryz.prog 38 #[.agg #[.int .i64 x.kind, .int .i64 x.under, .int .i64 x.mult, .int .i64 x.strike, .int .i64 x.expiry, .bool x.call, .int .i64 x.mark], .int .i64 (n : Nat)] w fun e w' => e = .returned (.bool (decide (x.Ok n))) ∧ Below w.heap.size w w' := by
  obtain ⟨r, hr⟩ : ∃ r, r = decide (x.Ok n) := ⟨_, rfl⟩
  rw [← hr]
  have n0 : (0 : Int) ≤ (n : Int) := by omega
  have n1 : (n : Int) ≤ 6 := by omega
  by_cases h0 : x.kind < 1
  · skip
    have R := Lib.hid (show r = false from by
      rw [hr]
      refine decide_eq_false ?_
      first | (simp [Ins.Ok]; done) | (simp only [Ins.Ok, true_and, and_true]; omega) | (simp [Ins.Ok]; omega))
    clear hr
    go_enter Tryz.func38, Tryz.ntmps38
    go_wp2_with fail
    go_ret
    exact ⟨ret_bool (by first | (rw [R.out]; done) | (rw [R.out]; rfl) | (rw [R.out]; simp; done) | (rw [R.out]; simp; omega)), (Below.refl _ _).alloc (Nat.le_refl _) _⟩
  · skip
    by_cases h1 : 3 < x.kind
    · skip
      have R := Lib.hid (show r = false from by
        rw [hr]
        refine decide_eq_false ?_
        first | (simp [Ins.Ok]; done) | (simp only [Ins.Ok, true_and, and_true]; omega) | (simp [Ins.Ok]; omega))
      clear hr
      go_enter Tryz.func38, Tryz.ntmps38
      go_wp2_with fail
      go_ret
      exact ⟨ret_bool (by first | (rw [R.out]; done) | (rw [R.out]; rfl) | (rw [R.out]; simp; done) | (rw [R.out]; simp; omega)), (Below.refl _ _).alloc (Nat.le_refl _) _⟩
    · skip
      by_cases h2 : x.under < 0
      · skip
        have R := Lib.hid (show r = false from by
          rw [hr]
          refine decide_eq_false ?_
          first | (simp [Ins.Ok]; done) | (simp only [Ins.Ok, true_and, and_true]; omega) | (simp [Ins.Ok]; omega))
        clear hr
        go_enter Tryz.func38, Tryz.ntmps38
        go_wp2_with fail
        go_ret
        exact ⟨ret_bool (by first | (rw [R.out]; done) | (rw [R.out]; rfl) | (rw [R.out]; simp; done) | (rw [R.out]; simp; omega)), (Below.refl _ _).alloc (Nat.le_refl _) _⟩
      · skip
        by_cases h3 : (n : Int) ≤ x.under
        · skip
          have R := Lib.hid (show r = false from by
            rw [hr]
            refine decide_eq_false ?_
            first | (simp [Ins.Ok]; done) | (simp only [Ins.Ok, true_and, and_true]; omega) | (simp [Ins.Ok]; omega))
          clear hr
          go_enter Tryz.func38, Tryz.ntmps38
          go_wp2_with fail
          go_ret
          exact ⟨ret_bool (by first | (rw [R.out]; done) | (rw [R.out]; rfl) | (rw [R.out]; simp; done) | (rw [R.out]; simp; omega)), (Below.refl _ _).alloc (Nat.le_refl _) _⟩
        · skip
          by_cases h4 : x.mult < 1
          · skip
            have R := Lib.hid (show r = false from by
              rw [hr]
              refine decide_eq_false ?_
              first | (simp [Ins.Ok]; done) | (simp only [Ins.Ok, true_and, and_true]; omega) | (simp [Ins.Ok]; omega))
            clear hr
            go_enter Tryz.func38, Tryz.ntmps38
            go_wp2_with fail
            go_ret
            exact ⟨ret_bool (by first | (rw [R.out]; done) | (rw [R.out]; rfl) | (rw [R.out]; simp; done) | (rw [R.out]; simp; omega)), (Below.refl _ _).alloc (Nat.le_refl _) _⟩
          · skip
            by_cases h5 : 1000000 < x.mult
            · skip
              have R := Lib.hid (show r = false from by
                rw [hr]
                refine decide_eq_false ?_
                first | (simp [Ins.Ok]; done) | (simp only [Ins.Ok, true_and, and_true]; omega) | (simp [Ins.Ok]; omega))
              clear hr
              go_enter Tryz.func38, Tryz.ntmps38
              go_wp2_with fail
              go_ret
              exact ⟨ret_bool (by first | (rw [R.out]; done) | (rw [R.out]; rfl) | (rw [R.out]; simp; done) | (rw [R.out]; simp; omega)), (Below.refl _ _).alloc (Nat.le_refl _) _⟩
            · skip
              by_cases h6 : x.mark < 0
              · skip
                have R := Lib.hid (show r = false from by
                  rw [hr]
                  refine decide_eq_false ?_
                  first | (simp [Ins.Ok]; done) | (simp only [Ins.Ok, true_and, and_true]; omega) | (simp [Ins.Ok]; omega))
                clear hr
                go_enter Tryz.func38, Tryz.ntmps38
                go_wp2_with fail
                go_ret
                exact ⟨ret_bool (by first | (rw [R.out]; done) | (rw [R.out]; rfl) | (rw [R.out]; simp; done) | (rw [R.out]; simp; omega)), (Below.refl _ _).alloc (Nat.le_refl _) _⟩
              · skip
                by_cases h7 : 100000000000000 < x.mark
                · skip
                  have R := Lib.hid (show r = false from by
                    rw [hr]
                    refine decide_eq_false ?_
                    first | (simp [Ins.Ok]; done) | (simp only [Ins.Ok, true_and, and_true]; omega) | (simp [Ins.Ok]; omega))
                  clear hr
                  go_enter Tryz.func38, Tryz.ntmps38
                  go_wp2_with fail
                  go_ret
                  exact ⟨ret_bool (by first | (rw [R.out]; done) | (rw [R.out]; rfl) | (rw [R.out]; simp; done) | (rw [R.out]; simp; omega)), (Below.refl _ _).alloc (Nat.le_refl _) _⟩
                · skip
                  by_cases h8 : x.kind = 3
                  · skip
                    by_cases h9 : x.strike < 1
                    · skip
                      have R := Lib.hid (show r = false from by
                        rw [hr]
                        refine decide_eq_false ?_
                        first | (simp [Ins.Ok]; done) | (simp only [Ins.Ok, true_and, and_true]; omega) | (simp [Ins.Ok]; omega))
                      have eh8 : (x.kind == 3) = true := beq_iff_eq.2 h8
                      have gh8 : (x.kind != 3) = false := show (!(x.kind == 3)) = _ from by rw [eh8]; rfl
                      clear h8
                      clear hr
                      go_enter Tryz.func38, Tryz.ntmps38
                      go_wp2_with fail
                      go_ret
                      exact ⟨ret_bool (by first | (rw [R.out]; done) | (rw [R.out]; rfl) | (rw [R.out]; simp; done) | (rw [R.out]; simp; omega)), (Below.refl _ _).alloc (Nat.le_refl _) _⟩
                    · skip
                      by_cases h10 : 1000000000000 < x.strike
                      · skip
                        have R := Lib.hid (show r = false from by
                          rw [hr]
                          refine decide_eq_false ?_
                          first | (simp [Ins.Ok]; done) | (simp only [Ins.Ok, true_and, and_true]; omega) | (simp [Ins.Ok]; omega))
                        have eh8 : (x.kind == 3) = true := beq_iff_eq.2 h8
                        have gh8 : (x.kind != 3) = false := show (!(x.kind == 3)) = _ from by rw [eh8]; rfl
                        clear h8
                        clear hr
                        go_enter Tryz.func38, Tryz.ntmps38
                        go_wp2_with fail
                        go_ret
                        exact ⟨ret_bool (by first | (rw [R.out]; done) | (rw [R.out]; rfl) | (rw [R.out]; simp; done) | (rw [R.out]; simp; omega)), (Below.refl _ _).alloc (Nat.le_refl _) _⟩
                      · skip
                        have h11 : ¬ x.kind = 1 := by omega
                        by_cases h12 : 1 ≤ x.expiry
                        · skip
                          by_cases h13 : x.expiry ≤ 100000
                          · skip
                            have R := Lib.hid (show r = true from by
                              rw [hr]
                              refine decide_eq_true ?_
                              first | (simp [Ins.Ok]; done) | (simp only [Ins.Ok, true_and, and_true]; omega) | (simp [Ins.Ok]; omega))
                            have eh8 : (x.kind == 3) = true := beq_iff_eq.2 h8
                            have gh8 : (x.kind != 3) = false := show (!(x.kind == 3)) = _ from by rw [eh8]; rfl
                            have eh11 : (x.kind == 1) = false := beq_eq_false_iff_ne.2 h11
                            have gh11 : (x.kind != 1) = true := show (!(x.kind == 1)) = _ from by rw [eh11]; rfl
                            clear h8
                            clear h11
                            clear hr
                            go_enter Tryz.func38, Tryz.ntmps38
                            go_wp2_with fail
                            go_ret
                            exact ⟨ret_bool (by first | (rw [R.out]; done) | (rw [R.out]; rfl) | (rw [R.out]; simp; done) | (rw [R.out]; simp; omega)), (Below.refl _ _).alloc (Nat.le_refl _) _⟩
                          · skip
                            have R := Lib.hid (show r = false from by
                              rw [hr]
                              refine decide_eq_false ?_
                              first | (simp [Ins.Ok]; done) | (simp only [Ins.Ok, true_and, and_true]; omega) | (simp [Ins.Ok]; omega))
                            have eh8 : (x.kind == 3) = true := beq_iff_eq.2 h8
                            have gh8 : (x.kind != 3) = false := show (!(x.kind == 3)) = _ from by rw [eh8]; rfl
                            have eh11 : (x.kind == 1) = false := beq_eq_false_iff_ne.2 h11
                            have gh11 : (x.kind != 1) = true := show (!(x.kind == 1)) = _ from by rw [eh11]; rfl
                            clear h8
                            clear h11
                            clear hr
                            go_enter Tryz.func38, Tryz.ntmps38
                            go_wp2_with fail
                            go_ret
                            exact ⟨ret_bool (by first | (rw [R.out]; done) | (rw [R.out]; rfl) | (rw [R.out]; simp; done) | (rw [R.out]; simp; omega)), (Below.refl _ _).alloc (Nat.le_refl _) _⟩
                        · skip
                          have R := Lib.hid (show r = false from by
                            rw [hr]
                            refine decide_eq_false ?_
                            first | (simp [Ins.Ok]; done) | (simp only [Ins.Ok, true_and, and_true]; omega) | (simp [Ins.Ok]; omega))
                          have eh8 : (x.kind == 3) = true := beq_iff_eq.2 h8
                          have gh8 : (x.kind != 3) = false := show (!(x.kind == 3)) = _ from by rw [eh8]; rfl
                          have eh11 : (x.kind == 1) = false := beq_eq_false_iff_ne.2 h11
                          have gh11 : (x.kind != 1) = true := show (!(x.kind == 1)) = _ from by rw [eh11]; rfl
                          clear h8
                          clear h11
                          clear hr
                          go_enter Tryz.func38, Tryz.ntmps38
                          go_wp2_with fail
                          go_ret
                          exact ⟨ret_bool (by first | (rw [R.out]; done) | (rw [R.out]; rfl) | (rw [R.out]; simp; done) | (rw [R.out]; simp; omega)), (Below.refl _ _).alloc (Nat.le_refl _) _⟩
                  · skip
                    by_cases h9 : x.strike = 0
                    · skip
                      cases h10 : x.call
                      case true =>
                        have R := Lib.hid (show r = false from by
                          rw [hr]
                          refine decide_eq_false ?_
                          first | (simp [Ins.Ok, h10]; done) | (simp only [Ins.Ok, h10, true_and, and_true]; omega) | (simp [Ins.Ok, h10]; omega))
                        have eh8 : (x.kind == 3) = false := beq_eq_false_iff_ne.2 h8
                        have gh8 : (x.kind != 3) = true := show (!(x.kind == 3)) = _ from by rw [eh8]; rfl
                        have eh9 : (x.strike == 0) = true := beq_iff_eq.2 h9
                        have gh9 : (x.strike != 0) = false := show (!(x.strike == 0)) = _ from by rw [eh9]; rfl
                        clear h8
                        clear h9
                        clear hr
                        go_enter Tryz.func38, Tryz.ntmps38
                        go_wp2_with fail
                        go_ret
                        exact ⟨ret_bool (by first | (rw [R.out]; done) | (rw [R.out]; rfl) | (rw [R.out]; simp; done) | (rw [R.out]; simp; omega)), (Below.refl _ _).alloc (Nat.le_refl _) _⟩
                      case false =>
                        by_cases h11 : x.kind = 1
                        · skip
                          by_cases h12 : x.expiry = 0
                          · skip
                            have R := Lib.hid (show r = true from by
                              rw [hr]
                              refine decide_eq_true ?_
                              first | (simp [Ins.Ok, h10]; done) | (simp only [Ins.Ok, h10, true_and, and_true]; omega) | (simp [Ins.Ok, h10]; omega))
                            have eh8 : (x.kind == 3) = false := beq_eq_false_iff_ne.2 h8
                            have gh8 : (x.kind != 3) = true := show (!(x.kind == 3)) = _ from by rw [eh8]; rfl
                            have eh9 : (x.strike == 0) = true := beq_iff_eq.2 h9
                            have gh9 : (x.strike != 0) = false := show (!(x.strike == 0)) = _ from by rw [eh9]; rfl
                            have eh11 : (x.kind == 1) = true := beq_iff_eq.2 h11
                            have gh11 : (x.kind != 1) = false := show (!(x.kind == 1)) = _ from by rw [eh11]; rfl
                            have eh12 : (x.expiry == 0) = true := beq_iff_eq.2 h12
                            have gh12 : (x.expiry != 0) = false := show (!(x.expiry == 0)) = _ from by rw [eh12]; rfl
                            clear h8
                            clear h9
                            clear h11
                            clear h12
                            clear hr
                            go_enter Tryz.func38, Tryz.ntmps38
                            go_wp2_with fail
                            go_ret
                            exact ⟨ret_bool (by first | (rw [R.out]; done) | (rw [R.out]; rfl) | (rw [R.out]; simp; done) | (rw [R.out]; simp; omega)), (Below.refl _ _).alloc (Nat.le_refl _) _⟩
                          · skip
                            have R := Lib.hid (show r = false from by
                              rw [hr]
                              refine decide_eq_false ?_
                              first | (simp [Ins.Ok, h10]; done) | (simp only [Ins.Ok, h10, true_and, and_true]; omega) | (simp [Ins.Ok, h10]; omega))
                            have eh8 : (x.kind == 3) = false := beq_eq_false_iff_ne.2 h8
                            have gh8 : (x.kind != 3) = true := show (!(x.kind == 3)) = _ from by rw [eh8]; rfl
                            have eh9 : (x.strike == 0) = true := beq_iff_eq.2 h9
                            have gh9 : (x.strike != 0) = false := show (!(x.strike == 0)) = _ from by rw [eh9]; rfl
                            have eh11 : (x.kind == 1) = true := beq_iff_eq.2 h11
                            have gh11 : (x.kind != 1) = false := show (!(x.kind == 1)) = _ from by rw [eh11]; rfl
                            have eh12 : (x.expiry == 0) = false := beq_eq_false_iff_ne.2 h12
                            have gh12 : (x.expiry != 0) = true := show (!(x.expiry == 0)) = _ from by rw [eh12]; rfl
                            clear h8
                            clear h9
                            clear h11
                            clear h12
                            clear hr
                            go_enter Tryz.func38, Tryz.ntmps38
                            go_wp2_with fail
                            go_ret
                            exact ⟨ret_bool (by first | (rw [R.out]; done) | (rw [R.out]; rfl) | (rw [R.out]; simp; done) | (rw [R.out]; simp; omega)), (Below.refl _ _).alloc (Nat.le_refl _) _⟩
                        · skip
                          by_cases h12 : 1 ≤ x.expiry
                          · skip
                            by_cases h13 : x.expiry ≤ 100000
                            · skip
                              have R := Lib.hid (show r = true from by
                                rw [hr]
                                refine decide_eq_true ?_
                                first | (simp [Ins.Ok, h10]; done) | (simp only [Ins.Ok, h10, true_and, and_true]; omega) | (simp [Ins.Ok, h10]; omega))
                              have eh8 : (x.kind == 3) = false := beq_eq_false_iff_ne.2 h8
                              have gh8 : (x.kind != 3) = true := show (!(x.kind == 3)) = _ from by rw [eh8]; rfl
                              have eh9 : (x.strike == 0) = true := beq_iff_eq.2 h9
                              have gh9 : (x.strike != 0) = false := show (!(x.strike == 0)) = _ from by rw [eh9]; rfl
                              have eh11 : (x.kind == 1) = false := beq_eq_false_iff_ne.2 h11
                              have gh11 : (x.kind != 1) = true := show (!(x.kind == 1)) = _ from by rw [eh11]; rfl
                              clear h8
                              clear h9
                              clear h11
                              clear hr
                              go_enter Tryz.func38, Tryz.ntmps38
                              go_wp2_with fail
                              go_ret
                              exact ⟨ret_bool (by first | (rw [R.out]; done) | (rw [R.out]; rfl) | (rw [R.out]; simp; done) | (rw [R.out]; simp; omega)), (Below.refl _ _).alloc (Nat.le_refl _) _⟩
                            · skip
                              have R := Lib.hid (show r = false from by
                                rw [hr]
                                refine decide_eq_false ?_
                                first | (simp [Ins.Ok, h10]; done) | (simp only [Ins.Ok, h10, true_and, and_true]; omega) | (simp [Ins.Ok, h10]; omega))
                              have eh8 : (x.kind == 3) = false := beq_eq_false_iff_ne.2 h8
                              have gh8 : (x.kind != 3) = true := show (!(x.kind == 3)) = _ from by rw [eh8]; rfl
                              have eh9 : (x.strike == 0) = true := beq_iff_eq.2 h9
                              have gh9 : (x.strike != 0) = false := show (!(x.strike == 0)) = _ from by rw [eh9]; rfl
                              have eh11 : (x.kind == 1) = false := beq_eq_false_iff_ne.2 h11
                              have gh11 : (x.kind != 1) = true := show (!(x.kind == 1)) = _ from by rw [eh11]; rfl
                              clear h8
                              clear h9
                              clear h11
                              clear hr
                              go_enter Tryz.func38, Tryz.ntmps38
                              go_wp2_with fail
                              go_ret
                              exact ⟨ret_bool (by first | (rw [R.out]; done) | (rw [R.out]; rfl) | (rw [R.out]; simp; done) | (rw [R.out]; simp; omega)), (Below.refl _ _).alloc (Nat.le_refl _) _⟩
                          · skip
                            have R := Lib.hid (show r = false from by
                              rw [hr]
                              refine decide_eq_false ?_
                              first | (simp [Ins.Ok, h10]; done) | (simp only [Ins.Ok, h10, true_and, and_true]; omega) | (simp [Ins.Ok, h10]; omega))
                            have eh8 : (x.kind == 3) = false := beq_eq_false_iff_ne.2 h8
                            have gh8 : (x.kind != 3) = true := show (!(x.kind == 3)) = _ from by rw [eh8]; rfl
                            have eh9 : (x.strike == 0) = true := beq_iff_eq.2 h9
                            have gh9 : (x.strike != 0) = false := show (!(x.strike == 0)) = _ from by rw [eh9]; rfl
                            have eh11 : (x.kind == 1) = false := beq_eq_false_iff_ne.2 h11
                            have gh11 : (x.kind != 1) = true := show (!(x.kind == 1)) = _ from by rw [eh11]; rfl
                            clear h8
                            clear h9
                            clear h11
                            clear hr
                            go_enter Tryz.func38, Tryz.ntmps38
                            go_wp2_with fail
                            go_ret
                            exact ⟨ret_bool (by first | (rw [R.out]; done) | (rw [R.out]; rfl) | (rw [R.out]; simp; done) | (rw [R.out]; simp; omega)), (Below.refl _ _).alloc (Nat.le_refl _) _⟩
                    · skip
                      have R := Lib.hid (show r = false from by
                        rw [hr]
                        refine decide_eq_false ?_
                        first | (simp [Ins.Ok]; done) | (simp only [Ins.Ok, true_and, and_true]; omega) | (simp [Ins.Ok]; omega))
                      have eh8 : (x.kind == 3) = false := beq_eq_false_iff_ne.2 h8
                      have gh8 : (x.kind != 3) = true := show (!(x.kind == 3)) = _ from by rw [eh8]; rfl
                      have eh9 : (x.strike == 0) = false := beq_eq_false_iff_ne.2 h9
                      have gh9 : (x.strike != 0) = true := show (!(x.strike == 0)) = _ from by rw [eh9]; rfl
                      clear h8
                      clear h9
                      clear hr
                      go_enter Tryz.func38, Tryz.ntmps38
                      go_wp2_with fail
                      go_ret
                      exact ⟨ret_bool (by first | (rw [R.out]; done) | (rw [R.out]; rfl) | (rw [R.out]; simp; done) | (rw [R.out]; simp; omega)), (Below.refl _ _).alloc (Nat.le_refl _) _⟩
end Go.Proofs.YtcjbhgnlmmeeeaaGreatDoor

/- MarginNeeds, walked (printed by tools/gen_laws1.py). -/
import Derived.Test.YtcjbhgnlmmeeeaaGreatDoorWakes
import Derived.Test.YtcjbhgnlmmeeeaaGreatDoorRNeed
import Derived.Test.YtcjbhgnlmmeeeaaGreatDoorRGood
namespace Go.Proofs.YtcjbhgnlmmeeeaaGreatDoor
open Go.RowKit Go.Bw Go.Maps Go.Shelf
set_option linter.unusedVariables false
set_option linter.unusedSimpArgs false

open Classical in
theorem rgood_to {w : World} {V : LedV} {L : Led} (h : LedAt w V L) (hL : L.accts.length ≤ 1024) {B : Bool} (hB : decide L.Good = B) :
    Calls Tryz.prog 16 #[V.val L] w fun e w' => e = .returned (.bool B) ∧ Below w.heap.size w w' := by
  have := rgood_any w V L h hL
  rw [hB] at this
  exact this
set_option maxRecDepth 100000 in
set_option maxHeartbeats 8000000 in
theorem needs_law (w : World) (V : LedV) (L : Led) (h : LedAt w V L) (hs : L.Short) (hG : Grd w) (acct : Int) :
    Calls Tryz.prog 3 #[V.val L, .int .i64 acct] w fun e w' => e = .returned (.bool true) ∧ Below w.heap.size w w' := by
  classical
  have WK := Lib.hid (fun W (hb : Below w.heap.size w W) => wakes_any W (hG.below hb))
  have WD := Lib.hid (fun W (hb : Below w.heap.size w W) => wide_any W V L (h.below hb) hs)
  have NE := Lib.hid (fun W (hb : Below w.heap.size w W) (hL : L.accts.length ≤ 1024) => mneed_any W V L (h.below hb) hL (hG.below hb) acct)
  have HV := Lib.hid (fun W (hb : Below w.heap.size w W) (hL : L.accts.length ≤ 1024) => mhave_any W V L (h.below hb) hL (hG.below hb) acct)
  have EX := Lib.hid (fun W (hb : Below w.heap.size w W) (hL : L.accts.length ≤ 1024) => mexcess_any W V L (h.below hb) hL (hG.below hb) acct)
  have GD := Lib.hid (fun W (hb : Below w.heap.size w W) (hL : L.accts.length ≤ 1024) (B : Bool) (hB : decide L.Good = B) => rgood_to (h.below hb) hL hB)
  have RN := Lib.hid (fun W (hb : Below w.heap.size w W) (hg : L.Good) (a : Nat) => rneed_any W V L (h.below hb) hg a)
  have RH := Lib.hid (fun W (hb : Below w.heap.size w W) (hg : L.Good) (a : Nat) => rhave_any W V L (h.below hb) hg a)
  have RX := Lib.hid (fun W (hb : Below w.heap.size w W) (hg : L.Good) (a : Nat) => rexcess_any W V L (h.below hb) hg a)
  obtain ⟨a1, c1, a2, c2, a3, c3, a4, c4, a5, c5, a6, c6, a7, c7, a8, c8, e1, e2, e3, e4, e5, e6, e7, e8⟩ := LedAt.opened h
  unfold LedV.val LedV.cells at WD NE HV EX GD RN RH RX ⊢
  rw [e1, e2, e3, e4, e5, e6, e7, e8] at WD NE HV EX GD RN RH RX ⊢
  obtain ⟨n1, hn1⟩ : ∃ n, n = L.curs.length := ⟨_, rfl⟩
  obtain ⟨n2, hn2⟩ : ∃ n, n = L.unders.length := ⟨_, rfl⟩
  obtain ⟨n3, hn3⟩ : ∃ n, n = L.instrs.length := ⟨_, rfl⟩
  obtain ⟨n4, hn4⟩ : ∃ n, n = L.accts.length := ⟨_, rfl⟩
  obtain ⟨n5, hn5⟩ : ∃ n, n = L.poss.length := ⟨_, rfl⟩
  obtain ⟨n6, hn6⟩ : ∃ n, n = L.orders.length := ⟨_, rfl⟩
  obtain ⟨n7, hn7⟩ : ∃ n, n = L.avail.length := ⟨_, rfl⟩
  obtain ⟨n8, hn8⟩ : ∃ n, n = L.locs.length := ⟨_, rfl⟩
  have L2 := Lib.hid hn2
  have L4 := Lib.hid hn4
  rw [← hn1, ← hn2, ← hn3, ← hn4, ← hn5, ← hn6, ← hn7, ← hn8] at WD NE HV EX GD RN RH RX ⊢
  have BK := Lib.hid (show ¬ 1024 < L.bulk → n4 ≤ 1024 from fun hb => by unfold Led.bulk at hb; omega)
  have B0 := Lib.hid (show Below w.heap.size w (w.alloc (.cells #[.int .i64 L.day, .slice a1 n1 c1, .slice a2 n2 c2, .slice a3 n3 c3, .slice a4 n4 c4, .slice a5 n5 c5, .slice a6 n6 c6, .slice a7 n7 c7, .slice a8 n8 c8] 31)) ∧ BoxAt (w.alloc (.cells #[.int .i64 L.day, .slice a1 n1 c1, .slice a2 n2 c2, .slice a3 n3 c3, .slice a4 n4 c4, .slice a5 n5 c5, .slice a6 n6 c6, .slice a7 n7 c7, .slice a8 n8 c8] 31)) w.heap.size #[.int .i64 L.day, .slice a1 n1 c1, .slice a2 n2 c2, .slice a3 n3 c3, .slice a4 n4 c4, .slice a5 n5 c5, .slice a6 n6 c6, .slice a7 n7 c7, .slice a8 n8 c8] from ⟨(Below.refl _ _).alloc (Nat.le_refl _) _, BoxAt.new _ _ _⟩)
  obtain ⟨BB, hBB⟩ : ∃ B, B = decide (1024 < L.bulk) := ⟨_, rfl⟩
  rw [← hBB] at WD
  have HB := Lib.hid hBB
  clear h hs hG e1 e2 e3 e4 e5 e6 e7 e8 hn1 hn2 hn3 hn4 hn5 hn6 hn7 hn8 hBB
  go_enter Tryz.func3, Tryz.ntmps3
  go_upto_region 1 with (fail)
  obtain ⟨W0, hW0⟩ : ∃ W0, W0 = w.alloc (.cells #[.int .i64 L.day, .slice a1 n1 c1, .slice a2 n2 c2, .slice a3 n3 c3, .slice a4 n4 c4, .slice a5 n5 c5, .slice a6 n6 c6, .slice a7 n7 c7, .slice a8 n8 c8] 31) := ⟨_, rfl⟩
  rw [← hW0] at B0 ⊢
  obtain ⟨hx, hhx⟩ : ∃ n, n = w.heap.size := ⟨_, rfl⟩
  have XW0 := Lib.hid (show Below w.heap.size w W0 ∧ BoxAt W0 hx #[.int .i64 L.day, .slice a1 n1 c1, .slice a2 n2 c2, .slice a3 n3 c3, .slice a4 n4 c4, .slice a5 n5 c5, .slice a6 n6 c6, .slice a7 n7 c7, .slice a8 n8 c8] from ⟨B0.out.1, by rw [hhx]; exact B0.out.2⟩)
  rw [← hhx]
  clear hW0 hhx B0
  go_wp2_with fail
  refine (WK.out _ XW0.out.1).mono ?_
  rintro e w1 ⟨rfl, hb⟩
  have Xw1 := Lib.hid (show Below w.heap.size w w1 ∧ BoxAt w1 hx #[.int .i64 L.day, .slice a1 n1 c1, .slice a2 n2 c2, .slice a3 n3 c3, .slice a4 n4 c4, .slice a5 n5 c5, .slice a6 n6 c6, .slice a7 n7 c7, .slice a8 n8 c8] from ⟨XW0.out.1.trans (hb.mono XW0.out.1.size), XW0.out.2.below hb⟩)
  clear hb
  have y0 : w1.cell? ⟨hx, 0, none⟩ = some (.int .i64 L.day) := Xw1.out.2.at_ 0 _ rfl
  have y1 : w1.cell? ⟨hx, 1, none⟩ = some (.slice a1 n1 c1) := Xw1.out.2.at_ 1 _ rfl
  have y2 : w1.cell? ⟨hx, 2, none⟩ = some (.slice a2 n2 c2) := Xw1.out.2.at_ 2 _ rfl
  have y3 : w1.cell? ⟨hx, 3, none⟩ = some (.slice a3 n3 c3) := Xw1.out.2.at_ 3 _ rfl
  have y4 : w1.cell? ⟨hx, 4, none⟩ = some (.slice a4 n4 c4) := Xw1.out.2.at_ 4 _ rfl
  have y5 : w1.cell? ⟨hx, 5, none⟩ = some (.slice a5 n5 c5) := Xw1.out.2.at_ 5 _ rfl
  have y6 : w1.cell? ⟨hx, 6, none⟩ = some (.slice a6 n6 c6) := Xw1.out.2.at_ 6 _ rfl
  have y7 : w1.cell? ⟨hx, 7, none⟩ = some (.slice a7 n7 c7) := Xw1.out.2.at_ 7 _ rfl
  have y8 : w1.cell? ⟨hx, 8, none⟩ = some (.slice a8 n8 c8) := Xw1.out.2.at_ 8 _ rfl
  go_wp2_with fail
  refine (WD.out _ Xw1.out.1).mono ?_
  rintro e w2 ⟨rfl, hb⟩
  have Xw2 := Lib.hid (show Below w.heap.size w w2 ∧ BoxAt w2 hx #[.int .i64 L.day, .slice a1 n1 c1, .slice a2 n2 c2, .slice a3 n3 c3, .slice a4 n4 c4, .slice a5 n5 c5, .slice a6 n6 c6, .slice a7 n7 c7, .slice a8 n8 c8] from ⟨Xw1.out.1.trans (hb.mono Xw1.out.1.size), Xw1.out.2.below hb⟩)
  clear hb y0 y1 y2 y3 y4 y5 y6 y7 y8
  cases hbb : BB with
  | true =>
    subst hbb
    go_wp2_with fail
    go_ret
    exact ⟨rfl, Xw2.out.1⟩
  | false =>
    subst hbb
    have hL : n4 ≤ 1024 := BK.out (of_decide_eq_false HB.out.symm)
    have NE' := Lib.hid (fun W hb => NE.out W hb hL)
    have HV' := Lib.hid (fun W hb => HV.out W hb hL)
    have EX' := Lib.hid (fun W hb => EX.out W hb hL)
    have GD' := Lib.hid (fun W hb => GD.out W hb hL)
    clear NE HV EX GD
    by_cases hg : L.Good
    · by_cases ho : acct < 0 ∨ (n4 : Int) ≤ acct
      · have HO := Lib.hid (show acct < 0 ∨ (L.accts.length : Int) ≤ acct from by rw [← L4.out]; exact ho)
        have HG := Lib.hid hg
        rw [ansA_out hg HO.out] at NE' HV' EX'
        clear hg
        have y0 : w2.cell? ⟨hx, 0, none⟩ = some (.int .i64 L.day) := Xw2.out.2.at_ 0 _ rfl
        have y1 : w2.cell? ⟨hx, 1, none⟩ = some (.slice a1 n1 c1) := Xw2.out.2.at_ 1 _ rfl
        have y2 : w2.cell? ⟨hx, 2, none⟩ = some (.slice a2 n2 c2) := Xw2.out.2.at_ 2 _ rfl
        have y3 : w2.cell? ⟨hx, 3, none⟩ = some (.slice a3 n3 c3) := Xw2.out.2.at_ 3 _ rfl
        have y4 : w2.cell? ⟨hx, 4, none⟩ = some (.slice a4 n4 c4) := Xw2.out.2.at_ 4 _ rfl
        have y5 : w2.cell? ⟨hx, 5, none⟩ = some (.slice a5 n5 c5) := Xw2.out.2.at_ 5 _ rfl
        have y6 : w2.cell? ⟨hx, 6, none⟩ = some (.slice a6 n6 c6) := Xw2.out.2.at_ 6 _ rfl
        have y7 : w2.cell? ⟨hx, 7, none⟩ = some (.slice a7 n7 c7) := Xw2.out.2.at_ 7 _ rfl
        have y8 : w2.cell? ⟨hx, 8, none⟩ = some (.slice a8 n8 c8) := Xw2.out.2.at_ 8 _ rfl
        go_wp2_with fail
        refine (NE'.out _ Xw2.out.1).mono ?_
        rintro e w3 ⟨rfl, hb⟩
        have Xw3 := Lib.hid (show Below w.heap.size w w3 ∧ BoxAt w3 hx #[.int .i64 L.day, .slice a1 n1 c1, .slice a2 n2 c2, .slice a3 n3 c3, .slice a4 n4 c4, .slice a5 n5 c5, .slice a6 n6 c6, .slice a7 n7 c7, .slice a8 n8 c8] from ⟨Xw2.out.1.trans (hb.mono Xw2.out.1.size), Xw2.out.2.below hb⟩)
        clear hb y0 y1 y2 y3 y4 y5 y6 y7 y8
        have y0 : w3.cell? ⟨hx, 0, none⟩ = some (.int .i64 L.day) := Xw3.out.2.at_ 0 _ rfl
        have y1 : w3.cell? ⟨hx, 1, none⟩ = some (.slice a1 n1 c1) := Xw3.out.2.at_ 1 _ rfl
        have y2 : w3.cell? ⟨hx, 2, none⟩ = some (.slice a2 n2 c2) := Xw3.out.2.at_ 2 _ rfl
        have y3 : w3.cell? ⟨hx, 3, none⟩ = some (.slice a3 n3 c3) := Xw3.out.2.at_ 3 _ rfl
        have y4 : w3.cell? ⟨hx, 4, none⟩ = some (.slice a4 n4 c4) := Xw3.out.2.at_ 4 _ rfl
        have y5 : w3.cell? ⟨hx, 5, none⟩ = some (.slice a5 n5 c5) := Xw3.out.2.at_ 5 _ rfl
        have y6 : w3.cell? ⟨hx, 6, none⟩ = some (.slice a6 n6 c6) := Xw3.out.2.at_ 6 _ rfl
        have y7 : w3.cell? ⟨hx, 7, none⟩ = some (.slice a7 n7 c7) := Xw3.out.2.at_ 7 _ rfl
        have y8 : w3.cell? ⟨hx, 8, none⟩ = some (.slice a8 n8 c8) := Xw3.out.2.at_ 8 _ rfl
        go_wp2_with fail
        refine (HV'.out _ Xw3.out.1).mono ?_
        rintro e w4 ⟨rfl, hb⟩
        have Xw4 := Lib.hid (show Below w.heap.size w w4 ∧ BoxAt w4 hx #[.int .i64 L.day, .slice a1 n1 c1, .slice a2 n2 c2, .slice a3 n3 c3, .slice a4 n4 c4, .slice a5 n5 c5, .slice a6 n6 c6, .slice a7 n7 c7, .slice a8 n8 c8] from ⟨Xw3.out.1.trans (hb.mono Xw3.out.1.size), Xw3.out.2.below hb⟩)
        clear hb y0 y1 y2 y3 y4 y5 y6 y7 y8
        have y0 : w4.cell? ⟨hx, 0, none⟩ = some (.int .i64 L.day) := Xw4.out.2.at_ 0 _ rfl
        have y1 : w4.cell? ⟨hx, 1, none⟩ = some (.slice a1 n1 c1) := Xw4.out.2.at_ 1 _ rfl
        have y2 : w4.cell? ⟨hx, 2, none⟩ = some (.slice a2 n2 c2) := Xw4.out.2.at_ 2 _ rfl
        have y3 : w4.cell? ⟨hx, 3, none⟩ = some (.slice a3 n3 c3) := Xw4.out.2.at_ 3 _ rfl
        have y4 : w4.cell? ⟨hx, 4, none⟩ = some (.slice a4 n4 c4) := Xw4.out.2.at_ 4 _ rfl
        have y5 : w4.cell? ⟨hx, 5, none⟩ = some (.slice a5 n5 c5) := Xw4.out.2.at_ 5 _ rfl
        have y6 : w4.cell? ⟨hx, 6, none⟩ = some (.slice a6 n6 c6) := Xw4.out.2.at_ 6 _ rfl
        have y7 : w4.cell? ⟨hx, 7, none⟩ = some (.slice a7 n7 c7) := Xw4.out.2.at_ 7 _ rfl
        have y8 : w4.cell? ⟨hx, 8, none⟩ = some (.slice a8 n8 c8) := Xw4.out.2.at_ 8 _ rfl
        go_wp2_with fail
        refine (EX'.out _ Xw4.out.1).mono ?_
        rintro e w5 ⟨rfl, hb⟩
        have Xw5 := Lib.hid (show Below w.heap.size w w5 ∧ BoxAt w5 hx #[.int .i64 L.day, .slice a1 n1 c1, .slice a2 n2 c2, .slice a3 n3 c3, .slice a4 n4 c4, .slice a5 n5 c5, .slice a6 n6 c6, .slice a7 n7 c7, .slice a8 n8 c8] from ⟨Xw4.out.1.trans (hb.mono Xw4.out.1.size), Xw4.out.2.below hb⟩)
        clear hb y0 y1 y2 y3 y4 y5 y6 y7 y8
        have y0 : w5.cell? ⟨hx, 0, none⟩ = some (.int .i64 L.day) := Xw5.out.2.at_ 0 _ rfl
        have y1 : w5.cell? ⟨hx, 1, none⟩ = some (.slice a1 n1 c1) := Xw5.out.2.at_ 1 _ rfl
        have y2 : w5.cell? ⟨hx, 2, none⟩ = some (.slice a2 n2 c2) := Xw5.out.2.at_ 2 _ rfl
        have y3 : w5.cell? ⟨hx, 3, none⟩ = some (.slice a3 n3 c3) := Xw5.out.2.at_ 3 _ rfl
        have y4 : w5.cell? ⟨hx, 4, none⟩ = some (.slice a4 n4 c4) := Xw5.out.2.at_ 4 _ rfl
        have y5 : w5.cell? ⟨hx, 5, none⟩ = some (.slice a5 n5 c5) := Xw5.out.2.at_ 5 _ rfl
        have y6 : w5.cell? ⟨hx, 6, none⟩ = some (.slice a6 n6 c6) := Xw5.out.2.at_ 6 _ rfl
        have y7 : w5.cell? ⟨hx, 7, none⟩ = some (.slice a7 n7 c7) := Xw5.out.2.at_ 7 _ rfl
        have y8 : w5.cell? ⟨hx, 8, none⟩ = some (.slice a8 n8 c8) := Xw5.out.2.at_ 8 _ rfl
        go_wp2_with fail
        refine ((fun W hb => GD'.out W hb true (decide_eq_true HG.out)) _ Xw5.out.1).mono ?_
        rintro e w6 ⟨rfl, hb⟩
        have Xw6 := Lib.hid (show Below w.heap.size w w6 ∧ BoxAt w6 hx #[.int .i64 L.day, .slice a1 n1 c1, .slice a2 n2 c2, .slice a3 n3 c3, .slice a4 n4 c4, .slice a5 n5 c5, .slice a6 n6 c6, .slice a7 n7 c7, .slice a8 n8 c8] from ⟨Xw5.out.1.trans (hb.mono Xw5.out.1.size), Xw5.out.2.below hb⟩)
        clear hb y0 y1 y2 y3 y4 y5 y6 y7 y8
        by_cases hneg : acct < 0
        · have dn : decide (acct < 0) = true := decide_eq_true hneg
          clear ho
          go_wp2_with fail
          go_ret
          exact ⟨rfl, Xw6.out.1⟩
        · have dn : decide (acct < 0) = false := decide_eq_false hneg
          have hge : (n4 : Int) ≤ acct := ho.resolve_left hneg
          have y4 : w6.cell? ⟨hx, 4, none⟩ = some (.slice a4 n4 c4) := Xw6.out.2.at_ 4 _ rfl
          clear ho
          go_wp2_with fail
          go_ret
          exact ⟨rfl, Xw6.out.1⟩
      · have HO := Lib.hid (show ¬ (acct < 0 ∨ (L.accts.length : Int) ≤ acct) from by rw [← L4.out]; exact ho)
        have HG := Lib.hid hg
        rw [ansA_ok hg HO.out] at NE' HV' EX'
        obtain ⟨a, rfl⟩ := Int.eq_ofNat_of_zero_le (show 0 ≤ acct by omega)
        simp only [Int.toNat_natCast] at NE' HV' EX'
        have RN' := Lib.hid (fun W hb => RN.out W hb hg a)
        have RH' := Lib.hid (fun W hb => RH.out W hb hg a)
        have RX' := Lib.hid (fun W hb => RX.out W hb hg a)
        obtain ⟨rn, hrn⟩ : ∃ r, r = retA (needO L a) := ⟨_, rfl⟩
        obtain ⟨rh, hrh⟩ : ∃ r, r = retA (haveO L a) := ⟨_, rfl⟩
        obtain ⟨rx, hrx⟩ : ∃ r, r = retA (excessO L a) := ⟨_, rfl⟩
        rw [← hrn] at NE' RN'
        rw [← hrh] at HV' RH'
        rw [← hrx] at EX' RX'
        clear hg hrn hrh hrx RN RH RX
        have y0 : w2.cell? ⟨hx, 0, none⟩ = some (.int .i64 L.day) := Xw2.out.2.at_ 0 _ rfl
        have y1 : w2.cell? ⟨hx, 1, none⟩ = some (.slice a1 n1 c1) := Xw2.out.2.at_ 1 _ rfl
        have y2 : w2.cell? ⟨hx, 2, none⟩ = some (.slice a2 n2 c2) := Xw2.out.2.at_ 2 _ rfl
        have y3 : w2.cell? ⟨hx, 3, none⟩ = some (.slice a3 n3 c3) := Xw2.out.2.at_ 3 _ rfl
        have y4 : w2.cell? ⟨hx, 4, none⟩ = some (.slice a4 n4 c4) := Xw2.out.2.at_ 4 _ rfl
        have y5 : w2.cell? ⟨hx, 5, none⟩ = some (.slice a5 n5 c5) := Xw2.out.2.at_ 5 _ rfl
        have y6 : w2.cell? ⟨hx, 6, none⟩ = some (.slice a6 n6 c6) := Xw2.out.2.at_ 6 _ rfl
        have y7 : w2.cell? ⟨hx, 7, none⟩ = some (.slice a7 n7 c7) := Xw2.out.2.at_ 7 _ rfl
        have y8 : w2.cell? ⟨hx, 8, none⟩ = some (.slice a8 n8 c8) := Xw2.out.2.at_ 8 _ rfl
        go_wp2_with fail
        refine (NE'.out _ Xw2.out.1).mono ?_
        rintro e w3 ⟨rfl, hb⟩
        have Xw3 := Lib.hid (show Below w.heap.size w w3 ∧ BoxAt w3 hx #[.int .i64 L.day, .slice a1 n1 c1, .slice a2 n2 c2, .slice a3 n3 c3, .slice a4 n4 c4, .slice a5 n5 c5, .slice a6 n6 c6, .slice a7 n7 c7, .slice a8 n8 c8] from ⟨Xw2.out.1.trans (hb.mono Xw2.out.1.size), Xw2.out.2.below hb⟩)
        clear hb y0 y1 y2 y3 y4 y5 y6 y7 y8
        have y0 : w3.cell? ⟨hx, 0, none⟩ = some (.int .i64 L.day) := Xw3.out.2.at_ 0 _ rfl
        have y1 : w3.cell? ⟨hx, 1, none⟩ = some (.slice a1 n1 c1) := Xw3.out.2.at_ 1 _ rfl
        have y2 : w3.cell? ⟨hx, 2, none⟩ = some (.slice a2 n2 c2) := Xw3.out.2.at_ 2 _ rfl
        have y3 : w3.cell? ⟨hx, 3, none⟩ = some (.slice a3 n3 c3) := Xw3.out.2.at_ 3 _ rfl
        have y4 : w3.cell? ⟨hx, 4, none⟩ = some (.slice a4 n4 c4) := Xw3.out.2.at_ 4 _ rfl
        have y5 : w3.cell? ⟨hx, 5, none⟩ = some (.slice a5 n5 c5) := Xw3.out.2.at_ 5 _ rfl
        have y6 : w3.cell? ⟨hx, 6, none⟩ = some (.slice a6 n6 c6) := Xw3.out.2.at_ 6 _ rfl
        have y7 : w3.cell? ⟨hx, 7, none⟩ = some (.slice a7 n7 c7) := Xw3.out.2.at_ 7 _ rfl
        have y8 : w3.cell? ⟨hx, 8, none⟩ = some (.slice a8 n8 c8) := Xw3.out.2.at_ 8 _ rfl
        go_wp2_with fail
        refine (HV'.out _ Xw3.out.1).mono ?_
        rintro e w4 ⟨rfl, hb⟩
        have Xw4 := Lib.hid (show Below w.heap.size w w4 ∧ BoxAt w4 hx #[.int .i64 L.day, .slice a1 n1 c1, .slice a2 n2 c2, .slice a3 n3 c3, .slice a4 n4 c4, .slice a5 n5 c5, .slice a6 n6 c6, .slice a7 n7 c7, .slice a8 n8 c8] from ⟨Xw3.out.1.trans (hb.mono Xw3.out.1.size), Xw3.out.2.below hb⟩)
        clear hb y0 y1 y2 y3 y4 y5 y6 y7 y8
        have y0 : w4.cell? ⟨hx, 0, none⟩ = some (.int .i64 L.day) := Xw4.out.2.at_ 0 _ rfl
        have y1 : w4.cell? ⟨hx, 1, none⟩ = some (.slice a1 n1 c1) := Xw4.out.2.at_ 1 _ rfl
        have y2 : w4.cell? ⟨hx, 2, none⟩ = some (.slice a2 n2 c2) := Xw4.out.2.at_ 2 _ rfl
        have y3 : w4.cell? ⟨hx, 3, none⟩ = some (.slice a3 n3 c3) := Xw4.out.2.at_ 3 _ rfl
        have y4 : w4.cell? ⟨hx, 4, none⟩ = some (.slice a4 n4 c4) := Xw4.out.2.at_ 4 _ rfl
        have y5 : w4.cell? ⟨hx, 5, none⟩ = some (.slice a5 n5 c5) := Xw4.out.2.at_ 5 _ rfl
        have y6 : w4.cell? ⟨hx, 6, none⟩ = some (.slice a6 n6 c6) := Xw4.out.2.at_ 6 _ rfl
        have y7 : w4.cell? ⟨hx, 7, none⟩ = some (.slice a7 n7 c7) := Xw4.out.2.at_ 7 _ rfl
        have y8 : w4.cell? ⟨hx, 8, none⟩ = some (.slice a8 n8 c8) := Xw4.out.2.at_ 8 _ rfl
        go_wp2_with fail
        refine (EX'.out _ Xw4.out.1).mono ?_
        rintro e w5 ⟨rfl, hb⟩
        have Xw5 := Lib.hid (show Below w.heap.size w w5 ∧ BoxAt w5 hx #[.int .i64 L.day, .slice a1 n1 c1, .slice a2 n2 c2, .slice a3 n3 c3, .slice a4 n4 c4, .slice a5 n5 c5, .slice a6 n6 c6, .slice a7 n7 c7, .slice a8 n8 c8] from ⟨Xw4.out.1.trans (hb.mono Xw4.out.1.size), Xw4.out.2.below hb⟩)
        clear hb y0 y1 y2 y3 y4 y5 y6 y7 y8
        have y0 : w5.cell? ⟨hx, 0, none⟩ = some (.int .i64 L.day) := Xw5.out.2.at_ 0 _ rfl
        have y1 : w5.cell? ⟨hx, 1, none⟩ = some (.slice a1 n1 c1) := Xw5.out.2.at_ 1 _ rfl
        have y2 : w5.cell? ⟨hx, 2, none⟩ = some (.slice a2 n2 c2) := Xw5.out.2.at_ 2 _ rfl
        have y3 : w5.cell? ⟨hx, 3, none⟩ = some (.slice a3 n3 c3) := Xw5.out.2.at_ 3 _ rfl
        have y4 : w5.cell? ⟨hx, 4, none⟩ = some (.slice a4 n4 c4) := Xw5.out.2.at_ 4 _ rfl
        have y5 : w5.cell? ⟨hx, 5, none⟩ = some (.slice a5 n5 c5) := Xw5.out.2.at_ 5 _ rfl
        have y6 : w5.cell? ⟨hx, 6, none⟩ = some (.slice a6 n6 c6) := Xw5.out.2.at_ 6 _ rfl
        have y7 : w5.cell? ⟨hx, 7, none⟩ = some (.slice a7 n7 c7) := Xw5.out.2.at_ 7 _ rfl
        have y8 : w5.cell? ⟨hx, 8, none⟩ = some (.slice a8 n8 c8) := Xw5.out.2.at_ 8 _ rfl
        go_wp2_with fail
        refine ((fun W hb => GD'.out W hb true (decide_eq_true HG.out)) _ Xw5.out.1).mono ?_
        rintro e w6 ⟨rfl, hb⟩
        have Xw6 := Lib.hid (show Below w.heap.size w w6 ∧ BoxAt w6 hx #[.int .i64 L.day, .slice a1 n1 c1, .slice a2 n2 c2, .slice a3 n3 c3, .slice a4 n4 c4, .slice a5 n5 c5, .slice a6 n6 c6, .slice a7 n7 c7, .slice a8 n8 c8] from ⟨Xw5.out.1.trans (hb.mono Xw5.out.1.size), Xw5.out.2.below hb⟩)
        clear hb y0 y1 y2 y3 y4 y5 y6 y7 y8
        have dn : decide ((a : Int) < 0) = false := decide_eq_false (by omega)
        have dn2 : ¬ (a : Int) < 0 := by omega
        have dn3 : (a : Int) < (n4 : Int) := by omega
        clear ho
        have y0 : w6.cell? ⟨hx, 0, none⟩ = some (.int .i64 L.day) := Xw6.out.2.at_ 0 _ rfl
        have y1 : w6.cell? ⟨hx, 1, none⟩ = some (.slice a1 n1 c1) := Xw6.out.2.at_ 1 _ rfl
        have y2 : w6.cell? ⟨hx, 2, none⟩ = some (.slice a2 n2 c2) := Xw6.out.2.at_ 2 _ rfl
        have y3 : w6.cell? ⟨hx, 3, none⟩ = some (.slice a3 n3 c3) := Xw6.out.2.at_ 3 _ rfl
        have y4 : w6.cell? ⟨hx, 4, none⟩ = some (.slice a4 n4 c4) := Xw6.out.2.at_ 4 _ rfl
        have y5 : w6.cell? ⟨hx, 5, none⟩ = some (.slice a5 n5 c5) := Xw6.out.2.at_ 5 _ rfl
        have y6 : w6.cell? ⟨hx, 6, none⟩ = some (.slice a6 n6 c6) := Xw6.out.2.at_ 6 _ rfl
        have y7 : w6.cell? ⟨hx, 7, none⟩ = some (.slice a7 n7 c7) := Xw6.out.2.at_ 7 _ rfl
        have y8 : w6.cell? ⟨hx, 8, none⟩ = some (.slice a8 n8 c8) := Xw6.out.2.at_ 8 _ rfl
        go_wp2_with fail
        refine (RN'.out _ Xw6.out.1).mono ?_
        rintro e w7 ⟨rfl, hb⟩
        have Xw7 := Lib.hid (show Below w.heap.size w w7 ∧ BoxAt w7 hx #[.int .i64 L.day, .slice a1 n1 c1, .slice a2 n2 c2, .slice a3 n3 c3, .slice a4 n4 c4, .slice a5 n5 c5, .slice a6 n6 c6, .slice a7 n7 c7, .slice a8 n8 c8] from ⟨Xw6.out.1.trans (hb.mono Xw6.out.1.size), Xw6.out.2.below hb⟩)
        clear hb y0 y1 y2 y3 y4 y5 y6 y7 y8
        have y0 : w7.cell? ⟨hx, 0, none⟩ = some (.int .i64 L.day) := Xw7.out.2.at_ 0 _ rfl
        have y1 : w7.cell? ⟨hx, 1, none⟩ = some (.slice a1 n1 c1) := Xw7.out.2.at_ 1 _ rfl
        have y2 : w7.cell? ⟨hx, 2, none⟩ = some (.slice a2 n2 c2) := Xw7.out.2.at_ 2 _ rfl
        have y3 : w7.cell? ⟨hx, 3, none⟩ = some (.slice a3 n3 c3) := Xw7.out.2.at_ 3 _ rfl
        have y4 : w7.cell? ⟨hx, 4, none⟩ = some (.slice a4 n4 c4) := Xw7.out.2.at_ 4 _ rfl
        have y5 : w7.cell? ⟨hx, 5, none⟩ = some (.slice a5 n5 c5) := Xw7.out.2.at_ 5 _ rfl
        have y6 : w7.cell? ⟨hx, 6, none⟩ = some (.slice a6 n6 c6) := Xw7.out.2.at_ 6 _ rfl
        have y7 : w7.cell? ⟨hx, 7, none⟩ = some (.slice a7 n7 c7) := Xw7.out.2.at_ 7 _ rfl
        have y8 : w7.cell? ⟨hx, 8, none⟩ = some (.slice a8 n8 c8) := Xw7.out.2.at_ 8 _ rfl
        go_wp2_with fail
        refine (RH'.out _ Xw7.out.1).mono ?_
        rintro e w8 ⟨rfl, hb⟩
        have Xw8 := Lib.hid (show Below w.heap.size w w8 ∧ BoxAt w8 hx #[.int .i64 L.day, .slice a1 n1 c1, .slice a2 n2 c2, .slice a3 n3 c3, .slice a4 n4 c4, .slice a5 n5 c5, .slice a6 n6 c6, .slice a7 n7 c7, .slice a8 n8 c8] from ⟨Xw7.out.1.trans (hb.mono Xw7.out.1.size), Xw7.out.2.below hb⟩)
        clear hb y0 y1 y2 y3 y4 y5 y6 y7 y8
        have y0 : w8.cell? ⟨hx, 0, none⟩ = some (.int .i64 L.day) := Xw8.out.2.at_ 0 _ rfl
        have y1 : w8.cell? ⟨hx, 1, none⟩ = some (.slice a1 n1 c1) := Xw8.out.2.at_ 1 _ rfl
        have y2 : w8.cell? ⟨hx, 2, none⟩ = some (.slice a2 n2 c2) := Xw8.out.2.at_ 2 _ rfl
        have y3 : w8.cell? ⟨hx, 3, none⟩ = some (.slice a3 n3 c3) := Xw8.out.2.at_ 3 _ rfl
        have y4 : w8.cell? ⟨hx, 4, none⟩ = some (.slice a4 n4 c4) := Xw8.out.2.at_ 4 _ rfl
        have y5 : w8.cell? ⟨hx, 5, none⟩ = some (.slice a5 n5 c5) := Xw8.out.2.at_ 5 _ rfl
        have y6 : w8.cell? ⟨hx, 6, none⟩ = some (.slice a6 n6 c6) := Xw8.out.2.at_ 6 _ rfl
        have y7 : w8.cell? ⟨hx, 7, none⟩ = some (.slice a7 n7 c7) := Xw8.out.2.at_ 7 _ rfl
        have y8 : w8.cell? ⟨hx, 8, none⟩ = some (.slice a8 n8 c8) := Xw8.out.2.at_ 8 _ rfl
        go_wp2_with fail
        refine (RX'.out _ Xw8.out.1).mono ?_
        rintro e w9 ⟨rfl, hb⟩
        have Xw9 := Lib.hid (show Below w.heap.size w w9 ∧ BoxAt w9 hx #[.int .i64 L.day, .slice a1 n1 c1, .slice a2 n2 c2, .slice a3 n3 c3, .slice a4 n4 c4, .slice a5 n5 c5, .slice a6 n6 c6, .slice a7 n7 c7, .slice a8 n8 c8] from ⟨Xw8.out.1.trans (hb.mono Xw8.out.1.size), Xw8.out.2.below hb⟩)
        clear hb y0 y1 y2 y3 y4 y5 y6 y7 y8
        go_wp2_with fail
        go_ret
        refine ⟨ret_bool ?_, Xw9.out.1⟩
        first | rfl | simp
    · rw [ansA_bad hg] at NE' HV' EX'
      have HG := Lib.hid hg
      clear hg
      have y0 : w2.cell? ⟨hx, 0, none⟩ = some (.int .i64 L.day) := Xw2.out.2.at_ 0 _ rfl
      have y1 : w2.cell? ⟨hx, 1, none⟩ = some (.slice a1 n1 c1) := Xw2.out.2.at_ 1 _ rfl
      have y2 : w2.cell? ⟨hx, 2, none⟩ = some (.slice a2 n2 c2) := Xw2.out.2.at_ 2 _ rfl
      have y3 : w2.cell? ⟨hx, 3, none⟩ = some (.slice a3 n3 c3) := Xw2.out.2.at_ 3 _ rfl
      have y4 : w2.cell? ⟨hx, 4, none⟩ = some (.slice a4 n4 c4) := Xw2.out.2.at_ 4 _ rfl
      have y5 : w2.cell? ⟨hx, 5, none⟩ = some (.slice a5 n5 c5) := Xw2.out.2.at_ 5 _ rfl
      have y6 : w2.cell? ⟨hx, 6, none⟩ = some (.slice a6 n6 c6) := Xw2.out.2.at_ 6 _ rfl
      have y7 : w2.cell? ⟨hx, 7, none⟩ = some (.slice a7 n7 c7) := Xw2.out.2.at_ 7 _ rfl
      have y8 : w2.cell? ⟨hx, 8, none⟩ = some (.slice a8 n8 c8) := Xw2.out.2.at_ 8 _ rfl
      go_wp2_with fail
      refine (NE'.out _ Xw2.out.1).mono ?_
      rintro e w3 ⟨rfl, hb⟩
      have Xw3 := Lib.hid (show Below w.heap.size w w3 ∧ BoxAt w3 hx #[.int .i64 L.day, .slice a1 n1 c1, .slice a2 n2 c2, .slice a3 n3 c3, .slice a4 n4 c4, .slice a5 n5 c5, .slice a6 n6 c6, .slice a7 n7 c7, .slice a8 n8 c8] from ⟨Xw2.out.1.trans (hb.mono Xw2.out.1.size), Xw2.out.2.below hb⟩)
      clear hb y0 y1 y2 y3 y4 y5 y6 y7 y8
      have y0 : w3.cell? ⟨hx, 0, none⟩ = some (.int .i64 L.day) := Xw3.out.2.at_ 0 _ rfl
      have y1 : w3.cell? ⟨hx, 1, none⟩ = some (.slice a1 n1 c1) := Xw3.out.2.at_ 1 _ rfl
      have y2 : w3.cell? ⟨hx, 2, none⟩ = some (.slice a2 n2 c2) := Xw3.out.2.at_ 2 _ rfl
      have y3 : w3.cell? ⟨hx, 3, none⟩ = some (.slice a3 n3 c3) := Xw3.out.2.at_ 3 _ rfl
      have y4 : w3.cell? ⟨hx, 4, none⟩ = some (.slice a4 n4 c4) := Xw3.out.2.at_ 4 _ rfl
      have y5 : w3.cell? ⟨hx, 5, none⟩ = some (.slice a5 n5 c5) := Xw3.out.2.at_ 5 _ rfl
      have y6 : w3.cell? ⟨hx, 6, none⟩ = some (.slice a6 n6 c6) := Xw3.out.2.at_ 6 _ rfl
      have y7 : w3.cell? ⟨hx, 7, none⟩ = some (.slice a7 n7 c7) := Xw3.out.2.at_ 7 _ rfl
      have y8 : w3.cell? ⟨hx, 8, none⟩ = some (.slice a8 n8 c8) := Xw3.out.2.at_ 8 _ rfl
      go_wp2_with fail
      refine (HV'.out _ Xw3.out.1).mono ?_
      rintro e w4 ⟨rfl, hb⟩
      have Xw4 := Lib.hid (show Below w.heap.size w w4 ∧ BoxAt w4 hx #[.int .i64 L.day, .slice a1 n1 c1, .slice a2 n2 c2, .slice a3 n3 c3, .slice a4 n4 c4, .slice a5 n5 c5, .slice a6 n6 c6, .slice a7 n7 c7, .slice a8 n8 c8] from ⟨Xw3.out.1.trans (hb.mono Xw3.out.1.size), Xw3.out.2.below hb⟩)
      clear hb y0 y1 y2 y3 y4 y5 y6 y7 y8
      have y0 : w4.cell? ⟨hx, 0, none⟩ = some (.int .i64 L.day) := Xw4.out.2.at_ 0 _ rfl
      have y1 : w4.cell? ⟨hx, 1, none⟩ = some (.slice a1 n1 c1) := Xw4.out.2.at_ 1 _ rfl
      have y2 : w4.cell? ⟨hx, 2, none⟩ = some (.slice a2 n2 c2) := Xw4.out.2.at_ 2 _ rfl
      have y3 : w4.cell? ⟨hx, 3, none⟩ = some (.slice a3 n3 c3) := Xw4.out.2.at_ 3 _ rfl
      have y4 : w4.cell? ⟨hx, 4, none⟩ = some (.slice a4 n4 c4) := Xw4.out.2.at_ 4 _ rfl
      have y5 : w4.cell? ⟨hx, 5, none⟩ = some (.slice a5 n5 c5) := Xw4.out.2.at_ 5 _ rfl
      have y6 : w4.cell? ⟨hx, 6, none⟩ = some (.slice a6 n6 c6) := Xw4.out.2.at_ 6 _ rfl
      have y7 : w4.cell? ⟨hx, 7, none⟩ = some (.slice a7 n7 c7) := Xw4.out.2.at_ 7 _ rfl
      have y8 : w4.cell? ⟨hx, 8, none⟩ = some (.slice a8 n8 c8) := Xw4.out.2.at_ 8 _ rfl
      go_wp2_with fail
      refine (EX'.out _ Xw4.out.1).mono ?_
      rintro e w5 ⟨rfl, hb⟩
      have Xw5 := Lib.hid (show Below w.heap.size w w5 ∧ BoxAt w5 hx #[.int .i64 L.day, .slice a1 n1 c1, .slice a2 n2 c2, .slice a3 n3 c3, .slice a4 n4 c4, .slice a5 n5 c5, .slice a6 n6 c6, .slice a7 n7 c7, .slice a8 n8 c8] from ⟨Xw4.out.1.trans (hb.mono Xw4.out.1.size), Xw4.out.2.below hb⟩)
      clear hb y0 y1 y2 y3 y4 y5 y6 y7 y8
      have y0 : w5.cell? ⟨hx, 0, none⟩ = some (.int .i64 L.day) := Xw5.out.2.at_ 0 _ rfl
      have y1 : w5.cell? ⟨hx, 1, none⟩ = some (.slice a1 n1 c1) := Xw5.out.2.at_ 1 _ rfl
      have y2 : w5.cell? ⟨hx, 2, none⟩ = some (.slice a2 n2 c2) := Xw5.out.2.at_ 2 _ rfl
      have y3 : w5.cell? ⟨hx, 3, none⟩ = some (.slice a3 n3 c3) := Xw5.out.2.at_ 3 _ rfl
      have y4 : w5.cell? ⟨hx, 4, none⟩ = some (.slice a4 n4 c4) := Xw5.out.2.at_ 4 _ rfl
      have y5 : w5.cell? ⟨hx, 5, none⟩ = some (.slice a5 n5 c5) := Xw5.out.2.at_ 5 _ rfl
      have y6 : w5.cell? ⟨hx, 6, none⟩ = some (.slice a6 n6 c6) := Xw5.out.2.at_ 6 _ rfl
      have y7 : w5.cell? ⟨hx, 7, none⟩ = some (.slice a7 n7 c7) := Xw5.out.2.at_ 7 _ rfl
      have y8 : w5.cell? ⟨hx, 8, none⟩ = some (.slice a8 n8 c8) := Xw5.out.2.at_ 8 _ rfl
      go_wp2_with fail
      refine ((fun W hb => GD'.out W hb false (decide_eq_false HG.out)) _ Xw5.out.1).mono ?_
      rintro e w6 ⟨rfl, hb⟩
      have Xw6 := Lib.hid (show Below w.heap.size w w6 ∧ BoxAt w6 hx #[.int .i64 L.day, .slice a1 n1 c1, .slice a2 n2 c2, .slice a3 n3 c3, .slice a4 n4 c4, .slice a5 n5 c5, .slice a6 n6 c6, .slice a7 n7 c7, .slice a8 n8 c8] from ⟨Xw5.out.1.trans (hb.mono Xw5.out.1.size), Xw5.out.2.below hb⟩)
      clear hb y0 y1 y2 y3 y4 y5 y6 y7 y8
      go_wp2_with fail
      go_ret
      exact ⟨rfl, Xw6.out.1⟩
end Go.Proofs.YtcjbhgnlmmeeeaaGreatDoor

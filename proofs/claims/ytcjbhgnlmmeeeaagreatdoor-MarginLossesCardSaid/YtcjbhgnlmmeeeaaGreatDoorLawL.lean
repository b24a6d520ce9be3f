/- MarginLosses, walked (printed by tools/gen_laws1.py). -/
import Derived.Test.YtcjbhgnlmmeeeaaGreatDoorWakes
import Derived.Test.YtcjbhgnlmmeeeaaGreatDoorRNeed
import Derived.Test.YtcjbhgnlmmeeeaaGreatDoorRGood
import Derived.Test.YtcjbhgnlmmeeeaaGreatDoorLawN
namespace Go.Proofs.YtcjbhgnlmmeeeaaGreatDoor
open Go.RowKit Go.Bw Go.Maps Go.Shelf
set_option linter.unusedVariables false
set_option linter.unusedSimpArgs false

set_option maxRecDepth 100000 in
set_option maxHeartbeats 8000000 in
theorem losses_law (w : World) (V : LedV) (L : Led) (h : LedAt w V L) (hs : L.Short) (hG : Grd w) (p0 p1 p2 : Int) :
    Calls Tryz.prog 4 #[V.val L, .agg #[.int .i64 p0, .int .i64 p1, .int .i64 p2]] w fun e w' => e = .returned (.bool true) ∧ Below w.heap.size w w' := by
  classical
  have WK := Lib.hid (fun W (hb : Below w.heap.size w W) => wakes_any W (hG.below hb))
  have WD := Lib.hid (fun W (hb : Below w.heap.size w W) => wide_any W V L (h.below hb) hs)
  have LS := Lib.hid (fun W (hb : Below w.heap.size w W) (hL : L.accts.length ≤ 1024) => mloss_any W V L (h.below hb) hL (hG.below hb) p0 p1 p2)
  have GD := Lib.hid (fun W (hb : Below w.heap.size w W) (hL : L.accts.length ≤ 1024) (B : Bool) (hB : decide L.Good = B) => rgood_to (h.below hb) hL hB)
  have RL := Lib.hid (fun W (hb : Below w.heap.size w W) (hg : L.Good) (a : Nat) (s : Nat) (hs : s < 21) => rloss_any W V L (h.below hb) hg a p1 s hs)
  obtain ⟨a1, c1, a2, c2, a3, c3, a4, c4, a5, c5, a6, c6, a7, c7, a8, c8, e1, e2, e3, e4, e5, e6, e7, e8⟩ := LedAt.opened h
  unfold LedV.val LedV.cells at WD LS GD RL ⊢
  rw [e1, e2, e3, e4, e5, e6, e7, e8] at WD LS GD RL ⊢
  obtain ⟨n1, hn1⟩ : ∃ n, n = L.curs.length := ⟨_, rfl⟩
  obtain ⟨n2, hn2⟩ : ∃ n, n = L.unders.length := ⟨_, rfl⟩
  obtain ⟨n3, hn3⟩ : ∃ n, n = L.instrs.length := ⟨_, rfl⟩
  obtain ⟨n4, hn4⟩ : ∃ n, n = L.accts.length := ⟨_, rfl⟩
  obtain ⟨n5, hn5⟩ : ∃ n, n = L.poss.length := ⟨_, rfl⟩
  obtain ⟨n6, hn6⟩ : ∃ n, n = L.orders.length := ⟨_, rfl⟩
  obtain ⟨n7, hn7⟩ : ∃ n, n = L.avail.length := ⟨_, rfl⟩
  obtain ⟨n8, hn8⟩ : ∃ n, n = L.locs.length := ⟨_, rfl⟩
  have L2 := Lib.hid hn2
  have L4 := Lib.hid hn4
  rw [← hn1, ← hn2, ← hn3, ← hn4, ← hn5, ← hn6, ← hn7, ← hn8] at WD LS GD RL ⊢
  have BK := Lib.hid (show ¬ 1024 < L.bulk → n4 ≤ 1024 ∧ n2 ≤ 1024 from fun hb => by unfold Led.bulk at hb; omega)
  have B0 := Lib.hid (show Below w.heap.size w ((w.alloc (.cells #[.int .i64 L.day, .slice a1 n1 c1, .slice a2 n2 c2, .slice a3 n3 c3, .slice a4 n4 c4, .slice a5 n5 c5, .slice a6 n6 c6, .slice a7 n7 c7, .slice a8 n8 c8] 31)).alloc (.cells #[.int .i64 p0, .int .i64 p1, .int .i64 p2] 38)) ∧ BoxAt ((w.alloc (.cells #[.int .i64 L.day, .slice a1 n1 c1, .slice a2 n2 c2, .slice a3 n3 c3, .slice a4 n4 c4, .slice a5 n5 c5, .slice a6 n6 c6, .slice a7 n7 c7, .slice a8 n8 c8] 31)).alloc (.cells #[.int .i64 p0, .int .i64 p1, .int .i64 p2] 38)) w.heap.size #[.int .i64 L.day, .slice a1 n1 c1, .slice a2 n2 c2, .slice a3 n3 c3, .slice a4 n4 c4, .slice a5 n5 c5, .slice a6 n6 c6, .slice a7 n7 c7, .slice a8 n8 c8] ∧ BoxAt ((w.alloc (.cells #[.int .i64 L.day, .slice a1 n1 c1, .slice a2 n2 c2, .slice a3 n3 c3, .slice a4 n4 c4, .slice a5 n5 c5, .slice a6 n6 c6, .slice a7 n7 c7, .slice a8 n8 c8] 31)).alloc (.cells #[.int .i64 p0, .int .i64 p1, .int .i64 p2] 38)) (w.heap.size + 1) #[.int .i64 p0, .int .i64 p1, .int .i64 p2] from by
    have x1 := BoxAt.new w #[.int .i64 L.day, .slice a1 n1 c1, .slice a2 n2 c2, .slice a3 n3 c3, .slice a4 n4 c4, .slice a5 n5 c5, .slice a6 n6 c6, .slice a7 n7 c7, .slice a8 n8 c8] 31
    have x2 := BoxAt.new (w.alloc (.cells #[.int .i64 L.day, .slice a1 n1 c1, .slice a2 n2 c2, .slice a3 n3 c3, .slice a4 n4 c4, .slice a5 n5 c5, .slice a6 n6 c6, .slice a7 n7 c7, .slice a8 n8 c8] 31)) #[.int .i64 p0, .int .i64 p1, .int .i64 p2] 38
    have m2 := (Mod.refl (fun _ => False) (w.alloc (.cells #[.int .i64 L.day, .slice a1 n1 c1, .slice a2 n2 c2, .slice a3 n3 c3, .slice a4 n4 c4, .slice a5 n5 c5, .slice a6 n6 c6, .slice a7 n7 c7, .slice a8 n8 c8] 31))).alloc (.cells #[.int .i64 p0, .int .i64 p1, .int .i64 p2] 38)
    exact ⟨((Below.refl _ _).alloc (Nat.le_refl _) _).alloc (by simp) _, x1.mod m2 (fun h => h), by simpa using x2⟩)
  obtain ⟨BB, hBB⟩ : ∃ B, B = decide (1024 < L.bulk) := ⟨_, rfl⟩
  rw [← hBB] at WD
  have HB := Lib.hid hBB
  clear h hs hG e1 e2 e3 e4 e5 e6 e7 e8 hn1 hn2 hn3 hn4 hn5 hn6 hn7 hn8 hBB
  go_enter Tryz.func4, Tryz.ntmps4
  go_upto_region 1 with (fail)
  obtain ⟨W0, hW0⟩ : ∃ W0, W0 = (w.alloc (.cells #[.int .i64 L.day, .slice a1 n1 c1, .slice a2 n2 c2, .slice a3 n3 c3, .slice a4 n4 c4, .slice a5 n5 c5, .slice a6 n6 c6, .slice a7 n7 c7, .slice a8 n8 c8] 31)).alloc (.cells #[.int .i64 p0, .int .i64 p1, .int .i64 p2] 38) := ⟨_, rfl⟩
  rw [← hW0] at B0 ⊢
  obtain ⟨hx, hhx⟩ : ∃ n, n = w.heap.size := ⟨_, rfl⟩
  obtain ⟨ha, hha⟩ : ∃ n, n = w.heap.size + 1 := ⟨_, rfl⟩
  have XW0 := Lib.hid (show Below w.heap.size w W0 ∧ BoxAt W0 hx #[.int .i64 L.day, .slice a1 n1 c1, .slice a2 n2 c2, .slice a3 n3 c3, .slice a4 n4 c4, .slice a5 n5 c5, .slice a6 n6 c6, .slice a7 n7 c7, .slice a8 n8 c8] ∧ BoxAt W0 ha #[.int .i64 p0, .int .i64 p1, .int .i64 p2] from ⟨B0.out.1, by rw [hhx]; exact B0.out.2.1, by rw [hha]; exact B0.out.2.2⟩)
  rw [← hha, ← hhx]
  clear hW0 hhx hha B0
  go_wp2_with fail
  refine (WK.out _ XW0.out.1).mono ?_
  rintro e w1 ⟨rfl, hb⟩
  have Xw1 := Lib.hid (show Below w.heap.size w w1 ∧ BoxAt w1 hx #[.int .i64 L.day, .slice a1 n1 c1, .slice a2 n2 c2, .slice a3 n3 c3, .slice a4 n4 c4, .slice a5 n5 c5, .slice a6 n6 c6, .slice a7 n7 c7, .slice a8 n8 c8] ∧ BoxAt w1 ha #[.int .i64 p0, .int .i64 p1, .int .i64 p2] from ⟨XW0.out.1.trans (hb.mono XW0.out.1.size), XW0.out.2.1.below hb, XW0.out.2.2.below hb⟩)
  clear hb
  have y0 : w1.cell? ⟨hx, 0, none⟩ = some (.int .i64 L.day) := Xw1.out.2.1.at_ 0 _ rfl
  have y1 : w1.cell? ⟨hx, 1, none⟩ = some (.slice a1 n1 c1) := Xw1.out.2.1.at_ 1 _ rfl
  have y2 : w1.cell? ⟨hx, 2, none⟩ = some (.slice a2 n2 c2) := Xw1.out.2.1.at_ 2 _ rfl
  have y3 : w1.cell? ⟨hx, 3, none⟩ = some (.slice a3 n3 c3) := Xw1.out.2.1.at_ 3 _ rfl
  have y4 : w1.cell? ⟨hx, 4, none⟩ = some (.slice a4 n4 c4) := Xw1.out.2.1.at_ 4 _ rfl
  have y5 : w1.cell? ⟨hx, 5, none⟩ = some (.slice a5 n5 c5) := Xw1.out.2.1.at_ 5 _ rfl
  have y6 : w1.cell? ⟨hx, 6, none⟩ = some (.slice a6 n6 c6) := Xw1.out.2.1.at_ 6 _ rfl
  have y7 : w1.cell? ⟨hx, 7, none⟩ = some (.slice a7 n7 c7) := Xw1.out.2.1.at_ 7 _ rfl
  have y8 : w1.cell? ⟨hx, 8, none⟩ = some (.slice a8 n8 c8) := Xw1.out.2.1.at_ 8 _ rfl
  go_wp2_with fail
  refine (WD.out _ Xw1.out.1).mono ?_
  rintro e w2 ⟨rfl, hb⟩
  have Xw2 := Lib.hid (show Below w.heap.size w w2 ∧ BoxAt w2 hx #[.int .i64 L.day, .slice a1 n1 c1, .slice a2 n2 c2, .slice a3 n3 c3, .slice a4 n4 c4, .slice a5 n5 c5, .slice a6 n6 c6, .slice a7 n7 c7, .slice a8 n8 c8] ∧ BoxAt w2 ha #[.int .i64 p0, .int .i64 p1, .int .i64 p2] from ⟨Xw1.out.1.trans (hb.mono Xw1.out.1.size), Xw1.out.2.1.below hb, Xw1.out.2.2.below hb⟩)
  clear hb y0 y1 y2 y3 y4 y5 y6 y7 y8
  cases hbb : BB with
  | true =>
    subst hbb
    go_wp2_with fail
    go_ret
    exact ⟨rfl, Xw2.out.1⟩
  | false =>
    subst hbb
    obtain ⟨hL, hU⟩ : n4 ≤ 1024 ∧ n2 ≤ 1024 := BK.out (of_decide_eq_false HB.out.symm)
    have LS' := Lib.hid (fun W hb => LS.out W hb hL)
    have GD' := Lib.hid (fun W hb => GD.out W hb hL)
    clear LS GD
    by_cases hg : L.Good
    · have HG := Lib.hid hg
      by_cases ho : p0 < 0 ∨ (n4 : Int) ≤ p0
      · rw [ansA_out hg (by rw [← L4.out]; exact ho)] at LS'
        clear hg RL
        by_cases hneg : p0 < 0
        · have dn : decide (p0 < 0) = true := decide_eq_true hneg
          clear ho
          have y0 : w2.cell? ⟨hx, 0, none⟩ = some (.int .i64 L.day) := Xw2.out.2.1.at_ 0 _ rfl
          have y1 : w2.cell? ⟨hx, 1, none⟩ = some (.slice a1 n1 c1) := Xw2.out.2.1.at_ 1 _ rfl
          have y2 : w2.cell? ⟨hx, 2, none⟩ = some (.slice a2 n2 c2) := Xw2.out.2.1.at_ 2 _ rfl
          have y3 : w2.cell? ⟨hx, 3, none⟩ = some (.slice a3 n3 c3) := Xw2.out.2.1.at_ 3 _ rfl
          have y4 : w2.cell? ⟨hx, 4, none⟩ = some (.slice a4 n4 c4) := Xw2.out.2.1.at_ 4 _ rfl
          have y5 : w2.cell? ⟨hx, 5, none⟩ = some (.slice a5 n5 c5) := Xw2.out.2.1.at_ 5 _ rfl
          have y6 : w2.cell? ⟨hx, 6, none⟩ = some (.slice a6 n6 c6) := Xw2.out.2.1.at_ 6 _ rfl
          have y7 : w2.cell? ⟨hx, 7, none⟩ = some (.slice a7 n7 c7) := Xw2.out.2.1.at_ 7 _ rfl
          have y8 : w2.cell? ⟨hx, 8, none⟩ = some (.slice a8 n8 c8) := Xw2.out.2.1.at_ 8 _ rfl
          have z0 : w2.cell? ⟨ha, 0, none⟩ = some (.int .i64 p0) := Xw2.out.2.2.at_ 0 _ rfl
          have z1 : w2.cell? ⟨ha, 1, none⟩ = some (.int .i64 p1) := Xw2.out.2.2.at_ 1 _ rfl
          have z2 : w2.cell? ⟨ha, 2, none⟩ = some (.int .i64 p2) := Xw2.out.2.2.at_ 2 _ rfl
          go_wp2_with fail
          refine (LS'.out _ Xw2.out.1).mono ?_
          rintro e w3 ⟨rfl, hb⟩
          have Xw3 := Lib.hid (show Below w.heap.size w w3 ∧ BoxAt w3 hx #[.int .i64 L.day, .slice a1 n1 c1, .slice a2 n2 c2, .slice a3 n3 c3, .slice a4 n4 c4, .slice a5 n5 c5, .slice a6 n6 c6, .slice a7 n7 c7, .slice a8 n8 c8] ∧ BoxAt w3 ha #[.int .i64 p0, .int .i64 p1, .int .i64 p2] from ⟨Xw2.out.1.trans (hb.mono Xw2.out.1.size), Xw2.out.2.1.below hb, Xw2.out.2.2.below hb⟩)
          clear hb y0 y1 y2 y3 y4 y5 y6 y7 y8 z0 z1 z2
          have y0 : w3.cell? ⟨hx, 0, none⟩ = some (.int .i64 L.day) := Xw3.out.2.1.at_ 0 _ rfl
          have y1 : w3.cell? ⟨hx, 1, none⟩ = some (.slice a1 n1 c1) := Xw3.out.2.1.at_ 1 _ rfl
          have y2 : w3.cell? ⟨hx, 2, none⟩ = some (.slice a2 n2 c2) := Xw3.out.2.1.at_ 2 _ rfl
          have y3 : w3.cell? ⟨hx, 3, none⟩ = some (.slice a3 n3 c3) := Xw3.out.2.1.at_ 3 _ rfl
          have y4 : w3.cell? ⟨hx, 4, none⟩ = some (.slice a4 n4 c4) := Xw3.out.2.1.at_ 4 _ rfl
          have y5 : w3.cell? ⟨hx, 5, none⟩ = some (.slice a5 n5 c5) := Xw3.out.2.1.at_ 5 _ rfl
          have y6 : w3.cell? ⟨hx, 6, none⟩ = some (.slice a6 n6 c6) := Xw3.out.2.1.at_ 6 _ rfl
          have y7 : w3.cell? ⟨hx, 7, none⟩ = some (.slice a7 n7 c7) := Xw3.out.2.1.at_ 7 _ rfl
          have y8 : w3.cell? ⟨hx, 8, none⟩ = some (.slice a8 n8 c8) := Xw3.out.2.1.at_ 8 _ rfl
          go_wp2_with fail
          refine ((fun W hb => GD'.out W hb true (decide_eq_true HG.out)) _ Xw3.out.1).mono ?_
          rintro e w4 ⟨rfl, hb⟩
          have Xw4 := Lib.hid (show Below w.heap.size w w4 ∧ BoxAt w4 hx #[.int .i64 L.day, .slice a1 n1 c1, .slice a2 n2 c2, .slice a3 n3 c3, .slice a4 n4 c4, .slice a5 n5 c5, .slice a6 n6 c6, .slice a7 n7 c7, .slice a8 n8 c8] ∧ BoxAt w4 ha #[.int .i64 p0, .int .i64 p1, .int .i64 p2] from ⟨Xw3.out.1.trans (hb.mono Xw3.out.1.size), Xw3.out.2.1.below hb, Xw3.out.2.2.below hb⟩)
          clear hb y0 y1 y2 y3 y4 y5 y6 y7 y8
          have y0 : w4.cell? ⟨hx, 0, none⟩ = some (.int .i64 L.day) := Xw4.out.2.1.at_ 0 _ rfl
          have y1 : w4.cell? ⟨hx, 1, none⟩ = some (.slice a1 n1 c1) := Xw4.out.2.1.at_ 1 _ rfl
          have y2 : w4.cell? ⟨hx, 2, none⟩ = some (.slice a2 n2 c2) := Xw4.out.2.1.at_ 2 _ rfl
          have y3 : w4.cell? ⟨hx, 3, none⟩ = some (.slice a3 n3 c3) := Xw4.out.2.1.at_ 3 _ rfl
          have y4 : w4.cell? ⟨hx, 4, none⟩ = some (.slice a4 n4 c4) := Xw4.out.2.1.at_ 4 _ rfl
          have y5 : w4.cell? ⟨hx, 5, none⟩ = some (.slice a5 n5 c5) := Xw4.out.2.1.at_ 5 _ rfl
          have y6 : w4.cell? ⟨hx, 6, none⟩ = some (.slice a6 n6 c6) := Xw4.out.2.1.at_ 6 _ rfl
          have y7 : w4.cell? ⟨hx, 7, none⟩ = some (.slice a7 n7 c7) := Xw4.out.2.1.at_ 7 _ rfl
          have y8 : w4.cell? ⟨hx, 8, none⟩ = some (.slice a8 n8 c8) := Xw4.out.2.1.at_ 8 _ rfl
          have z0 : w4.cell? ⟨ha, 0, none⟩ = some (.int .i64 p0) := Xw4.out.2.2.at_ 0 _ rfl
          have z1 : w4.cell? ⟨ha, 1, none⟩ = some (.int .i64 p1) := Xw4.out.2.2.at_ 1 _ rfl
          have z2 : w4.cell? ⟨ha, 2, none⟩ = some (.int .i64 p2) := Xw4.out.2.2.at_ 2 _ rfl
          go_wp2_with fail
          go_ret
          exact ⟨rfl, Xw4.out.1⟩
        · have dn : decide (p0 < 0) = false := decide_eq_false hneg
          have hge : (n4 : Int) ≤ p0 := ho.resolve_left hneg
          clear ho
          have y0 : w2.cell? ⟨hx, 0, none⟩ = some (.int .i64 L.day) := Xw2.out.2.1.at_ 0 _ rfl
          have y1 : w2.cell? ⟨hx, 1, none⟩ = some (.slice a1 n1 c1) := Xw2.out.2.1.at_ 1 _ rfl
          have y2 : w2.cell? ⟨hx, 2, none⟩ = some (.slice a2 n2 c2) := Xw2.out.2.1.at_ 2 _ rfl
          have y3 : w2.cell? ⟨hx, 3, none⟩ = some (.slice a3 n3 c3) := Xw2.out.2.1.at_ 3 _ rfl
          have y4 : w2.cell? ⟨hx, 4, none⟩ = some (.slice a4 n4 c4) := Xw2.out.2.1.at_ 4 _ rfl
          have y5 : w2.cell? ⟨hx, 5, none⟩ = some (.slice a5 n5 c5) := Xw2.out.2.1.at_ 5 _ rfl
          have y6 : w2.cell? ⟨hx, 6, none⟩ = some (.slice a6 n6 c6) := Xw2.out.2.1.at_ 6 _ rfl
          have y7 : w2.cell? ⟨hx, 7, none⟩ = some (.slice a7 n7 c7) := Xw2.out.2.1.at_ 7 _ rfl
          have y8 : w2.cell? ⟨hx, 8, none⟩ = some (.slice a8 n8 c8) := Xw2.out.2.1.at_ 8 _ rfl
          have z0 : w2.cell? ⟨ha, 0, none⟩ = some (.int .i64 p0) := Xw2.out.2.2.at_ 0 _ rfl
          have z1 : w2.cell? ⟨ha, 1, none⟩ = some (.int .i64 p1) := Xw2.out.2.2.at_ 1 _ rfl
          have z2 : w2.cell? ⟨ha, 2, none⟩ = some (.int .i64 p2) := Xw2.out.2.2.at_ 2 _ rfl
          go_wp2_with fail
          refine (LS'.out _ Xw2.out.1).mono ?_
          rintro e w3 ⟨rfl, hb⟩
          have Xw3 := Lib.hid (show Below w.heap.size w w3 ∧ BoxAt w3 hx #[.int .i64 L.day, .slice a1 n1 c1, .slice a2 n2 c2, .slice a3 n3 c3, .slice a4 n4 c4, .slice a5 n5 c5, .slice a6 n6 c6, .slice a7 n7 c7, .slice a8 n8 c8] ∧ BoxAt w3 ha #[.int .i64 p0, .int .i64 p1, .int .i64 p2] from ⟨Xw2.out.1.trans (hb.mono Xw2.out.1.size), Xw2.out.2.1.below hb, Xw2.out.2.2.below hb⟩)
          clear hb y0 y1 y2 y3 y4 y5 y6 y7 y8 z0 z1 z2
          have y0 : w3.cell? ⟨hx, 0, none⟩ = some (.int .i64 L.day) := Xw3.out.2.1.at_ 0 _ rfl
          have y1 : w3.cell? ⟨hx, 1, none⟩ = some (.slice a1 n1 c1) := Xw3.out.2.1.at_ 1 _ rfl
          have y2 : w3.cell? ⟨hx, 2, none⟩ = some (.slice a2 n2 c2) := Xw3.out.2.1.at_ 2 _ rfl
          have y3 : w3.cell? ⟨hx, 3, none⟩ = some (.slice a3 n3 c3) := Xw3.out.2.1.at_ 3 _ rfl
          have y4 : w3.cell? ⟨hx, 4, none⟩ = some (.slice a4 n4 c4) := Xw3.out.2.1.at_ 4 _ rfl
          have y5 : w3.cell? ⟨hx, 5, none⟩ = some (.slice a5 n5 c5) := Xw3.out.2.1.at_ 5 _ rfl
          have y6 : w3.cell? ⟨hx, 6, none⟩ = some (.slice a6 n6 c6) := Xw3.out.2.1.at_ 6 _ rfl
          have y7 : w3.cell? ⟨hx, 7, none⟩ = some (.slice a7 n7 c7) := Xw3.out.2.1.at_ 7 _ rfl
          have y8 : w3.cell? ⟨hx, 8, none⟩ = some (.slice a8 n8 c8) := Xw3.out.2.1.at_ 8 _ rfl
          go_wp2_with fail
          refine ((fun W hb => GD'.out W hb true (decide_eq_true HG.out)) _ Xw3.out.1).mono ?_
          rintro e w4 ⟨rfl, hb⟩
          have Xw4 := Lib.hid (show Below w.heap.size w w4 ∧ BoxAt w4 hx #[.int .i64 L.day, .slice a1 n1 c1, .slice a2 n2 c2, .slice a3 n3 c3, .slice a4 n4 c4, .slice a5 n5 c5, .slice a6 n6 c6, .slice a7 n7 c7, .slice a8 n8 c8] ∧ BoxAt w4 ha #[.int .i64 p0, .int .i64 p1, .int .i64 p2] from ⟨Xw3.out.1.trans (hb.mono Xw3.out.1.size), Xw3.out.2.1.below hb, Xw3.out.2.2.below hb⟩)
          clear hb y0 y1 y2 y3 y4 y5 y6 y7 y8
          have y0 : w4.cell? ⟨hx, 0, none⟩ = some (.int .i64 L.day) := Xw4.out.2.1.at_ 0 _ rfl
          have y1 : w4.cell? ⟨hx, 1, none⟩ = some (.slice a1 n1 c1) := Xw4.out.2.1.at_ 1 _ rfl
          have y2 : w4.cell? ⟨hx, 2, none⟩ = some (.slice a2 n2 c2) := Xw4.out.2.1.at_ 2 _ rfl
          have y3 : w4.cell? ⟨hx, 3, none⟩ = some (.slice a3 n3 c3) := Xw4.out.2.1.at_ 3 _ rfl
          have y4 : w4.cell? ⟨hx, 4, none⟩ = some (.slice a4 n4 c4) := Xw4.out.2.1.at_ 4 _ rfl
          have y5 : w4.cell? ⟨hx, 5, none⟩ = some (.slice a5 n5 c5) := Xw4.out.2.1.at_ 5 _ rfl
          have y6 : w4.cell? ⟨hx, 6, none⟩ = some (.slice a6 n6 c6) := Xw4.out.2.1.at_ 6 _ rfl
          have y7 : w4.cell? ⟨hx, 7, none⟩ = some (.slice a7 n7 c7) := Xw4.out.2.1.at_ 7 _ rfl
          have y8 : w4.cell? ⟨hx, 8, none⟩ = some (.slice a8 n8 c8) := Xw4.out.2.1.at_ 8 _ rfl
          have z0 : w4.cell? ⟨ha, 0, none⟩ = some (.int .i64 p0) := Xw4.out.2.2.at_ 0 _ rfl
          have z1 : w4.cell? ⟨ha, 1, none⟩ = some (.int .i64 p1) := Xw4.out.2.2.at_ 1 _ rfl
          have z2 : w4.cell? ⟨ha, 2, none⟩ = some (.int .i64 p2) := Xw4.out.2.2.at_ 2 _ rfl
          go_wp2_with fail
          go_ret
          exact ⟨rfl, Xw4.out.1⟩
      · rw [ansA_ok hg (by rw [← L4.out]; exact ho)] at LS'
        obtain ⟨a, rfl⟩ := Int.eq_ofNat_of_zero_le (show 0 ≤ p0 by omega)
        simp only [Int.toNat_natCast] at LS'
        have dn : decide ((a : Int) < 0) = false := decide_eq_false (by omega)
        have dn2 : ¬ (a : Int) < 0 := by omega
        have dn3 : (a : Int) < (n4 : Int) := by omega
        clear ho
        by_cases hu : p1 < 0 ∨ (n2 : Int) ≤ p1
        · rw [show lossA L a p1 p2 = (0, 31) from by unfold lossA; rw [if_pos (by rw [← L2.out]; exact hu)]] at LS'
          clear hg RL
          by_cases hneg : p1 < 0
          · have dm : decide (p1 < 0) = true := decide_eq_true hneg
            clear hu
            have y0 : w2.cell? ⟨hx, 0, none⟩ = some (.int .i64 L.day) := Xw2.out.2.1.at_ 0 _ rfl
            have y1 : w2.cell? ⟨hx, 1, none⟩ = some (.slice a1 n1 c1) := Xw2.out.2.1.at_ 1 _ rfl
            have y2 : w2.cell? ⟨hx, 2, none⟩ = some (.slice a2 n2 c2) := Xw2.out.2.1.at_ 2 _ rfl
            have y3 : w2.cell? ⟨hx, 3, none⟩ = some (.slice a3 n3 c3) := Xw2.out.2.1.at_ 3 _ rfl
            have y4 : w2.cell? ⟨hx, 4, none⟩ = some (.slice a4 n4 c4) := Xw2.out.2.1.at_ 4 _ rfl
            have y5 : w2.cell? ⟨hx, 5, none⟩ = some (.slice a5 n5 c5) := Xw2.out.2.1.at_ 5 _ rfl
            have y6 : w2.cell? ⟨hx, 6, none⟩ = some (.slice a6 n6 c6) := Xw2.out.2.1.at_ 6 _ rfl
            have y7 : w2.cell? ⟨hx, 7, none⟩ = some (.slice a7 n7 c7) := Xw2.out.2.1.at_ 7 _ rfl
            have y8 : w2.cell? ⟨hx, 8, none⟩ = some (.slice a8 n8 c8) := Xw2.out.2.1.at_ 8 _ rfl
            have z0 : w2.cell? ⟨ha, 0, none⟩ = some (.int .i64 (a : Int)) := Xw2.out.2.2.at_ 0 _ rfl
            have z1 : w2.cell? ⟨ha, 1, none⟩ = some (.int .i64 p1) := Xw2.out.2.2.at_ 1 _ rfl
            have z2 : w2.cell? ⟨ha, 2, none⟩ = some (.int .i64 p2) := Xw2.out.2.2.at_ 2 _ rfl
            go_wp2_with fail
            refine (LS'.out _ Xw2.out.1).mono ?_
            rintro e w3 ⟨rfl, hb⟩
            have Xw3 := Lib.hid (show Below w.heap.size w w3 ∧ BoxAt w3 hx #[.int .i64 L.day, .slice a1 n1 c1, .slice a2 n2 c2, .slice a3 n3 c3, .slice a4 n4 c4, .slice a5 n5 c5, .slice a6 n6 c6, .slice a7 n7 c7, .slice a8 n8 c8] ∧ BoxAt w3 ha #[.int .i64 (a : Int), .int .i64 p1, .int .i64 p2] from ⟨Xw2.out.1.trans (hb.mono Xw2.out.1.size), Xw2.out.2.1.below hb, Xw2.out.2.2.below hb⟩)
            clear hb y0 y1 y2 y3 y4 y5 y6 y7 y8 z0 z1 z2
            have y0 : w3.cell? ⟨hx, 0, none⟩ = some (.int .i64 L.day) := Xw3.out.2.1.at_ 0 _ rfl
            have y1 : w3.cell? ⟨hx, 1, none⟩ = some (.slice a1 n1 c1) := Xw3.out.2.1.at_ 1 _ rfl
            have y2 : w3.cell? ⟨hx, 2, none⟩ = some (.slice a2 n2 c2) := Xw3.out.2.1.at_ 2 _ rfl
            have y3 : w3.cell? ⟨hx, 3, none⟩ = some (.slice a3 n3 c3) := Xw3.out.2.1.at_ 3 _ rfl
            have y4 : w3.cell? ⟨hx, 4, none⟩ = some (.slice a4 n4 c4) := Xw3.out.2.1.at_ 4 _ rfl
            have y5 : w3.cell? ⟨hx, 5, none⟩ = some (.slice a5 n5 c5) := Xw3.out.2.1.at_ 5 _ rfl
            have y6 : w3.cell? ⟨hx, 6, none⟩ = some (.slice a6 n6 c6) := Xw3.out.2.1.at_ 6 _ rfl
            have y7 : w3.cell? ⟨hx, 7, none⟩ = some (.slice a7 n7 c7) := Xw3.out.2.1.at_ 7 _ rfl
            have y8 : w3.cell? ⟨hx, 8, none⟩ = some (.slice a8 n8 c8) := Xw3.out.2.1.at_ 8 _ rfl
            go_wp2_with fail
            refine ((fun W hb => GD'.out W hb true (decide_eq_true HG.out)) _ Xw3.out.1).mono ?_
            rintro e w4 ⟨rfl, hb⟩
            have Xw4 := Lib.hid (show Below w.heap.size w w4 ∧ BoxAt w4 hx #[.int .i64 L.day, .slice a1 n1 c1, .slice a2 n2 c2, .slice a3 n3 c3, .slice a4 n4 c4, .slice a5 n5 c5, .slice a6 n6 c6, .slice a7 n7 c7, .slice a8 n8 c8] ∧ BoxAt w4 ha #[.int .i64 (a : Int), .int .i64 p1, .int .i64 p2] from ⟨Xw3.out.1.trans (hb.mono Xw3.out.1.size), Xw3.out.2.1.below hb, Xw3.out.2.2.below hb⟩)
            clear hb y0 y1 y2 y3 y4 y5 y6 y7 y8
            have y0 : w4.cell? ⟨hx, 0, none⟩ = some (.int .i64 L.day) := Xw4.out.2.1.at_ 0 _ rfl
            have y1 : w4.cell? ⟨hx, 1, none⟩ = some (.slice a1 n1 c1) := Xw4.out.2.1.at_ 1 _ rfl
            have y2 : w4.cell? ⟨hx, 2, none⟩ = some (.slice a2 n2 c2) := Xw4.out.2.1.at_ 2 _ rfl
            have y3 : w4.cell? ⟨hx, 3, none⟩ = some (.slice a3 n3 c3) := Xw4.out.2.1.at_ 3 _ rfl
            have y4 : w4.cell? ⟨hx, 4, none⟩ = some (.slice a4 n4 c4) := Xw4.out.2.1.at_ 4 _ rfl
            have y5 : w4.cell? ⟨hx, 5, none⟩ = some (.slice a5 n5 c5) := Xw4.out.2.1.at_ 5 _ rfl
            have y6 : w4.cell? ⟨hx, 6, none⟩ = some (.slice a6 n6 c6) := Xw4.out.2.1.at_ 6 _ rfl
            have y7 : w4.cell? ⟨hx, 7, none⟩ = some (.slice a7 n7 c7) := Xw4.out.2.1.at_ 7 _ rfl
            have y8 : w4.cell? ⟨hx, 8, none⟩ = some (.slice a8 n8 c8) := Xw4.out.2.1.at_ 8 _ rfl
            have z0 : w4.cell? ⟨ha, 0, none⟩ = some (.int .i64 (a : Int)) := Xw4.out.2.2.at_ 0 _ rfl
            have z1 : w4.cell? ⟨ha, 1, none⟩ = some (.int .i64 p1) := Xw4.out.2.2.at_ 1 _ rfl
            have z2 : w4.cell? ⟨ha, 2, none⟩ = some (.int .i64 p2) := Xw4.out.2.2.at_ 2 _ rfl
            go_wp2_with fail
            go_ret
            exact ⟨rfl, Xw4.out.1⟩
          · have dm : decide (p1 < 0) = false := decide_eq_false hneg
            have hge : (n2 : Int) ≤ p1 := hu.resolve_left hneg
            clear hu
            have y0 : w2.cell? ⟨hx, 0, none⟩ = some (.int .i64 L.day) := Xw2.out.2.1.at_ 0 _ rfl
            have y1 : w2.cell? ⟨hx, 1, none⟩ = some (.slice a1 n1 c1) := Xw2.out.2.1.at_ 1 _ rfl
            have y2 : w2.cell? ⟨hx, 2, none⟩ = some (.slice a2 n2 c2) := Xw2.out.2.1.at_ 2 _ rfl
            have y3 : w2.cell? ⟨hx, 3, none⟩ = some (.slice a3 n3 c3) := Xw2.out.2.1.at_ 3 _ rfl
            have y4 : w2.cell? ⟨hx, 4, none⟩ = some (.slice a4 n4 c4) := Xw2.out.2.1.at_ 4 _ rfl
            have y5 : w2.cell? ⟨hx, 5, none⟩ = some (.slice a5 n5 c5) := Xw2.out.2.1.at_ 5 _ rfl
            have y6 : w2.cell? ⟨hx, 6, none⟩ = some (.slice a6 n6 c6) := Xw2.out.2.1.at_ 6 _ rfl
            have y7 : w2.cell? ⟨hx, 7, none⟩ = some (.slice a7 n7 c7) := Xw2.out.2.1.at_ 7 _ rfl
            have y8 : w2.cell? ⟨hx, 8, none⟩ = some (.slice a8 n8 c8) := Xw2.out.2.1.at_ 8 _ rfl
            have z0 : w2.cell? ⟨ha, 0, none⟩ = some (.int .i64 (a : Int)) := Xw2.out.2.2.at_ 0 _ rfl
            have z1 : w2.cell? ⟨ha, 1, none⟩ = some (.int .i64 p1) := Xw2.out.2.2.at_ 1 _ rfl
            have z2 : w2.cell? ⟨ha, 2, none⟩ = some (.int .i64 p2) := Xw2.out.2.2.at_ 2 _ rfl
            go_wp2_with fail
            refine (LS'.out _ Xw2.out.1).mono ?_
            rintro e w3 ⟨rfl, hb⟩
            have Xw3 := Lib.hid (show Below w.heap.size w w3 ∧ BoxAt w3 hx #[.int .i64 L.day, .slice a1 n1 c1, .slice a2 n2 c2, .slice a3 n3 c3, .slice a4 n4 c4, .slice a5 n5 c5, .slice a6 n6 c6, .slice a7 n7 c7, .slice a8 n8 c8] ∧ BoxAt w3 ha #[.int .i64 (a : Int), .int .i64 p1, .int .i64 p2] from ⟨Xw2.out.1.trans (hb.mono Xw2.out.1.size), Xw2.out.2.1.below hb, Xw2.out.2.2.below hb⟩)
            clear hb y0 y1 y2 y3 y4 y5 y6 y7 y8 z0 z1 z2
            have y0 : w3.cell? ⟨hx, 0, none⟩ = some (.int .i64 L.day) := Xw3.out.2.1.at_ 0 _ rfl
            have y1 : w3.cell? ⟨hx, 1, none⟩ = some (.slice a1 n1 c1) := Xw3.out.2.1.at_ 1 _ rfl
            have y2 : w3.cell? ⟨hx, 2, none⟩ = some (.slice a2 n2 c2) := Xw3.out.2.1.at_ 2 _ rfl
            have y3 : w3.cell? ⟨hx, 3, none⟩ = some (.slice a3 n3 c3) := Xw3.out.2.1.at_ 3 _ rfl
            have y4 : w3.cell? ⟨hx, 4, none⟩ = some (.slice a4 n4 c4) := Xw3.out.2.1.at_ 4 _ rfl
            have y5 : w3.cell? ⟨hx, 5, none⟩ = some (.slice a5 n5 c5) := Xw3.out.2.1.at_ 5 _ rfl
            have y6 : w3.cell? ⟨hx, 6, none⟩ = some (.slice a6 n6 c6) := Xw3.out.2.1.at_ 6 _ rfl
            have y7 : w3.cell? ⟨hx, 7, none⟩ = some (.slice a7 n7 c7) := Xw3.out.2.1.at_ 7 _ rfl
            have y8 : w3.cell? ⟨hx, 8, none⟩ = some (.slice a8 n8 c8) := Xw3.out.2.1.at_ 8 _ rfl
            go_wp2_with fail
            refine ((fun W hb => GD'.out W hb true (decide_eq_true HG.out)) _ Xw3.out.1).mono ?_
            rintro e w4 ⟨rfl, hb⟩
            have Xw4 := Lib.hid (show Below w.heap.size w w4 ∧ BoxAt w4 hx #[.int .i64 L.day, .slice a1 n1 c1, .slice a2 n2 c2, .slice a3 n3 c3, .slice a4 n4 c4, .slice a5 n5 c5, .slice a6 n6 c6, .slice a7 n7 c7, .slice a8 n8 c8] ∧ BoxAt w4 ha #[.int .i64 (a : Int), .int .i64 p1, .int .i64 p2] from ⟨Xw3.out.1.trans (hb.mono Xw3.out.1.size), Xw3.out.2.1.below hb, Xw3.out.2.2.below hb⟩)
            clear hb y0 y1 y2 y3 y4 y5 y6 y7 y8
            have y0 : w4.cell? ⟨hx, 0, none⟩ = some (.int .i64 L.day) := Xw4.out.2.1.at_ 0 _ rfl
            have y1 : w4.cell? ⟨hx, 1, none⟩ = some (.slice a1 n1 c1) := Xw4.out.2.1.at_ 1 _ rfl
            have y2 : w4.cell? ⟨hx, 2, none⟩ = some (.slice a2 n2 c2) := Xw4.out.2.1.at_ 2 _ rfl
            have y3 : w4.cell? ⟨hx, 3, none⟩ = some (.slice a3 n3 c3) := Xw4.out.2.1.at_ 3 _ rfl
            have y4 : w4.cell? ⟨hx, 4, none⟩ = some (.slice a4 n4 c4) := Xw4.out.2.1.at_ 4 _ rfl
            have y5 : w4.cell? ⟨hx, 5, none⟩ = some (.slice a5 n5 c5) := Xw4.out.2.1.at_ 5 _ rfl
            have y6 : w4.cell? ⟨hx, 6, none⟩ = some (.slice a6 n6 c6) := Xw4.out.2.1.at_ 6 _ rfl
            have y7 : w4.cell? ⟨hx, 7, none⟩ = some (.slice a7 n7 c7) := Xw4.out.2.1.at_ 7 _ rfl
            have y8 : w4.cell? ⟨hx, 8, none⟩ = some (.slice a8 n8 c8) := Xw4.out.2.1.at_ 8 _ rfl
            have z0 : w4.cell? ⟨ha, 0, none⟩ = some (.int .i64 (a : Int)) := Xw4.out.2.2.at_ 0 _ rfl
            have z1 : w4.cell? ⟨ha, 1, none⟩ = some (.int .i64 p1) := Xw4.out.2.2.at_ 1 _ rfl
            have z2 : w4.cell? ⟨ha, 2, none⟩ = some (.int .i64 p2) := Xw4.out.2.2.at_ 2 _ rfl
            go_wp2_with fail
            go_ret
            exact ⟨rfl, Xw4.out.1⟩
        have HU := Lib.hid (show ¬ (p1 < 0 ∨ (L.unders.length : Int) ≤ p1) from by rw [← L2.out]; exact hu)
        have dm : decide (p1 < 0) = false := decide_eq_false (by omega)
        have dm2 : ¬ p1 < 0 := by omega
        have dm3 : p1 < (n2 : Int) := by omega
        clear hu
        by_cases hsr : p2 < 0 ∨ 21 ≤ p2
        · rw [show lossA L a p1 p2 = (0, 1) from by unfold lossA; rw [if_neg HU.out, if_pos hsr]] at LS'
          clear hg RL
          by_cases hneg : p2 < 0
          · have dk : decide (p2 < 0) = true := decide_eq_true hneg
            clear hsr
            have y0 : w2.cell? ⟨hx, 0, none⟩ = some (.int .i64 L.day) := Xw2.out.2.1.at_ 0 _ rfl
            have y1 : w2.cell? ⟨hx, 1, none⟩ = some (.slice a1 n1 c1) := Xw2.out.2.1.at_ 1 _ rfl
            have y2 : w2.cell? ⟨hx, 2, none⟩ = some (.slice a2 n2 c2) := Xw2.out.2.1.at_ 2 _ rfl
            have y3 : w2.cell? ⟨hx, 3, none⟩ = some (.slice a3 n3 c3) := Xw2.out.2.1.at_ 3 _ rfl
            have y4 : w2.cell? ⟨hx, 4, none⟩ = some (.slice a4 n4 c4) := Xw2.out.2.1.at_ 4 _ rfl
            have y5 : w2.cell? ⟨hx, 5, none⟩ = some (.slice a5 n5 c5) := Xw2.out.2.1.at_ 5 _ rfl
            have y6 : w2.cell? ⟨hx, 6, none⟩ = some (.slice a6 n6 c6) := Xw2.out.2.1.at_ 6 _ rfl
            have y7 : w2.cell? ⟨hx, 7, none⟩ = some (.slice a7 n7 c7) := Xw2.out.2.1.at_ 7 _ rfl
            have y8 : w2.cell? ⟨hx, 8, none⟩ = some (.slice a8 n8 c8) := Xw2.out.2.1.at_ 8 _ rfl
            have z0 : w2.cell? ⟨ha, 0, none⟩ = some (.int .i64 (a : Int)) := Xw2.out.2.2.at_ 0 _ rfl
            have z1 : w2.cell? ⟨ha, 1, none⟩ = some (.int .i64 p1) := Xw2.out.2.2.at_ 1 _ rfl
            have z2 : w2.cell? ⟨ha, 2, none⟩ = some (.int .i64 p2) := Xw2.out.2.2.at_ 2 _ rfl
            go_wp2_with fail
            refine (LS'.out _ Xw2.out.1).mono ?_
            rintro e w3 ⟨rfl, hb⟩
            have Xw3 := Lib.hid (show Below w.heap.size w w3 ∧ BoxAt w3 hx #[.int .i64 L.day, .slice a1 n1 c1, .slice a2 n2 c2, .slice a3 n3 c3, .slice a4 n4 c4, .slice a5 n5 c5, .slice a6 n6 c6, .slice a7 n7 c7, .slice a8 n8 c8] ∧ BoxAt w3 ha #[.int .i64 (a : Int), .int .i64 p1, .int .i64 p2] from ⟨Xw2.out.1.trans (hb.mono Xw2.out.1.size), Xw2.out.2.1.below hb, Xw2.out.2.2.below hb⟩)
            clear hb y0 y1 y2 y3 y4 y5 y6 y7 y8 z0 z1 z2
            have y0 : w3.cell? ⟨hx, 0, none⟩ = some (.int .i64 L.day) := Xw3.out.2.1.at_ 0 _ rfl
            have y1 : w3.cell? ⟨hx, 1, none⟩ = some (.slice a1 n1 c1) := Xw3.out.2.1.at_ 1 _ rfl
            have y2 : w3.cell? ⟨hx, 2, none⟩ = some (.slice a2 n2 c2) := Xw3.out.2.1.at_ 2 _ rfl
            have y3 : w3.cell? ⟨hx, 3, none⟩ = some (.slice a3 n3 c3) := Xw3.out.2.1.at_ 3 _ rfl
            have y4 : w3.cell? ⟨hx, 4, none⟩ = some (.slice a4 n4 c4) := Xw3.out.2.1.at_ 4 _ rfl
            have y5 : w3.cell? ⟨hx, 5, none⟩ = some (.slice a5 n5 c5) := Xw3.out.2.1.at_ 5 _ rfl
            have y6 : w3.cell? ⟨hx, 6, none⟩ = some (.slice a6 n6 c6) := Xw3.out.2.1.at_ 6 _ rfl
            have y7 : w3.cell? ⟨hx, 7, none⟩ = some (.slice a7 n7 c7) := Xw3.out.2.1.at_ 7 _ rfl
            have y8 : w3.cell? ⟨hx, 8, none⟩ = some (.slice a8 n8 c8) := Xw3.out.2.1.at_ 8 _ rfl
            go_wp2_with fail
            refine ((fun W hb => GD'.out W hb true (decide_eq_true HG.out)) _ Xw3.out.1).mono ?_
            rintro e w4 ⟨rfl, hb⟩
            have Xw4 := Lib.hid (show Below w.heap.size w w4 ∧ BoxAt w4 hx #[.int .i64 L.day, .slice a1 n1 c1, .slice a2 n2 c2, .slice a3 n3 c3, .slice a4 n4 c4, .slice a5 n5 c5, .slice a6 n6 c6, .slice a7 n7 c7, .slice a8 n8 c8] ∧ BoxAt w4 ha #[.int .i64 (a : Int), .int .i64 p1, .int .i64 p2] from ⟨Xw3.out.1.trans (hb.mono Xw3.out.1.size), Xw3.out.2.1.below hb, Xw3.out.2.2.below hb⟩)
            clear hb y0 y1 y2 y3 y4 y5 y6 y7 y8
            have y0 : w4.cell? ⟨hx, 0, none⟩ = some (.int .i64 L.day) := Xw4.out.2.1.at_ 0 _ rfl
            have y1 : w4.cell? ⟨hx, 1, none⟩ = some (.slice a1 n1 c1) := Xw4.out.2.1.at_ 1 _ rfl
            have y2 : w4.cell? ⟨hx, 2, none⟩ = some (.slice a2 n2 c2) := Xw4.out.2.1.at_ 2 _ rfl
            have y3 : w4.cell? ⟨hx, 3, none⟩ = some (.slice a3 n3 c3) := Xw4.out.2.1.at_ 3 _ rfl
            have y4 : w4.cell? ⟨hx, 4, none⟩ = some (.slice a4 n4 c4) := Xw4.out.2.1.at_ 4 _ rfl
            have y5 : w4.cell? ⟨hx, 5, none⟩ = some (.slice a5 n5 c5) := Xw4.out.2.1.at_ 5 _ rfl
            have y6 : w4.cell? ⟨hx, 6, none⟩ = some (.slice a6 n6 c6) := Xw4.out.2.1.at_ 6 _ rfl
            have y7 : w4.cell? ⟨hx, 7, none⟩ = some (.slice a7 n7 c7) := Xw4.out.2.1.at_ 7 _ rfl
            have y8 : w4.cell? ⟨hx, 8, none⟩ = some (.slice a8 n8 c8) := Xw4.out.2.1.at_ 8 _ rfl
            have z0 : w4.cell? ⟨ha, 0, none⟩ = some (.int .i64 (a : Int)) := Xw4.out.2.2.at_ 0 _ rfl
            have z1 : w4.cell? ⟨ha, 1, none⟩ = some (.int .i64 p1) := Xw4.out.2.2.at_ 1 _ rfl
            have z2 : w4.cell? ⟨ha, 2, none⟩ = some (.int .i64 p2) := Xw4.out.2.2.at_ 2 _ rfl
            go_wp2_with fail
            go_ret
            exact ⟨rfl, Xw4.out.1⟩
          · have dk : decide (p2 < 0) = false := decide_eq_false hneg
            have hge : 20 < p2 := by rcases hsr with h | h; exact absurd h hneg; omega
            clear hsr
            have y0 : w2.cell? ⟨hx, 0, none⟩ = some (.int .i64 L.day) := Xw2.out.2.1.at_ 0 _ rfl
            have y1 : w2.cell? ⟨hx, 1, none⟩ = some (.slice a1 n1 c1) := Xw2.out.2.1.at_ 1 _ rfl
            have y2 : w2.cell? ⟨hx, 2, none⟩ = some (.slice a2 n2 c2) := Xw2.out.2.1.at_ 2 _ rfl
            have y3 : w2.cell? ⟨hx, 3, none⟩ = some (.slice a3 n3 c3) := Xw2.out.2.1.at_ 3 _ rfl
            have y4 : w2.cell? ⟨hx, 4, none⟩ = some (.slice a4 n4 c4) := Xw2.out.2.1.at_ 4 _ rfl
            have y5 : w2.cell? ⟨hx, 5, none⟩ = some (.slice a5 n5 c5) := Xw2.out.2.1.at_ 5 _ rfl
            have y6 : w2.cell? ⟨hx, 6, none⟩ = some (.slice a6 n6 c6) := Xw2.out.2.1.at_ 6 _ rfl
            have y7 : w2.cell? ⟨hx, 7, none⟩ = some (.slice a7 n7 c7) := Xw2.out.2.1.at_ 7 _ rfl
            have y8 : w2.cell? ⟨hx, 8, none⟩ = some (.slice a8 n8 c8) := Xw2.out.2.1.at_ 8 _ rfl
            have z0 : w2.cell? ⟨ha, 0, none⟩ = some (.int .i64 (a : Int)) := Xw2.out.2.2.at_ 0 _ rfl
            have z1 : w2.cell? ⟨ha, 1, none⟩ = some (.int .i64 p1) := Xw2.out.2.2.at_ 1 _ rfl
            have z2 : w2.cell? ⟨ha, 2, none⟩ = some (.int .i64 p2) := Xw2.out.2.2.at_ 2 _ rfl
            go_wp2_with fail
            refine (LS'.out _ Xw2.out.1).mono ?_
            rintro e w3 ⟨rfl, hb⟩
            have Xw3 := Lib.hid (show Below w.heap.size w w3 ∧ BoxAt w3 hx #[.int .i64 L.day, .slice a1 n1 c1, .slice a2 n2 c2, .slice a3 n3 c3, .slice a4 n4 c4, .slice a5 n5 c5, .slice a6 n6 c6, .slice a7 n7 c7, .slice a8 n8 c8] ∧ BoxAt w3 ha #[.int .i64 (a : Int), .int .i64 p1, .int .i64 p2] from ⟨Xw2.out.1.trans (hb.mono Xw2.out.1.size), Xw2.out.2.1.below hb, Xw2.out.2.2.below hb⟩)
            clear hb y0 y1 y2 y3 y4 y5 y6 y7 y8 z0 z1 z2
            have y0 : w3.cell? ⟨hx, 0, none⟩ = some (.int .i64 L.day) := Xw3.out.2.1.at_ 0 _ rfl
            have y1 : w3.cell? ⟨hx, 1, none⟩ = some (.slice a1 n1 c1) := Xw3.out.2.1.at_ 1 _ rfl
            have y2 : w3.cell? ⟨hx, 2, none⟩ = some (.slice a2 n2 c2) := Xw3.out.2.1.at_ 2 _ rfl
            have y3 : w3.cell? ⟨hx, 3, none⟩ = some (.slice a3 n3 c3) := Xw3.out.2.1.at_ 3 _ rfl
            have y4 : w3.cell? ⟨hx, 4, none⟩ = some (.slice a4 n4 c4) := Xw3.out.2.1.at_ 4 _ rfl
            have y5 : w3.cell? ⟨hx, 5, none⟩ = some (.slice a5 n5 c5) := Xw3.out.2.1.at_ 5 _ rfl
            have y6 : w3.cell? ⟨hx, 6, none⟩ = some (.slice a6 n6 c6) := Xw3.out.2.1.at_ 6 _ rfl
            have y7 : w3.cell? ⟨hx, 7, none⟩ = some (.slice a7 n7 c7) := Xw3.out.2.1.at_ 7 _ rfl
            have y8 : w3.cell? ⟨hx, 8, none⟩ = some (.slice a8 n8 c8) := Xw3.out.2.1.at_ 8 _ rfl
            go_wp2_with fail
            refine ((fun W hb => GD'.out W hb true (decide_eq_true HG.out)) _ Xw3.out.1).mono ?_
            rintro e w4 ⟨rfl, hb⟩
            have Xw4 := Lib.hid (show Below w.heap.size w w4 ∧ BoxAt w4 hx #[.int .i64 L.day, .slice a1 n1 c1, .slice a2 n2 c2, .slice a3 n3 c3, .slice a4 n4 c4, .slice a5 n5 c5, .slice a6 n6 c6, .slice a7 n7 c7, .slice a8 n8 c8] ∧ BoxAt w4 ha #[.int .i64 (a : Int), .int .i64 p1, .int .i64 p2] from ⟨Xw3.out.1.trans (hb.mono Xw3.out.1.size), Xw3.out.2.1.below hb, Xw3.out.2.2.below hb⟩)
            clear hb y0 y1 y2 y3 y4 y5 y6 y7 y8
            have y0 : w4.cell? ⟨hx, 0, none⟩ = some (.int .i64 L.day) := Xw4.out.2.1.at_ 0 _ rfl
            have y1 : w4.cell? ⟨hx, 1, none⟩ = some (.slice a1 n1 c1) := Xw4.out.2.1.at_ 1 _ rfl
            have y2 : w4.cell? ⟨hx, 2, none⟩ = some (.slice a2 n2 c2) := Xw4.out.2.1.at_ 2 _ rfl
            have y3 : w4.cell? ⟨hx, 3, none⟩ = some (.slice a3 n3 c3) := Xw4.out.2.1.at_ 3 _ rfl
            have y4 : w4.cell? ⟨hx, 4, none⟩ = some (.slice a4 n4 c4) := Xw4.out.2.1.at_ 4 _ rfl
            have y5 : w4.cell? ⟨hx, 5, none⟩ = some (.slice a5 n5 c5) := Xw4.out.2.1.at_ 5 _ rfl
            have y6 : w4.cell? ⟨hx, 6, none⟩ = some (.slice a6 n6 c6) := Xw4.out.2.1.at_ 6 _ rfl
            have y7 : w4.cell? ⟨hx, 7, none⟩ = some (.slice a7 n7 c7) := Xw4.out.2.1.at_ 7 _ rfl
            have y8 : w4.cell? ⟨hx, 8, none⟩ = some (.slice a8 n8 c8) := Xw4.out.2.1.at_ 8 _ rfl
            have z0 : w4.cell? ⟨ha, 0, none⟩ = some (.int .i64 (a : Int)) := Xw4.out.2.2.at_ 0 _ rfl
            have z1 : w4.cell? ⟨ha, 1, none⟩ = some (.int .i64 p1) := Xw4.out.2.2.at_ 1 _ rfl
            have z2 : w4.cell? ⟨ha, 2, none⟩ = some (.int .i64 p2) := Xw4.out.2.2.at_ 2 _ rfl
            go_wp2_with fail
            go_ret
            exact ⟨rfl, Xw4.out.1⟩
        obtain ⟨s, rfl⟩ := Int.eq_ofNat_of_zero_le (show 0 ≤ p2 by omega)
        rw [show lossA L a p1 (s : Int) = retA (lossO L a p1 s) from by unfold lossA; rw [if_neg HU.out, if_neg hsr]; rfl] at LS'
        have RL' := Lib.hid (fun W hb => RL.out W hb hg a s (by omega))
        obtain ⟨rl, hrl⟩ : ∃ r, r = retA (lossO L a p1 s) := ⟨_, rfl⟩
        rw [← hrl] at LS' RL'
        have dk : decide ((s : Int) < 0) = false := decide_eq_false (by omega)
        have dk2 : ¬ (s : Int) < 0 := by omega
        have dk3 : ¬ 20 < (s : Int) := by omega
        clear hg hrl hsr RL
        have y0 : w2.cell? ⟨hx, 0, none⟩ = some (.int .i64 L.day) := Xw2.out.2.1.at_ 0 _ rfl
        have y1 : w2.cell? ⟨hx, 1, none⟩ = some (.slice a1 n1 c1) := Xw2.out.2.1.at_ 1 _ rfl
        have y2 : w2.cell? ⟨hx, 2, none⟩ = some (.slice a2 n2 c2) := Xw2.out.2.1.at_ 2 _ rfl
        have y3 : w2.cell? ⟨hx, 3, none⟩ = some (.slice a3 n3 c3) := Xw2.out.2.1.at_ 3 _ rfl
        have y4 : w2.cell? ⟨hx, 4, none⟩ = some (.slice a4 n4 c4) := Xw2.out.2.1.at_ 4 _ rfl
        have y5 : w2.cell? ⟨hx, 5, none⟩ = some (.slice a5 n5 c5) := Xw2.out.2.1.at_ 5 _ rfl
        have y6 : w2.cell? ⟨hx, 6, none⟩ = some (.slice a6 n6 c6) := Xw2.out.2.1.at_ 6 _ rfl
        have y7 : w2.cell? ⟨hx, 7, none⟩ = some (.slice a7 n7 c7) := Xw2.out.2.1.at_ 7 _ rfl
        have y8 : w2.cell? ⟨hx, 8, none⟩ = some (.slice a8 n8 c8) := Xw2.out.2.1.at_ 8 _ rfl
        have z0 : w2.cell? ⟨ha, 0, none⟩ = some (.int .i64 (a : Int)) := Xw2.out.2.2.at_ 0 _ rfl
        have z1 : w2.cell? ⟨ha, 1, none⟩ = some (.int .i64 p1) := Xw2.out.2.2.at_ 1 _ rfl
        have z2 : w2.cell? ⟨ha, 2, none⟩ = some (.int .i64 (s : Int)) := Xw2.out.2.2.at_ 2 _ rfl
        go_wp2_with fail
        refine (LS'.out _ Xw2.out.1).mono ?_
        rintro e w3 ⟨rfl, hb⟩
        have Xw3 := Lib.hid (show Below w.heap.size w w3 ∧ BoxAt w3 hx #[.int .i64 L.day, .slice a1 n1 c1, .slice a2 n2 c2, .slice a3 n3 c3, .slice a4 n4 c4, .slice a5 n5 c5, .slice a6 n6 c6, .slice a7 n7 c7, .slice a8 n8 c8] ∧ BoxAt w3 ha #[.int .i64 (a : Int), .int .i64 p1, .int .i64 (s : Int)] from ⟨Xw2.out.1.trans (hb.mono Xw2.out.1.size), Xw2.out.2.1.below hb, Xw2.out.2.2.below hb⟩)
        clear hb y0 y1 y2 y3 y4 y5 y6 y7 y8 z0 z1 z2
        have y0 : w3.cell? ⟨hx, 0, none⟩ = some (.int .i64 L.day) := Xw3.out.2.1.at_ 0 _ rfl
        have y1 : w3.cell? ⟨hx, 1, none⟩ = some (.slice a1 n1 c1) := Xw3.out.2.1.at_ 1 _ rfl
        have y2 : w3.cell? ⟨hx, 2, none⟩ = some (.slice a2 n2 c2) := Xw3.out.2.1.at_ 2 _ rfl
        have y3 : w3.cell? ⟨hx, 3, none⟩ = some (.slice a3 n3 c3) := Xw3.out.2.1.at_ 3 _ rfl
        have y4 : w3.cell? ⟨hx, 4, none⟩ = some (.slice a4 n4 c4) := Xw3.out.2.1.at_ 4 _ rfl
        have y5 : w3.cell? ⟨hx, 5, none⟩ = some (.slice a5 n5 c5) := Xw3.out.2.1.at_ 5 _ rfl
        have y6 : w3.cell? ⟨hx, 6, none⟩ = some (.slice a6 n6 c6) := Xw3.out.2.1.at_ 6 _ rfl
        have y7 : w3.cell? ⟨hx, 7, none⟩ = some (.slice a7 n7 c7) := Xw3.out.2.1.at_ 7 _ rfl
        have y8 : w3.cell? ⟨hx, 8, none⟩ = some (.slice a8 n8 c8) := Xw3.out.2.1.at_ 8 _ rfl
        go_wp2_with fail
        refine ((fun W hb => GD'.out W hb true (decide_eq_true HG.out)) _ Xw3.out.1).mono ?_
        rintro e w4 ⟨rfl, hb⟩
        have Xw4 := Lib.hid (show Below w.heap.size w w4 ∧ BoxAt w4 hx #[.int .i64 L.day, .slice a1 n1 c1, .slice a2 n2 c2, .slice a3 n3 c3, .slice a4 n4 c4, .slice a5 n5 c5, .slice a6 n6 c6, .slice a7 n7 c7, .slice a8 n8 c8] ∧ BoxAt w4 ha #[.int .i64 (a : Int), .int .i64 p1, .int .i64 (s : Int)] from ⟨Xw3.out.1.trans (hb.mono Xw3.out.1.size), Xw3.out.2.1.below hb, Xw3.out.2.2.below hb⟩)
        clear hb y0 y1 y2 y3 y4 y5 y6 y7 y8
        have y0 : w4.cell? ⟨hx, 0, none⟩ = some (.int .i64 L.day) := Xw4.out.2.1.at_ 0 _ rfl
        have y1 : w4.cell? ⟨hx, 1, none⟩ = some (.slice a1 n1 c1) := Xw4.out.2.1.at_ 1 _ rfl
        have y2 : w4.cell? ⟨hx, 2, none⟩ = some (.slice a2 n2 c2) := Xw4.out.2.1.at_ 2 _ rfl
        have y3 : w4.cell? ⟨hx, 3, none⟩ = some (.slice a3 n3 c3) := Xw4.out.2.1.at_ 3 _ rfl
        have y4 : w4.cell? ⟨hx, 4, none⟩ = some (.slice a4 n4 c4) := Xw4.out.2.1.at_ 4 _ rfl
        have y5 : w4.cell? ⟨hx, 5, none⟩ = some (.slice a5 n5 c5) := Xw4.out.2.1.at_ 5 _ rfl
        have y6 : w4.cell? ⟨hx, 6, none⟩ = some (.slice a6 n6 c6) := Xw4.out.2.1.at_ 6 _ rfl
        have y7 : w4.cell? ⟨hx, 7, none⟩ = some (.slice a7 n7 c7) := Xw4.out.2.1.at_ 7 _ rfl
        have y8 : w4.cell? ⟨hx, 8, none⟩ = some (.slice a8 n8 c8) := Xw4.out.2.1.at_ 8 _ rfl
        have z0 : w4.cell? ⟨ha, 0, none⟩ = some (.int .i64 (a : Int)) := Xw4.out.2.2.at_ 0 _ rfl
        have z1 : w4.cell? ⟨ha, 1, none⟩ = some (.int .i64 p1) := Xw4.out.2.2.at_ 1 _ rfl
        have z2 : w4.cell? ⟨ha, 2, none⟩ = some (.int .i64 (s : Int)) := Xw4.out.2.2.at_ 2 _ rfl
        go_wp2_with fail
        refine (RL'.out _ Xw4.out.1).mono ?_
        rintro e w5 ⟨rfl, hb⟩
        have Xw5 := Lib.hid (show Below w.heap.size w w5 ∧ BoxAt w5 hx #[.int .i64 L.day, .slice a1 n1 c1, .slice a2 n2 c2, .slice a3 n3 c3, .slice a4 n4 c4, .slice a5 n5 c5, .slice a6 n6 c6, .slice a7 n7 c7, .slice a8 n8 c8] ∧ BoxAt w5 ha #[.int .i64 (a : Int), .int .i64 p1, .int .i64 (s : Int)] from ⟨Xw4.out.1.trans (hb.mono Xw4.out.1.size), Xw4.out.2.1.below hb, Xw4.out.2.2.below hb⟩)
        clear hb y0 y1 y2 y3 y4 y5 y6 y7 y8 z0 z1 z2
        go_wp2_with fail
        go_ret
        refine ⟨ret_bool ?_, Xw5.out.1⟩
        first | rfl | simp
    · rw [ansA_bad hg] at LS'
      have HG := Lib.hid hg
      clear hg RL
      have y0 : w2.cell? ⟨hx, 0, none⟩ = some (.int .i64 L.day) := Xw2.out.2.1.at_ 0 _ rfl
      have y1 : w2.cell? ⟨hx, 1, none⟩ = some (.slice a1 n1 c1) := Xw2.out.2.1.at_ 1 _ rfl
      have y2 : w2.cell? ⟨hx, 2, none⟩ = some (.slice a2 n2 c2) := Xw2.out.2.1.at_ 2 _ rfl
      have y3 : w2.cell? ⟨hx, 3, none⟩ = some (.slice a3 n3 c3) := Xw2.out.2.1.at_ 3 _ rfl
      have y4 : w2.cell? ⟨hx, 4, none⟩ = some (.slice a4 n4 c4) := Xw2.out.2.1.at_ 4 _ rfl
      have y5 : w2.cell? ⟨hx, 5, none⟩ = some (.slice a5 n5 c5) := Xw2.out.2.1.at_ 5 _ rfl
      have y6 : w2.cell? ⟨hx, 6, none⟩ = some (.slice a6 n6 c6) := Xw2.out.2.1.at_ 6 _ rfl
      have y7 : w2.cell? ⟨hx, 7, none⟩ = some (.slice a7 n7 c7) := Xw2.out.2.1.at_ 7 _ rfl
      have y8 : w2.cell? ⟨hx, 8, none⟩ = some (.slice a8 n8 c8) := Xw2.out.2.1.at_ 8 _ rfl
      have z0 : w2.cell? ⟨ha, 0, none⟩ = some (.int .i64 p0) := Xw2.out.2.2.at_ 0 _ rfl
      have z1 : w2.cell? ⟨ha, 1, none⟩ = some (.int .i64 p1) := Xw2.out.2.2.at_ 1 _ rfl
      have z2 : w2.cell? ⟨ha, 2, none⟩ = some (.int .i64 p2) := Xw2.out.2.2.at_ 2 _ rfl
      go_wp2_with fail
      refine (LS'.out _ Xw2.out.1).mono ?_
      rintro e w3 ⟨rfl, hb⟩
      have Xw3 := Lib.hid (show Below w.heap.size w w3 ∧ BoxAt w3 hx #[.int .i64 L.day, .slice a1 n1 c1, .slice a2 n2 c2, .slice a3 n3 c3, .slice a4 n4 c4, .slice a5 n5 c5, .slice a6 n6 c6, .slice a7 n7 c7, .slice a8 n8 c8] ∧ BoxAt w3 ha #[.int .i64 p0, .int .i64 p1, .int .i64 p2] from ⟨Xw2.out.1.trans (hb.mono Xw2.out.1.size), Xw2.out.2.1.below hb, Xw2.out.2.2.below hb⟩)
      clear hb y0 y1 y2 y3 y4 y5 y6 y7 y8 z0 z1 z2
      have y0 : w3.cell? ⟨hx, 0, none⟩ = some (.int .i64 L.day) := Xw3.out.2.1.at_ 0 _ rfl
      have y1 : w3.cell? ⟨hx, 1, none⟩ = some (.slice a1 n1 c1) := Xw3.out.2.1.at_ 1 _ rfl
      have y2 : w3.cell? ⟨hx, 2, none⟩ = some (.slice a2 n2 c2) := Xw3.out.2.1.at_ 2 _ rfl
      have y3 : w3.cell? ⟨hx, 3, none⟩ = some (.slice a3 n3 c3) := Xw3.out.2.1.at_ 3 _ rfl
      have y4 : w3.cell? ⟨hx, 4, none⟩ = some (.slice a4 n4 c4) := Xw3.out.2.1.at_ 4 _ rfl
      have y5 : w3.cell? ⟨hx, 5, none⟩ = some (.slice a5 n5 c5) := Xw3.out.2.1.at_ 5 _ rfl
      have y6 : w3.cell? ⟨hx, 6, none⟩ = some (.slice a6 n6 c6) := Xw3.out.2.1.at_ 6 _ rfl
      have y7 : w3.cell? ⟨hx, 7, none⟩ = some (.slice a7 n7 c7) := Xw3.out.2.1.at_ 7 _ rfl
      have y8 : w3.cell? ⟨hx, 8, none⟩ = some (.slice a8 n8 c8) := Xw3.out.2.1.at_ 8 _ rfl
      go_wp2_with fail
      refine ((fun W hb => GD'.out W hb false (decide_eq_false HG.out)) _ Xw3.out.1).mono ?_
      rintro e w4 ⟨rfl, hb⟩
      have Xw4 := Lib.hid (show Below w.heap.size w w4 ∧ BoxAt w4 hx #[.int .i64 L.day, .slice a1 n1 c1, .slice a2 n2 c2, .slice a3 n3 c3, .slice a4 n4 c4, .slice a5 n5 c5, .slice a6 n6 c6, .slice a7 n7 c7, .slice a8 n8 c8] ∧ BoxAt w4 ha #[.int .i64 p0, .int .i64 p1, .int .i64 p2] from ⟨Xw3.out.1.trans (hb.mono Xw3.out.1.size), Xw3.out.2.1.below hb, Xw3.out.2.2.below hb⟩)
      clear hb y0 y1 y2 y3 y4 y5 y6 y7 y8
      go_wp2_with fail
      go_ret
      exact ⟨rfl, Xw4.out.1⟩
end Go.Proofs.YtcjbhgnlmmeeeaaGreatDoor

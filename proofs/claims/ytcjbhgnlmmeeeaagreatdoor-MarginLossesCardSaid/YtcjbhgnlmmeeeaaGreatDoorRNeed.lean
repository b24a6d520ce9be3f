/- bulwarkref16.Need, Have, Excess, walked (printed by tools/gen_rneed.py). -/
import Derived.Test.YtcjbhgnlmmeeeaaGreatDoorRLoss
import Derived.Test.YtcjbhgnlmmeeeaaGreatDoorMgG
namespace Go.Proofs.YtcjbhgnlmmeeeaaGreatDoor
open Go.RowKit Go.Bw Go.Maps Go.Shelf Go.Bw.Fall
set_option linter.unusedVariables false
set_option linter.unusedSimpArgs false

theorem worstO_next {L : Led} {a : Nat} {u : Int} {n : Nat} {m x : Int} (h : worstO L a u n = some m) (hx : lossO L a u n = some x) : worstO L a u (n + 1) = some (max m x) := by
  show ((worstO L a u n).bind fun w => (lossO L a u n).map fun x => max w x) = _
  rw [h, hx]; rfl
/-- Those that count, from an account on. -/
def restU (L : Led) (a n : Nat) : List Acc := (((List.range L.accts.length).drop n).filter (underL L.parents a)).map fun v => L.accts.getD v ⟨-1, [], false, 0⟩
theorem restU_zero (L : Led) (a : Nat) : restU L a 0 = L.under a := by
  unfold restU Led.under belowL Led.parents; rw [List.drop_zero, List.length_map]
theorem restU_end (L : Led) (a : Nat) {n : Nat} (h : L.accts.length ≤ n) : restU L a n = [] := by
  unfold restU; rw [List.drop_of_length_le (by rw [List.length_range]; exact h)]; rfl
theorem restU_step (L : Led) (a n : Nat) {p : Acc} (h : L.accts[n]? = some p) : restU L a n = if underL L.parents a n = true then p :: restU L a (n + 1) else restU L a (n + 1) := by
  have hn := (List.getElem?_eq_some_iff.1 h).1
  have e : (List.range L.accts.length)[n]? = some n := by rw [List.getElem?_range hn]
  unfold restU
  rw [drop_cons e, List.filter_cons]
  by_cases hu : underL L.parents a n = true
  · rw [if_pos hu, if_pos hu, List.map_cons]
    congr 1
    rw [List.getD_eq_getElem?_getD, h]; rfl
  · rw [if_neg hu, if_neg hu]
set_option maxRecDepth 100000 in
set_option maxHeartbeats 8000000 in
theorem rneed_any (w : World) (V : LedV) (L : Led) (h : LedAt w V L) (hg : L.Good) (a : Nat) :
    Calls Tryz.prog 17 #[V.val L, .int .i64 (a : Int)] w fun e w' => e = .returned (.tuple #[.int .i64 (retA (needO L a)).1, .int .i64 (retA (needO L a)).2]) ∧ Below w.heap.size w w' := by
  have HL := Lib.hid h
  have HG := Lib.hid hg
  obtain ⟨R, hR⟩ : ∃ R, R = needO L a := ⟨_, rfl⟩
  have EQ := Lib.hid hR
  rw [← hR]
  have LSL := Lib.hid (fun W (hb : Below w.heap.size w W) under s hs => rloss_any W V L (h.below hb) hg a under s hs)
  obtain ⟨a1, c1, a2, c2, a3, c3, a4, c4, a5, c5, a6, c6, a7, c7, a8, c8, e1, e2, e3, e4, e5, e6, e7, e8⟩ := LedAt.opened h
  have EV := Lib.hid (And.intro e1 (And.intro e2 (And.intro e3 (And.intro e4 (And.intro e5 (And.intro e6 (And.intro e7 e8)))))))
  unfold LedV.val LedV.cells at LSL ⊢
  rw [e1, e2, e3, e4, e5, e6, e7, e8] at LSL ⊢
  obtain ⟨n1, hn1⟩ : ∃ n, n = L.curs.length := ⟨_, rfl⟩
  obtain ⟨n2, hn2⟩ : ∃ n, n = L.unders.length := ⟨_, rfl⟩
  obtain ⟨n3, hn3⟩ : ∃ n, n = L.instrs.length := ⟨_, rfl⟩
  obtain ⟨n4, hn4⟩ : ∃ n, n = L.accts.length := ⟨_, rfl⟩
  obtain ⟨n5, hn5⟩ : ∃ n, n = L.poss.length := ⟨_, rfl⟩
  obtain ⟨n6, hn6⟩ : ∃ n, n = L.orders.length := ⟨_, rfl⟩
  obtain ⟨n7, hn7⟩ : ∃ n, n = L.avail.length := ⟨_, rfl⟩
  obtain ⟨n8, hn8⟩ : ∃ n, n = L.locs.length := ⟨_, rfl⟩
  have m1 : n1 ≤ 4 := by have := hg.things.c1; omega
  have m2 : n2 ≤ 6 := by have := hg.things.u1; omega
  have m4 : n4 ≤ 16 := by have := hg.accounts.tree.hi; simp only [List.length_map] at this; omega
  have L1 := Lib.hid hn1
  have L2 := Lib.hid hn2
  have L4 := Lib.hid hn4
  rw [← hn1, ← hn2, ← hn3, ← hn4, ← hn5, ← hn6, ← hn7, ← hn8] at LSL EV ⊢
  have B0 := Lib.hid (show Below w.heap.size w (w.alloc (.cells #[.int .i64 L.day, .slice a1 n1 c1, .slice a2 n2 c2, .slice a3 n3 c3, .slice a4 n4 c4, .slice a5 n5 c5, .slice a6 n6 c6, .slice a7 n7 c7, .slice a8 n8 c8] 31)) ∧ BoxAt (w.alloc (.cells #[.int .i64 L.day, .slice a1 n1 c1, .slice a2 n2 c2, .slice a3 n3 c3, .slice a4 n4 c4, .slice a5 n5 c5, .slice a6 n6 c6, .slice a7 n7 c7, .slice a8 n8 c8] 31)) w.heap.size #[.int .i64 L.day, .slice a1 n1 c1, .slice a2 n2 c2, .slice a3 n3 c3, .slice a4 n4 c4, .slice a5 n5 c5, .slice a6 n6 c6, .slice a7 n7 c7, .slice a8 n8 c8] from ⟨(Below.refl _ _).alloc (Nat.le_refl _) _, BoxAt.new _ _ _⟩)
  clear h hg hR e1 e2 e3 e4 e5 e6 e7 e8 hn1 hn2 hn3 hn4 hn5 hn6 hn7 hn8
  go_enter Tryz.func17, Tryz.ntmps17
  go_upto_region 1 with (fail)
  obtain ⟨W0, hW0⟩ : ∃ W0, W0 = w.alloc (.cells #[.int .i64 L.day, .slice a1 n1 c1, .slice a2 n2 c2, .slice a3 n3 c3, .slice a4 n4 c4, .slice a5 n5 c5, .slice a6 n6 c6, .slice a7 n7 c7, .slice a8 n8 c8] 31) := ⟨_, rfl⟩
  rw [← hW0] at B0 ⊢
  obtain ⟨hb, hhb⟩ : ∃ n, n = w.heap.size := ⟨_, rfl⟩
  have C0 := Lib.hid (show Below w.heap.size w W0 ∧ BoxAt W0 hb #[.int .i64 L.day, .slice a1 n1 c1, .slice a2 n2 c2, .slice a3 n3 c3, .slice a4 n4 c4, .slice a5 n5 c5, .slice a6 n6 c6, .slice a7 n7 c7, .slice a8 n8 c8] from ⟨B0.out.1, by rw [hhb]; exact B0.out.2⟩)
  rw [← hhb]
  clear hW0 hhb B0
  have dd := C0.out.2.at_ 2 _ rfl
  go_wp2_with fail
  clear dd
  go_loopw [6, 18] (fun al i wr => ∃ (k : Nat) (x : Int), k ≤ n2 ∧ i = .int .i64 k ∧ al = .int .i64 x ∧ Below w.heap.size w wr ∧ BoxAt wr hb #[.int .i64 L.day, .slice a1 n1 c1, .slice a2 n2 c2, .slice a3 n3 c3, .slice a4 n4 c4, .slice a5 n5 c5, .slice a6 n6 c6, .slice a7 n7 c7, .slice a8 n8 c8] ∧ Hid (R = needGo L a k (L.unders.drop k) x)) (fun _ i _ => n2 - (intOf i).toNat)
  case atStart => exact ⟨0, 0, Nat.zero_le _, rfl, rfl, C0.out.1, C0.out.2, Lib.hid EQ.out⟩
  case round =>
    obtain ⟨k, x, hk, rfl, rfl, hbw, hbx, KEY⟩ := hrel
    have TT := Lib.hid (And.intro hbw hbx)
    clear hbw hbx
    by_cases hlt : k < n2
    · obtain ⟨u, hu⟩ : ∃ u, L.unders[k]? = some u := ⟨_, List.getElem?_eq_getElem (by have := L2.out; omega)⟩
      have row : RowOf wr 4 Und.cells (.slice a2 n2 c2) L.unders := by have := (HL.out.below TT.out.1).unders; rw [EV.out.2.1] at this; exact this
      obtain ⟨ub, uo, ea2, hbl, hc⟩ := row.at_ hu
      have uok := HG.out.things.unders k u hu
      obtain ⟨q, hq⟩ : ∃ q : Nat, u.cur = q := ⟨u.cur.toNat, by have := uok.2.1; omega⟩
      have hql : q < L.curs.length := by have := uok.2.2.1; omega
      obtain ⟨c, hcr⟩ : ∃ c, L.curs[q]? = some c := ⟨_, List.getElem?_eq_getElem hql⟩
      have EC := Lib.hid (show L.cur u.cur = c from by rw [hq]; unfold Led.cur; simp [hcr])
      have cok := Lib.hid (HG.out.things.curs q c hcr)
      have u0 := hc 0 (.string u.name) rfl
      have u1 := hc 1 (.int .i64 u.cur) rfl
      have u2 := hc 2 (.int .i64 u.price) rfl
      have u3 := hc 3 (.int .i64 u.vol) rfl
      rw [Nat.add_zero] at u0
      rw [hq] at u1
      have DK := Lib.hid (drop_cons hu)
      have LT := Lib.hid hlt
      have hlt' : (k : Int) < (n2 : Int) := by omega
      have row1 : ∀ W, Below w.heap.size w W → RowOf W 2 Cur.cells (.slice a1 n1 c1) L.curs := fun W hb => by have := (HL.out.below hb).curs; rw [EV.out.1] at this; exact this
      obtain ⟨qb, qo, ea1, _, _⟩ := (row1 wr TT.out.1).at_ hcr
      have CD := Lib.hid (show ∀ W, Below w.heap.size w W → W.cell? ⟨qb, qo + q * 2, none⟩ = some (.int .i64 c.rate) ∧ W.cell? ⟨qb, qo + q * 2 + 1, none⟩ = some (.int .i64 c.hair) from fun W hb => by
        obtain ⟨b', o', e, _, hcc⟩ := (row1 W hb).at_ hcr
        rw [ea1] at e
        cases e
        exact ⟨hcc 0 _ rfl, hcc 1 _ rfl⟩)
      have q0 : (0 : Int) ≤ (q : Int) := by omega
      have qn : (q : Int) < (n1 : Int) := by have := L1.out; omega
      have k0 : (0 : Int) ≤ (k : Int) := by omega
      subst ea2 ea1
      clear row hc uok hq hcr hu hbl hql hlt row1
      obtain ⟨W1, hW1⟩ : ∃ W1, W1 = wr.alloc (.cells #[.string u.name, .int .i64 (q : Int), .int .i64 u.price, .int .i64 u.vol] 60) := ⟨_, rfl⟩
      have TB := Lib.hid (show Below w.heap.size w W1 ∧ BoxAt W1 hb #[.int .i64 L.day, .slice (some ⟨qb, qo, none⟩) n1 c1, .slice (some ⟨ub, uo, none⟩) n2 c2, .slice a3 n3 c3, .slice a4 n4 c4, .slice a5 n5 c5, .slice a6 n6 c6, .slice a7 n7 c7, .slice a8 n8 c8] ∧ BoxAt W1 wr.heap.size #[.string u.name, .int .i64 (q : Int), .int .i64 u.price, .int .i64 u.vol] from by
        rw [hW1]
        have b := (Below.refl wr.heap.size wr).alloc (Nat.le_refl _) (.cells #[.string u.name, .int .i64 (q : Int), .int .i64 u.price, .int .i64 u.vol] 60)
        exact ⟨TT.out.1.trans (b.mono TT.out.1.size), TT.out.2.below b, BoxAt.new _ _ _⟩)
      obtain ⟨wo, rfl⟩ : ∃ wo, wo = wr := ⟨_, rfl⟩
      go_upto_region 5 with (fail)
      rw [← hW1]
      obtain ⟨h8, hh8⟩ : ∃ h8, h8 = wo.heap.size := ⟨_, rfl⟩
      rw [← hh8] at TB ⊢
      clear hW1 hh8 u0 u1 u2 u3
      go_wp2_with fail
      go_loopw [9, 10] (fun wv i wr => ∃ (n : Nat) (m : Int), n ≤ 21 ∧ i = .int .i64 n ∧ wv = .int .i64 m ∧ Below w.heap.size w wr ∧ BoxAt wr hb #[.int .i64 L.day, .slice (some ⟨qb, qo, none⟩) n1 c1, .slice (some ⟨ub, uo, none⟩) n2 c2, .slice a3 n3 c3, .slice a4 n4 c4, .slice a5 n5 c5, .slice a6 n6 c6, .slice a7 n7 c7, .slice a8 n8 c8] ∧ BoxAt wr h8 #[.string u.name, .int .i64 (q : Int), .int .i64 u.price, .int .i64 u.vol] ∧ Hid (worstO L a k n = some m)) (fun _ i _ => 21 - (intOf i).toNat)
      case atStart => exact ⟨0, 0, by omega, rfl, rfl, TB.out.1, TB.out.2.1, TB.out.2.2, Lib.hid rfl⟩
      case round =>
        obtain ⟨n, m, hn, rfl, rfl, hb1, hb2, hb3, WK⟩ := hrel
        have TI := Lib.hid (And.intro hb1 (And.intro hb2 hb3))
        clear hb1 hb2 hb3
        by_cases hl2 : n < 21
        · have hl2' : (n : Int) < 21 := by omega
          have LS := Lib.hid (LSL.out wr TI.out.1 k n hl2)
          have LT2 := Lib.hid hl2
          clear hl2 hn
          have y0 : wr.cell? ⟨hb, 0, none⟩ = some (.int .i64 L.day) := TI.out.2.1.at_ 0 _ rfl
          have y1 : wr.cell? ⟨hb, 1, none⟩ = some (.slice (some ⟨qb, qo, none⟩) n1 c1) := TI.out.2.1.at_ 1 _ rfl
          have y2 : wr.cell? ⟨hb, 2, none⟩ = some (.slice (some ⟨ub, uo, none⟩) n2 c2) := TI.out.2.1.at_ 2 _ rfl
          have y3 : wr.cell? ⟨hb, 3, none⟩ = some (.slice a3 n3 c3) := TI.out.2.1.at_ 3 _ rfl
          have y4 : wr.cell? ⟨hb, 4, none⟩ = some (.slice a4 n4 c4) := TI.out.2.1.at_ 4 _ rfl
          have y5 : wr.cell? ⟨hb, 5, none⟩ = some (.slice a5 n5 c5) := TI.out.2.1.at_ 5 _ rfl
          have y6 : wr.cell? ⟨hb, 6, none⟩ = some (.slice a6 n6 c6) := TI.out.2.1.at_ 6 _ rfl
          have y7 : wr.cell? ⟨hb, 7, none⟩ = some (.slice a7 n7 c7) := TI.out.2.1.at_ 7 _ rfl
          have y8 : wr.cell? ⟨hb, 8, none⟩ = some (.slice a8 n8 c8) := TI.out.2.1.at_ 8 _ rfl
          go_wp2_with fail
          refine LS.out.mono ?_
          rintro e w3 ⟨rfl, hb3⟩
          have X3 := Lib.hid (show Below w.heap.size w w3 ∧ BoxAt w3 hb #[.int .i64 L.day, .slice (some ⟨qb, qo, none⟩) n1 c1, .slice (some ⟨ub, uo, none⟩) n2 c2, .slice a3 n3 c3, .slice a4 n4 c4, .slice a5 n5 c5, .slice a6 n6 c6, .slice a7 n7 c7, .slice a8 n8 c8] ∧ BoxAt w3 h8 #[.string u.name, .int .i64 (q : Int), .int .i64 u.price, .int .i64 u.vol] from ⟨TI.out.1.trans (hb3.mono TI.out.1.size), TI.out.2.1.below hb3, TI.out.2.2.below hb3⟩)
          clear hb3 y0 y1 y2 y3 y4 y5 y6 y7 y8
          cases hlo : lossO L a k n with
          | none =>
            have HN := Lib.hid hlo
            clear hlo
            simp only [retA]
            go_wp2_with fail
            go_ret2
            exact ⟨by rw [KEY.out, DK.out, needGo_gone (worstO_none HN.out 21 LT2.out)]; rfl, X3.out.1⟩
          | some g =>
            have HN := Lib.hid hlo
            clear hlo
            simp only [retA]
            by_cases hgt : m < g
            · have MX := Lib.hid (show max m g = g from by omega)
              go_wp2_with fail
              go_roundw
              case rel => exact ⟨n + 1, g, by have := LT2.out; omega, by go_num, rfl, X3.out.1, X3.out.2.1, X3.out.2.2, Lib.hid (by rw [worstO_next WK.out HN.out, MX.out])⟩
              case measure => have := LT2.out; simp [intOf]; omega
            · have MX := Lib.hid (show max m g = m from by omega)
              go_wp2_with fail
              go_roundw
              case rel => exact ⟨n + 1, m, by have := LT2.out; omega, by go_num, rfl, X3.out.1, X3.out.2.1, X3.out.2.2, Lib.hid (by rw [worstO_next WK.out HN.out, MX.out])⟩
              case measure => have := LT2.out; simp [intOf]; omega
        · have hl2' : ¬ (n : Int) < 21 := by omega
          obtain rfl : n = 21 := by omega
          have BC := Lib.hid (fun W => rbase_any c q cok.out m 1 (I64.of_fits (worstO_fits WK.out).1) (by omega) (by omega) W)
          have ER := Lib.hid (md_er m c.rate 1000000 1 (by omega) (by omega) (by omega))
          have BO := Lib.hid (show baseO c m 1 = optA (mdA m c.rate 1000000 1) from rfl)
          obtain ⟨MR, hMR⟩ : ∃ r, r = mdA m c.rate 1000000 1 := ⟨_, rfl⟩
          rw [← hMR] at BC ER BO
          obtain ⟨d0, d1⟩ := CD.out wr TI.out.1
          have y1 := TI.out.2.1.at_ 1 _ rfl
          have z1 : wr.cell? ⟨h8, 1, none⟩ = some (.int .i64 (q : Int)) := TI.out.2.2.at_ 1 _ rfl
          clear hMR hl2 hn
          go_wp2_with fail
          refine (BC.out _).mono ?_
          rintro e w4 ⟨rfl, hb4⟩
          have X4 := Lib.hid (show Below w.heap.size w w4 ∧ BoxAt w4 hb #[.int .i64 L.day, .slice (some ⟨qb, qo, none⟩) n1 c1, .slice (some ⟨ub, uo, none⟩) n2 c2, .slice a3 n3 c3, .slice a4 n4 c4, .slice a5 n5 c5, .slice a6 n6 c6, .slice a7 n7 c7, .slice a8 n8 c8] from ⟨TI.out.1.trans (hb4.mono TI.out.1.size), TI.out.2.1.below hb4⟩)
          clear hb4 d0 d1 y1 z1
          rcases Or.symm ER.out with hz | ⟨hz, hf⟩
          · have HZ := Lib.hid (show baseO c m 1 = none from by rw [BO.out, hz]; rfl)
            subst hz
            go_wp2_with fail
            go_ret2
            exact ⟨by rw [KEY.out, DK.out, needGo_dear WK.out (by rw [EC.out]; exact HZ.out)]; rfl, X4.out.1⟩
          have HZ := Lib.hid (show baseO c m 1 = some MR.1 from by rw [BO.out]; unfold optA; rw [if_pos hz])
          have hz' : (MR.2 != 0) = false := by rw [bne_eq_false_iff_eq]; exact hz
          have AC := Lib.hid (fun W => radd_any x MR.1 W)
          have AE := Lib.hid (addA_er x MR.1)
          have AO := Lib.hid (show addO x MR.1 = optA (addA x MR.1) from rfl)
          obtain ⟨AR, hAR⟩ : ∃ r, r = addA x MR.1 := ⟨_, rfl⟩
          rw [← hAR] at AC AE AO
          clear hAR hz hf
          go_wp2_with fail
          refine (AC.out _).mono ?_
          rintro e w' ⟨rfl, rfl⟩
          rcases Or.symm AE.out with hy | ⟨hy, hf⟩
          · have HY := Lib.hid (show addO x MR.1 = none from by rw [AO.out, hy]; rfl)
            subst hy
            go_wp2_with fail
            go_ret2
            exact ⟨by rw [KEY.out, DK.out, needGo_over WK.out (by rw [EC.out]; exact HZ.out) HY.out]; rfl, X4.out.1⟩
          have HY := Lib.hid (show addO x MR.1 = some AR.1 from by rw [AO.out]; unfold optA; rw [if_pos hy])
          have hy' : (AR.2 != 0) = false := by rw [bne_eq_false_iff_eq]; exact hy
          clear hy hf
          go_wp2_with fail
          go_roundw
          case rel => exact ⟨k + 1, AR.1, by have := LT.out; omega, by go_num, rfl, X4.out.1, X4.out.2, Lib.hid (by rw [KEY.out, DK.out, needGo_next WK.out (by rw [EC.out]; exact HZ.out) HY.out])⟩
          case measure => have := LT.out; simp [intOf]; omega
    · have hlt' : ¬ (k : Int) < (n2 : Int) := by omega
      go_wp2_with fail
      go_ret2
      exact ⟨by rw [KEY.out, List.drop_of_length_le (by have := L2.out; omega)]; rfl, TT.out.1⟩
set_option maxRecDepth 100000 in
set_option maxHeartbeats 8000000 in
theorem rhave_any (w : World) (V : LedV) (L : Led) (h : LedAt w V L) (hg : L.Good) (a : Nat) :
    Calls Tryz.prog 18 #[V.val L, .int .i64 (a : Int)] w fun e w' => e = .returned (.tuple #[.int .i64 (retA (haveO L a)).1, .int .i64 (retA (haveO L a)).2]) ∧ Below w.heap.size w w' := by
  have HL := Lib.hid h
  have HG := Lib.hid hg
  obtain ⟨R, hR⟩ : ∃ R, R = haveO L a := ⟨_, rfl⟩
  have EQ := Lib.hid hR
  rw [← hR]
  have CNT := Lib.hid (fun W (hb : Below w.heap.size w W) v hv => counts_any W V L (h.below hb) hg v a hv)
  obtain ⟨a1, c1, a2, c2, a3, c3, a4, c4, a5, c5, a6, c6, a7, c7, a8, c8, e1, e2, e3, e4, e5, e6, e7, e8⟩ := LedAt.opened h
  have EV := Lib.hid (And.intro e1 (And.intro e2 (And.intro e3 (And.intro e4 (And.intro e5 (And.intro e6 (And.intro e7 e8)))))))
  unfold LedV.val LedV.cells at CNT ⊢
  rw [e1, e2, e3, e4, e5, e6, e7, e8] at CNT ⊢
  obtain ⟨n1, hn1⟩ : ∃ n, n = L.curs.length := ⟨_, rfl⟩
  obtain ⟨n2, hn2⟩ : ∃ n, n = L.unders.length := ⟨_, rfl⟩
  obtain ⟨n3, hn3⟩ : ∃ n, n = L.instrs.length := ⟨_, rfl⟩
  obtain ⟨n4, hn4⟩ : ∃ n, n = L.accts.length := ⟨_, rfl⟩
  obtain ⟨n5, hn5⟩ : ∃ n, n = L.poss.length := ⟨_, rfl⟩
  obtain ⟨n6, hn6⟩ : ∃ n, n = L.orders.length := ⟨_, rfl⟩
  obtain ⟨n7, hn7⟩ : ∃ n, n = L.avail.length := ⟨_, rfl⟩
  obtain ⟨n8, hn8⟩ : ∃ n, n = L.locs.length := ⟨_, rfl⟩
  have m1 : n1 ≤ 4 := by have := hg.things.c1; omega
  have m2 : n2 ≤ 6 := by have := hg.things.u1; omega
  have m4 : n4 ≤ 16 := by have := hg.accounts.tree.hi; simp only [List.length_map] at this; omega
  have L1 := Lib.hid hn1
  have L2 := Lib.hid hn2
  have L4 := Lib.hid hn4
  rw [← hn1, ← hn2, ← hn3, ← hn4, ← hn5, ← hn6, ← hn7, ← hn8] at CNT EV ⊢
  have B0 := Lib.hid (show Below w.heap.size w (w.alloc (.cells #[.int .i64 L.day, .slice a1 n1 c1, .slice a2 n2 c2, .slice a3 n3 c3, .slice a4 n4 c4, .slice a5 n5 c5, .slice a6 n6 c6, .slice a7 n7 c7, .slice a8 n8 c8] 31)) ∧ BoxAt (w.alloc (.cells #[.int .i64 L.day, .slice a1 n1 c1, .slice a2 n2 c2, .slice a3 n3 c3, .slice a4 n4 c4, .slice a5 n5 c5, .slice a6 n6 c6, .slice a7 n7 c7, .slice a8 n8 c8] 31)) w.heap.size #[.int .i64 L.day, .slice a1 n1 c1, .slice a2 n2 c2, .slice a3 n3 c3, .slice a4 n4 c4, .slice a5 n5 c5, .slice a6 n6 c6, .slice a7 n7 c7, .slice a8 n8 c8] from ⟨(Below.refl _ _).alloc (Nat.le_refl _) _, BoxAt.new _ _ _⟩)
  clear h hg hR e1 e2 e3 e4 e5 e6 e7 e8 hn1 hn2 hn3 hn4 hn5 hn6 hn7 hn8
  go_enter Tryz.func18, Tryz.ntmps18
  go_upto_region 1 with (fail)
  obtain ⟨W0, hW0⟩ : ∃ W0, W0 = w.alloc (.cells #[.int .i64 L.day, .slice a1 n1 c1, .slice a2 n2 c2, .slice a3 n3 c3, .slice a4 n4 c4, .slice a5 n5 c5, .slice a6 n6 c6, .slice a7 n7 c7, .slice a8 n8 c8] 31) := ⟨_, rfl⟩
  rw [← hW0] at B0 ⊢
  obtain ⟨hb, hhb⟩ : ∃ n, n = w.heap.size := ⟨_, rfl⟩
  have C0 := Lib.hid (show Below w.heap.size w W0 ∧ BoxAt W0 hb #[.int .i64 L.day, .slice a1 n1 c1, .slice a2 n2 c2, .slice a3 n3 c3, .slice a4 n4 c4, .slice a5 n5 c5, .slice a6 n6 c6, .slice a7 n7 c7, .slice a8 n8 c8] from ⟨B0.out.1, by rw [hhb]; exact B0.out.2⟩)
  rw [← hhb]
  clear hW0 hhb B0
  have dd := C0.out.2.at_ 1 _ rfl
  go_wp2_with fail
  clear dd
  go_loopw [6, 17] (fun al i wr => ∃ (k : Nat) (x : Int), k ≤ n1 ∧ i = .int .i64 k ∧ al = .int .i64 x ∧ Below w.heap.size w wr ∧ BoxAt wr hb #[.int .i64 L.day, .slice a1 n1 c1, .slice a2 n2 c2, .slice a3 n3 c3, .slice a4 n4 c4, .slice a5 n5 c5, .slice a6 n6 c6, .slice a7 n7 c7, .slice a8 n8 c8] ∧ Hid (R = haveGo L a k (L.curs.drop k) x)) (fun _ i _ => n1 - (intOf i).toNat)
  case atStart => exact ⟨0, 0, Nat.zero_le _, rfl, rfl, C0.out.1, C0.out.2, Lib.hid EQ.out⟩
  case round =>
    obtain ⟨k, x, hk, rfl, rfl, hbw, hbx, KEY⟩ := hrel
    have TT := Lib.hid (And.intro hbw hbx)
    clear hbw hbx
    by_cases hlt : k < n1
    · obtain ⟨c, hcr⟩ : ∃ c, L.curs[k]? = some c := ⟨_, List.getElem?_eq_getElem (by have := L1.out; omega)⟩
      have row : RowOf wr 2 Cur.cells (.slice a1 n1 c1) L.curs := by have := (HL.out.below TT.out.1).curs; rw [EV.out.1] at this; exact this
      obtain ⟨qb, qo, ea1, hbl, hc⟩ := row.at_ hcr
      have COK := Lib.hid (HG.out.things.curs k c hcr)
      have u0 := hc 0 (.int .i64 c.rate) rfl
      have u1 := hc 1 (.int .i64 c.hair) rfl
      rw [Nat.add_zero] at u0
      have DK := Lib.hid (drop_cons hcr)
      have LT := Lib.hid hlt
      have HK := Lib.hid (show k < L.curs.length from by have := L1.out; omega)
      have hlt' : (k : Int) < (n1 : Int) := by omega
      have k0 : (0 : Int) ≤ (k : Int) := by omega
      subst ea1
      clear row hc hcr hbl hlt
      obtain ⟨W1, hW1⟩ : ∃ W1, W1 = wr.alloc (.cells #[.int .i64 c.rate, .int .i64 c.hair] 69) := ⟨_, rfl⟩
      have TB := Lib.hid (show Below w.heap.size w W1 ∧ BoxAt W1 hb #[.int .i64 L.day, .slice (some ⟨qb, qo, none⟩) n1 c1, .slice a2 n2 c2, .slice a3 n3 c3, .slice a4 n4 c4, .slice a5 n5 c5, .slice a6 n6 c6, .slice a7 n7 c7, .slice a8 n8 c8] ∧ BoxAt W1 wr.heap.size #[.int .i64 c.rate, .int .i64 c.hair] from by
        rw [hW1]
        have b := (Below.refl wr.heap.size wr).alloc (Nat.le_refl _) (.cells #[.int .i64 c.rate, .int .i64 c.hair] 69)
        exact ⟨TT.out.1.trans (b.mono TT.out.1.size), TT.out.2.below b, BoxAt.new _ _ _⟩)
      obtain ⟨wo, rfl⟩ : ∃ wo, wo = wr := ⟨_, rfl⟩
      go_upto_region 5 with (fail)
      rw [← hW1]
      obtain ⟨h8, hh8⟩ : ∃ h8, h8 = wo.heap.size := ⟨_, rfl⟩
      rw [← hh8] at TB ⊢
      clear hW1 hh8 u0 u1
      have y4 := TB.out.2.1.at_ 4 _ rfl
      go_wp2_with fail
      clear y4
      go_loopw [9, 25] (fun cv i wr => ∃ (n : Nat) (y : Int), n ≤ n4 ∧ i = .int .i64 n ∧ cv = .int .i64 y ∧ Below w.heap.size w wr ∧ BoxAt wr hb #[.int .i64 L.day, .slice (some ⟨qb, qo, none⟩) n1 c1, .slice a2 n2 c2, .slice a3 n3 c3, .slice a4 n4 c4, .slice a5 n5 c5, .slice a6 n6 c6, .slice a7 n7 c7, .slice a8 n8 c8] ∧ BoxAt wr h8 #[.int .i64 c.rate, .int .i64 c.hair] ∧ Hid (fitsA y = true) ∧ Hid (cashGo k (L.under a) 0 = cashGo k (restU L a n) y)) (fun _ i _ => n4 - (intOf i).toNat)
      case atStart => exact ⟨0, 0, Nat.zero_le _, rfl, rfl, TB.out.1, TB.out.2.1, TB.out.2.2, Lib.hid (by decide), Lib.hid (by rw [restU_zero])⟩
      case round =>
        obtain ⟨n, y, hn, rfl, rfl, hb1, hb2, hb3, FY, WK⟩ := hrel
        have TI := Lib.hid (And.intro hb1 (And.intro hb2 hb3))
        clear hb1 hb2 hb3
        by_cases hl2 : n < n4
        · have hl2' : (n : Int) < (n4 : Int) := by omega
          have hvl : n < V.ac.length := by have h1 := HL.out.same; have h2 := congrArg List.length h1; rw [List.length_map] at h2; have := L4.out; omega
          obtain ⟨p, hp⟩ : ∃ p, V.ac[n]? = some p := ⟨_, List.getElem?_eq_getElem hvl⟩
          have hpl : L.accts[n]? = some p.1 := by rw [HL.out.same, List.getElem?_map, hp]; rfl
          have aok := HG.out.accounts.accts n p.1 hpl
          have rowa : RowOf wr 4 Acc.cells (.slice a4 n4 c4) V.ac := by have := (HL.out.below TI.out.1).accts; rw [EV.out.2.2.2.1] at this; exact this
          obtain ⟨ab, ao, ea4, _, hac⟩ := rowa.at_ hp
          have rowc := fun W hb => (HL.out.below (w' := W) hb).cash p (List.mem_of_getElem? hp)
          obtain ⟨a7', c7', e7⟩ := (rowc wr TI.out.1).form
          obtain ⟨z, hz⟩ : ∃ z, p.1.cash[k]? = some z := ⟨_, List.getElem?_eq_getElem (by have := aok.1; have := HK.out; omega)⟩
          have rowc' : ∀ W, Below w.heap.size w W → RowOf W 1 icell (.slice a7' p.1.cash.length c7') p.1.cash := fun W hb => by have := rowc W hb; rw [e7] at this; exact this
          obtain ⟨kb, ko, ea7, _, _⟩ := (rowc' wr TI.out.1).at_ hz
          have ZC := Lib.hid (show ∀ W, Below w.heap.size w W → W.cell? ⟨kb, ko + k, none⟩ = some (.int .i64 z) from fun W hb => by
            obtain ⟨b', o', e, _, hcc⟩ := (rowc' W hb).at_ hz
            rw [ea7] at e
            cases e
            have := hcc 0 _ rfl
            rw [Nat.add_zero, Nat.mul_one] at this
            exact this)
          have v0 := hac 0 (.int .i64 p.1.parent) rfl
          have v1 := hac 1 p.2 rfl
          have v2 := hac 2 (.bool p.1.flag) rfl
          have v3 := hac 3 (.int .i64 p.1.last) rfl
          rw [Nat.add_zero] at v0
          rw [e7] at v1
          have kl : (k : Int) < (p.1.cash.length : Int) := by have := aok.1; have := HK.out; omega
          have ZF := Lib.hid (show fitsA z = true from aok.2.2.2.2 z (List.mem_of_getElem? hz))
          have GD := Lib.hid (show p.1.cash.getD k 0 = z from by rw [List.getD_eq_getElem?_getD, hz]; rfl)
          have RS := Lib.hid (restU_step L a n hpl)
          have CN := Lib.hid (fun W hb => CNT.out W hb n hl2)
          obtain ⟨B2, hB2⟩ : ∃ B2, B2 = underL L.parents a n := ⟨_, rfl⟩
          rw [← hB2] at CN RS
          obtain ⟨KN, hKN⟩ : ∃ n, n = p.1.cash.length := ⟨_, rfl⟩
          rw [← hKN] at kl v1
          have LT2 := Lib.hid hl2
          subst ea4 ea7
          clear hB2 hvl hp hpl aok rowa hac rowc rowc' e7 hz hKN hl2 hn
          obtain ⟨W2, hW2⟩ : ∃ W2, W2 = wr.alloc (.cells #[.int .i64 p.1.parent, .slice (some ⟨kb, ko, none⟩) KN c7', .bool p.1.flag, .int .i64 p.1.last] 48) := ⟨_, rfl⟩
          have X2 := Lib.hid (show Below w.heap.size w W2 ∧ BoxAt W2 hb #[.int .i64 L.day, .slice (some ⟨qb, qo, none⟩) n1 c1, .slice a2 n2 c2, .slice a3 n3 c3, .slice (some ⟨ab, ao, none⟩) n4 c4, .slice a5 n5 c5, .slice a6 n6 c6, .slice a7 n7 c7, .slice a8 n8 c8] ∧ BoxAt W2 h8 #[.int .i64 c.rate, .int .i64 c.hair] ∧ BoxAt W2 wr.heap.size #[.int .i64 p.1.parent, .slice (some ⟨kb, ko, none⟩) KN c7', .bool p.1.flag, .int .i64 p.1.last] from by
            rw [hW2]
            have b := (Below.refl wr.heap.size wr).alloc (Nat.le_refl _) (.cells #[.int .i64 p.1.parent, .slice (some ⟨kb, ko, none⟩) KN c7', .bool p.1.flag, .int .i64 p.1.last] 48)
            exact ⟨TI.out.1.trans (b.mono TI.out.1.size), TI.out.2.1.below b, TI.out.2.2.below b, BoxAt.new _ _ _⟩)
          go_upto_region 10 with (fail)
          rw [← hW2]
          obtain ⟨h12, hh12⟩ : ∃ h12, h12 = wr.heap.size := ⟨_, rfl⟩
          rw [← hh12] at X2 ⊢
          clear hW2 hh12 v0 v1 v2 v3
          have y0 : W2.cell? ⟨hb, 0, none⟩ = some (.int .i64 L.day) := X2.out.2.1.at_ 0 _ rfl
          have y1 : W2.cell? ⟨hb, 1, none⟩ = some (.slice (some ⟨qb, qo, none⟩) n1 c1) := X2.out.2.1.at_ 1 _ rfl
          have y2 : W2.cell? ⟨hb, 2, none⟩ = some (.slice a2 n2 c2) := X2.out.2.1.at_ 2 _ rfl
          have y3 : W2.cell? ⟨hb, 3, none⟩ = some (.slice a3 n3 c3) := X2.out.2.1.at_ 3 _ rfl
          have y4 : W2.cell? ⟨hb, 4, none⟩ = some (.slice (some ⟨ab, ao, none⟩) n4 c4) := X2.out.2.1.at_ 4 _ rfl
          have y5 : W2.cell? ⟨hb, 5, none⟩ = some (.slice a5 n5 c5) := X2.out.2.1.at_ 5 _ rfl
          have y6 : W2.cell? ⟨hb, 6, none⟩ = some (.slice a6 n6 c6) := X2.out.2.1.at_ 6 _ rfl
          have y7 : W2.cell? ⟨hb, 7, none⟩ = some (.slice a7 n7 c7) := X2.out.2.1.at_ 7 _ rfl
          have y8 : W2.cell? ⟨hb, 8, none⟩ = some (.slice a8 n8 c8) := X2.out.2.1.at_ 8 _ rfl
          go_wp2_with fail
          refine (CN.out _ X2.out.1).mono ?_
          rintro e w3 ⟨rfl, hb3⟩
          have X3 := Lib.hid (show Below w.heap.size w w3 ∧ BoxAt w3 hb #[.int .i64 L.day, .slice (some ⟨qb, qo, none⟩) n1 c1, .slice a2 n2 c2, .slice a3 n3 c3, .slice (some ⟨ab, ao, none⟩) n4 c4, .slice a5 n5 c5, .slice a6 n6 c6, .slice a7 n7 c7, .slice a8 n8 c8] ∧ BoxAt w3 h8 #[.int .i64 c.rate, .int .i64 c.hair] ∧ BoxAt w3 h12 #[.int .i64 p.1.parent, .slice (some ⟨kb, ko, none⟩) KN c7', .bool p.1.flag, .int .i64 p.1.last] from ⟨X2.out.1.trans (hb3.mono X2.out.1.size), X2.out.2.1.below hb3, X2.out.2.2.1.below hb3, X2.out.2.2.2.below hb3⟩)
          clear hb3 y0 y1 y2 y3 y4 y5 y6 y7 y8
          cases B2
          · go_wp2_with fail
            go_roundw
            case rel => exact ⟨n + 1, y, by have := LT2.out; omega, by go_num, rfl, X3.out.1, X3.out.2.1, X3.out.2.2.1, FY, Lib.hid (by rw [WK.out, RS.out]; rfl)⟩
            case measure => have := LT2.out; simp [intOf]; omega
          have AC := Lib.hid (fun W => radd_any y z W)
          have AE := Lib.hid (addA_er y z)
          have AO := Lib.hid (show addO y (p.1.cash.getD k 0) = optA (addA y z) from by rw [GD.out]; rfl)
          obtain ⟨AR, hAR⟩ : ∃ r, r = addA y z := ⟨_, rfl⟩
          rw [← hAR] at AC AE AO
          have g1 : w3.cell? ⟨h12, 1, none⟩ = some (.slice (some ⟨kb, ko, none⟩) KN c7') := X3.out.2.2.2.at_ 1 _ rfl
          have gz := ZC.out w3 X3.out.1
          clear hAR
          go_wp2_with fail
          refine (AC.out _).mono ?_
          rintro e w' ⟨rfl, rfl⟩
          clear g1 gz
          rcases Or.symm AE.out with hy | ⟨hy, hf⟩
          · have HY := Lib.hid (show addO y (p.1.cash.getD k 0) = none from by rw [AO.out, hy]; rfl)
            subst hy
            go_wp2_with fail
            go_ret2
            exact ⟨by rw [KEY.out, DK.out, haveGo_gone (by rw [WK.out, RS.out, if_pos trivial]; exact cashGo_over HY.out)]; rfl, X3.out.1⟩
          have HY := Lib.hid (show addO y (p.1.cash.getD k 0) = some AR.1 from by rw [AO.out]; unfold optA; rw [if_pos hy])
          have hy' : (AR.2 != 0) = false := by rw [bne_eq_false_iff_eq]; exact hy
          have FA := Lib.hid hf
          clear hy hf
          go_wp2_with fail
          go_roundw
          case rel => exact ⟨n + 1, AR.1, by have := LT2.out; omega, by go_num, rfl, X3.out.1, X3.out.2.1, X3.out.2.2.1, FA, Lib.hid (by rw [WK.out, RS.out, if_pos trivial]; exact cashGo_next HY.out)⟩
          case measure => have := LT2.out; simp [intOf]; omega
        · have hl2' : ¬ (n : Int) < (n4 : Int) := by omega
          have CG := Lib.hid (show cashGo k (L.under a) 0 = some y from by rw [WK.out, restU_end L a (by have := L4.out; omega)]; rfl)
          have WC := Lib.hid (fun W => rworth_any c k COK.out y (I64.of_fits FY.out) W)
          have WE := Lib.hid (worthA_er c y)
          have WO := Lib.hid (worthA_opt c y)
          obtain ⟨WR, hWR⟩ : ∃ r, r = worthA c y := ⟨_, rfl⟩
          rw [← hWR] at WC WE WO
          have f0 : wr.cell? ⟨h8, 0, none⟩ = some (.int .i64 c.rate) := TI.out.2.2.at_ 0 _ rfl
          have f1 : wr.cell? ⟨h8, 1, none⟩ = some (.int .i64 c.hair) := TI.out.2.2.at_ 1 _ rfl
          clear hWR hl2 hn
          go_wp2_with fail
          refine (WC.out _).mono ?_
          rintro e w4 ⟨rfl, hb4⟩
          have X4 := Lib.hid (show Below w.heap.size w w4 ∧ BoxAt w4 hb #[.int .i64 L.day, .slice (some ⟨qb, qo, none⟩) n1 c1, .slice a2 n2 c2, .slice a3 n3 c3, .slice a4 n4 c4, .slice a5 n5 c5, .slice a6 n6 c6, .slice a7 n7 c7, .slice a8 n8 c8] from ⟨TI.out.1.trans (hb4.mono TI.out.1.size), TI.out.2.1.below hb4⟩)
          clear hb4 f0 f1
          rcases Or.symm WE.out with hz | ⟨hz, hf⟩
          · have HZ := Lib.hid (show worthO c y = none from by rw [WO.out, hz]; rfl)
            subst hz
            go_wp2_with fail
            go_ret2
            exact ⟨by rw [KEY.out, DK.out, haveGo_dear CG.out HZ.out]; rfl, X4.out.1⟩
          have HZ := Lib.hid (show worthO c y = some WR.1 from by rw [WO.out]; unfold optA; rw [if_pos hz])
          have hz' : (WR.2 != 0) = false := by rw [bne_eq_false_iff_eq]; exact hz
          have AC := Lib.hid (fun W => radd_any x WR.1 W)
          have AE := Lib.hid (addA_er x WR.1)
          have AO := Lib.hid (show addO x WR.1 = optA (addA x WR.1) from rfl)
          obtain ⟨AR, hAR⟩ : ∃ r, r = addA x WR.1 := ⟨_, rfl⟩
          rw [← hAR] at AC AE AO
          clear hAR hz hf
          go_wp2_with fail
          refine (AC.out _).mono ?_
          rintro e w' ⟨rfl, rfl⟩
          rcases Or.symm AE.out with hy | ⟨hy, hf⟩
          · have HY := Lib.hid (show addO x WR.1 = none from by rw [AO.out, hy]; rfl)
            subst hy
            go_wp2_with fail
            go_ret2
            exact ⟨by rw [KEY.out, DK.out, haveGo_over CG.out HZ.out HY.out]; rfl, X4.out.1⟩
          have HY := Lib.hid (show addO x WR.1 = some AR.1 from by rw [AO.out]; unfold optA; rw [if_pos hy])
          have hy' : (AR.2 != 0) = false := by rw [bne_eq_false_iff_eq]; exact hy
          clear hy hf
          go_wp2_with fail
          go_roundw
          case rel => exact ⟨k + 1, AR.1, by have := LT.out; omega, by go_num, rfl, X4.out.1, X4.out.2, Lib.hid (by rw [KEY.out, DK.out, haveGo_next CG.out HZ.out HY.out])⟩
          case measure => have := LT.out; simp [intOf]; omega
    · have hlt' : ¬ (k : Int) < (n1 : Int) := by omega
      go_wp2_with fail
      go_ret2
      exact ⟨by rw [KEY.out, List.drop_of_length_le (by have := L1.out; omega)]; rfl, TT.out.1⟩
set_option maxRecDepth 100000 in
set_option maxHeartbeats 4000000 in
theorem rexcess_any (w : World) (V : LedV) (L : Led) (h : LedAt w V L) (hg : L.Good) (a : Nat) :
    Calls Tryz.prog 19 #[V.val L, .int .i64 (a : Int)] w fun e w' => e = .returned (.tuple #[.int .i64 (retA (excessO L a)).1, .int .i64 (retA (excessO L a)).2]) ∧ Below w.heap.size w w' := by
  obtain ⟨R, hR⟩ : ∃ R, R = excessO L a := ⟨_, rfl⟩
  have EQ := Lib.hid hR
  rw [← hR]
  have NH := Lib.hid (And.intro (fun W (hb : Below w.heap.size w W) => rneed_any W V L (h.below hb) hg a) (fun W (hb : Below w.heap.size w W) => rhave_any W V L (h.below hb) hg a))
  obtain ⟨a1, c1, a2, c2, a3, c3, a4, c4, a5, c5, a6, c6, a7, c7, a8, c8, e1, e2, e3, e4, e5, e6, e7, e8⟩ := LedAt.opened h
  have EV := Lib.hid (And.intro e1 (And.intro e2 (And.intro e3 (And.intro e4 (And.intro e5 (And.intro e6 (And.intro e7 e8)))))))
  unfold LedV.val LedV.cells at NH ⊢
  rw [e1, e2, e3, e4, e5, e6, e7, e8] at NH ⊢
  obtain ⟨n1, hn1⟩ : ∃ n, n = L.curs.length := ⟨_, rfl⟩
  obtain ⟨n2, hn2⟩ : ∃ n, n = L.unders.length := ⟨_, rfl⟩
  obtain ⟨n3, hn3⟩ : ∃ n, n = L.instrs.length := ⟨_, rfl⟩
  obtain ⟨n4, hn4⟩ : ∃ n, n = L.accts.length := ⟨_, rfl⟩
  obtain ⟨n5, hn5⟩ : ∃ n, n = L.poss.length := ⟨_, rfl⟩
  obtain ⟨n6, hn6⟩ : ∃ n, n = L.orders.length := ⟨_, rfl⟩
  obtain ⟨n7, hn7⟩ : ∃ n, n = L.avail.length := ⟨_, rfl⟩
  obtain ⟨n8, hn8⟩ : ∃ n, n = L.locs.length := ⟨_, rfl⟩
  have m1 : n1 ≤ 4 := by have := hg.things.c1; omega
  have m2 : n2 ≤ 6 := by have := hg.things.u1; omega
  have m4 : n4 ≤ 16 := by have := hg.accounts.tree.hi; simp only [List.length_map] at this; omega
  have L1 := Lib.hid hn1
  have L2 := Lib.hid hn2
  have L4 := Lib.hid hn4
  rw [← hn1, ← hn2, ← hn3, ← hn4, ← hn5, ← hn6, ← hn7, ← hn8] at NH EV ⊢
  have B0 := Lib.hid (show Below w.heap.size w (w.alloc (.cells #[.int .i64 L.day, .slice a1 n1 c1, .slice a2 n2 c2, .slice a3 n3 c3, .slice a4 n4 c4, .slice a5 n5 c5, .slice a6 n6 c6, .slice a7 n7 c7, .slice a8 n8 c8] 31)) ∧ BoxAt (w.alloc (.cells #[.int .i64 L.day, .slice a1 n1 c1, .slice a2 n2 c2, .slice a3 n3 c3, .slice a4 n4 c4, .slice a5 n5 c5, .slice a6 n6 c6, .slice a7 n7 c7, .slice a8 n8 c8] 31)) w.heap.size #[.int .i64 L.day, .slice a1 n1 c1, .slice a2 n2 c2, .slice a3 n3 c3, .slice a4 n4 c4, .slice a5 n5 c5, .slice a6 n6 c6, .slice a7 n7 c7, .slice a8 n8 c8] from ⟨(Below.refl _ _).alloc (Nat.le_refl _) _, BoxAt.new _ _ _⟩)
  clear h hg hR e1 e2 e3 e4 e5 e6 e7 e8 hn1 hn2 hn3 hn4 hn5 hn6 hn7 hn8
  go_enter Tryz.func19, Tryz.ntmps19
  go_upto_region 1 with (fail)
  obtain ⟨W0, hW0⟩ : ∃ W0, W0 = w.alloc (.cells #[.int .i64 L.day, .slice a1 n1 c1, .slice a2 n2 c2, .slice a3 n3 c3, .slice a4 n4 c4, .slice a5 n5 c5, .slice a6 n6 c6, .slice a7 n7 c7, .slice a8 n8 c8] 31) := ⟨_, rfl⟩
  rw [← hW0] at B0 ⊢
  obtain ⟨hb, hhb⟩ : ∃ n, n = w.heap.size := ⟨_, rfl⟩
  have C0 := Lib.hid (show Below w.heap.size w W0 ∧ BoxAt W0 hb #[.int .i64 L.day, .slice a1 n1 c1, .slice a2 n2 c2, .slice a3 n3 c3, .slice a4 n4 c4, .slice a5 n5 c5, .slice a6 n6 c6, .slice a7 n7 c7, .slice a8 n8 c8] from ⟨B0.out.1, by rw [hhb]; exact B0.out.2⟩)
  rw [← hhb]
  clear hW0 hhb B0
  have y0 : W0.cell? ⟨hb, 0, none⟩ = some (.int .i64 L.day) := C0.out.2.at_ 0 _ rfl
  have y1 : W0.cell? ⟨hb, 1, none⟩ = some (.slice a1 n1 c1) := C0.out.2.at_ 1 _ rfl
  have y2 : W0.cell? ⟨hb, 2, none⟩ = some (.slice a2 n2 c2) := C0.out.2.at_ 2 _ rfl
  have y3 : W0.cell? ⟨hb, 3, none⟩ = some (.slice a3 n3 c3) := C0.out.2.at_ 3 _ rfl
  have y4 : W0.cell? ⟨hb, 4, none⟩ = some (.slice a4 n4 c4) := C0.out.2.at_ 4 _ rfl
  have y5 : W0.cell? ⟨hb, 5, none⟩ = some (.slice a5 n5 c5) := C0.out.2.at_ 5 _ rfl
  have y6 : W0.cell? ⟨hb, 6, none⟩ = some (.slice a6 n6 c6) := C0.out.2.at_ 6 _ rfl
  have y7 : W0.cell? ⟨hb, 7, none⟩ = some (.slice a7 n7 c7) := C0.out.2.at_ 7 _ rfl
  have y8 : W0.cell? ⟨hb, 8, none⟩ = some (.slice a8 n8 c8) := C0.out.2.at_ 8 _ rfl
  go_wp2_with fail
  refine (NH.out.2 _ C0.out.1).mono ?_
  rintro e w1 ⟨rfl, hb1⟩
  have X1 := Lib.hid (show Below w.heap.size w w1 ∧ BoxAt w1 hb #[.int .i64 L.day, .slice a1 n1 c1, .slice a2 n2 c2, .slice a3 n3 c3, .slice a4 n4 c4, .slice a5 n5 c5, .slice a6 n6 c6, .slice a7 n7 c7, .slice a8 n8 c8] from ⟨C0.out.1.trans (hb1.mono C0.out.1.size), C0.out.2.below hb1⟩)
  clear hb1 y0 y1 y2 y3 y4 y5 y6 y7 y8
  cases hho : haveO L a with
  | none =>
    have HN := Lib.hid hho
    clear hho
    simp only [retA]
    go_wp2_with fail
    go_ret2
    exact ⟨by rw [EQ.out]; unfold excessO; rw [HN.out]; rfl, X1.out.1⟩
  | some x =>
    have HN := Lib.hid hho
    clear hho
    simp only [retA]
    have y0 : w1.cell? ⟨hb, 0, none⟩ = some (.int .i64 L.day) := X1.out.2.at_ 0 _ rfl
    have y1 : w1.cell? ⟨hb, 1, none⟩ = some (.slice a1 n1 c1) := X1.out.2.at_ 1 _ rfl
    have y2 : w1.cell? ⟨hb, 2, none⟩ = some (.slice a2 n2 c2) := X1.out.2.at_ 2 _ rfl
    have y3 : w1.cell? ⟨hb, 3, none⟩ = some (.slice a3 n3 c3) := X1.out.2.at_ 3 _ rfl
    have y4 : w1.cell? ⟨hb, 4, none⟩ = some (.slice a4 n4 c4) := X1.out.2.at_ 4 _ rfl
    have y5 : w1.cell? ⟨hb, 5, none⟩ = some (.slice a5 n5 c5) := X1.out.2.at_ 5 _ rfl
    have y6 : w1.cell? ⟨hb, 6, none⟩ = some (.slice a6 n6 c6) := X1.out.2.at_ 6 _ rfl
    have y7 : w1.cell? ⟨hb, 7, none⟩ = some (.slice a7 n7 c7) := X1.out.2.at_ 7 _ rfl
    have y8 : w1.cell? ⟨hb, 8, none⟩ = some (.slice a8 n8 c8) := X1.out.2.at_ 8 _ rfl
    go_wp2_with fail
    refine (NH.out.1 _ X1.out.1).mono ?_
    rintro e w2 ⟨rfl, hb2⟩
    have X2 := Lib.hid (show Below w.heap.size w w2 from X1.out.1.trans (hb2.mono X1.out.1.size))
    clear hb2 y0 y1 y2 y3 y4 y5 y6 y7 y8
    cases hno : needO L a with
    | none =>
      have HM := Lib.hid hno
      clear hno
      simp only [retA]
      go_wp2_with fail
      go_ret2
      have EN := Lib.hid (show R = none from by rw [EQ.out]; unfold excessO; rw [HN.out]; show (needO L a).bind _ = none; rw [HM.out]; rfl)
      exact ⟨by rw [EN.out]; rfl, X2.out⟩
    | some y =>
      have HM := Lib.hid hno
      clear hno
      simp only [retA]
      have FS := Lib.hid (fun W => rsub_any x y W)
      have SO := Lib.hid (show retA R = subA x y from by
        rw [EQ.out]; unfold excessO; rw [HN.out]
        show retA ((needO L a).bind fun n => subO x n) = _
        rw [HM.out]
        exact retA_opt (subA_er x y))
      obtain ⟨SR, hSR⟩ : ∃ r, r = subA x y := ⟨_, rfl⟩
      rw [← hSR] at FS SO
      clear hSR
      go_wp2_with fail
      refine (FS.out _).mono ?_
      rintro e w' ⟨rfl, rfl⟩
      go_wp2_with fail
      go_ret2
      exact ⟨by rw [SO.out]; rfl, X2.out⟩
end Go.Proofs.YtcjbhgnlmmeeeaaGreatDoor

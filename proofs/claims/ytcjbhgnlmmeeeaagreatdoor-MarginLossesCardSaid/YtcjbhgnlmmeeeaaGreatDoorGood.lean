/- ledger.Good, walked (printed by tools/gen_good.py). -/
import Derived.Test.YtcjbhgnlmmeeeaaGreatDoorAccts
import Derived.Test.YtcjbhgnlmmeeeaaGreatDoorLoc
namespace Go.Proofs.YtcjbhgnlmmeeeaaGreatDoor
open Go.RowKit Go.Bw Go.Maps Go.Shelf
set_option linter.unusedVariables false
set_option linter.unusedSimpArgs false

/-- An order's number is beyond its account's last. -/
def lateB (asl : List (Acc × Value)) (o : Ord) : Bool := match asl[o.acct.toNat]? with | some x => decide (x.1.last < o.id) | none => false
open Classical in
set_option maxRecDepth 100000 in
set_option maxHeartbeats 4000000 in
theorem good_any (w : World) (V : LedV) (L : Led) (h : LedAt w V L) (hL : L.accts.length ≤ 1024) :
    Calls Tryz.prog 22 #[V.val L] w fun e w' => e = .returned (.bool (decide L.Good)) ∧ Below w.heap.size w w' := by
  have HL := Lib.hid h
  obtain ⟨a1, c1', a2, c2', a3, c3', a4, c4', a5, c5', a6, c6', a7, c7', a8, c8', asl, hV⟩ := h.forms
  have TH := Lib.hid (fun W (hb : Below w.heap.size w W) => things_any W V L (h.below hb))
  have AC := Lib.hid (fun W (hb : Below w.heap.size w W) => accounts_any W V L (h.below hb) hL)
  have SM := Lib.hid h.same
  rw [hV] at TH AC SM h ⊢
  simp only [LedV.val, LedV.cells] at TH AC SM ⊢
  have HA := Lib.hid (show RowOf w 4 Acc.cells (.slice a4 asl.length c4') asl from h.accts)
  have HP := Lib.hid (show RowOf w 3 Pos.cells (.slice a5 L.poss.length c5') L.poss from h.poss)
  have HO := Lib.hid (show RowOf w 5 Ord.cells (.slice a6 L.orders.length c6') L.orders from h.orders)
  have HV := Lib.hid (show RowOf w 1 icell (.slice a7 L.avail.length c7') L.avail from h.avail)
  have HK := Lib.hid (show RowOf w 3 Pos.cells (.slice a8 L.locs.length c8') L.locs from h.locs)
  have AL := Lib.hid (show L.accts.length = asl.length from by have := SM.out; rw [this, List.length_map])
  obtain ⟨R, hRr⟩ : ∃ R, R = decide L.Good := ⟨_, rfl⟩
  rw [← hRr]
  have EQ := Lib.hid hRr
  have BAD := Lib.hid (show ¬ L.Good → R = false from fun hn => hRr.trans (decide_eq_false hn))
  obtain ⟨C, hC⟩ : ∃ X, X = L.curs.length := ⟨_, rfl⟩
  obtain ⟨U, hU⟩ : ∃ X, X = L.unders.length := ⟨_, rfl⟩
  obtain ⟨I, hI⟩ : ∃ X, X = L.instrs.length := ⟨_, rfl⟩
  obtain ⟨N, hN⟩ : ∃ X, X = asl.length := ⟨_, rfl⟩
  obtain ⟨PN, hPN⟩ : ∃ X, X = L.poss.length := ⟨_, rfl⟩
  obtain ⟨ON, hON⟩ : ∃ X, X = L.orders.length := ⟨_, rfl⟩
  obtain ⟨VN, hVN⟩ : ∃ X, X = L.avail.length := ⟨_, rfl⟩
  obtain ⟨KN, hKN⟩ : ∃ X, X = L.locs.length := ⟨_, rfl⟩
  rw [← hN] at AL HA
  rw [← hPN] at HP
  rw [← hON] at HO
  rw [← hVN] at HV
  rw [← hKN] at HK
  rw [← hC, ← hU, ← hI, ← hN, ← hPN, ← hON, ← hVN, ← hKN] at TH AC ⊢
  have LI := Lib.hid hI
  have LN := Lib.hid hN
  have LP := Lib.hid hPN
  have LO := Lib.hid hON
  obtain ⟨CS, hCS⟩ : ∃ CS : Array Value, CS = #[.int .i64 L.day, .slice a1 C c1', .slice a2 U c2', .slice a3 I c3', .slice a4 N c4', .slice a5 PN c5', .slice a6 ON c6', .slice a7 VN c7', .slice a8 KN c8'] := ⟨_, rfl⟩
  have BX := Lib.hid (show ∃ W, W = w.alloc (.cells #[.int .i64 L.day, .slice a1 C c1', .slice a2 U c2', .slice a3 I c3', .slice a4 N c4', .slice a5 PN c5', .slice a6 ON c6', .slice a7 VN c7', .slice a8 KN c8'] 31) ∧ Below w.heap.size w W ∧ BoxAt W w.heap.size CS from
    ⟨_, rfl, (Below.refl _ _).alloc (Nat.le_refl _) _, by rw [hCS]; exact BoxAt.new w _ _⟩)
  have ECS := Lib.hid hCS
  clear h hL hRr hC hU hI hN hPN hON hVN hKN hCS hV HL
  by_cases g1 : L.day < 0
  · have FL := Lib.hid (BAD.out (fun h => by have := h.d0; omega))
    go_enter Tryz.func22, Tryz.ntmps22
    go_wp2_with fail
    go_ret
    exact ⟨ret_bool FL.out.symm, (Below.refl _ _).alloc (Nat.le_refl _) _⟩
  by_cases g2 : 100000 < L.day
  · have FL := Lib.hid (BAD.out (fun h => by have := h.d1; omega))
    go_enter Tryz.func22, Tryz.ntmps22
    go_wp2_with fail
    go_ret
    exact ⟨ret_bool FL.out.symm, (Below.refl _ _).alloc (Nat.le_refl _) _⟩
  have DAY := Lib.hid (show 0 ≤ L.day ∧ L.day ≤ 100000 from by omega)
  go_enter Tryz.func22, Tryz.ntmps22
  go_wp2_with fail
  obtain ⟨W, hW, hb, hbx⟩ := BX.out
  rw [← hW]
  have BW := Lib.hid hb
  have XW := Lib.hid hbx
  clear hW hb hbx BX
  have K1 := Lib.hid (TH.out W BW.out)
  by_cases q1 : ThingsOk L
  case neg =>
    have FL := Lib.hid (BAD.out (fun h => q1 h.things))
    rw [decide_eq_false q1] at K1
    clear q1
    refine K1.out.mono ?_
    rintro e w' ⟨rfl, hb⟩
    have B := Lib.hid (BW.out.trans (hb.mono BW.out.size))
    clear hb
    go_wp2_with fail
    go_ret
    exact ⟨ret_bool FL.out.symm, B.out⟩
  have Y1 := Lib.hid q1
  rw [decide_eq_true q1] at K1
  clear q1
  refine K1.out.mono ?_
  rintro e w1 ⟨rfl, hb⟩
  have B1 := Lib.hid (BW.out.trans (hb.mono BW.out.size))
  have X1 := Lib.hid (XW.out.below hb)
  clear hb
  have m0 : w1.cell? ⟨w.heap.size, 0, none⟩ = some (.int .i64 L.day) := X1.out.at_ 0 _ (by rw [ECS.out]; rfl)
  have m1 : w1.cell? ⟨w.heap.size, 1, none⟩ = some (.slice a1 C c1') := X1.out.at_ 1 _ (by rw [ECS.out]; rfl)
  have m2 : w1.cell? ⟨w.heap.size, 2, none⟩ = some (.slice a2 U c2') := X1.out.at_ 2 _ (by rw [ECS.out]; rfl)
  have m3 : w1.cell? ⟨w.heap.size, 3, none⟩ = some (.slice a3 I c3') := X1.out.at_ 3 _ (by rw [ECS.out]; rfl)
  have m4 : w1.cell? ⟨w.heap.size, 4, none⟩ = some (.slice a4 N c4') := X1.out.at_ 4 _ (by rw [ECS.out]; rfl)
  have m5 : w1.cell? ⟨w.heap.size, 5, none⟩ = some (.slice a5 PN c5') := X1.out.at_ 5 _ (by rw [ECS.out]; rfl)
  have m6 : w1.cell? ⟨w.heap.size, 6, none⟩ = some (.slice a6 ON c6') := X1.out.at_ 6 _ (by rw [ECS.out]; rfl)
  have m7 : w1.cell? ⟨w.heap.size, 7, none⟩ = some (.slice a7 VN c7') := X1.out.at_ 7 _ (by rw [ECS.out]; rfl)
  have m8 : w1.cell? ⟨w.heap.size, 8, none⟩ = some (.slice a8 KN c8') := X1.out.at_ 8 _ (by rw [ECS.out]; rfl)
  go_wp2_with fail
  have K2 := Lib.hid (AC.out w1 B1.out)
  by_cases q2 : AccountsOk L
  case neg =>
    have FL := Lib.hid (BAD.out (fun h => q2 h.accounts))
    rw [decide_eq_false q2] at K2
    clear q2
    refine K2.out.mono ?_
    rintro e w' ⟨rfl, hb⟩
    have B := Lib.hid (B1.out.trans (hb.mono B1.out.size))
    clear hb
    go_wp2_with fail
    go_ret
    exact ⟨ret_bool FL.out.symm, B.out⟩
  have Y2 := Lib.hid q2
  rw [decide_eq_true q2] at K2
  clear q2
  refine K2.out.mono ?_
  rintro e w2 ⟨rfl, hb⟩
  have B2 := Lib.hid (B1.out.trans (hb.mono B1.out.size))
  have X2 := Lib.hid (X1.out.below hb)
  clear hb
  clear m0 m1 m2 m3 m4 m5 m6 m7 m8
  have n16 : (N : Int) ≤ 16 := by have := Y2.out.tree.hi; rw [List.length_map] at this; have := AL.out; omega
  have i12 : (I : Int) ≤ 12 := by have := Y1.out.i1; have := LI.out; omega
  have m0 : w2.cell? ⟨w.heap.size, 0, none⟩ = some (.int .i64 L.day) := X2.out.at_ 0 _ (by rw [ECS.out]; rfl)
  have m1 : w2.cell? ⟨w.heap.size, 1, none⟩ = some (.slice a1 C c1') := X2.out.at_ 1 _ (by rw [ECS.out]; rfl)
  have m2 : w2.cell? ⟨w.heap.size, 2, none⟩ = some (.slice a2 U c2') := X2.out.at_ 2 _ (by rw [ECS.out]; rfl)
  have m3 : w2.cell? ⟨w.heap.size, 3, none⟩ = some (.slice a3 I c3') := X2.out.at_ 3 _ (by rw [ECS.out]; rfl)
  have m4 : w2.cell? ⟨w.heap.size, 4, none⟩ = some (.slice a4 N c4') := X2.out.at_ 4 _ (by rw [ECS.out]; rfl)
  have m5 : w2.cell? ⟨w.heap.size, 5, none⟩ = some (.slice a5 PN c5') := X2.out.at_ 5 _ (by rw [ECS.out]; rfl)
  have m6 : w2.cell? ⟨w.heap.size, 6, none⟩ = some (.slice a6 ON c6') := X2.out.at_ 6 _ (by rw [ECS.out]; rfl)
  have m7 : w2.cell? ⟨w.heap.size, 7, none⟩ = some (.slice a7 VN c7') := X2.out.at_ 7 _ (by rw [ECS.out]; rfl)
  have m8 : w2.cell? ⟨w.heap.size, 8, none⟩ = some (.slice a8 KN c8') := X2.out.at_ 8 _ (by rw [ECS.out]; rfl)
  go_wp2_with fail
  clear m0 m1 m2 m3 m4 m5 m6 m7 m8
  have z4 := Lib.hid (show ∀ z : Cls (Below w2.heap.size w2), z.w.cell? ⟨w.heap.size, 4, none⟩ = some (.slice a4 N c4') from fun z => (X2.out.below z.ok).at_ 4 _ (by rw [ECS.out]; rfl))
  have z3 := Lib.hid (show ∀ z : Cls (Below w2.heap.size w2), z.w.cell? ⟨w.heap.size, 3, none⟩ = some (.slice a3 I c3') from fun z => (X2.out.below z.ok).at_ 3 _ (by rw [ECS.out]; rfl))
  refine wp_region_cls (C := Below w2.heap.size w2) (by kernel_rfl) (by kernel_rfl) ⟨rfl, rfl, rfl, Nat.le_refl _, fun _ _ => rfl⟩ (fun _ => ?_)
  have gz3 := z3.out
  have gz4 := z4.out
  repeat (go_big_quiet_step (fail))
  refine wpQuiet_nil ?_
  intro w3 hC
  have B3 := Lib.hid (B2.out.trans (hC.mono B2.out.size))
  have X3 := Lib.hid (X2.out.below hC)
  clear gz3 gz4 z3 z4 hC
  have m5 : w3.cell? ⟨w.heap.size, 5, none⟩ = some (.slice a5 PN c5') := X3.out.at_ 5 _ (by rw [ECS.out]; rfl)
  go_wp2_with fail
  clear m5
  have K4 := Lib.hid (poss_any w3 _ L.poss N I (HP.out.below B3.out))
  by_cases q4 : PossOk L.poss N I
  case neg =>
    have FL := Lib.hid (BAD.out (fun h => q4 (by have := h.poss; rw [AL.out, ← LI.out] at this; exact this)))
    rw [decide_eq_false q4] at K4
    clear q4
    refine K4.out.mono ?_
    rintro e w' ⟨rfl, hb⟩
    have B := Lib.hid (B3.out.trans (hb.mono B3.out.size))
    clear hb
    go_wp2_with fail
    go_ret
    exact ⟨ret_bool FL.out.symm, B.out⟩
  have Y4 := Lib.hid q4
  rw [decide_eq_true q4] at K4
  clear q4
  refine K4.out.mono ?_
  rintro e w4 ⟨rfl, hb⟩
  have B4 := Lib.hid (B3.out.trans (hb.mono B3.out.size))
  have X4 := Lib.hid (X3.out.below hb)
  clear hb
  have m6 : w4.cell? ⟨w.heap.size, 6, none⟩ = some (.slice a6 ON c6') := X4.out.at_ 6 _ (by rw [ECS.out]; rfl)
  go_wp2_with fail
  clear m6
  have K5 := Lib.hid (orders_any w4 _ L.orders N I (HO.out.below B4.out))
  by_cases q5 : OrdersOk L.orders N I
  case neg =>
    have FL := Lib.hid (BAD.out (fun h => q5 (by have := h.orders; rw [AL.out, ← LI.out] at this; exact this)))
    rw [decide_eq_false q5] at K5
    clear q5
    refine K5.out.mono ?_
    rintro e w' ⟨rfl, hb⟩
    have B := Lib.hid (B4.out.trans (hb.mono B4.out.size))
    clear hb
    go_wp2_with fail
    go_ret
    exact ⟨ret_bool FL.out.symm, B.out⟩
  have Y5 := Lib.hid q5
  rw [decide_eq_true q5] at K5
  clear q5
  refine K5.out.mono ?_
  rintro e w5 ⟨rfl, hb⟩
  have B5 := Lib.hid (B4.out.trans (hb.mono B4.out.size))
  have X5 := Lib.hid (X4.out.below hb)
  clear hb
  have m7 : w5.cell? ⟨w.heap.size, 7, none⟩ = some (.slice a7 VN c7') := X5.out.at_ 7 _ (by rw [ECS.out]; rfl)
  have m8 : w5.cell? ⟨w.heap.size, 8, none⟩ = some (.slice a8 KN c8') := X5.out.at_ 8 _ (by rw [ECS.out]; rfl)
  go_wp2_with fail
  clear m7 m8
  have K6 := Lib.hid (locate_any w5 _ _ L.avail L.locs N I (HV.out.below B5.out) (HK.out.below B5.out))
  by_cases q6 : LocsOk L.avail L.locs N I
  case neg =>
    have FL := Lib.hid (BAD.out (fun h => q6 (by have := h.locs; rw [AL.out, ← LI.out] at this; exact this)))
    rw [decide_eq_false q6] at K6
    clear q6
    refine K6.out.mono ?_
    rintro e w' ⟨rfl, hb⟩
    have B := Lib.hid (B5.out.trans (hb.mono B5.out.size))
    clear hb
    go_wp2_with fail
    go_ret
    exact ⟨ret_bool FL.out.symm, B.out⟩
  have Y6 := Lib.hid q6
  rw [decide_eq_true q6] at K6
  clear q6
  refine K6.out.mono ?_
  rintro e w6 ⟨rfl, hb⟩
  have B6 := Lib.hid (B5.out.trans (hb.mono B5.out.size))
  have X6 := Lib.hid (X5.out.below hb)
  clear hb
  have m6 : w6.cell? ⟨w.heap.size, 6, none⟩ = some (.slice a6 ON c6') := X6.out.at_ 6 _ (by rw [ECS.out]; rfl)
  have CF := Lib.hid (containsFunc_order w6 _ L.orders 59 #[.pointer (some ⟨w.heap.size, 0, none⟩)] (lateB asl) (enters_of Tryz.func59 (by kernel_rfl) rfl) (HO.out.below B6.out) (fun W' o hb' ho => by
    have hok := Y5.out.all o ho
    have hlt : o.acct.toNat < asl.length := by have := hok.2.1; have := hok.1; have := LN.out; omega
    have hx : asl[o.acct.toNat]? = some asl[o.acct.toNat] := List.getElem?_eq_getElem hlt
    have e : lateB asl o = decide ((asl[o.acct.toNat]).1.last < o.id) := by unfold lateB; rw [hx]
    rw [e]
    exact good1_any W' o asl _ w.heap.size a4 c4' (by rw [← LN.out]; exact (X6.out.below hb').at_ 4 _ (by rw [ECS.out]; rfl)) (by rw [← LN.out]; exact (HA.out.below B6.out).below hb') (by have := hok.1; omega) hx))
  cases ha : (L.orders.any (lateB asl)) with
  | true =>
    rw [ha] at CF
    have FL := Lib.hid (BAD.out (fun h => by
      obtain ⟨o, ho, hp⟩ := List.any_eq_true.1 ha
      unfold lateB at hp
      cases hz : asl[o.acct.toNat]? with
      | none => rw [hz] at hp; cases hp
      | some z =>
        rw [hz] at hp
        have := h.ids o ho z.1 (by rw [SM.out, List.getElem?_map, hz]; rfl)
        have := of_decide_eq_true hp
        omega))
    clear ha
    go_wp2_with fail
    refine CF.out.mono ?_
    rintro e w7 ⟨rfl, hb⟩
    have B7 := Lib.hid (B6.out.trans (hb.mono B6.out.size))
    clear hb
    go_wp2_with fail
    go_ret
    exact ⟨ret_bool FL.out.symm, B7.out⟩
  | false =>
    rw [ha] at CF
    have FL := Lib.hid (EQ.out.trans (decide_eq_true ⟨DAY.out.1, DAY.out.2, Y1.out, Y2.out, by rw [AL.out, ← LI.out]; exact Y4.out, by rw [AL.out, ← LI.out]; exact Y5.out, by rw [AL.out, ← LI.out]; exact Y6.out, fun o ho a hacc => by
      have h1 := List.any_eq_false.1 ha o ho
      unfold lateB at h1
      rw [SM.out, List.getElem?_map] at hacc
      cases hz : asl[o.acct.toNat]? with
      | none => rw [hz] at hacc; cases hacc
      | some z =>
        rw [hz] at hacc h1
        have h2 : z.1 = a := by simpa using hacc
        rw [← h2]
        simp only [decide_eq_true_eq] at h1
        omega⟩))
    clear ha
    go_wp2_with fail
    refine CF.out.mono ?_
    rintro e w7 ⟨rfl, hb⟩
    have B7 := Lib.hid (B6.out.trans (hb.mono B6.out.size))
    clear hb
    go_wp2_with fail
    go_ret
    exact ⟨ret_bool FL.out.symm, B7.out⟩
end Go.Proofs.YtcjbhgnlmmeeeaaGreatDoor

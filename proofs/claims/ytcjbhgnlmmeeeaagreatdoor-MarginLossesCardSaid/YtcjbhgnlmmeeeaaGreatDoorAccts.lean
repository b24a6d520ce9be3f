/- ledger.accounts, walked. -/
import Derived.Test.YtcjbhgnlmmeeeaaGreatDoorThings
namespace Go.Proofs.YtcjbhgnlmmeeeaaGreatDoor
open Go.RowKit Go.Bw Go.Maps Go.Shelf
set_option linter.unusedVariables false
set_option linter.unusedSimpArgs false

open Classical in
set_option maxRecDepth 100000 in
set_option maxHeartbeats 4000000 in
theorem accounts_any (w : World) (V : LedV) (L : Led) (h : LedAt w V L) (hL : L.accts.length ≤ 1024) :
    Calls Tryz.prog 54 #[V.val L] w fun e w' => e = .returned (.bool (decide (AccountsOk L))) ∧ Below w.heap.size w w' := by
  obtain ⟨a1, c1', a2, c2', a3, c3', a4, c4', a5, c5', a6, c6', a7, c7', a8, c8', asl, rfl⟩ := h.forms
  simp only [LedV.val, LedV.cells]
  have HA := Lib.hid (show RowOf w 4 Acc.cells (.slice a4 asl.length c4') asl from h.accts)
  have HC := Lib.hid (show ∀ p ∈ asl, RowOf w 1 icell p.2 p.1.cash from h.cash)
  have SM := Lib.hid (show L.accts = asl.map (·.1) from h.same)
  have NU := Lib.hid (show ∀ p ∈ asl, ∀ x ∈ p.1.cash, I64 x from fun p hp x hx => by
    have hs : L.accts = asl.map (·.1) := h.same
    have := h.nums p.1 (by rw [hs]; exact List.mem_map_of_mem hp) x hx
    exact ⟨this.1, this.2⟩)
  have AL := Lib.hid (show asl.length ≤ 1024 from by have := SM.out; rw [this, List.length_map] at hL; exact hL)
  obtain ⟨R, hRr⟩ : ∃ R, R = decide (AccountsOk L) := ⟨_, rfl⟩
  rw [← hRr]
  have EQ := Lib.hid hRr
  obtain ⟨C, hC⟩ : ∃ C, C = L.curs.length := ⟨_, rfl⟩
  have LC := Lib.hid hC
  obtain ⟨N, hN⟩ : ∃ N, N = asl.length := ⟨_, rfl⟩
  have LN := Lib.hid hN
  rw [← hC, ← hN]
  rw [← hN] at HA
  have capN : (N : Int) ≤ 1024 := by have := AL.out; omega
  obtain ⟨PS, hPS⟩ : ∃ PS, PS = asl.map fun p => p.1.parent := ⟨_, rfl⟩
  have EP := Lib.hid (show L.accts.map (·.parent) = PS from by rw [SM.out, hPS, List.map_map]; rfl)
  have TR := Lib.hid (show AccountsOk L → TreeOk PS from fun h => by rw [← EP.out]; exact h.tree)
  obtain ⟨CS, hCS⟩ : ∃ CS : Array Value, CS = #[.int .i64 L.day, .slice a1 C c1', .slice a2 L.unders.length c2', .slice a3 L.instrs.length c3', .slice a4 N c4', .slice a5 L.poss.length c5', .slice a6 L.orders.length c6', .slice a7 L.avail.length c7', .slice a8 L.locs.length c8'] := ⟨_, rfl⟩
  have BX := Lib.hid (show ∃ W, W = w.alloc (.cells #[.int .i64 L.day, .slice a1 C c1', .slice a2 L.unders.length c2', .slice a3 L.instrs.length c3', .slice a4 N c4', .slice a5 L.poss.length c5', .slice a6 L.orders.length c6', .slice a7 L.avail.length c7', .slice a8 L.locs.length c8'] 31) ∧ Below w.heap.size w W ∧ BoxAt W w.heap.size CS from
    ⟨_, rfl, (Below.refl _ _).alloc (Nat.le_refl _) _, by rw [hCS]; exact BoxAt.new w _ _⟩)
  have ECS := Lib.hid hCS
  have EPS := Lib.hid hPS
  clear h hL hRr hC hN hCS hPS
  go_enter Tryz.func54, Tryz.ntmps54
  go_wp2_with fail
  obtain ⟨W, hW, hb, hbx⟩ := BX.out
  rw [← hW]
  have BW := Lib.hid hb
  have XW := Lib.hid hbx
  clear hW hb hbx BX
  have PA := Lib.hid (parents_any W (.slice a4 N c4') asl (HA.out.below BW.out) AL.out (fun p hp => by obtain ⟨a, c, e⟩ := (HC.out p hp).form; exact ⟨a, _, c, e⟩))
  refine PA.out.mono ?_
  rintro e w1 ⟨v1, rfl, ho, hb⟩
  rw [← EPS.out] at ho
  have B1 := Lib.hid hb
  have OW := Lib.hid ho
  clear hb ho
  go_wp2_with fail
  have CK := Lib.hid (check_any w1 v1 PS (row_of_owns OW.out))
  refine CK.out.mono ?_
  rintro e w2 ⟨p, er, rfl, he, hb⟩
  have B2 := Lib.hid (B1.out.trans (hb.mono B1.out.size))
  have ER := Lib.hid he
  clear hb he
  by_cases h0 : er = 0
  case neg =>
    have FL := Lib.hid (EQ.out.trans (decide_eq_false (fun h => h0 (ER.out.2 (TR.out h)))))
    have B3 := Lib.hid (BW.out.trans (B2.out.mono BW.out.size))
    have e0 : (er == 0) = false := beq_eq_false_iff_ne.2 h0
    have e1 : (er != 0) = true := by rw [bne, e0]; rfl
    clear h0
    go_wp2_with fail
    go_ret
    exact ⟨ret_bool FL.out.symm, B3.out⟩
  subst h0
  have TOK := Lib.hid (ER.out.1 rfl)
  have n16 : (N : Int) ≤ 16 := by have := TOK.out.hi; have e := EPS.out; rw [e, List.length_map] at this; have := LN.out; omega
  have XR := Lib.hid (XW.out.below B2.out)
  have m4 : w2.cell? ⟨w.heap.size, 4, none⟩ = some (.slice a4 N c4') := XR.out.at_ 4 _ (by rw [ECS.out]; rfl)
  go_wp2_with fail
  clear m4
  have BR := Lib.hid (BW.out.trans (B2.out.mono BW.out.size))
  go_loopw [19] (fun i wr => ∃ k : Nat, k ≤ N ∧ i = .int .i64 k ∧ Hid (∀ (j : Nat) x, j < k → asl[j]? = some x → x.1.Ok j C) ∧ Below w2.heap.size w2 wr) (fun i _ => N - (intOf i).toNat)
  case atStart => exact ⟨0, Nat.zero_le _, rfl, Lib.hid (fun j x hj => by omega), Below.refl _ _⟩
  case round =>
    obtain ⟨k, hk, rfl, INV, hb⟩ := hrel
    have B3 := Lib.hid hb
    have B4 := Lib.hid (BR.out.trans (hb.mono BR.out.size))
    have XV := Lib.hid (XR.out.below hb)
    clear hb
    by_cases hlt : k < N
    · obtain ⟨x, hx⟩ : ∃ x, asl[k]? = some x := ⟨_, List.getElem?_eq_getElem (by have := LN.out; omega)⟩
      obtain ⟨b, o, rfl, hbl, hc⟩ := (HA.out.below B4.out).at_ hx
      have RC := Lib.hid (HC.out x (List.mem_of_getElem? hx))
      obtain ⟨va, ca, hva⟩ := RC.out.form
      have c0 := hc 0 (.int .i64 x.1.parent) rfl
      have c1 := hc 1 (.slice va x.1.cash.length ca) (by simp [Acc.cells, hva])
      have c2 := hc 2 (.bool x.1.flag) rfl
      have c3 := hc 3 (.int .i64 x.1.last) rfl
      rw [Nat.add_zero] at c0
      rw [hva] at RC
      have hlt' : (k : Int) < (N : Int) := by omega
      have HX := Lib.hid hx
      have LT := Lib.hid hlt
      have UX := Lib.hid (NU.out x (List.mem_of_getElem? hx))
      have BAD := Lib.hid (show ¬ x.1.Ok k C → R = false from fun hn => EQ.out.trans (decide_eq_false (fun h => hn (by
        have := h.accts k x.1 (by rw [SM.out, List.getElem?_map, HX.out]; rfl)
        rw [LC.out]; exact this))))
      obtain ⟨M, hM⟩ : ∃ M, M = x.1.cash.length := ⟨_, rfl⟩
      rw [← hM] at c1 RC
      have LM := Lib.hid hM
      obtain ⟨FG, hFG⟩ : ∃ F, F = x.1.flag := ⟨_, rfl⟩
      rw [← hFG] at c2
      have FE := Lib.hid hFG
      have AX := Lib.hid (show ∃ X, X = wr.alloc (.cells #[.int .i64 x.1.parent, .slice va M ca, .bool FG, .int .i64 x.1.last] 48) ∧ Below wr.heap.size wr X from
        ⟨_, rfl, (Below.refl _ _).alloc (Nat.le_refl _) _⟩)
      have m1 : (wr.alloc (.cells #[.int .i64 x.1.parent, .slice va M ca, .bool FG, .int .i64 x.1.last] 48)).cell? ⟨w.heap.size, 1, none⟩ = some (.slice a1 C c1') := ((Mod.refl (fun _ => False) wr).alloc _).cell (XV.out.at_ 1 _ (by rw [ECS.out]; rfl)) (fun h => h)
      have B5 := Lib.hid (B4.out.alloc B4.out.size (.cells #[.int .i64 x.1.parent, .slice va M ca, .bool FG, .int .i64 x.1.last] 48))
      have B6 := Lib.hid (B3.out.alloc B3.out.size (.cells #[.int .i64 x.1.parent, .slice va M ca, .bool FG, .int .i64 x.1.last] 48))
      clear hx hc hva hM hlt hk hFG
      by_cases g1 : (M : Int) = (C : Int)
      case neg =>
        have FL := Lib.hid (BAD.out (fun h => g1 (by have := h.1; have := LM.out; omega)))
        have e0 : ((M : Int) == (C : Int)) = false := beq_eq_false_iff_ne.2 g1
        have e1 : ((M : Int) != (C : Int)) = true := by rw [bne, e0]; rfl
        clear g1
        go_wp2_with fail
        go_ret
        exact ⟨ret_bool FL.out.symm, B5.out⟩
      have G1 := Lib.hid g1
      have e0 : ((M : Int) == (C : Int)) = true := beq_iff_eq.2 g1
      have e1 : ((M : Int) != (C : Int)) = false := by rw [bne, e0]; rfl
      clear g1
      by_cases g2 : x.1.last < 0
      · have FL := Lib.hid (BAD.out (fun h => by have := h.2.1; omega))
        go_wp2_with fail
        go_ret
        exact ⟨ret_bool FL.out.symm, B5.out⟩
      by_cases g3 : 1099511627776 < x.1.last
      · have FL := Lib.hid (BAD.out (fun h => by have := h.2.2.1; omega))
        go_wp2_with fail
        go_ret
        exact ⟨ret_bool FL.out.symm, B5.out⟩
      have CF := Lib.hid (containsFunc_int (wr.alloc (.cells #[.int .i64 x.1.parent, .slice va M ca, .bool FG, .int .i64 x.1.last] 48)) _ x.1.cash 102 #[] (fun q => !fitsA q) (enters_of Tryz.func102 (by kernel_rfl) rfl) (RC.out.below B5.out) (fun W' x hb' hm =>
        accounts1_any W' x (UX.out x hm)))
      have G2 := Lib.hid (show 0 ≤ x.1.last ∧ x.1.last ≤ 1099511627776 from by omega)
      have ch : ((k : Int) ≤ 1 ∧ FG = true) ∨ ((k : Int) ≤ 1 ∧ FG = false ∧ 0 < x.1.last) ∨ ((k : Int) ≤ 1 ∧ FG = false ∧ ¬ 0 < x.1.last) ∨ (¬ (k : Int) ≤ 1) := by
        by_cases q1 : (k : Int) ≤ 1
        · by_cases q2 : 0 < x.1.last
          · cases FG
            · exact Or.inr (Or.inl ⟨q1, rfl, q2⟩)
            · exact Or.inl ⟨q1, rfl⟩
          · cases FG
            · exact Or.inr (Or.inr (Or.inl ⟨q1, rfl, q2⟩))
            · exact Or.inl ⟨q1, rfl⟩
        · exact Or.inr (Or.inr (Or.inr q1))
      have TAIL := Lib.hid (show (k < 2 → x.1.flag = false ∧ x.1.last = 0) → (x.1.cash.any fun q => !fitsA q) = false → x.1.Ok k C from fun h1 h2 =>
        ⟨by have := G1.out; have := LM.out; omega, G2.out.1, G2.out.2, h1, fun q hq => (any_not _ _).1 h2 q hq⟩)
      have NOT := Lib.hid (show (x.1.cash.any fun q => !fitsA q) = true → R = false from fun ha => BAD.out (fun h => by
        obtain ⟨q, hq, hp⟩ := any_not_true _ _ ha
        rw [h.2.2.2.2 q hq] at hp; cases hp))
      rcases ch with ⟨f1, rfl⟩ | ⟨f1, rfl, f3⟩ | ⟨f1, rfl, f3⟩ | f1
      · have FL := Lib.hid (BAD.out (fun h => by have := (h.2.2.2.1 (by omega)).1; rw [← FE.out] at this; cases this))
        go_wp2_with fail
        go_ret
        exact ⟨ret_bool FL.out.symm, B5.out⟩
      · have FL := Lib.hid (BAD.out (fun h => by have := (h.2.2.2.1 (by omega)).2; omega))
        go_wp2_with fail
        go_ret
        exact ⟨ret_bool FL.out.symm, B5.out⟩
      all_goals
        first
        | have HH := Lib.hid (show (k < 2 → x.1.flag = false ∧ x.1.last = 0) from fun _ => ⟨FE.out.symm, by have := G2.out; omega⟩)
        | have HH := Lib.hid (show (k < 2 → x.1.flag = false ∧ x.1.last = 0) from fun h => absurd h (by omega))
        cases ha : (x.1.cash.any fun q => !fitsA q)
        case true =>
          rw [ha] at CF
          have FL := Lib.hid (NOT.out ha)
          clear ha
          go_wp2_with fail
          refine CF.out.mono ?_
          rintro e w3 ⟨rfl, hb3⟩
          have B7 := Lib.hid (B5.out.trans (hb3.mono B5.out.size))
          clear hb3
          go_wp2_with fail
          go_ret
          exact ⟨ret_bool FL.out.symm, B7.out⟩
        case false =>
          rw [ha] at CF
          have YES := Lib.hid (TAIL.out HH.out ha)
          clear ha
          go_wp2_with fail
          refine CF.out.mono ?_
          rintro e w3 ⟨rfl, hb3⟩
          have B7 := Lib.hid (B6.out.trans (hb3.mono B6.out.size))
          clear hb3
          go_wp2_with fail
          go_roundw
          case rel => exact ⟨k + 1, by have := LT.out; omega, by go_num, Lib.hid (fun j z hj hz => by
            by_cases e : j = k
            · subst e; have h1 := HX.out; rw [hz] at h1; cases h1; exact YES.out
            · exact INV.out j z (by omega) hz), B7.out⟩
          case measure => have := LT.out; simp [intOf]; omega
    · have hlt' : ¬ (k : Int) < (N : Int) := by omega
      have FL := Lib.hid (EQ.out.trans (decide_eq_true ⟨by rw [EP.out]; exact TOK.out, fun v a ha => by
        rw [SM.out, List.getElem?_map] at ha
        cases hz : asl[v]? with
        | none => rw [hz] at ha; cases ha
        | some z =>
          rw [hz] at ha; cases ha
          have := INV.out v z (by have := (List.getElem?_eq_some_iff.1 hz).1; have := LN.out; omega) hz
          rw [LC.out] at this; exact this⟩))
      clear hlt hk INV
      go_wp2_with fail
      go_ret
      exact ⟨ret_bool FL.out.symm, B4.out⟩
end Go.Proofs.YtcjbhgnlmmeeeaaGreatDoor

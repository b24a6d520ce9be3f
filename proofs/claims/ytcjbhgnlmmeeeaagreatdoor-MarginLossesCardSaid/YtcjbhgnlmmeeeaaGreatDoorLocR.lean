/- The document's Tidy and Good of locates (bulwarkref14), walked. -/
import Derived.Test.YtcjbhgnlmmeeeaaGreatDoorLoc
namespace Go.Proofs.YtcjbhgnlmmeeeaaGreatDoor
open Go.RowKit Go.Bw Go.Maps Go.Shelf
set_option linter.unusedVariables false
set_option linter.unusedSimpArgs false

structure TidyOk (av : List Int) (l : List Pos) : Prop where
  avail : ∀ q ∈ av, supB q = true
  all : ∀ x ∈ l, supB x.qty = true
  rise : Rises Pos.Lt l
theorem quiet_sup (q : Int) (b : Bool) (h : supB q = b) (W : World) (n : Nat) : Calls Tryz.prog 122 #[.int .i64 q] (W.drewN n) fun e w'' => e = .returned (.bool b) ∧ ∃ m, w'' = W.drewN m :=
  (rsup_any q (W.drewN n)).mono fun e w' hh => ⟨by rw [← h]; exact hh.1, n, hh.2.symm⟩
open Classical in
set_option maxRecDepth 100000 in
set_option maxHeartbeats 3000000 in
theorem rtidy_any (w : World) (va v : Value) (av : List Int) (l : List Pos) (hA : RowOf w 1 icell va av) (hR : RowOf w 3 Pos.cells v l) :
    Calls Tryz.prog 85 #[va, v] w fun e w' => e = .returned (.bool (decide (TidyOk av l))) ∧ Below w.heap.size w w' := by
  obtain ⟨aa, ca, rfl⟩ := hA.form
  obtain ⟨a, c, rfl⟩ := hR.form
  have hl : l.length ≤ 9223372036854775807 := by have := hR.caps; unfold maxLen at this; omega
  have hl2 : av.length ≤ 9223372036854775807 := by have := hA.caps; unfold maxLen at this; omega
  obtain ⟨R, hRr⟩ : ∃ R, R = decide (TidyOk av l) := ⟨_, rfl⟩
  rw [← hRr]
  have EQ := Lib.hid hRr
  have HR := Lib.hid hR
  have HA := Lib.hid hA
  clear hR hRr hA
  go_enter Tryz.func85, Tryz.ntmps85
  go_wp2_with fail
  go_loop [11] (fun i => ∃ k : Nat, k ≤ av.length ∧ i = .int .i64 k ∧ Hid (∀ (j : Nat) x, j < k → av[j]? = some x → supB x = true)) (fun i => av.length - (intOf i).toNat)
  case atStart => exact ⟨0, Nat.zero_le _, rfl, Lib.hid (fun j x hj => by omega)⟩
  case round =>
    obtain ⟨k, hk, rfl, INV⟩ := hrel
    by_cases hlt : k < av.length
    · obtain ⟨x, hx⟩ : ∃ x, av[k]? = some x := ⟨_, List.getElem?_eq_getElem hlt⟩
      obtain ⟨b, o, rfl, hbl, hc⟩ := HA.out.at_ hx
      have c0 := hc 0 (.int .i64 x) rfl
      rw [Nat.mul_one, Nat.add_zero] at c0
      have hlt' : (k : Int) < (av.length : Int) := by omega
      have HX := Lib.hid hx
      have LT := Lib.hid hlt
      clear hx hc
      cases hq : supB x with
      | false =>
        have FL := Lib.hid (EQ.out.trans (decide_eq_false (fun h => by have := h.avail x (List.mem_of_getElem? HX.out); rw [hq] at this; cases this)))
        have Q := Lib.hid (rsup_any x)
        rw [hq] at Q
        clear hq
        go_wp2_with (go_at_call 122; refine (Q.out _).mono ?_; rintro e w' ⟨rfl, rfl⟩)
        go_ret
        exact ⟨ret_bool FL.out.symm, Below.refl _ _⟩
      | true =>
        have Q := Lib.hid (rsup_any x)
        rw [hq] at Q
        have HQ := Lib.hid hq
        clear hq
        go_wp2_with (go_at_call 122; refine (Q.out _).mono ?_; rintro e w' ⟨rfl, rfl⟩)
        go_round
        case rel => exact ⟨k + 1, by have := LT.out; omega, by go_num, Lib.hid (fun j z hj hz => by
          by_cases e : j = k
          · subst e; have h1 := HX.out; rw [hz] at h1; cases h1; exact HQ.out
          · exact INV.out j z (by omega) hz)⟩
        case measure => have := LT.out; simp [intOf]; omega
    · have hlt' : ¬ (k : Int) < (av.length : Int) := by omega
      have AV := Lib.hid (show ∀ q ∈ av, supB q = true from fun x hx => by
        obtain ⟨j, hj, e⟩ := List.mem_iff_getElem.1 hx
        exact INV.out j x (by omega) (by rw [← e]; exact List.getElem?_eq_getElem hj))
      have EQ := EQ
      clear hk hlt INV
      go_wp2_with fail
      obtain ⟨wo, hwo⟩ : ∃ wo, wo = w := ⟨_, rfl⟩
      go_loopw [21] (fun i wr => ∃ k : Nat, k ≤ l.length ∧ i = .int .i64 k ∧ Hid ((∀ (j : Nat) x, j < k → l[j]? = some x → supB x.qty = true) ∧ (∀ (j : Nat) x y, j + 1 < k → l[j]? = some x → l[j + 1]? = some y → x.Lt y)) ∧ Below w.heap.size w wr) (fun i _ => l.length - (intOf i).toNat)
      case atStart => exact ⟨0, Nat.zero_le _, rfl, Lib.hid ⟨fun j x hj => by omega, fun j x y hj => by omega⟩, Below.refl _ _⟩
      case round =>
        obtain ⟨k, hk, rfl, INV, hb⟩ := hrel
        have BW := Lib.hid hb
        have ROW := Lib.hid (HR.out.below hb)
        clear hb
        by_cases hlt : k < l.length
        · obtain ⟨x, hx⟩ : ∃ x, l[k]? = some x := ⟨_, List.getElem?_eq_getElem hlt⟩
          obtain ⟨b, o, rfl, hbl, hc⟩ := ROW.out.at_ hx
          have c0 := hc 0 (.int .i64 x.acct) rfl
          have c1 := hc 1 (.int .i64 x.instr) rfl
          have c2 := hc 2 (.int .i64 x.qty) rfl
          rw [Nat.add_zero] at c0
          have hlt' : (k : Int) < (l.length : Int) := by omega
          have HX := Lib.hid hx
          have LT := Lib.hid hlt
          have B2 := Lib.hid (BW.out.alloc BW.out.size (.cells #[.int .i64 x.acct, .int .i64 x.instr, .int .i64 x.qty] 95))
          cases hq : supB x.qty with
          | false =>
            have FL := Lib.hid (EQ.out.trans (decide_eq_false (fun h => by have := h.all x (List.mem_of_getElem? HX.out); rw [hq] at this; cases this)))
            have Q := Lib.hid (quiet_sup x.qty false hq)
            clear hx hc hq
            cases k with
            | zero =>
              simp only [Nat.zero_mul, Nat.add_zero] at c0 c1 c2
              go_wp2_with fail
              go_quiet (exact Q.out _ _)
              go_wp2_with fail
              go_ret
              exact ⟨ret_bool FL.out.symm, below_drewN B2.out _⟩
            | succ k =>
              go_wp2_with fail
              go_quiet (exact Q.out _ _)
              go_wp2_with fail
              go_ret
              exact ⟨ret_bool FL.out.symm, below_drewN B2.out _⟩
          | true =>
          have Q := Lib.hid (quiet_sup x.qty true hq)
          have HQ := Lib.hid hq
          clear hq
          cases k with
          | zero =>
            clear hx hc
            simp only [Nat.zero_mul, Nat.add_zero] at c0 c1 c2
            go_wp2_with fail
            go_quiet (exact Q.out _ _)
            go_wp2_with fail
            go_roundw
            case rel => exact ⟨1, by have := LT.out; omega, by go_num, Lib.hid ⟨fun j z hj hz => by
              obtain rfl : j = 0 := by omega
              have h1 := HX.out; rw [hz] at h1; cases h1; exact HQ.out, fun j y z hj => by omega⟩, below_drewN B2.out _⟩
            case measure => have := LT.out; simp [intOf]; omega
          | succ k =>
            obtain ⟨y, hy⟩ : ∃ y, l[k]? = some y := ⟨_, List.getElem?_eq_getElem (by omega)⟩
            obtain ⟨b', o', e', hbl', hd⟩ := ROW.out.at_ hy
            cases e'
            have d0 := hd 0 (.int .i64 y.acct) rfl
            have d1 := hd 1 (.int .i64 y.instr) rfl
            rw [Nat.add_zero] at d0
            have HY := Lib.hid hy
            have j1 : (0 : Int) ≤ (k : Int) := by omega
            have j2 : (k : Int) < (l.length : Int) := by omega
            have w1 : IntKind.i64.wrap (((k + 1 : Nat) : Int) - 1) = (k : Int) := by rw [show ((k + 1 : Nat) : Int) - 1 = (k : Int) from by omega]; exact IntWalk.i64_in _ (by omega)
            have g0 : decide ((0 : Int) < ((k + 1 : Nat) : Int)) = true := decide_eq_true (by omega)
            clear hx hc hy hd
            have ch : (x.acct < y.acct) ∨ (¬ x.acct < y.acct ∧ y.acct = x.acct ∧ x.instr ≤ y.instr) ∨ (¬ x.acct < y.acct ∧ y.acct = x.acct ∧ ¬ x.instr ≤ y.instr) ∨ (¬ x.acct < y.acct ∧ ¬ y.acct = x.acct) := by omega
            have DEC := Lib.hid (show ¬ y.Lt x → R = false from fun hn => EQ.out.trans (decide_eq_false (fun h => hn (h.rise k y x HY.out HX.out))))
            rcases ch with h1 | ⟨h1, h2, h3⟩ | ⟨h1, h2, h3⟩ | ⟨h1, h2⟩
            · have FL := Lib.hid (DEC.out (by unfold Pos.Lt; omega))
              have g1 : decide (x.acct < y.acct) = true := decide_eq_true h1
              go_wp2_with fail
              go_quiet (exact Q.out _ _)
              go_wp2_with fail
              go_ret
              exact ⟨ret_bool FL.out.symm, below_drewN B2.out _⟩
            · have FL := Lib.hid (DEC.out (by unfold Pos.Lt; omega))
              have g1 : decide (x.acct < y.acct) = false := decide_eq_false h1
              have g2 : (y.acct == x.acct) = true := by simp [h2]
              clear h2
              go_wp2_with fail
              go_quiet (exact Q.out _ _)
              go_wp2_with fail
              go_ret
              exact ⟨ret_bool FL.out.symm, below_drewN B2.out _⟩
            all_goals
              have LTT := Lib.hid (show y.Lt x from by unfold Pos.Lt; omega)
              have g1 : decide (x.acct < y.acct) = false := decide_eq_false h1
              first
              | (have g2 : (y.acct == x.acct) = true := by simp [h2])
              | (have g2 : (y.acct == x.acct) = false := by simp [h2])
              clear h2
              go_wp2_with fail
              go_quiet (exact Q.out _ _)
              go_wp2_with fail
              go_roundw
              case rel => exact ⟨k + 1 + 1, by have := LT.out; omega, by go_num, Lib.hid ⟨fun j z hj hz => by
                by_cases e : j = k + 1
                · subst e; have h1 := HX.out; rw [hz] at h1; cases h1; exact HQ.out
                · exact INV.out.1 j z (by omega) hz, fun j z z' hj hz hz' => by
                by_cases e : j = k
                · subst e; have h1 := HY.out; rw [hz] at h1; cases h1; have h2 := HX.out; rw [hz'] at h2; cases h2; exact LTT.out
                · exact INV.out.2 j z z' (by omega) hz hz'⟩, below_drewN B2.out _⟩
              case measure => have := LT.out; simp [intOf]; omega
        · have hlt' : ¬ (k : Int) < (l.length : Int) := by omega
          have FL := Lib.hid (EQ.out.trans (decide_eq_true ⟨AV.out, fun x hx => by
            obtain ⟨j, hj, e⟩ := List.mem_iff_getElem.1 hx
            exact INV.out.1 j x (by omega) (by rw [← e]; exact List.getElem?_eq_getElem hj), fun j x y hx hy => INV.out.2 j x y (by have := (List.getElem?_eq_some_iff.1 hy).1; omega) hx hy⟩))
          go_wp2_with fail
          go_ret
          exact ⟨ret_bool FL.out.symm, BW.out⟩

open Classical in
set_option maxRecDepth 100000 in
set_option maxHeartbeats 3000000 in
theorem rlocate_any (w : World) (va v : Value) (av : List Int) (l : List Pos) (A I : Nat) (hA : RowOf w 1 icell va av) (hR : RowOf w 3 Pos.cells v l) :
    Calls Tryz.prog 44 #[va, v, .int .i64 (A : Nat), .int .i64 (I : Nat)] w fun e w' => e = .returned (.bool (decide (LocsOk av l A I))) ∧ Below w.heap.size w w' := by
  obtain ⟨aa, ca, rfl⟩ := hA.form
  obtain ⟨a, c, rfl⟩ := hR.form
  obtain ⟨R, hRr⟩ : ∃ R, R = decide (LocsOk av l A I) := ⟨_, rfl⟩
  rw [← hRr]
  have EQ := Lib.hid hRr
  have HR := Lib.hid hR
  have HA := Lib.hid hA
  clear hR hRr hA
  by_cases h1 : av.length = I
  case neg =>
    have FL := Lib.hid (EQ.out.trans (decide_eq_false (fun h => h1 h.len)))
    have hb : ((av.length : Int) != (I : Int)) = true := by rw [bne_iff_ne]; omega
    clear h1
    go_enter Tryz.func44, Tryz.ntmps44
    go_wp2_with fail
    go_ret
    exact ⟨ret_bool FL.out.symm, Below.refl _ _⟩
  have hb : ((av.length : Int) != (I : Int)) = false := by rw [h1]; simp
  have H1 := Lib.hid h1
  clear h1
  by_cases hlen : l.length ≤ 32
  case neg =>
    have FL := Lib.hid (EQ.out.trans (decide_eq_false (fun h => hlen h.locn)))
    have hlen' : (32 : Int) < (l.length : Int) := by omega
    clear hlen
    go_enter Tryz.func44, Tryz.ntmps44
    go_wp2_with fail
    go_ret
    exact ⟨ret_bool FL.out.symm, Below.refl _ _⟩
  have hlen' : ¬ (32 : Int) < (l.length : Int) := by omega
  have HL := Lib.hid hlen
  clear hlen
  go_enter Tryz.func44, Tryz.ntmps44
  go_wp2_with fail
  refine (rtidy_any w _ _ av l HA.out HR.out).mono ?_
  rintro e w3 ⟨rfl, hb3⟩
  have B3 := Lib.hid hb3
  clear hb3
  by_cases hti : TidyOk av l
  case neg =>
    have FL := Lib.hid (EQ.out.trans (decide_eq_false (fun h => hti ⟨fun q hq => decide_eq_true (h.avail q hq), fun x hx => by have := h.all x hx; exact decide_eq_true (by omega), h.rise⟩)))
    rw [decide_eq_false hti]
    clear hti
    go_wp2_with fail
    go_ret
    exact ⟨ret_bool FL.out.symm, B3.out⟩
  rw [decide_eq_true hti]
  have HT := Lib.hid hti
  clear hti
  go_wp2_with fail
  go_loopw [28] (fun i wr => ∃ k : Nat, k ≤ l.length ∧ i = .int .i64 k ∧ Hid (∀ (j : Nat) x, j < k → l[j]? = some x → Loc1 x A I) ∧ Below w.heap.size w wr) (fun i _ => l.length - (intOf i).toNat)
  case atStart => exact ⟨0, Nat.zero_le _, rfl, Lib.hid (fun j x hj => by omega), B3.out⟩
  case round =>
    obtain ⟨k, hk, rfl, INV, hb'⟩ := hrel
    have BW := Lib.hid hb'
    have ROW := Lib.hid (HR.out.below hb')
    clear hb'
    by_cases hlt : k < l.length
    · obtain ⟨x, hx⟩ : ∃ x, l[k]? = some x := ⟨_, List.getElem?_eq_getElem hlt⟩
      obtain ⟨b, o, rfl, hbl, hc⟩ := ROW.out.at_ hx
      have c0 := hc 0 (.int .i64 x.acct) rfl
      have c1 := hc 1 (.int .i64 x.instr) rfl
      have c2 := hc 2 (.int .i64 x.qty) rfl
      rw [Nat.add_zero] at c0
      have hlt' : (k : Int) < (l.length : Int) := by omega
      have HX := Lib.hid hx
      have LT := Lib.hid hlt
      have SQ := Lib.hid (of_decide_eq_true (HT.out.all x (List.mem_of_getElem? hx)))
      have BX2 := Lib.hid (BW.out.alloc BW.out.size (.cells #[.int .i64 x.acct, .int .i64 x.instr, .int .i64 x.qty] 95))
      have DEC := Lib.hid (show ¬ Loc1 x A I → R = false from fun hn => EQ.out.trans (decide_eq_false (fun h => hn (h.all x (List.mem_of_getElem? HX.out)))))
      clear hx hc
      by_cases h0 : x.acct < 2
      · have FL := Lib.hid (DEC.out (by unfold Loc1; omega))
        go_wp2_with fail
        go_ret
        exact ⟨ret_bool FL.out.symm, BX2.out⟩
      by_cases h1 : (A : Int) ≤ x.acct
      · have FL := Lib.hid (DEC.out (by unfold Loc1; omega))
        go_wp2_with fail
        go_ret
        exact ⟨ret_bool FL.out.symm, BX2.out⟩
      by_cases h2 : x.instr < 0
      · have FL := Lib.hid (DEC.out (by unfold Loc1; omega))
        go_wp2_with fail
        go_ret
        exact ⟨ret_bool FL.out.symm, BX2.out⟩
      by_cases h3 : (I : Int) ≤ x.instr
      · have FL := Lib.hid (DEC.out (by unfold Loc1; omega))
        go_wp2_with fail
        go_ret
        exact ⟨ret_bool FL.out.symm, BX2.out⟩
      by_cases h4 : x.qty = 0
      · have FL := Lib.hid (DEC.out (by unfold Loc1; omega))
        have hbq : (x.qty == 0) = true := by simp [h4]
        clear h4
        go_wp2_with fail
        go_ret
        exact ⟨ret_bool FL.out.symm, BX2.out⟩
      have YES := Lib.hid (show Loc1 x A I from by have := SQ.out; unfold Loc1; omega)
      have hbq : (x.qty == 0) = false := by simp [h4]
      clear h4
      go_wp2_with fail
      go_roundw
      case rel => exact ⟨k + 1, by have := LT.out; omega, by go_num, Lib.hid (fun j z hj hz => by
        by_cases e : j = k
        · subst e; have h1 := HX.out; rw [hz] at h1; cases h1; exact YES.out
        · exact INV.out j z (by omega) hz), BX2.out⟩
      case measure => have := LT.out; simp [intOf]; omega
    · have hlt' : ¬ (k : Int) < (l.length : Int) := by omega
      have FL := Lib.hid (EQ.out.trans (decide_eq_true ⟨H1.out, HL.out, fun q hq => of_decide_eq_true (HT.out.avail q hq), fun x hx => by
        obtain ⟨j, hj, e⟩ := List.mem_iff_getElem.1 hx
        exact INV.out j x (by omega) (by rw [← e]; exact List.getElem?_eq_getElem hj), HT.out.rise⟩))
      go_wp2_with fail
      go_ret
      exact ⟨ret_bool FL.out.symm, BW.out⟩
end Go.Proofs.YtcjbhgnlmmeeeaaGreatDoor

/- locate.Good, walked. -/
import Derived.Test.YtcjbhgnlmmeeeaaGreatDoorBook2
namespace Go.Proofs.YtcjbhgnlmmeeeaaGreatDoor
open Go.RowKit Go.Bw Go.Maps Go.Shelf
set_option linter.unusedVariables false
set_option linter.unusedSimpArgs false

set_option maxHeartbeats 400000 in
theorem supBad_any (q : Int) (w : World) : Calls Tryz.prog 112 #[.int .i64 q] w fun e w' => e = .returned (.bool (!supB q)) ∧ w = w' := by
  obtain ⟨r, hr⟩ : ∃ r, r = supB q := ⟨_, rfl⟩
  rw [← hr]
  have ch : q < 0 ∨ (¬ q < 0 ∧ 1000000000 < q) ∨ (¬ q < 0 ∧ ¬ 1000000000 < q) := by omega
  rcases ch with h1 | ⟨h1, h2⟩ | ⟨h1, h2⟩
  all_goals
    first
    | (have R := Lib.hid (show r = true from by rw [hr]; exact decide_eq_true (by omega)))
    | (have R := Lib.hid (show r = false from by rw [hr]; exact decide_eq_false (by omega)))
    clear hr
    go_enter Tryz.func112, Tryz.ntmps112
    go_wp2_with fail
    go_ret
    refine ⟨ret_bool ?_, rfl⟩
    first | (rw [R.out]; rfl) | (rw [R.out]; simp; done) | (rw [R.out]; simp; omega)
def Loc1 (x : Pos) (A I : Nat) : Prop := 2 ≤ x.acct ∧ x.acct < A ∧ 0 ≤ x.instr ∧ x.instr < I ∧ 1 ≤ x.qty ∧ x.qty ≤ 1000000000
open Classical in
set_option maxRecDepth 100000 in
set_option maxHeartbeats 3000000 in
theorem locate_any (w : World) (va v : Value) (av : List Int) (l : List Pos) (A I : Nat) (hA : RowOf w 1 icell va av) (hR : RowOf w 3 Pos.cells v l) :
    Calls Tryz.prog 57 #[va, v, .int .i64 (A : Nat), .int .i64 (I : Nat)] w fun e w' => e = .returned (.bool (decide (LocsOk av l A I))) ∧ Below w.heap.size w w' := by
  obtain ⟨aa, ca, rfl⟩ := hA.form
  obtain ⟨a, c, rfl⟩ := hR.form
  obtain ⟨R, hRr⟩ : ∃ R, R = decide (LocsOk av l A I) := ⟨_, rfl⟩
  rw [← hRr]
  have EQ := Lib.hid hRr
  have HR := Lib.hid hR
  have HA := Lib.hid hA
  clear hR hRr hA
  have CF := Lib.hid (containsFunc_int w _ av 112 #[] (fun q => !supB q) (enters_of Tryz.func112 (by kernel_rfl) rfl) HA.out (fun W' x hb' _ => (supBad_any x W').mono fun e w' h => ⟨h.1, by rw [← h.2]; exact Below.refl _ _⟩))
  by_cases h1 : av.length = I
  case neg =>
    have FL := Lib.hid (EQ.out.trans (decide_eq_false (fun h => h1 h.len)))
    have hb : ((av.length : Int) != (I : Int)) = true := by rw [bne_iff_ne]; omega
    clear h1
    go_enter Tryz.func57, Tryz.ntmps57
    go_wp2_with fail
    go_ret
    exact ⟨ret_bool FL.out.symm, Below.refl _ _⟩
  have hb : ((av.length : Int) != (I : Int)) = false := by rw [h1]; simp
  have H1 := Lib.hid h1
  clear h1
  by_cases hlen : l.length ≤ 32
  case neg =>
    have FL := Lib.hid (EQ.out.trans (decide_eq_false (fun h => hlen h.locn)))
    have hlen' : (32 : Int) < (l.length : Int) := by omega
    clear hlen
    go_enter Tryz.func57, Tryz.ntmps57
    go_wp2_with fail
    go_ret
    exact ⟨ret_bool FL.out.symm, Below.refl _ _⟩
  have hlen' : ¬ (32 : Int) < (l.length : Int) := by omega
  have HL := Lib.hid hlen
  clear hlen
  cases ha : (av.any fun q => !supB q) with
  | true =>
    rw [ha] at CF
    have FL := Lib.hid (EQ.out.trans (decide_eq_false (fun h => by
      obtain ⟨x, hx, hp⟩ := any_not_true _ _ ha
      have := h.avail x hx
      unfold supB at hp
      rw [decide_eq_true this] at hp; cases hp)))
    clear ha
    go_enter Tryz.func57, Tryz.ntmps57
    go_wp2_with fail
    refine CF.out.mono ?_
    rintro e w3 ⟨rfl, hb3⟩
    have B3 := Lib.hid hb3
    clear hb3
    go_wp2_with fail
    go_ret
    exact ⟨ret_bool FL.out.symm, B3.out⟩
  | false =>
  rw [ha] at CF
  have AV := Lib.hid (show ∀ q ∈ av, 0 ≤ q ∧ q ≤ 1000000000 from fun q hq => of_decide_eq_true ((any_not _ _).1 ha q hq))
  clear ha
  go_enter Tryz.func57, Tryz.ntmps57
  go_wp2_with fail
  refine CF.out.mono ?_
  rintro e w3 ⟨rfl, hb3⟩
  have B3 := Lib.hid hb3
  clear hb3
  go_wp2_with fail
  go_loopw [26] (fun i wr => ∃ k : Nat, k ≤ l.length ∧ i = .int .i64 k ∧ Hid ((∀ (j : Nat) x, j < k → l[j]? = some x → Loc1 x A I) ∧ (∀ (j : Nat) x y, j + 1 < k → l[j]? = some x → l[j + 1]? = some y → x.Lt y)) ∧ Below w.heap.size w wr) (fun i _ => l.length - (intOf i).toNat)
  case atStart => exact ⟨0, Nat.zero_le _, rfl, Lib.hid ⟨fun j x hj => by omega, fun j x y hj => by omega⟩, B3.out⟩
  case round =>
    obtain ⟨k, hk, rfl, INV, hb'⟩ := hrel
    have BW := Lib.hid hb'
    have ROW := Lib.hid (HR.out.below hb')
    clear hb'
    by_cases hlt : k < l.length
    · obtain ⟨x, hx⟩ : ∃ x, l[k]? = some x := ⟨_, List.getElem?_eq_getElem hlt⟩
      obtain ⟨b, o, rfl, hbl, hc⟩ := ROW.out.at_ hx
      have c0 := hc 0 (.int .i64 x.acct) rfl
      have c1 := hc 1 (.int .i64 x.instr) rfl
      have c2 := hc 2 (.int .i64 x.qty) rfl
      rw [Nat.add_zero] at c0
      have hlt' : (k : Int) < (l.length : Int) := by omega
      have HX := Lib.hid hx
      have LT := Lib.hid hlt
      have BX2 := Lib.hid (BW.out.alloc BW.out.size (.cells #[.int .i64 x.acct, .int .i64 x.instr, .int .i64 x.qty] 95))
      have DEC := Lib.hid (show ¬ Loc1 x A I → R = false from fun hn => EQ.out.trans (decide_eq_false (fun h => hn (h.all x (List.mem_of_getElem? HX.out)))))
      clear hx
      by_cases h0 : x.acct ≤ 1
      · have FL := Lib.hid (DEC.out (by unfold Loc1; omega))
        clear hc
        go_wp2_with fail
        go_ret
        exact ⟨ret_bool FL.out.symm, BX2.out⟩
      by_cases h1 : (A : Int) ≤ x.acct
      · have FL := Lib.hid (DEC.out (by unfold Loc1; omega))
        clear hc
        go_wp2_with fail
        go_ret
        exact ⟨ret_bool FL.out.symm, BX2.out⟩
      by_cases h2 : x.instr < 0
      · have FL := Lib.hid (DEC.out (by unfold Loc1; omega))
        clear hc
        go_wp2_with fail
        go_ret
        exact ⟨ret_bool FL.out.symm, BX2.out⟩
      by_cases h3 : (I : Int) ≤ x.instr
      · have FL := Lib.hid (DEC.out (by unfold Loc1; omega))
        clear hc
        go_wp2_with fail
        go_ret
        exact ⟨ret_bool FL.out.symm, BX2.out⟩
      by_cases h4 : x.qty < 1
      · have FL := Lib.hid (DEC.out (by unfold Loc1; omega))
        clear hc
        go_wp2_with fail
        go_ret
        exact ⟨ret_bool FL.out.symm, BX2.out⟩
      by_cases h5 : 1000000000 < x.qty
      · have FL := Lib.hid (DEC.out (by unfold Loc1; omega))
        clear hc
        go_wp2_with fail
        go_ret
        exact ⟨ret_bool FL.out.symm, BX2.out⟩
      have YES := Lib.hid (show Loc1 x A I from by unfold Loc1; omega)
      cases k with
      | zero =>
        clear hc
        simp only [Nat.zero_mul, Nat.add_zero] at c0 c1 c2
        go_wp2_with fail
        go_quiet (fail)
        go_wp2_with fail
        go_roundw
        case rel => exact ⟨1, by have := LT.out; omega, by go_num, Lib.hid ⟨fun j z hj hz => by
          obtain rfl : j = 0 := by omega
          have h1 := HX.out; rw [hz] at h1; cases h1; exact YES.out, fun j y z hj => by omega⟩, below_drewN BX2.out _⟩
        case measure => have := LT.out; simp [intOf]; omega
      | succ k =>
        obtain ⟨y, hy⟩ : ∃ y, l[k]? = some y := ⟨_, List.getElem?_eq_getElem (by omega)⟩
        obtain ⟨b', o', e', hbl', hd⟩ := ROW.out.at_ hy
        cases e'
        have d0 := hd 0 (.int .i64 y.acct) rfl
        have d1 := hd 1 (.int .i64 y.instr) rfl
        have d2 := hd 2 (.int .i64 y.qty) rfl
        rw [Nat.add_zero] at d0
        have HY := Lib.hid hy
        have j1 : (0 : Int) ≤ (k : Int) := by omega
        have j2 : (k : Int) < (l.length : Int) := by omega
        have w1 : IntKind.i64.wrap (((k + 1 : Nat) : Int) - 1) = (k : Int) := by rw [show ((k + 1 : Nat) : Int) - 1 = (k : Int) from by omega]; exact IntWalk.i64_in _ (by omega)
        have g0 : decide ((0 : Int) < ((k + 1 : Nat) : Int)) = true := decide_eq_true (by omega)
        obtain ⟨W, hW⟩ : ∃ W, W = wr.alloc (.cells #[.int .i64 x.acct, .int .i64 x.instr, .int .i64 x.qty] 95) := ⟨_, rfl⟩
        have MW := (Mod.refl (fun _ => False) wr).alloc (.cells #[.int .i64 x.acct, .int .i64 x.instr, .int .i64 x.qty] 95)
        have bx := heap_alloc_new wr (.cells #[.int .i64 x.acct, .int .i64 x.instr, .int .i64 x.qty] 95)
        rw [← hW] at MW bx BX2
        have q0 := Lib.hid (show ∀ z : Cls (Below W.heap.size W), z.w.cell? _ = some _ from fun z => (Mod.of_below z.ok).cell (MW.cell d0 (fun h => h)) (fun h => h))
        have q1 := Lib.hid (show ∀ z : Cls (Below W.heap.size W), z.w.cell? _ = some _ from fun z => (Mod.of_below z.ok).cell (MW.cell d1 (fun h => h)) (fun h => h))
        have q2 := Lib.hid (show ∀ z : Cls (Below W.heap.size W), z.w.cell? _ = some _ from fun z => (Mod.of_below z.ok).cell (MW.cell d2 (fun h => h)) (fun h => h))
        have p0 := Lib.hid (show ∀ z : Cls (Below W.heap.size W), z.w.cell? ⟨wr.heap.size, 0, none⟩ = some (.int .i64 x.acct) from fun z => (Mod.of_below z.ok).cell (cell_of_heap bx 0) (fun h => h))
        have p1 := Lib.hid (show ∀ z : Cls (Below W.heap.size W), z.w.cell? ⟨wr.heap.size, 1, none⟩ = some (.int .i64 x.instr) from fun z => (Mod.of_below z.ok).cell (cell_of_heap bx 1) (fun h => h))
        have p2 := Lib.hid (show ∀ z : Cls (Below W.heap.size W), z.w.cell? ⟨wr.heap.size, 2, none⟩ = some (.int .i64 x.qty) from fun z => (Mod.of_below z.ok).cell (cell_of_heap bx 2) (fun h => h))
        have CALL := Lib.hid (show ∀ z : Cls (Below W.heap.size W), Calls Tryz.prog 113 #[.agg #[.int .i64 y.acct, .int .i64 y.instr, .int .i64 y.qty], .agg #[.int .i64 x.acct, .int .i64 x.instr, .int .i64 x.qty]] z.w fun e w' => e = .returned (.int .i64 (byI y.acct x.acct y.instr x.instr)) ∧ ∃ u : Cls (Below W.heap.size W), w' = u.w from fun z =>
          (byLoc_any z.w y x).mono fun e w' h => ⟨h.1, ⟨w', z.ok.trans (h.2.mono z.ok.size)⟩, rfl⟩)
        obtain ⟨r, hr⟩ : ∃ r, r = byI y.acct x.acct y.instr x.instr := ⟨_, rfl⟩
        rw [← hr] at CALL
        have HRr := Lib.hid hr
        have HWW := Lib.hid hW
        clear hy hc hd hr hW MW bx d0 d1 d2
        have two : r < 0 ∨ 0 ≤ r := by omega
        rcases two with hneg | hneg
        · have hge : ¬ (0 : Int) ≤ r := by omega
          go_wp2_with fail
          rw [← HWW.out]
          clear c0 c1 c2
          refine wp_region_cls (C := Below W.heap.size W) (by kernel_rfl) (by kernel_rfl) ⟨rfl, rfl, rfl, Nat.le_refl _, fun _ _ => rfl⟩ (fun _ => ?_)
          have f0 := q0.out
          have f1 := q1.out
          have f2 := q2.out
          have f3 := p0.out
          have f4 := p1.out
          have f5 := p2.out
          repeat (go_big_quiet_step (exact CALL.out _))
          refine wpQuiet_nil ?_
          intro w2 hC
          clear f0 f1 f2 f3 f4 f5
          have B2 := Lib.hid (BX2.out.trans (hC.mono BX2.out.size))
          clear hC
          go_wp2_with fail
          go_roundw
          case rel => exact ⟨k + 1 + 1, by have := LT.out; omega, by go_num, Lib.hid ⟨fun j z hj hz => by
            by_cases e : j = k + 1
            · subst e; have h1 := HX.out; rw [hz] at h1; cases h1; exact YES.out
            · exact INV.out.1 j z (by omega) hz, fun j z z' hj hz hz' => by
            by_cases e : j = k
            · subst e; have h1 := HY.out; rw [hz] at h1; cases h1; have h2 := HX.out; rw [hz'] at h2; cases h2; exact (byI_lt _ _ _ _).1 (by rw [← HRr.out]; exact hneg)
            · exact INV.out.2 j z z' (by omega) hz hz'⟩, B2.out⟩
          case measure => have := LT.out; simp [intOf]; omega
        · have FL := Lib.hid (EQ.out.trans (decide_eq_false (fun h => by
            have h1 := (byI_lt _ _ _ _).2 (h.rise k y x HY.out HX.out)
            rw [← HRr.out] at h1; omega)))
          go_wp2_with fail
          rw [← HWW.out]
          clear c0 c1 c2
          refine wp_region_cls (C := Below W.heap.size W) (by kernel_rfl) (by kernel_rfl) ⟨rfl, rfl, rfl, Nat.le_refl _, fun _ _ => rfl⟩ (fun _ => ?_)
          have f0 := q0.out
          have f1 := q1.out
          have f2 := q2.out
          have f3 := p0.out
          have f4 := p1.out
          have f5 := p2.out
          repeat (go_big_quiet_step (exact CALL.out _))
          refine wpQuiet_nil ?_
          intro w2 hC
          clear f0 f1 f2 f3 f4 f5
          have B2 := Lib.hid (BX2.out.trans (hC.mono BX2.out.size))
          clear hC
          go_wp2_with fail
          go_ret
          exact ⟨ret_bool FL.out.symm, B2.out⟩
    · have hlt' : ¬ (k : Int) < (l.length : Int) := by omega
      have FL := Lib.hid (EQ.out.trans (decide_eq_true ⟨H1.out, HL.out, AV.out, fun x hx => by
        obtain ⟨j, hj, e⟩ := List.mem_iff_getElem.1 hx
        exact INV.out.1 j x (by omega) (by rw [← e]; exact List.getElem?_eq_getElem hj), fun j x y hx hy => INV.out.2 j x y (by have := (List.getElem?_eq_some_iff.1 hy).1; omega) hx hy⟩))
      go_wp2_with fail
      go_ret
      exact ⟨ret_bool FL.out.symm, BW.out⟩
end Go.Proofs.YtcjbhgnlmmeeeaaGreatDoor

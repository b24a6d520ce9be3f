/- MarginFlags, walked (printed by tools/gen_lawf.py). -/
import Derived.Test.YtcjbhgnlmmeeeaaGreatDoorGl
import Derived.Test.YtcjbhgnlmmeeeaaGreatDoorGh
import Derived.Test.YtcjbhgnlmmeeeaaGreatDoorGj
import Derived.Test.YtcjbhgnlmmeeeaaGreatDoorGk
namespace Go.Proofs.YtcjbhgnlmmeeeaaGreatDoor
open Go.RowKit Go.Bw Go.Maps Go.Shelf Go.Bw.Fall
set_option linter.unusedVariables false
set_option linter.unusedSimpArgs false
set_option maxRecDepth 100000 in
set_option maxHeartbeats 8000000 in
theorem flags_law (w : World) (V : LedV) (L : Led) (h : LedAt w V L) (hs : L.Short) (hG : Grd w) :
    Calls Tryz.prog 8 #[V.val L] w fun e w' => e = .returned (.bool true) ∧ Below w.heap.size w w' := by
  classical
  have WK := Lib.hid (fun W (hb : Below w.heap.size w W) => wakes_any W (hG.below hb))
  have WD := Lib.hid (fun W (hb : Below w.heap.size w W) => wide_any W V L (h.below hb) hs)
  have FL := Lib.hid (fun W (hb : Below w.heap.size w W) (hL : L.accts.length ≤ 1024) => flags_ret W V L (h.below hb) hL (hG.below hb))
  have GD := Lib.hid (fun W (hb : Below w.heap.size w W) (hL : L.accts.length ≤ 1024) (B : Bool) (hB : decide L.Good = B) => rgood_to (h.below hb) hL hB)
  have RF := Lib.hid (fun W (hb : Below w.heap.size w W) (hg : L.Good) => rflags_ret W V L (h.below hb) hg)
  have LC := Lib.hid (ledc h)
  unfold LedV.val at WD FL GD RF ⊢
  obtain ⟨C, hC⟩ : ∃ C, C = V.cells L := ⟨_, rfl⟩
  rw [← hC] at WD FL GD RF LC ⊢
  have BK := Lib.hid (show ¬ 1024 < L.bulk → L.accts.length ≤ 1024 from fun hb => by unfold Led.bulk at hb; omega)
  have A0 := Lib.hid ((At.start w).alloc 31 C)
  obtain ⟨BB, hBB⟩ : ∃ B, B = decide (1024 < L.bulk) := ⟨_, rfl⟩
  rw [← hBB] at WD
  have HB := Lib.hid hBB
  clear h hs hG hC hBB
  go_enter Tryz.func8, Tryz.ntmps8
  go_upto_region 1 with (fail)
  obtain ⟨W0, hW0⟩ : ∃ s, s = w.alloc (.cells C 31) := ⟨_, rfl⟩
  obtain ⟨b1, hb1⟩ : ∃ n, n = w.heap.size := ⟨_, rfl⟩
  have X0 := Lib.hid (show At w W0 [(b1, 31, C)] from by rw [hW0, hb1]; exact A0.out)
  rw [← hW0, ← hb1]
  clear A0 hW0 hb1
  go_wp2_with fail
  refine (WK.out W0 X0.out.low).mono ?_
  rintro e w1 ⟨rfl, hb⟩
  have X1 := Lib.hid (X0.out.go hb)
  clear hb
  go_wp2_with (refine led_load (X1.out.get 0 rfl) LC.out rfl rfl rfl ?_)
  refine (WD.out w1 X1.out.low).mono ?_
  rintro e w2 ⟨rfl, hb⟩
  have X2 := Lib.hid (X1.out.go hb)
  clear hb
  cases hbb : BB with
  | true =>
    subst hbb
    go_wp2_with fail
    go_ret
    exact ⟨rfl, X2.out.low⟩
  | false =>
    subst hbb
    have hL := BK.out (of_decide_eq_false HB.out.symm)
    have FL' := Lib.hid (fun W hb => FL.out W hb hL)
    have GD' := Lib.hid (fun W hb => GD.out W hb hL)
    have FS := Lib.hid (flagsA_short L)
    have GA := Lib.hid (show L.Good → (flagsA L).2 = 0 → (flagsA L).1.Good from fun h h0 => (flagsA_good h h0).2)
    have NB := Lib.hid (show ¬ L.Good → flagsA L = (L0, 43) from flagsA_bad)
    obtain ⟨M, c, hM⟩ : ∃ M c, flagsA L = (M, c) := ⟨_, _, rfl⟩
    rw [hM] at FL' FS GA NB
    rw [hM] at RF
    clear FL GD hM hL
    go_wp2_with (refine led_load (X2.out.get 0 rfl) LC.out rfl rfl rfl ?_)
    refine (FL'.out w2 X2.out.low).mono ?_
    rintro e w3 ⟨U, rfl, own, hb⟩
    have X3 := Lib.hid (X2.out.go hb)
    have OA := Lib.hid own
    have LU := Lib.hid (ledc own.led)
    obtain ⟨a4, c4, hu4⟩ := cells4 own.led
    have U4 := Lib.hid hu4
    unfold LedV.val
    clear own hb hu4
    go_upto_region 6 with (refine led_store (heap_alloc_last _ _) ledc0 LU.out rfl rfl rfl rfl ?_; rw [World.setRow_alloc_new])
    obtain ⟨W4, hW4⟩ : ∃ s, s = w3.alloc (.cells (U.cells M) 31) := ⟨_, rfl⟩
    obtain ⟨b3, hb3⟩ : ∃ n, n = w3.heap.size := ⟨_, rfl⟩
    have X4 := Lib.hid (show At w W4 [(b1, 31, C), (b3, 31, U.cells M)] from by rw [hW4, hb3]; exact X3.out.alloc _ _)
    have OA4 := Lib.hid (show LedOwn W4 w2.heap.size U M from by rw [hW4]; exact OA.out.below ((Below.refl _ _).alloc (Nat.le_refl _) _))
    rw [← hW4, ← hb3]
    clear hW4 hb3 X3 OA
    by_cases hg : L.Good
    · have HG := Lib.hid hg
      clear hg
      go_wp2_with (refine led_load (X4.out.get 0 rfl) LC.out rfl rfl rfl ?_)
      refine (GD'.out W4 X4.out.low true (decide_eq_true HG.out)).mono ?_
      rintro e w5 ⟨rfl, hb⟩
      have X5 := Lib.hid (X4.out.go hb)
      have OA5 := Lib.hid (OA4.out.below hb)
      clear hb
      go_wp2_with (refine led_load (X5.out.get 0 rfl) LC.out rfl rfl rfl ?_)
      refine (RF.out w5 X5.out.low HG.out).mono ?_
      rintro e w6 ⟨U2, rfl, own, hb⟩
      have X6 := Lib.hid (X5.out.go hb)
      have OA6 := Lib.hid (OA5.out.below hb)
      have OB := Lib.hid own
      have LU2 := Lib.hid (ledc own.led)
      unfold LedV.val
      clear own hb
      go_upto_region 9 with (refine led_store (heap_alloc_last _ _) ledc0 LU2.out rfl rfl rfl rfl ?_; rw [World.setRow_alloc_new])
      obtain ⟨W7, hW7⟩ : ∃ s, s = w6.alloc (.cells (U2.cells M) 31) := ⟨_, rfl⟩
      obtain ⟨b5, hb5⟩ : ∃ n, n = w6.heap.size := ⟨_, rfl⟩
      have X7 := Lib.hid (show At w W7 [(b1, 31, C), (b3, 31, U.cells M), (b5, 31, U2.cells M)] from by rw [hW7, hb5]; exact X6.out.alloc _ _)
      have OA7 := Lib.hid (show LedAt W7 U M ∧ LedAt W7 U2 M from by rw [hW7]; exact ⟨(OA6.out.below ((Below.refl _ _).alloc (Nat.le_refl _) _)).led, (OB.out.below ((Below.refl _ _).alloc (Nat.le_refl _) _)).led⟩)
      have SM := Lib.hid (rsame_any W7 U U2 M M OA7.out.1 OA7.out.2 FS.out)
      rw [eqB_yes rfl] at SM
      unfold LedV.val at SM
      rw [← hW7, ← hb5]
      clear hW7 hb5 X6 OA6 OB
      go_wp2_with (first | refine led_load (X7.out.get 1 rfl) LU.out rfl rfl rfl ?_ | refine led_load (X7.out.get 2 rfl) LU2.out rfl rfl rfl ?_)
      refine SM.out.mono ?_
      rintro e w8 ⟨rfl, hb⟩
      have X8 := Lib.hid (X7.out.go hb)
      have OA8 := Lib.hid (OA7.out.1.below hb)
      clear hb
      by_cases hc : c = 0
      · subst hc
        have MG := GA.out HG.out rfl
        have GM := Lib.hid (show Calls Tryz.prog 22 #[U.val M] w8 fun e w' => e = .returned (.bool true) ∧ Below w8.heap.size w8 w' from good_to OA8.out (by have := (good_bulk MG).2.2; omega) (decide_eq_true MG))
        unfold LedV.val at GM
        clear MG
        go_wp2_with (refine led_loadg (X8.out.get 1 rfl) LU.out (by rfl) rfl rfl ?_)
        refine GM.out.mono ?_
        rintro e w9 ⟨rfl, hb⟩
        have X9 := Lib.hid (X8.out.go hb)
        clear hb
        go_wp2_with fail
        go_ret
        exact ⟨rfl, X9.out.low⟩
      · have hc' : (c == 0) = false := beq_false_of_ne hc
        go_wp2_with fail
        go_ret
        exact ⟨rfl, X8.out.low⟩
    · obtain ⟨rfl, rfl⟩ : M = L0 ∧ c = 43 := by have := NB.out hg; injection this with e1 e2; exact ⟨e1, e2⟩
      have HG := Lib.hid hg
      clear hg
      go_wp2_with (refine led_load (X4.out.get 0 rfl) LC.out rfl rfl rfl ?_)
      refine (GD'.out W4 X4.out.low false (decide_eq_false HG.out)).mono ?_
      rintro e w5 ⟨rfl, hb⟩
      have X5 := Lib.hid (X4.out.go hb)
      clear hb
      have y4 : w5.cell? ⟨b3, 4, none⟩ = some (.slice a4 0 c4) := X5.out.cell 1 rfl 4 U4.out
      go_wp2_with fail
      go_ret
      exact ⟨rfl, X5.out.low⟩
end Go.Proofs.YtcjbhgnlmmeeeaaGreatDoor

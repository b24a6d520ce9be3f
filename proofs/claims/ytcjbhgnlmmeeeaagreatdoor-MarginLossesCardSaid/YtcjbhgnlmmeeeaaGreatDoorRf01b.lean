/- The document's amounts (bulwarkref01), walked: Fits, Add, Sub, Mul, MulDiv. -/
import Derived.Test.YtcjbhgnlmmeeeaaGreatDoorRf01
namespace Go.Proofs.YtcjbhgnlmmeeeaaGreatDoor
open Go.RowKit Go.Bw Go.Maps
set_option linter.unusedVariables false
set_option linter.unusedSimpArgs false

set_option maxHeartbeats 400000 in
theorem rfits_any (x : Int) (w : World) : Calls Tryz.prog 41 #[.int .i64 x] w fun e w' => e = .returned (.bool (fitsA x)) ∧ w = w' := by
  obtain ⟨b, hb⟩ : ∃ b, b = fitsA x := ⟨_, rfl⟩
  rw [← hb]
  by_cases h1 : x ≤ 4611686018427387904
  · by_cases h2 : -4611686018427387904 ≤ x
    · have B := Lib.hid (hb.trans (fitsA_true.2 ⟨h2, h1⟩))
      clear hb
      go_enter Tryz.func41, Tryz.ntmps41
      go_wp2_with fail
      go_ret
      exact ⟨ret_bool (by first | (rw [B.out]; done) | (rw [B.out, decide_eq_true_iff]; omega)), rfl⟩
    · have B := Lib.hid (hb.trans (fitsA_false.2 (by omega)))
      clear hb
      go_enter Tryz.func41, Tryz.ntmps41
      go_wp2_with fail
      go_ret
      exact ⟨ret_bool (by first | (rw [B.out]; done) | (rw [B.out, decide_eq_false_iff_not]; omega)), rfl⟩
  · have B := Lib.hid (hb.trans (fitsA_false.2 (by omega)))
    clear hb
    go_enter Tryz.func41, Tryz.ntmps41
    go_wp2_with fail
    go_ret
    exact ⟨ret_bool (by rw [B.out]), rfl⟩
theorem rfits_to {x : Int} {b : Bool} (hb : fitsA x = b) (w : World) : Calls Tryz.prog 41 #[.int .i64 x] w fun e w' => e = .returned (.bool b) ∧ w = w' := by
  rw [← hb]; exact rfits_any x w

set_option maxHeartbeats 1000000 in
theorem radd_any (a b : Int) (w : World) :
    Calls Tryz.prog 46 #[.int .i64 a, .int .i64 b] w fun e w' => e = .returned (.tuple #[.int .i64 (addA a b).1, .int .i64 (addA a b).2]) ∧ w = w' := by
  obtain ⟨R, hR⟩ : ∃ R, R = addA a b := ⟨_, rfl⟩
  rw [← hR]
  cases hfa : fitsA a with
  | false =>
    have ER := Lib.hid (hR.trans (addA_over (Or.inl hfa)))
    have FA := Lib.hid hfa
    clear hR hfa
    go_enter Tryz.func46, Tryz.ntmps46
    go_wp2_with (go_at_call 41; refine (rfits_to FA.out _).mono ?_; rintro e w' ⟨rfl, rfl⟩)
    go_ret2
    rw [ER.out]
    exact ⟨rfl, rfl⟩
  | true =>
  cases hfb : fitsA b with
  | false =>
    have ER := Lib.hid (hR.trans (addA_over (Or.inr hfb)))
    have FA := Lib.hid hfa
    have FB := Lib.hid hfb
    clear hR hfa hfb
    go_enter Tryz.func46, Tryz.ntmps46
    go_wp2_with fail
    refine (rfits_to FA.out _).mono ?_
    rintro e w' ⟨rfl, rfl⟩
    go_wp2_with fail
    refine (rfits_to FB.out _).mono ?_
    rintro e w' ⟨rfl, rfl⟩
    go_wp2_with fail
    go_ret2
    rw [ER.out]
    exact ⟨rfl, rfl⟩
  | true =>
  have b1 := fitsA_true.1 hfa
  have b2 := fitsA_true.1 hfb
  have FA := Lib.hid hfa
  have FB := Lib.hid hfb
  obtain ⟨l1, l2⟩ := b1
  obtain ⟨l3, l4⟩ := b2
  by_cases hov : fitsA (a + b) = true
  · have h3 := fitsA_true.1 hov
    have ER := Lib.hid (hR.trans (show _ = (a + b, (0 : Int)) from by unfold addA; rw [if_pos ⟨hfa, hfb, hov⟩]))
    obtain ⟨l5, l6⟩ := h3
    have three : (0 < a ∧ ¬ 4611686018427387904 - a < b) ∨ (¬ 0 < a ∧ a < 0 ∧ ¬ b < -4611686018427387904 - a) ∨ (¬ 0 < a ∧ ¬ a < 0) := by omega
    clear hR hfa hfb hov
    rcases three with ⟨h1, h2⟩ | ⟨h1, h2, h3⟩ | ⟨h1, h2⟩
    all_goals
      go_enter Tryz.func46, Tryz.ntmps46
      go_wp2_with fail
      refine (rfits_to FA.out _).mono ?_
      rintro e w' ⟨rfl, rfl⟩
      go_wp2_with fail
      refine (rfits_to FB.out _).mono ?_
      rintro e w' ⟨rfl, rfl⟩
      go_wp2_with fail
      go_ret2
      rw [ER.out]
      exact ⟨rfl, rfl⟩
  · have h3 := fitsA_false.1 (by simpa using hov)
    have ER := Lib.hid (hR.trans (show _ = ((0, 4) : Int × Int) from by unfold addA; rw [if_neg (fun h => hov h.2.2)]))
    have two : (0 < a ∧ 4611686018427387904 - a < b) ∨ (¬ 0 < a ∧ a < 0 ∧ b < -4611686018427387904 - a) := by omega
    clear hR hfa hfb hov h3
    rcases two with ⟨h1, h2⟩ | ⟨h1, h2, h3⟩
    all_goals
      go_enter Tryz.func46, Tryz.ntmps46
      go_wp2_with fail
      refine (rfits_to FA.out _).mono ?_
      rintro e w' ⟨rfl, rfl⟩
      go_wp2_with fail
      refine (rfits_to FB.out _).mono ?_
      rintro e w' ⟨rfl, rfl⟩
      go_wp2_with fail
      go_ret2
      rw [ER.out]
      exact ⟨rfl, rfl⟩

theorem subA_over {a b : Int} (h : fitsA a = false ∨ fitsA b = false) : subA a b = (0, 4) := by
  unfold subA; rw [if_neg]; rintro ⟨h1, h2, _⟩; rcases h with h | h <;> simp_all
theorem subA_neg {a b : Int} (hb : fitsA b = true) : subA a b = addA a (-b) := by
  have h := fitsA_true.1 hb
  have hn : fitsA (-b) = true := fitsA_true.2 (by omega)
  unfold subA addA
  rw [hb, hn, Int.sub_eq_add_neg]
set_option maxHeartbeats 1000000 in
theorem rsub_any (a b : Int) (w : World) :
    Calls Tryz.prog 49 #[.int .i64 a, .int .i64 b] w fun e w' => e = .returned (.tuple #[.int .i64 (subA a b).1, .int .i64 (subA a b).2]) ∧ w = w' := by
  obtain ⟨R, hR⟩ : ∃ R, R = subA a b := ⟨_, rfl⟩
  rw [← hR]
  cases hfa : fitsA a with
  | false =>
    have ER := Lib.hid (hR.trans (subA_over (Or.inl hfa)))
    have FA := Lib.hid hfa
    clear hR hfa
    go_enter Tryz.func49, Tryz.ntmps49
    go_wp2_with (go_at_call 41; refine (rfits_to FA.out _).mono ?_; rintro e w' ⟨rfl, rfl⟩)
    go_ret2
    rw [ER.out]
    exact ⟨rfl, rfl⟩
  | true =>
  cases hfb : fitsA b with
  | false =>
    have ER := Lib.hid (hR.trans (subA_over (Or.inr hfb)))
    have FA := Lib.hid hfa
    have FB := Lib.hid hfb
    clear hR hfa hfb
    go_enter Tryz.func49, Tryz.ntmps49
    go_wp2_with fail
    refine (rfits_to FA.out _).mono ?_
    rintro e w' ⟨rfl, rfl⟩
    go_wp2_with fail
    refine (rfits_to FB.out _).mono ?_
    rintro e w' ⟨rfl, rfl⟩
    go_wp2_with fail
    go_ret2
    rw [ER.out]
    exact ⟨rfl, rfl⟩
  | true =>
    have ER := Lib.hid (hR.trans (subA_neg hfb))
    obtain ⟨l3, l4⟩ := fitsA_true.1 hfb
    have FA := Lib.hid hfa
    have FB := Lib.hid hfb
    clear hR hfa hfb
    go_enter Tryz.func49, Tryz.ntmps49
    go_wp2_with fail
    refine (rfits_to FA.out _).mono ?_
    rintro e w' ⟨rfl, rfl⟩
    go_wp2_with fail
    refine (rfits_to FB.out _).mono ?_
    rintro e w' ⟨rfl, rfl⟩
    go_wp2_with fail
    refine (radd_any a (-b) _).mono ?_
    rw [← ER.out]
    rintro e w' ⟨rfl, rfl⟩
    go_wp2_with fail
    go_ret2
    exact ⟨rfl, rfl⟩

set_option maxHeartbeats 1000000 in
theorem rof_any (W : Nat) (h l : Nat) (hh : h = hiN W) (hl : l = loN W) (neg : Bool) (w : World) :
    Calls Tryz.prog 126 #[.agg #[.int .u64 (h : Nat), .int .u64 (l : Nat)], .bool neg] w fun e w' => e = .returned (.tuple #[.int .i64 (ofA W neg).1, .int .i64 (ofA W neg).2]) ∧ Below w.heap.size w w' := by
  have hW := hi_lo W
  have ll := lo_lt W
  rw [← hh, ← hl] at hW
  rw [← hl] at ll
  clear hh hl
  by_cases hb : 0 < h ∨ 4611686018427387904 < l
  · have E := Lib.hid (ofA_over (q := W) (neg := neg) (by omega))
    rw [E.out]
    have two : (0 : Int) < (h : Int) ∨ (¬ (0 : Int) < (h : Int) ∧ (4611686018427387904 : Int) < (l : Int)) := by omega
    clear hb hW ll
    rcases two with h1 | ⟨h1, h2⟩
    all_goals
      go_enter Tryz.func126, Tryz.ntmps126
      go_wp2_with fail
      go_ret2
      exact ⟨rfl, (Below.refl _ _).alloc (Nat.le_refl _) _⟩
  · have h0 : h = 0 := by omega
    subst h0
    have hlW : l = W := by omega
    subst hlW
    have hlo : l ≤ 4611686018427387904 := by omega
    have E := Lib.hid (ofA_ok (neg := neg) hlo)
    rw [E.out]
    have h2 : ¬ (4611686018427387904 : Int) < (l : Int) := by omega
    have h3 : (l : Int) ≤ 4611686018427387904 := by omega
    clear hb hW ll
    cases neg
    all_goals
      go_enter Tryz.func126, Tryz.ntmps126
      go_wp2_with fail
      go_ret2
      exact ⟨ret_pair (by first | rfl | (simp [IntKind.wrap_i64]; done) | (simp [IntKind.wrap_i64]; omega)) rfl, (Below.refl _ _).alloc (Nat.le_refl _) _⟩

set_option maxHeartbeats 1000000 in
theorem rmul_any (a b : Int) (w : World) :
    Calls Tryz.prog 92 #[.int .i64 a, .int .i64 b] w fun e w' => e = .returned (.tuple #[.int .i64 (mulA a b).1, .int .i64 (mulA a b).2]) ∧ Below w.heap.size w w' := by
  obtain ⟨R, hR⟩ : ∃ R, R = mulA a b := ⟨_, rfl⟩
  rw [← hR]
  cases hfa : fitsA a with
  | false =>
    have ER := Lib.hid (hR.trans (mulA_over (Or.inl hfa)))
    have FA := Lib.hid hfa
    clear hR hfa
    go_enter Tryz.func92, Tryz.ntmps92
    go_wp2_with (go_at_call 41; refine (rfits_to FA.out _).mono ?_; rintro e w' ⟨rfl, rfl⟩)
    go_ret2
    rw [ER.out]
    exact ⟨rfl, Below.refl _ _⟩
  | true =>
  cases hfb : fitsA b with
  | false =>
    have ER := Lib.hid (hR.trans (mulA_over (Or.inr hfb)))
    have FA := Lib.hid hfa
    have FB := Lib.hid hfb
    clear hR hfa hfb
    go_enter Tryz.func92, Tryz.ntmps92
    go_wp2_with fail
    refine (rfits_to FA.out _).mono ?_
    rintro e w' ⟨rfl, rfl⟩
    go_wp2_with fail
    refine (rfits_to FB.out _).mono ?_
    rintro e w' ⟨rfl, rfl⟩
    go_wp2_with fail
    go_ret2
    rw [ER.out]
    exact ⟨rfl, Below.refl _ _⟩
  | true =>
  have b1 := fitsA_true.1 hfa
  have b2 := fitsA_true.1 hfb
  obtain ⟨sg, hsg⟩ : ∃ sg, sg = (decide (a < 0) != decide (b < 0)) := ⟨_, rfl⟩
  have ER := Lib.hid (hR.trans (show _ = ofA (a.natAbs * b.natAbs) sg from by unfold mulA; rw [if_pos ⟨hfa, hfb⟩, hsg]))
  have FA := Lib.hid hfa
  have FB := Lib.hid hfb
  clear hR hfa hfb
  obtain ⟨x, hx⟩ : ∃ x, x = a.natAbs := ⟨_, rfl⟩
  obtain ⟨y, hy⟩ : ∃ x, x = b.natAbs := ⟨_, rfl⟩
  rw [← hx, ← hy] at ER
  have TM := Lib.hid (fun w => rtimes_any x y (by omega) (by omega) w)
  obtain ⟨h, hh⟩ : ∃ n, n = hiN (x * y) := ⟨_, rfl⟩
  obtain ⟨l, hl⟩ : ∃ n, n = loN (x * y) := ⟨_, rfl⟩
  rw [← hh, ← hl] at TM
  have OF := Lib.hid (fun w => rof_any (x * y) h l hh hl sg w)
  rw [← ER.out] at OF
  have X := Lib.hid hx
  have Y := Lib.hid hy
  have SG := Lib.hid hsg
  clear hx hy hh hl b1 b2 hsg
  go_enter Tryz.func92, Tryz.ntmps92
  go_wp2_with fail
  refine (rfits_to FA.out _).mono ?_
  rintro e w' ⟨rfl, rfl⟩
  go_wp2_with fail
  refine (rfits_to FB.out _).mono ?_
  rintro e w' ⟨rfl, rfl⟩
  go_wp2_with fail
  refine (rabs_any _ FA.out _).mono ?_
  rw [← X.out]
  rintro e w' ⟨rfl, rfl⟩
  go_wp2_with fail
  refine (rabs_any _ FB.out _).mono ?_
  rw [← Y.out]
  rintro e w' ⟨rfl, rfl⟩
  go_wp2_with fail
  refine (TM.out _).mono ?_
  rintro e w1 ⟨rfl, hb1⟩
  go_wp2_with fail
  rw [show (!(decide (a < 0) == decide (b < 0))) = sg from SG.out.symm]
  refine (OF.out _).mono ?_
  rintro e w2 ⟨rfl, hb2⟩
  go_wp2_with fail
  go_ret2
  exact ⟨ret_pair rfl rfl, hb1.trans (hb2.mono hb1.size)⟩

set_option maxRecDepth 100000 in
set_option maxHeartbeats 1000000 in
theorem rmd_fits (a b c mode : Int) (w : World) (hbad : fitsA a = false ∨ fitsA b = false ∨ fitsA c = false) :
    Calls Tryz.prog 86 #[.int .i64 a, .int .i64 b, .int .i64 c, .int .i64 mode] w fun e w' => e = .returned (.tuple #[.int .i64 (mdA a b c mode).1, .int .i64 (mdA a b c mode).2]) ∧ Below w.heap.size w w' := by
  obtain ⟨R, hR⟩ : ∃ R, R = mdA a b c mode := ⟨_, rfl⟩
  rw [← hR]
  have ER := Lib.hid (hR.trans (show mdA a b c mode = (0, 4) from by
    unfold mdA; rw [if_pos]; rintro ⟨h1, h2, h3⟩; rcases hbad with h | h | h <;> simp_all))
  clear hR
  cases hfa : fitsA a with
  | false =>
    have FA := Lib.hid hfa
    clear hfa hbad
    go_enter Tryz.func86, Tryz.ntmps86
    go_wp2_with (go_at_call 41; refine (rfits_to FA.out _).mono ?_; rintro e w' ⟨rfl, rfl⟩)
    go_ret2
    rw [ER.out]
    exact ⟨rfl, Below.refl _ _⟩
  | true =>
  have FA := Lib.hid hfa
  cases hfb : fitsA b with
  | false =>
    have FB := Lib.hid hfb
    clear hfa hfb hbad
    go_enter Tryz.func86, Tryz.ntmps86
    go_wp2_with fail
    refine (rfits_to FA.out _).mono ?_
    rintro e w' ⟨rfl, rfl⟩
    go_wp2_with fail
    refine (rfits_to FB.out _).mono ?_
    rintro e w' ⟨rfl, rfl⟩
    go_wp2_with fail
    go_ret2
    rw [ER.out]
    exact ⟨rfl, Below.refl _ _⟩
  | true =>
  have FB := Lib.hid hfb
  have FC := Lib.hid (show fitsA c = false from by rcases hbad with h | h | h <;> simp_all)
  clear hfa hfb hbad
  go_enter Tryz.func86, Tryz.ntmps86
  go_wp2_with fail
  refine (rfits_to FA.out _).mono ?_
  rintro e w' ⟨rfl, rfl⟩
  go_wp2_with fail
  refine (rfits_to FB.out _).mono ?_
  rintro e w' ⟨rfl, rfl⟩
  go_wp2_with fail
  refine (rfits_to FC.out _).mono ?_
  rintro e w' ⟨rfl, rfl⟩
  go_wp2_with fail
  go_ret2
  rw [ER.out]
  exact ⟨rfl, Below.refl _ _⟩

set_option maxRecDepth 100000 in
set_option maxHeartbeats 1000000 in
theorem rmd_arg (a b c mode : Int) (ha : fitsA a = true) (hb : fitsA b = true) (hc : fitsA c = true) (w : World) (hbad : c = 0 ∨ mode < 0 ∨ 3 < mode) :
    Calls Tryz.prog 86 #[.int .i64 a, .int .i64 b, .int .i64 c, .int .i64 mode] w fun e w' => e = .returned (.tuple #[.int .i64 (mdA a b c mode).1, .int .i64 (mdA a b c mode).2]) ∧ Below w.heap.size w w' := by
  obtain ⟨R, hR⟩ : ∃ R, R = mdA a b c mode := ⟨_, rfl⟩
  rw [← hR]
  have FA := Lib.hid ha
  have FB := Lib.hid hb
  have FC := Lib.hid hc
  have ER := Lib.hid (hR.trans (show mdA a b c mode = (0, 1) from by
    unfold mdA; rw [if_neg (by simp [ha, hb, hc]), if_pos hbad]))
  clear ha hb hc hR
  have three : (c == 0) = true ∨ ((c == 0) = false ∧ mode < 0) ∨ ((c == 0) = false ∧ ¬ mode < 0 ∧ 3 < mode) := by
    by_cases h0 : c = 0
    · left; simp [h0]
    · right; simp [h0]; omega
  clear hbad
  rcases three with h | ⟨h, h2⟩ | ⟨h, h2, h3⟩
  all_goals
    go_enter Tryz.func86, Tryz.ntmps86
    go_wp2_with fail
    refine (rfits_to FA.out _).mono ?_
    rintro e w' ⟨rfl, rfl⟩
    go_wp2_with fail
    refine (rfits_to FB.out _).mono ?_
    rintro e w' ⟨rfl, rfl⟩
    go_wp2_with fail
    refine (rfits_to FC.out _).mono ?_
    rintro e w' ⟨rfl, rfl⟩
    go_wp2_with fail
    go_ret2
    rw [ER.out]
    exact ⟨rfl, Below.refl _ _⟩

theorem mdBelow {w w2 w3 wx : World} (h : Below w.heap.size w w2) (h3 : Below wx.heap.size wx w3) (hx : Mod (fun k => w2.heap.size ≤ k) w2 wx := by first | exact (Mod.refl _ _).alloc _ | exact ((Mod.refl _ _).alloc _).setCell _ (fun _ => Nat.le_refl _) | exact (((Mod.refl _ _).alloc _).setCell _ (fun _ => Nat.le_refl _)).setCell _ (fun _ => Nat.le_refl _)) : Below w.heap.size w w3 :=
  ((Mod.of_below h).trans ((hx.trans (Mod.of_below h3) (fun _ _ h => h.elim)).mono (T := fun _ => False) (fun i hi h => by omega)) (fun _ _ h => h)).toBelow
set_option maxRecDepth 100000 in
set_option maxHeartbeats 4000000 in
theorem rmd_main (a b c mode : Int) (ha : fitsA a = true) (hb : fitsA b = true) (hc : fitsA c = true) (w : World) (hc0 : c ≠ 0) (hm0 : 0 ≤ mode) (hm3 : mode ≤ 3) :
    Calls Tryz.prog 86 #[.int .i64 a, .int .i64 b, .int .i64 c, .int .i64 mode] w fun e w' => e = .returned (.tuple #[.int .i64 (mdA a b c mode).1, .int .i64 (mdA a b c mode).2]) ∧ Below w.heap.size w w' := by
  have FA := Lib.hid ha
  have FB := Lib.hid hb
  have FC := Lib.hid hc
  obtain ⟨R, hR⟩ : ∃ R, R = mdA a b c mode := ⟨_, rfl⟩
  rw [← hR]
  have ba := fitsA_true.1 ha
  have bb := fitsA_true.1 hb
  have bc := fitsA_true.1 hc
  obtain ⟨x, hx⟩ : ∃ x, x = a.natAbs := ⟨_, rfl⟩
  obtain ⟨y, hy⟩ : ∃ x, x = b.natAbs := ⟨_, rfl⟩
  obtain ⟨z, hz⟩ : ∃ x, x = c.natAbs := ⟨_, rfl⟩
  obtain ⟨ng, hng⟩ : ∃ g, g = negA a b c := ⟨_, rfl⟩
  obtain ⟨n1, hn1⟩ : ∃ g, g = (decide (a < 0) != decide (b < 0)) := ⟨_, rfl⟩
  have N2 := Lib.hid (show ng = (n1 != decide (c < 0)) from by rw [hng, hn1]; rfl)
  obtain ⟨q, hq⟩ : ∃ q, q = x * y / z := ⟨_, rfl⟩
  obtain ⟨r, hr⟩ : ∃ q, q = x * y % z := ⟨_, rfl⟩
  have ER := Lib.hid (show R = ofA (q + if r ≠ 0 ∧ growsA mode ng = true then 1 else 0) ng from by
    rw [hR, hq, hr]; unfold mdA; rw [if_neg (by simp [ha, hb, hc]), if_neg (by omega), ← hx, ← hy, ← hz, ← hng])
  have hxy : x * y ≤ 4611686018427387904 * 4611686018427387904 := Nat.mul_le_mul (by omega) (by omega)
  have TM := Lib.hid (fun w => rtimes_any x y (by omega) (by omega) w)
  obtain ⟨h, hh⟩ : ∃ n, n = hiN (x * y) := ⟨_, rfl⟩
  obtain ⟨l, hl⟩ : ∃ n, n = loN (x * y) := ⟨_, rfl⟩
  rw [← hh, ← hl] at TM
  have OV := Lib.hid (fun w => rover_any (x * y) z (by omega) (by omega) (by omega) h l hh hl w)
  rw [← hq, ← hr] at OV
  have QB := Lib.hid (show q ≤ 4611686018427387904 * 4611686018427387904 from by rw [hq]; exact Nat.le_trans (Nat.div_le_self _ _) hxy)
  have X := Lib.hid hx
  have Y := Lib.hid hy
  have ZZ := Lib.hid hz
  have N1 := Lib.hid hn1
  have hc1 : (c == 0) = false := by simpa using hc0
  clear ha hb hc hR ba bb bc hx hy hz hng hn1 hq hr hh hl hxy hc0
  obtain ⟨qh, hqh⟩ : ∃ n, n = hiN q := ⟨_, rfl⟩
  obtain ⟨ql, hql⟩ : ∃ n, n = loN q := ⟨_, rfl⟩
  rw [← hqh, ← hql] at OV
  have QHL := Lib.hid (And.intro hqh hql)
  clear hqh hql
  go_enter Tryz.func86, Tryz.ntmps86
  go_wp2_with fail
  refine (rfits_to FA.out _).mono ?_
  rintro e w' ⟨rfl, rfl⟩
  go_wp2_with fail
  refine (rfits_to FB.out _).mono ?_
  rintro e w' ⟨rfl, rfl⟩
  go_wp2_with fail
  refine (rfits_to FC.out _).mono ?_
  rintro e w' ⟨rfl, rfl⟩
  go_upto_if 42 with (fail)
  rw [show (!(decide (a < 0) == decide (b < 0))) = n1 from N1.out.symm]
  go_cut [10] from 43 to 44 (fun v10 wx => v10 = .bool ng ∧ wx = w)
  case first =>
    by_cases hcn : c < 0
    · have e : n1 = !ng := by rw [N2.out, decide_eq_true hcn]; cases n1 <;> rfl
      subst e
      go_wp2_with fail
      go_meet
      case rel => exact ⟨by first | rfl | simp, rfl⟩
    · have e : n1 = ng := by rw [N2.out, decide_eq_false hcn]; cases n1 <;> rfl
      subst e
      go_wp2_with fail
      go_meet
      case rel => exact ⟨rfl, rfl⟩
  case rest =>
    obtain ⟨rfl, rfl⟩ := hcut
    go_wp2_with fail
    refine (rabs_any _ FA.out _).mono ?_
    rw [← X.out]
    rintro e w1 ⟨rfl, rfl⟩
    go_wp2_with fail
    refine (rabs_any _ FB.out _).mono ?_
    rw [← Y.out]
    rintro e w1 ⟨rfl, rfl⟩
    go_wp2_with fail
    refine (TM.out _).mono ?_
    rintro e w1 ⟨rfl, hb1⟩
    have B1 := Lib.hid hb1
    clear hb1
    go_wp2_with fail
    refine (rabs_any _ FC.out _).mono ?_
    rw [← ZZ.out]
    rintro e w2 ⟨rfl, rfl⟩
    go_wp2_with fail
    refine (OV.out _).mono ?_
    rintro e w2 ⟨rfl, hb2⟩
    have B2 := Lib.hid (B1.out.trans (hb2.mono B1.out.size))
    clear hb2
    go_upto_region 9 with (fail)
    have m4 : mode = 0 ∨ mode = 1 ∨ mode = 2 ∨ mode = 3 := by omega
    have hll : ql < 18446744073709551616 := by rw [QHL.out.2]; exact lo_lt q
    have LL := Lib.hid hll
    have QS := Lib.hid (show qh * 18446744073709551616 + ql = q from by rw [QHL.out.1, QHL.out.2]; exact hi_lo q)
    clear hm0 hm3 hll
    rcases m4 with rfl | rfl | rfl | rfl <;> cases ng <;> by_cases hr0 : r = 0
    · have h0 : ¬ (0 : Int) < (r : Int) := by omega
      have EO := Lib.hid (show R = ofA q false from by rw [ER.out, if_neg (fun h => h.1 hr0), Nat.add_zero])
      have OF := Lib.hid (fun w => rof_any q qh ql QHL.out.1 QHL.out.2 false w)
      rw [← EO.out] at OF
      clear hr0
      go_wp2_with fail
      refine (OF.out _).mono ?_
      rintro e w3 ⟨rfl, hb3⟩
      go_wp2_with fail
      go_ret2
      exact ⟨ret_pair rfl rfl, mdBelow B2.out hb3⟩
    · have h0 : (0 : Int) < (r : Int) := by omega
      have EO := Lib.hid (show R = ofA q false from by rw [ER.out, if_neg (fun h => absurd h.2 (by decide)), Nat.add_zero])
      have OF := Lib.hid (fun w => rof_any q qh ql QHL.out.1 QHL.out.2 false w)
      rw [← EO.out] at OF
      clear hr0
      go_wp2_with fail
      refine (OF.out _).mono ?_
      rintro e w3 ⟨rfl, hb3⟩
      go_wp2_with fail
      go_ret2
      exact ⟨ret_pair rfl rfl, mdBelow B2.out hb3⟩
    · have h0 : ¬ (0 : Int) < (r : Int) := by omega
      have EO := Lib.hid (show R = ofA q true from by rw [ER.out, if_neg (fun h => h.1 hr0), Nat.add_zero])
      have OF := Lib.hid (fun w => rof_any q qh ql QHL.out.1 QHL.out.2 true w)
      rw [← EO.out] at OF
      clear hr0
      go_wp2_with fail
      refine (OF.out _).mono ?_
      rintro e w3 ⟨rfl, hb3⟩
      go_wp2_with fail
      go_ret2
      exact ⟨ret_pair rfl rfl, mdBelow B2.out hb3⟩
    · have h0 : (0 : Int) < (r : Int) := by omega
      have EO := Lib.hid (show R = ofA (q + 1) true from by rw [ER.out, if_pos ⟨hr0, by decide⟩])
      clear hr0
      by_cases hcar : ql = 18446744073709551615
      · have OF := Lib.hid (fun w => rof_any (q + 1) (qh + 1) 0 (by have := QS.out; unfold hiN; omega) (by have := QS.out; unfold loN; omega) true w)
        rw [← EO.out] at OF
        have hq1 := QS.out
        have hq2 := QB.out
        have hqb : (qh : Int) ≤ 18446744073709551614 := by omega
        have hw : IntKind.u64.wrap ((ql : Int) + 1) = 0 := by rw [wrap_u64]; omega
        clear hq1 hq2 hcar
        go_wp2_with fail
        refine (OF.out _).mono ?_
        rintro e w3 ⟨rfl, hb3⟩
        have b3 := hb3.size
        simp at b3
        go_wp2_with fail
        go_ret2
        exact ⟨ret_pair rfl rfl, mdBelow B2.out hb3⟩
      · have OF := Lib.hid (fun w => rof_any (q + 1) qh (ql + 1) (by have := QS.out; have := LL.out; unfold hiN; omega) (by have := QS.out; have := LL.out; unfold loN; omega) true w)
        rw [← EO.out] at OF
        have hqb : (ql : Int) ≤ 18446744073709551614 := by have := LL.out; omega
        clear hcar
        go_wp2_with fail
        refine (OF.out _).mono ?_
        rintro e w3 ⟨rfl, hb3⟩
        go_wp2_with fail
        go_ret2
        exact ⟨ret_pair rfl rfl, mdBelow B2.out hb3⟩
    · have h0 : ¬ (0 : Int) < (r : Int) := by omega
      have EO := Lib.hid (show R = ofA q false from by rw [ER.out, if_neg (fun h => h.1 hr0), Nat.add_zero])
      have OF := Lib.hid (fun w => rof_any q qh ql QHL.out.1 QHL.out.2 false w)
      rw [← EO.out] at OF
      clear hr0
      go_wp2_with fail
      refine (OF.out _).mono ?_
      rintro e w3 ⟨rfl, hb3⟩
      go_wp2_with fail
      go_ret2
      exact ⟨ret_pair rfl rfl, mdBelow B2.out hb3⟩
    · have h0 : (0 : Int) < (r : Int) := by omega
      have EO := Lib.hid (show R = ofA (q + 1) false from by rw [ER.out, if_pos ⟨hr0, by decide⟩])
      clear hr0
      by_cases hcar : ql = 18446744073709551615
      · have OF := Lib.hid (fun w => rof_any (q + 1) (qh + 1) 0 (by have := QS.out; unfold hiN; omega) (by have := QS.out; unfold loN; omega) false w)
        rw [← EO.out] at OF
        have hq1 := QS.out
        have hq2 := QB.out
        have hqb : (qh : Int) ≤ 18446744073709551614 := by omega
        have hw : IntKind.u64.wrap ((ql : Int) + 1) = 0 := by rw [wrap_u64]; omega
        clear hq1 hq2 hcar
        go_wp2_with fail
        refine (OF.out _).mono ?_
        rintro e w3 ⟨rfl, hb3⟩
        have b3 := hb3.size
        simp at b3
        go_wp2_with fail
        go_ret2
        exact ⟨ret_pair rfl rfl, mdBelow B2.out hb3⟩
      · have OF := Lib.hid (fun w => rof_any (q + 1) qh (ql + 1) (by have := QS.out; have := LL.out; unfold hiN; omega) (by have := QS.out; have := LL.out; unfold loN; omega) false w)
        rw [← EO.out] at OF
        have hqb : (ql : Int) ≤ 18446744073709551614 := by have := LL.out; omega
        clear hcar
        go_wp2_with fail
        refine (OF.out _).mono ?_
        rintro e w3 ⟨rfl, hb3⟩
        go_wp2_with fail
        go_ret2
        exact ⟨ret_pair rfl rfl, mdBelow B2.out hb3⟩
    · have h0 : ¬ (0 : Int) < (r : Int) := by omega
      have EO := Lib.hid (show R = ofA q true from by rw [ER.out, if_neg (fun h => h.1 hr0), Nat.add_zero])
      have OF := Lib.hid (fun w => rof_any q qh ql QHL.out.1 QHL.out.2 true w)
      rw [← EO.out] at OF
      clear hr0
      go_wp2_with fail
      refine (OF.out _).mono ?_
      rintro e w3 ⟨rfl, hb3⟩
      go_wp2_with fail
      go_ret2
      exact ⟨ret_pair rfl rfl, mdBelow B2.out hb3⟩
    · have h0 : (0 : Int) < (r : Int) := by omega
      have EO := Lib.hid (show R = ofA q true from by rw [ER.out, if_neg (fun h => absurd h.2 (by decide)), Nat.add_zero])
      have OF := Lib.hid (fun w => rof_any q qh ql QHL.out.1 QHL.out.2 true w)
      rw [← EO.out] at OF
      clear hr0
      go_wp2_with fail
      refine (OF.out _).mono ?_
      rintro e w3 ⟨rfl, hb3⟩
      go_wp2_with fail
      go_ret2
      exact ⟨ret_pair rfl rfl, mdBelow B2.out hb3⟩
    · have h0 : ¬ (0 : Int) < (r : Int) := by omega
      have EO := Lib.hid (show R = ofA q false from by rw [ER.out, if_neg (fun h => h.1 hr0), Nat.add_zero])
      have OF := Lib.hid (fun w => rof_any q qh ql QHL.out.1 QHL.out.2 false w)
      rw [← EO.out] at OF
      clear hr0
      go_wp2_with fail
      refine (OF.out _).mono ?_
      rintro e w3 ⟨rfl, hb3⟩
      go_wp2_with fail
      go_ret2
      exact ⟨ret_pair rfl rfl, mdBelow B2.out hb3⟩
    · have h0 : (0 : Int) < (r : Int) := by omega
      have EO := Lib.hid (show R = ofA q false from by rw [ER.out, if_neg (fun h => absurd h.2 (by decide)), Nat.add_zero])
      have OF := Lib.hid (fun w => rof_any q qh ql QHL.out.1 QHL.out.2 false w)
      rw [← EO.out] at OF
      clear hr0
      go_wp2_with fail
      refine (OF.out _).mono ?_
      rintro e w3 ⟨rfl, hb3⟩
      go_wp2_with fail
      go_ret2
      exact ⟨ret_pair rfl rfl, mdBelow B2.out hb3⟩
    · have h0 : ¬ (0 : Int) < (r : Int) := by omega
      have EO := Lib.hid (show R = ofA q true from by rw [ER.out, if_neg (fun h => h.1 hr0), Nat.add_zero])
      have OF := Lib.hid (fun w => rof_any q qh ql QHL.out.1 QHL.out.2 true w)
      rw [← EO.out] at OF
      clear hr0
      go_wp2_with fail
      refine (OF.out _).mono ?_
      rintro e w3 ⟨rfl, hb3⟩
      go_wp2_with fail
      go_ret2
      exact ⟨ret_pair rfl rfl, mdBelow B2.out hb3⟩
    · have h0 : (0 : Int) < (r : Int) := by omega
      have EO := Lib.hid (show R = ofA q true from by rw [ER.out, if_neg (fun h => absurd h.2 (by decide)), Nat.add_zero])
      have OF := Lib.hid (fun w => rof_any q qh ql QHL.out.1 QHL.out.2 true w)
      rw [← EO.out] at OF
      clear hr0
      go_wp2_with fail
      refine (OF.out _).mono ?_
      rintro e w3 ⟨rfl, hb3⟩
      go_wp2_with fail
      go_ret2
      exact ⟨ret_pair rfl rfl, mdBelow B2.out hb3⟩
    · have h0 : ¬ (0 : Int) < (r : Int) := by omega
      have EO := Lib.hid (show R = ofA q false from by rw [ER.out, if_neg (fun h => h.1 hr0), Nat.add_zero])
      have OF := Lib.hid (fun w => rof_any q qh ql QHL.out.1 QHL.out.2 false w)
      rw [← EO.out] at OF
      clear hr0
      go_wp2_with fail
      refine (OF.out _).mono ?_
      rintro e w3 ⟨rfl, hb3⟩
      go_wp2_with fail
      go_ret2
      exact ⟨ret_pair rfl rfl, mdBelow B2.out hb3⟩
    · have h0 : (0 : Int) < (r : Int) := by omega
      have EO := Lib.hid (show R = ofA (q + 1) false from by rw [ER.out, if_pos ⟨hr0, by decide⟩])
      clear hr0
      by_cases hcar : ql = 18446744073709551615
      · have OF := Lib.hid (fun w => rof_any (q + 1) (qh + 1) 0 (by have := QS.out; unfold hiN; omega) (by have := QS.out; unfold loN; omega) false w)
        rw [← EO.out] at OF
        have hq1 := QS.out
        have hq2 := QB.out
        have hqb : (qh : Int) ≤ 18446744073709551614 := by omega
        have hw : IntKind.u64.wrap ((ql : Int) + 1) = 0 := by rw [wrap_u64]; omega
        clear hq1 hq2 hcar
        go_wp2_with fail
        refine (OF.out _).mono ?_
        rintro e w3 ⟨rfl, hb3⟩
        have b3 := hb3.size
        simp at b3
        go_wp2_with fail
        go_ret2
        exact ⟨ret_pair rfl rfl, mdBelow B2.out hb3⟩
      · have OF := Lib.hid (fun w => rof_any (q + 1) qh (ql + 1) (by have := QS.out; have := LL.out; unfold hiN; omega) (by have := QS.out; have := LL.out; unfold loN; omega) false w)
        rw [← EO.out] at OF
        have hqb : (ql : Int) ≤ 18446744073709551614 := by have := LL.out; omega
        clear hcar
        go_wp2_with fail
        refine (OF.out _).mono ?_
        rintro e w3 ⟨rfl, hb3⟩
        go_wp2_with fail
        go_ret2
        exact ⟨ret_pair rfl rfl, mdBelow B2.out hb3⟩
    · have h0 : ¬ (0 : Int) < (r : Int) := by omega
      have EO := Lib.hid (show R = ofA q true from by rw [ER.out, if_neg (fun h => h.1 hr0), Nat.add_zero])
      have OF := Lib.hid (fun w => rof_any q qh ql QHL.out.1 QHL.out.2 true w)
      rw [← EO.out] at OF
      clear hr0
      go_wp2_with fail
      refine (OF.out _).mono ?_
      rintro e w3 ⟨rfl, hb3⟩
      go_wp2_with fail
      go_ret2
      exact ⟨ret_pair rfl rfl, mdBelow B2.out hb3⟩
    · have h0 : (0 : Int) < (r : Int) := by omega
      have EO := Lib.hid (show R = ofA (q + 1) true from by rw [ER.out, if_pos ⟨hr0, by decide⟩])
      clear hr0
      by_cases hcar : ql = 18446744073709551615
      · have OF := Lib.hid (fun w => rof_any (q + 1) (qh + 1) 0 (by have := QS.out; unfold hiN; omega) (by have := QS.out; unfold loN; omega) true w)
        rw [← EO.out] at OF
        have hq1 := QS.out
        have hq2 := QB.out
        have hqb : (qh : Int) ≤ 18446744073709551614 := by omega
        have hw : IntKind.u64.wrap ((ql : Int) + 1) = 0 := by rw [wrap_u64]; omega
        clear hq1 hq2 hcar
        go_wp2_with fail
        refine (OF.out _).mono ?_
        rintro e w3 ⟨rfl, hb3⟩
        have b3 := hb3.size
        simp at b3
        go_wp2_with fail
        go_ret2
        exact ⟨ret_pair rfl rfl, mdBelow B2.out hb3⟩
      · have OF := Lib.hid (fun w => rof_any (q + 1) qh (ql + 1) (by have := QS.out; have := LL.out; unfold hiN; omega) (by have := QS.out; have := LL.out; unfold loN; omega) true w)
        rw [← EO.out] at OF
        have hqb : (ql : Int) ≤ 18446744073709551614 := by have := LL.out; omega
        clear hcar
        go_wp2_with fail
        refine (OF.out _).mono ?_
        rintro e w3 ⟨rfl, hb3⟩
        go_wp2_with fail
        go_ret2
        exact ⟨ret_pair rfl rfl, mdBelow B2.out hb3⟩

theorem rmd_any (a b c mode : Int) (w : World) :
    Calls Tryz.prog 86 #[.int .i64 a, .int .i64 b, .int .i64 c, .int .i64 mode] w fun e w' => e = .returned (.tuple #[.int .i64 (mdA a b c mode).1, .int .i64 (mdA a b c mode).2]) ∧ Below w.heap.size w w' := by
  by_cases h : fitsA a = true ∧ fitsA b = true ∧ fitsA c = true
  · by_cases h2 : c = 0 ∨ mode < 0 ∨ 3 < mode
    · exact rmd_arg a b c mode h.1 h.2.1 h.2.2 w h2
    · exact rmd_main a b c mode h.1 h.2.1 h.2.2 w (by omega) (by omega) (by omega)
  · refine rmd_fits a b c mode w ?_
    cases h1 : fitsA a <;> cases h2 : fitsA b <;> cases h3 : fitsA c <;> simp_all
end Go.Proofs.YtcjbhgnlmmeeeaaGreatDoor

/- The document's Decode. -/
import Derived.Test.YtmpdmejlpicdlaaDoorSnapRp
namespace Go.Proofs.YtmpdmejlpicdlaaDoor
open Go.RowKit Go.Bw Go.Maps
set_option linter.unusedVariables false
set_option linter.unusedSimpArgs false

theorem slice_to (w : World) (b o n c k : Nat) (h : k ≤ c) :
    (Instr.slice 22 (.slice (some ⟨b, o, none⟩) n c) none (some (.int .i64 (k : Int))) none).run Tryd.prog w = .ok (.slice (some ⟨b, o, none⟩) k c) w := by
  have ht := Tryd.underlying22
  by_cases hk : c < k
  · omega
  · simp [Instr.slice, go_sem, run_underlying ht, hk]

set_option maxRecDepth 100000 in
set_option maxHeartbeats 4000000 in
theorem rdecode_short (w : World) (n : Int) (v : Value) (xs : List Int) (hR : Reads w 1 v xs.length (bcells xs)) (hs : xs.length < 12) :
    Calls Tryd.prog 13 #[.int .i64 n, v] w (DecOut w (decode n xs)) := by
  obtain ⟨a, c, rfl⟩ := reads_form hR
  have E := Lib.hid (show decode n xs = ([], 10) from by unfold decode; rw [if_pos hs])
  clear hR
  go_enter Tryd.func13, Tryd.ntmps13
  go_wp2_with fail
  go_ret2
  exact decOut_nil E.out (Below.refl _ _)

set_option maxRecDepth 100000 in
set_option maxHeartbeats 3000000 in
theorem rdecode_long (w : World) (n : Int) (hn0 : -9223372036854775808 ≤ n) (hn1 : n ≤ 9223372036854775807) (b o m c : Nat) (xs : List Int) (hxl : xs.length = m + 12) (hR : Reads w 1 (.slice (some ⟨b, o, none⟩) (m + 12) c) (m + 12) (bcells xs)) (hmc : m + 12 ≤ c) (hB : Bytes xs) (hl : m ≤ 140737488351232) :
    Calls Tryd.prog 13 #[.int .i64 n, .slice (some ⟨b, o, none⟩) (m + 12) c] w (DecOut w (decode n xs)) := by
  have h4 := reads_at (by rw [hxl]; exact hR) (k := 4) (show 4 < xs.length by omega)
  have h5 := reads_at (by rw [hxl]; exact hR) (k := 5) (show 5 < xs.length by omega)
  have h6 := reads_at (by rw [hxl]; exact hR) (k := 6) (show 6 < xs.length by omega)
  have h7 := reads_at (by rw [hxl]; exact hR) (k := 7) (show 7 < xs.length by omega)
  rw [addr_add] at h4 h5 h6 h7
  have g4 := hB xs[4] (List.getElem_mem _)
  have g5 := hB xs[5] (List.getElem_mem _)
  have g6 := hB xs[6] (List.getElem_mem _)
  have g7 := hB xs[7] (List.getElem_mem _)
  obtain ⟨q4, hq4⟩ : ∃ q, q = num4 xs 4 := ⟨_, rfl⟩
  have E4 := Lib.hid (show xs[4] + xs[5] * (256 : Int) + xs[6] * (65536 : Int) + xs[7] * (16777216 : Int) = q4 from by
    rw [hq4]; unfold num4
    simp only [List.getD_eq_getElem?_getD, List.getElem?_eq_getElem (show 4 < xs.length by omega), List.getElem?_eq_getElem (show 4 + 1 < xs.length by omega), List.getElem?_eq_getElem (show 4 + 2 < xs.length by omega), List.getElem?_eq_getElem (show 4 + 3 < xs.length by omega), Option.getD_some]
    show _ = xs[4] + 256 * xs[5] + 65536 * xs[6] + 16777216 * xs[7]
    omega)
  generalize xs[4] = x4 at h4 g4 E4
  generalize xs[5] = x5 at h5 g5 E4
  generalize xs[6] = x6 at h6 g6 E4
  generalize xs[7] = x7 at h7 g7 E4
  have HR := Lib.hid hR
  have HXL := Lib.hid hxl
  have HB := Lib.hid hB
  have Q4 := Lib.hid hq4
  clear hR hxl hB hq4
  go_enter Tryd.func13, Tryd.ntmps13
  go_wp2_with fail
  go_quiet (fail)
  rw [E4.out]
  have b4 : 0 ≤ q4 ∧ q4 < 4294967296 := by have := E4.out; omega
  clear h4 h5 h6 h7 g4 g5 g6 g7 E4
  have GB := Lib.hid (show Below w.heap.size w (w.drewN nq) from ((Mod.refl (fun _ => False) w).drewN nq).toBelow)
  generalize w.drewN nq = w1 at GB
  have E0 := Lib.hid (show decode n xs = if (m : Int) < q4 then ([], 10) else if q4 < (m : Int) ∨ n < 0 ∨ 999999999 < n ∨ num4 xs 0 ≠ n % 4294967296 then ([], 11) else if num4 xs 8 ≠ crc (xs.take 8 ++ xs.drop 12) then ([], 12) else (xs.drop 12, 0) from by
    have := HXL.out
    unfold decode
    rw [if_neg (by omega), ← Q4.out, show xs.length - 12 = m by omega])
  by_cases c2 : (m : Int) < q4
  case pos =>
    have EE := Lib.hid (E0.out.trans (show _ = (([], 10) : List Int × Int) from by rw [if_pos c2]))
    go_wp2_with fail
    go_ret2
    exact decOut_nil EE.out GB.out
  have quiet : (q4 < (m : Int) ∨ n < 0 ∨ 999999999 < n) → decode n xs = ([], 11) := fun h => by
    rw [E0.out, if_neg c2, if_pos (by rcases h with h | h | h; exact Or.inl h; exact Or.inr (Or.inl h); exact Or.inr (Or.inr (Or.inl h)))]
  by_cases c3 : q4 < (m : Int)
  case pos =>
    have EE := Lib.hid (quiet (Or.inl c3))
    clear quiet
    go_wp2_with fail
    go_quiet (fail)
    go_wp2_with fail
    go_ret2
    exact decOut_nil EE.out (below_drewN GB.out _)
  have ew : IntKind.i64.wrap (m : Int) = m := IntWalk.i64_in _ (by omega)
  obtain rfl : q4 = m := by omega
  have dw : decide ((m : Int) < m) = false := by simp
  by_cases c4 : n < 0
  case pos =>
    have EE := Lib.hid (quiet (Or.inr (Or.inl c4)))
    clear quiet
    go_wp2_with fail
    go_quiet (fail)
    go_wp2_with fail
    go_ret2
    exact decOut_nil EE.out (below_drewN GB.out _)
  by_cases c5 : 999999999 < n
  case pos =>
    have EE := Lib.hid (quiet (Or.inr (Or.inr c5)))
    clear quiet
    go_wp2_with fail
    have d4 : decide (n < 0) = false := decide_eq_false (by omega)
    go_quiet (fail)
    go_wp2_with fail
    go_ret2
    exact decOut_nil EE.out (below_drewN GB.out _)
  clear quiet
  have L12 := Lib.hid (show 12 ≤ xs.length from by have := HXL.out; omega)
  obtain ⟨S1, hS1⟩ : ∃ S, S = strOfNums (le4 n) := ⟨_, rfl⟩
  obtain ⟨S2, hS2⟩ : ∃ S, S = strOfNums (xs.take 4) := ⟨_, rfl⟩
  have HC := Lib.hid (show (S1.toList == S2.toList) = decide (le4 n = xs.take 4) from by rw [hS1, hS2]; exact strOf_beq (le4_bytes (by omega) (by omega)) (bytes_take HB.out 4))
  have HS1 := Lib.hid hS1
  have HS2 := Lib.hid hS2
  clear hS1 hS2
  -- the beginning, in every later world
  have CV := Lib.hid (show ∀ x : Cls (Below w1.heap.size w1), (convert 22 9 (.slice (some ⟨b, o, none⟩) 4 c)).run Tryd.prog x.w = .ok (.string S2) x.w from fun x => by
    rw [HS2.out]
    have hx := Mod.ofBelow x.ok
    have h0 := Reads.kept (reads_start (k := 4) (c' := c) (Reads.kept HR.out (Mod.ofBelow GB.out) (fun _ _ h => h)) (by omega)) hx (fun _ _ h => h)
    have l4 : (xs.take 4).length = 4 := by rw [List.length_take]; have := HXL.out; omega
    obtain ⟨y, ys, hy⟩ : ∃ y ys, xs.take 4 = y :: ys := by
      cases h : xs.take 4 with
      | nil => rw [h] at l4; cases l4
      | cons y ys => exact ⟨y, ys, rfl⟩
    rw [hy] at h0 l4 ⊢
    have := convert_reads h0
    rw [l4] at this
    exact this)
  go_wp2_with fail
  have d4 : decide (n < 0) = false := decide_eq_false (by omega)
  have d5 : decide (999999999 < n) = false := decide_eq_false (by omega)
  refine Keep.wp_region_lex (C := fun w' => ∃ x : Cls (Below w1.heap.size w1), w' = x.w) [16] [18, 19, 20] (by kernel_rfl) (by kernel_rfl) ⟨⟨_, ((Mod.refl (fun _ => False) w1).drew).toBelow⟩, rfl⟩ ?_
  refine Keep.LexG_still 16 (by kernel_rfl) ?_
  simp only [List.take_succ_cons, List.take_zero, List.drop_succ_cons, List.drop_zero, Nat.reduceAdd]
  repeat (go_big_quiet_step (fail))
  refine wpQuiet_nil ?_
  refine Keep.LexG_effg (by kernel_rfl) rfl (fun K hK => ?_)
  go_simp
  refine (four_any _ n (by omega) (by omega)).mono ?_
  rintro e w2 ⟨rfl, hw2⟩
  have O2 := Lib.hid (show w2.ownsRow w1.heap.size 5 1 (.slice (some ⟨w1.heap.size, 0, none⟩) 4 4) (le4 n).length (bcells (le4 n)) from by rw [hw2]; exact row_four _ n)
  have M2 := Lib.hid (show Below w1.heap.size w1 w2 from by rw [hw2]; exact ((Mod.refl (fun _ => False) w1).drew.alloc _).toBelow)
  clear hw2
  go_simp
  refine hK _ _ ⟨⟨w2, M2.out⟩, rfl⟩ ?_
  clear hK
  have CV2 := Lib.hid (show (convert 22 9 (.slice (some ⟨w1.heap.size, 0, none⟩) 4 4)).run Tryd.prog w2 = .ok (.string S1) w2 from by rw [HS1.out]; exact convert_reads (ownsRow_reads O2.out))
  have cv2 := CV2.out
  refine Keep.LexG_still 1 (by kernel_rfl) ?_
  simp only [List.take_succ_cons, List.take_zero, List.drop_succ_cons, List.drop_zero, Nat.reduceAdd]
  repeat (go_big_quiet_step (fail))
  refine wpQuiet_nil ?_
  have cv := CV.out
  have sl4 : ∀ W, (Instr.slice 22 (.slice (some ⟨b, o, none⟩) (m + 12) c) none (some (.int .i64 4)) none).run Tryd.prog W = .ok (.slice (some ⟨b, o, none⟩) 4 c) W := fun W => slice_to W b o (m + 12) c 4 (by omega)
  haveI ne : Nonempty (Cls (Below w1.heap.size w1)) := ⟨⟨w2, M2.out⟩⟩
  refine Keep.LexG_pure 3 (by kernel_rfl) ?_
  simp only [List.take_succ_cons, List.take_zero, List.drop_succ_cons, List.drop_zero, Nat.reduceAdd]
  repeat (go_big_quiet_step (fail))
  refine wpQuiet_nil ?_
  clear cv cv2 ne sl4
  by_cases c6 : num4 xs 0 = n
  case neg =>
    have hc : (S1.toList == S2.toList) = false := by rw [HC.out]; exact decide_eq_false (fun h => c6 ((take4_iff HB.out L12.out (by omega) (by omega)).1 h))
    have EE := Lib.hid (E0.out.trans (show _ = (([], 11) : List Int × Int) from by rw [if_neg (by omega), if_pos (Or.inr (Or.inr (Or.inr (by rw [Int.emod_eq_of_lt (by omega) (by omega)]; exact c6))))]))
    clear c6
    refine Keep.LexG_still 2 (by kernel_rfl) ?_
    simp only [List.take_succ_cons, List.take_zero, List.drop_succ_cons, List.drop_zero, Nat.reduceAdd]
    repeat (go_big_quiet_step (fail))
    refine wpQuiet_nil ?_
    refine Keep.LexG_nil ?_
    go_wp2_with fail
    go_ret2
    exact decOut_nil EE.out (GB.out.trans (M2.out.mono GB.out.size))
  have hc : (S1.toList == S2.toList) = true := by rw [HC.out]; exact decide_eq_true ((take4_iff HB.out L12.out (by omega) (by omega)).2 c6)
  have E1 := Lib.hid (E0.out.trans (show _ = if num4 xs 8 ≠ crc (xs.take 8 ++ xs.drop 12) then ([], 12) else (xs.drop 12, 0) from by
    rw [if_neg (by omega), if_neg (by rintro (h | h | h | h); omega; omega; omega; rw [Int.emod_eq_of_lt (by omega) (by omega)] at h; exact h c6)]))
  have C6 := Lib.hid c6
  clear c6
  refine Keep.LexG_still 2 (by kernel_rfl) ?_
  simp only [List.take_succ_cons, List.take_zero, List.drop_succ_cons, List.drop_zero, Nat.reduceAdd]
  repeat (go_big_quiet_step (fail))
  refine wpQuiet_nil ?_
  refine Keep.LexG_nil ?_
  clear hc
  have GB2 := Lib.hid (GB.out.trans (M2.out.mono GB.out.size))
  -- the body
  obtain ⟨A, hA⟩ : ∃ A, A = (if c = 12 then some ⟨b, o, none⟩ else some ⟨b, o + 12, none⟩ : Option Addr) := ⟨_, rfl⟩
  have hsl : ∀ w, (Instr.slice 22 (.slice (some ⟨b, o, none⟩) (m + 12) c) (some (.int .i64 12)) none none).run Tryd.prog w = .ok (.slice A m (c - 12)) w := fun w => by rw [hA]; exact slice_from w b o m c 12 hmc
  have RB := Lib.hid (show Reads w 1 (.slice A m (c - 12)) m (bcells (xs.drop 12)) from by rw [hA]; exact reads_rest HR.out hmc)
  clear hA
  have lm : (xs.drop 12).length = m := by rw [List.length_drop]; have := HXL.out; omega
  obtain ⟨v8, w8, R8, O8, M8, _⟩ := app_run2 (w2.alloc (.cells #[] 5)) w2.heap.size (.slice (some ⟨w2.heap.size, 0, none⟩) 0 0) (.slice A m (c - 12)) [] (xs.drop 12) (row_empty w2) (by simp)
    (by rw [lm]; exact Reads.kept (Reads.kept RB.out (Mod.ofBelow GB2.out) (fun _ _ h => h)) ((Mod.refl (fun _ => False) w2).alloc _) (fun _ _ h => h)) (by rw [lm]; simp; omega)
  have R8' := Lib.hid R8
  rw [List.nil_append] at O8
  have O8' := Lib.hid (ownsRow_base O8 (base' := w.heap.size) (fun j hj => Nat.le_trans GB2.out.size (O8.lt j hj).1))
  have B8 := Lib.hid (show Below w.heap.size w w8 from (((Mod.ofBelow GB2.out).mono (T := fun k => w.heap.size ≤ k) (fun _ _ h => h.elim)).alloc (.cells #[] 5) |>.trans M8 (fun k hk h => by cases h; exact GB2.out.size)).mono (T := fun _ => False) (fun k hk h => by omega) |>.toBelow)
  have LM := Lib.hid lm
  obtain ⟨a8, c8, hv8, hc8⟩ := ownsRow_slice O8
  rw [lm] at hv8
  subst hv8
  clear R8 O8 M8 lm
  obtain ⟨S3, hS3⟩ : ∃ S, S = strOfNums (encode n (xs.drop 12)) := ⟨_, rfl⟩
  obtain ⟨S4, hS4⟩ : ∃ S, S = strOfNums xs := ⟨_, rfl⟩
  have HC2 := Lib.hid (show (S3.toList == S4.toList) = decide (encode n (xs.drop 12) = xs) from by rw [hS3, hS4]; exact strOf_beq (encode_bytes (bytes_drop HB.out 12)) HB.out)
  have HS3 := Lib.hid hS3
  have HS4 := Lib.hid hS4
  clear hS3 hS4
  have CV3 := Lib.hid (show ∀ x : Cls (Below w8.heap.size w8), (convert 22 9 (.slice (some ⟨b, o, none⟩) (m + 12) c)).run Tryd.prog x.w = .ok (.string S4) x.w from fun x => by
    rw [HS4.out]
    have h0 := Reads.kept (Reads.kept HR.out (Mod.ofBelow B8.out) (fun _ _ h => h)) (Mod.ofBelow x.ok) (fun _ _ h => h)
    have l0 := HXL.out
    obtain ⟨y, ys, hy⟩ : ∃ y ys, xs = y :: ys := by
      cases h : xs with
      | nil => rw [h] at l0; simp at l0
      | cons y ys => exact ⟨y, ys, rfl⟩
    rw [hy] at h0 l0 ⊢
    have := convert_reads (w := x.w) (v := .slice (some ⟨b, o, none⟩) (m + 12) c) (x := y) (xs := ys) (by rw [l0]; exact h0)
    exact this)
  go_wp2_with (at_builtin; refine wpList_append_run rfl (.tmp 61) (.tmp 63) 22 rfl rfl rfl R8'.out ?_)
  clear hsl
  refine Keep.wp_region_lex (C := fun w' => ∃ x : Cls (Below w8.heap.size w8), w' = x.w) [2] [4, 5] (by kernel_rfl) (by kernel_rfl) ⟨⟨_, ((Mod.refl (fun _ => False) w8).drew).toBelow⟩, rfl⟩ ?_
  refine Keep.LexG_still 2 (by kernel_rfl) ?_
  simp only [List.take_succ_cons, List.take_zero, List.drop_succ_cons, List.drop_zero, Nat.reduceAdd]
  repeat (go_big_quiet_step (fail))
  refine wpQuiet_nil ?_
  refine Keep.LexG_effg (by kernel_rfl) rfl (fun K hK => ?_)
  go_simp
  refine (rencode_any w8.drew n _ (xs.drop 12) hn0 hn1 (by rw [LM.out]; exact Reads.kept (by have := ownsRow_reads O8'.out; rwa [LM.out] at this) ((Mod.refl (fun _ => False) w8).drew) (fun _ _ h => h)) (by rw [LM.out]; omega)).mono ?_
  rintro e w9 ⟨v9, rfl, ho9, hb9⟩
  have O9 := Lib.hid ho9
  have M9 := Lib.hid (show Below w8.heap.size w8 w9 from (((Mod.refl (fun _ => False) w8).drew).trans (Mod.ofBelow hb9) (fun _ _ h => h)).toBelow)
  have CV4 := Lib.hid (show (convert 22 9 v9).run Tryd.prog w9 = .ok (.string S3) w9 from by
    rw [HS3.out]
    obtain ⟨y, ys, hy⟩ : ∃ y ys, encode n (xs.drop 12) = y :: ys := ⟨_, _, rfl⟩
    have h := ownsRow_reads ho9
    rw [hy] at h ⊢
    exact convert_reads h)
  clear ho9 hb9
  go_simp
  refine hK _ _ ⟨⟨w9, M9.out⟩, rfl⟩ ?_
  clear hK
  have cv4 := CV4.out
  refine Keep.LexG_still 1 (by kernel_rfl) ?_
  simp only [List.take_succ_cons, List.take_zero, List.drop_succ_cons, List.drop_zero, Nat.reduceAdd]
  repeat (go_big_quiet_step (fail))
  refine wpQuiet_nil ?_
  clear cv4
  have cv3 := CV3.out
  haveI ne : Nonempty (Cls (Below w8.heap.size w8)) := ⟨⟨w9, M9.out⟩⟩
  refine Keep.LexG_pure 2 (by kernel_rfl) ?_
  simp only [List.take_succ_cons, List.take_zero, List.drop_succ_cons, List.drop_zero, Nat.reduceAdd]
  repeat (go_big_quiet_step (fail))
  refine wpQuiet_nil ?_
  clear cv3 ne
  have B9 := Lib.hid (B8.out.trans (M9.out.mono B8.out.size))
  by_cases c8 : num4 xs 8 = crc (xs.take 8 ++ xs.drop 12)
  · have hc : (S3.toList == S4.toList) = true := by rw [HC2.out]; exact decide_eq_true ((whole_iff HB.out HXL.out (by omega) (by omega) C6.out Q4.out.symm).2 c8)
    have EE := Lib.hid (E1.out.trans (show _ = ((xs.drop 12, 0) : List Int × Int) from by rw [if_neg (by rw [c8]; simp)]))
    clear c8
    refine Keep.LexG_still 1 (by kernel_rfl) ?_
    simp only [List.take_succ_cons, List.take_zero, List.drop_succ_cons, List.drop_zero, Nat.reduceAdd]
    repeat (go_big_quiet_step (fail))
    refine wpQuiet_nil ?_
    refine Keep.LexG_nil ?_
    go_wp2_with fail
    go_ret2
    rw [EE.out]
    exact ⟨_, rfl, by have := ownsRow_kept O8'.out (w' := w9) (fun k hk => (Mod.ofBelow M9.out).block k (O8'.out.lt k hk).2 (fun h => h)); rw [LM.out] at this ⊢; exact this, B9.out⟩
  · have hc : (S3.toList == S4.toList) = false := by rw [HC2.out]; exact decide_eq_false (fun h => c8 ((whole_iff HB.out HXL.out (by omega) (by omega) C6.out Q4.out.symm).1 h))
    have EE := Lib.hid (E1.out.trans (show _ = (([], 12) : List Int × Int) from by rw [if_pos c8]))
    clear c8
    refine Keep.LexG_still 1 (by kernel_rfl) ?_
    simp only [List.take_succ_cons, List.take_zero, List.drop_succ_cons, List.drop_zero, Nat.reduceAdd]
    repeat (go_big_quiet_step (fail))
    refine wpQuiet_nil ?_
    refine Keep.LexG_nil ?_
    go_wp2_with fail
    go_ret2
    exact decOut_nil EE.out B9.out

theorem rdecode_any (w : World) (n : Int) (hn0 : -9223372036854775808 ≤ n) (hn1 : n ≤ 9223372036854775807) (v : Value) (xs : List Int) (hR : Reads w 1 v xs.length (bcells xs)) (hc : ∀ a k c, v = .slice a k c → k ≤ c) (hB : Bytes xs) (hl : xs.length ≤ 140737488351232) :
    Calls Tryd.prog 13 #[.int .i64 n, v] w (DecOut w (decode n xs)) := by
  by_cases hs : xs.length < 12
  · exact rdecode_short w n v xs hR hs
  · obtain ⟨a, c, rfl⟩ := reads_form hR
    cases a with
    | none => have := (reads_empty hR).2; rw [this] at hs; exact absurd (by decide) hs
    | some a =>
      have hp : a = ⟨a.block, a.off, none⟩ := by
        have h0 := reads_at hR (k := 0) (by omega)
        obtain ⟨b, o, sp⟩ := a
        cases sp with
        | none => rfl
        | some s => simp [World.cell?, Addr.add] at h0; split at h0 <;> cases h0
      obtain ⟨m, hm⟩ : ∃ m, xs.length = m + 12 := ⟨xs.length - 12, by omega⟩
      have hcl := hc _ _ _ rfl
      rw [hm] at hcl hR ⊢
      rw [hp] at hR ⊢
      exact rdecode_long w n hn0 hn1 _ _ m c xs hm hR hcl hB (by omega)
end Go.Proofs.YtmpdmejlpicdlaaDoor

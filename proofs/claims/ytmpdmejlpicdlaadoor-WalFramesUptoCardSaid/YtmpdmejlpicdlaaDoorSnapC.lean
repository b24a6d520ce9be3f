/- snap.Decode: the walk. -/
import Derived.Test.YtmpdmejlpicdlaaDoorSnapD
import Derived.Test.YtmpdmejlpicdlaaDoorQTail
namespace Go.Proofs.YtmpdmejlpicdlaaDoor
open Go.RowKit Go.Bw Go.Maps
set_option linter.unusedVariables false
set_option linter.unusedSimpArgs false

theorem slice_from (w : World) (b o m c k : Nat) (h : m + k ≤ c) :
    (Instr.slice 22 (.slice (some ⟨b, o, none⟩) (m + k) c) (some (.int .i64 (k : Int))) none none).run Tryd.prog w = .ok (.slice (if c = k then some ⟨b, o, none⟩ else some ⟨b, o + k, none⟩) m (c - k)) w := by
  have ht := Tryd.underlying22
  have h1 : (k : Int) ≤ (m : Int) + k := by omega
  have h2 : ¬ ((m : Int) + k < k) := by omega
  by_cases hck : c = k
  · simp [Instr.slice, go_sem, run_underlying ht, h1, h2, hck]
  · simp [Instr.slice, go_sem, run_underlying ht, h1, h2, hck]
/-- The rest of a row, from place k on. -/
theorem reads_rest {w : World} {b o m c k : Nat} {xs : List Int} (h : Reads w 1 (.slice (some ⟨b, o, none⟩) (m + k) c) (m + k) (bcells xs)) (hc : m + k ≤ c) :
    Reads w 1 (.slice (if c = k then some ⟨b, o, none⟩ else some ⟨b, o + k, none⟩) m (c - k)) m (bcells (xs.drop k)) := by
  obtain ⟨h1, h2⟩ := h
  have hl : xs.length = m + k := by simpa [bcells] using h1
  refine ⟨by simp [bcells]; omega, ?_⟩
  rcases h2 with ⟨_, e, _⟩ | ⟨a', c', e, hh⟩
  · cases e
  · cases e
    by_cases hck : c = k
    · rw [if_pos hck]
      refine Or.inr ⟨_, _, rfl, fun j u hj => ?_⟩
      have := (List.getElem?_eq_some_iff.1 hj).1
      simp [bcells] at this; omega
    · rw [if_neg hck]
      refine Or.inr ⟨_, _, rfl, fun j u hj => ?_⟩
      have := hh (k + j) u (by rw [← hj]; simp [bcells])
      rw [addr_add] at this ⊢
      rw [Nat.add_assoc]; exact this
/-- The beginning of a row. -/
theorem reads_start {w : World} {b o n c k c' : Nat} {xs : List Int} (h : Reads w 1 (.slice (some ⟨b, o, none⟩) n c) n (bcells xs)) (hk : k ≤ n) :
    Reads w 1 (.slice (some ⟨b, o, none⟩) (xs.take k).length c') (xs.take k).length (bcells (xs.take k)) := by
  obtain ⟨h1, h2⟩ := h
  have hl : xs.length = n := by simpa [bcells] using h1
  refine ⟨by simp [bcells], ?_⟩
  rcases h2 with ⟨_, e, _⟩ | ⟨a', c2, e, hh⟩
  · cases e
  · cases e
    refine Or.inr ⟨_, _, rfl, fun j u hj => hh j u ?_⟩
    have hjl := (List.getElem?_eq_some_iff.1 hj).1
    rw [bcells_len, List.length_take] at hjl
    rw [← hj]
    simp only [bcells, List.map_take]
    rw [List.getElem?_take]
    simp only [show j < k by omega, if_true]

/-- What a snapshot's bytes are. -/
def decode (n : Int) (xs : List Int) : List Int × Int :=
  if xs.length < 12 then ([], 10)
  else if ((xs.length - 12 : Nat) : Int) < num4 xs 4 then ([], 10)
  else if num4 xs 4 < ((xs.length - 12 : Nat) : Int) ∨ n < 0 ∨ 999999999 < n ∨ num4 xs 0 ≠ n % 4294967296 then ([], 11)
  else if num4 xs 8 ≠ crc (xs.take 8 ++ xs.drop 12) then ([], 12)
  else (xs.drop 12, 0)

theorem num4_bounds {xs : List Int} (hB : Bytes xs) (i : Nat) (h : i + 4 ≤ xs.length) : 0 ≤ num4 xs i ∧ num4 xs i < 4294967296 := by
  have g0 := hB xs[i] (List.getElem_mem _)
  have g1 := hB xs[i + 1] (List.getElem_mem _)
  have g2 := hB xs[i + 2] (List.getElem_mem _)
  have g3 := hB xs[i + 3] (List.getElem_mem _)
  unfold num4
  simp only [List.getD_eq_getElem?_getD, List.getElem?_eq_getElem (show i < xs.length by omega), List.getElem?_eq_getElem (show i + 1 < xs.length by omega), List.getElem?_eq_getElem (show i + 2 < xs.length by omega), List.getElem?_eq_getElem (show i + 3 < xs.length by omega), Option.getD_some]
  omega

/-- Bytes of one's own and a code. -/
def DecOut (w : World) (r : List Int × Int) (e : Ending) (w' : World) : Prop := ∃ v, e = .returned (.tuple #[v, .int .i64 r.2]) ∧ w'.ownsRow w.heap.size 5 1 v r.1.length (bcells r.1) ∧ Below w.heap.size w w'
theorem decOut_nil {w w' : World} {r : List Int × Int} {er : Int} (hr : r = ([], er)) (hb : Below w.heap.size w w') : DecOut w r (.returned (.tuple #[.slice none 0 0, .int .i64 er])) w' := by
  subst hr; exact ⟨_, rfl, World.ownsRow_nil _ _ _ _, hb⟩

theorem below_drewN {w w' : World} (h : Below w.heap.size w w') (k : Nat) : Below w.heap.size w (w'.drewN k) := ⟨h.os, h.tape, h.output, h.size, h.block⟩

set_option maxRecDepth 100000 in
set_option maxHeartbeats 4000000 in
theorem decode_short (w : World) (n : Int) (v : Value) (xs : List Int) (hR : Reads w 1 v xs.length (bcells xs)) (hs : xs.length < 12) :
    Calls Tryd.prog 12 #[.int .i64 n, v] w (DecOut w (decode n xs)) := by
  obtain ⟨a, c, rfl⟩ := reads_form hR
  have E := Lib.hid (show decode n xs = ([], 10) from by unfold decode; rw [if_pos hs])
  clear hR
  go_enter Tryd.func12, Tryd.ntmps12
  go_wp2_with fail
  go_ret2
  exact decOut_nil E.out ((Below.refl _ _).alloc (Nat.le_refl _) _)

set_option maxRecDepth 100000 in
set_option maxHeartbeats 8000000 in
theorem decode_long (w : World) (n : Int) (hn0 : -9223372036854775808 ≤ n) (hn1 : n ≤ 9223372036854775807) (b o m c : Nat) (xs : List Int) (hxl : xs.length = m + 12) (hR : Reads w 1 (.slice (some ⟨b, o, none⟩) (m + 12) c) (m + 12) (bcells xs)) (hmc : m + 12 ≤ c) (hB : Bytes xs) (hl : m ≤ 140737488351232) (hL : Laid w) :
    Calls Tryd.prog 12 #[.int .i64 n, .slice (some ⟨b, o, none⟩) (m + 12) c] w (DecOut w (decode n xs)) := by
  have hmf : ∀ (fn : Fn) (first cap : Array Value) (w : World), (Instr.makeFunc fn first cap).run Tryd.prog w = .ok (.func fn first cap) w := fun _ _ _ _ => rfl
  obtain ⟨A, hA⟩ : ∃ A, A = (if c = 12 then some ⟨b, o, none⟩ else some ⟨b, o + 12, none⟩ : Option Addr) := ⟨_, rfl⟩
  have hsl : ∀ w, (Instr.slice 22 (.slice (some ⟨b, o, none⟩) (m + 12) c) (some (.int .i64 12)) none none).run Tryd.prog w = .ok (.slice A m (c - 12)) w := fun w => by rw [hA]; exact slice_from w b o m c 12 hmc
  have RB := Lib.hid (show Reads w 1 (.slice A m (c - 12)) m (bcells (xs.drop 12)) from by rw [hA]; exact reads_rest hR hmc)
  have HR := Lib.hid hR
  have HXL := Lib.hid hxl
  have HB := Lib.hid hB
  have HL := Lib.hid hL
  have BX := Lib.hid (show (w.alloc (.cells #[.slice (some ⟨b, o, none⟩) (m + 12) c] 22)).heap[w.heap.size]? = some (.cells #[.slice (some ⟨b, o, none⟩) (m + 12) c] 22 (0, 0)) from by show (w.heap.push _)[w.heap.size]? = _; simp)
  have M1 := Lib.hid ((Mod.refl (fun _ => False) w).alloc (.cells #[.slice (some ⟨b, o, none⟩) (m + 12) c] 22))
  -- a word, in every later world
  have WD := Lib.hid (fun (W : World) (i : Nat) (hi : i + 4 ≤ m + 12) (hW : Mod (fun _ => False) (w.alloc (.cells #[.slice (some ⟨b, o, none⟩) (m + 12) c] 22)) W) =>
    word_any W w.heap.size b o c xs i (by rw [hxl]; exact (cell_of_heap (hW.heap BX.out (fun h => h)) 0)) (by rw [hxl]; exact Reads.kept (Reads.kept hR M1.out (fun _ _ h => h)) hW (fun _ _ h => h)) hB (by omega) (by omega))
  obtain ⟨q4, hq4⟩ : ∃ q, q = num4 xs 4 := ⟨_, rfl⟩
  obtain ⟨q0, hq0⟩ : ∃ q, q = num4 xs 0 := ⟨_, rfl⟩
  obtain ⟨q8, hq8⟩ : ∃ q, q = num4 xs 8 := ⟨_, rfl⟩
  obtain ⟨cr, hcr⟩ : ∃ q, q = crc (xs.take 8 ++ xs.drop 12) := ⟨_, rfl⟩
  have b4 := num4_bounds hB 4 (by omega)
  have b0 := num4_bounds hB 0 (by omega)
  have b8 := num4_bounds hB 8 (by omega)
  have bc0 := crc_lo (xs.take 8 ++ xs.drop 12)
  have bc1 := crc_hi (xs.take 8 ++ xs.drop 12)
  have E := Lib.hid (show decode n xs = if (m : Int) < q4 then ([], 10) else if q4 < (m : Int) ∨ n < 0 ∨ 999999999 < n ∨ q0 ≠ n % 4294967296 then ([], 11) else if q8 ≠ cr then ([], 12) else (xs.drop 12, 0) from by
    unfold decode
    rw [if_neg (by omega), hq4, hq0, hq8, hcr, show xs.length - 12 = m by omega])
  rw [← hq4] at b4
  rw [← hq0] at b0
  rw [← hq8] at b8
  rw [← hcr] at bc0 bc1
  have Q4 := Lib.hid hq4
  have Q0 := Lib.hid hq0
  have Q8 := Lib.hid hq8
  have QC := Lib.hid hcr
  clear hR hxl hB hL hA hq4 hq0 hq8 hcr
  go_enter Tryd.func12, Tryd.ntmps12
  go_wp2_with fail
  refine (WD.out _ 4 (by omega) (Mod.refl _ _)).mono ?_
  rw [← Q4.out]
  rintro e w2 ⟨rfl, k2, hw2⟩
  have M2 := Lib.hid ((Mod.refl (fun _ => False) (w.alloc (.cells #[.slice (some ⟨b, o, none⟩) (m + 12) c] 22))).trans (show Mod (fun _ => False) _ w2 from by rw [hw2]; exact (Mod.refl _ _).drewN _) (fun _ _ h => h))
  have BL2 := Lib.hid (show Below w.heap.size w w2 from (M1.out.trans M2.out (fun _ _ h => h)).toBelow)
  clear hw2
  by_cases c2 : (m : Int) < q4
  case pos =>
    have EE := Lib.hid (E.out.trans (show _ = (([], 10) : List Int × Int) from by rw [if_pos c2]))
    go_wp2_with fail
    go_ret2
    exact decOut_nil EE.out BL2.out
  go_wp2_with fail
  refine (WD.out _ 4 (by omega) M2.out).mono ?_
  rw [← Q4.out]
  rintro e w3 ⟨rfl, k3, hw3⟩
  have M3 := Lib.hid (M2.out.trans (show Mod (fun _ => False) _ w3 from by rw [hw3]; exact (Mod.refl _ _).drewN _) (fun _ _ h => h))
  have BL3 := Lib.hid (show Below w.heap.size w w3 from (M1.out.trans M3.out (fun _ _ h => h)).toBelow)
  clear hw3
  by_cases c3 : q4 < (m : Int)
  case pos =>
    have EE := Lib.hid (E.out.trans (show _ = (([], 11) : List Int × Int) from by rw [if_neg (by omega), if_pos (by omega)]))
    go_wp2_with fail
    go_ret2
    exact decOut_nil EE.out BL3.out
  by_cases c4 : n < 0
  case pos =>
    have EE := Lib.hid (E.out.trans (show _ = (([], 11) : List Int × Int) from by rw [if_neg (by omega), if_pos (by omega)]))
    go_wp2_with fail
    go_ret2
    exact decOut_nil EE.out BL3.out
  by_cases c5 : 999999999 < n
  case pos =>
    have EE := Lib.hid (E.out.trans (show _ = (([], 11) : List Int × Int) from by rw [if_neg (by omega), if_pos (by omega)]))
    go_wp2_with fail
    go_ret2
    exact decOut_nil EE.out BL3.out
  go_wp2_with fail
  refine (WD.out _ 0 (by omega) M3.out).mono ?_
  rw [← Q0.out]
  rintro e w4 ⟨rfl, k4, hw4⟩
  have M4 := Lib.hid (M3.out.trans (show Mod (fun _ => False) _ w4 from by rw [hw4]; exact (Mod.refl _ _).drewN _) (fun _ _ h => h))
  have BL4 := Lib.hid (show Below w.heap.size w w4 from (M1.out.trans M4.out (fun _ _ h => h)).toBelow)
  clear hw4
  by_cases c6 : q0 = n % 4294967296
  case neg =>
    have c6' : (q0 != n) = true := by rw [bne_iff_ne]; omega
    have EE := Lib.hid (E.out.trans (show _ = (([], 11) : List Int × Int) from by rw [if_neg (by omega), if_pos (Or.inr (Or.inr (Or.inr c6)))]))
    go_wp2_with fail
    go_ret2
    exact decOut_nil EE.out BL4.out
  have E2 := Lib.hid (E.out.trans (show _ = if q8 ≠ cr then ([], 12) else (xs.drop 12, 0) from by
    rw [if_neg (by omega), if_neg (by rintro (h | h | h | h) <;> omega)]))
  have c6' : (q0 != n) = false := by rw [show q0 = n from by omega]; simp
  clear c6
  go_wp2_with fail
  clear c6'
  -- the sum
  have SC := Lib.hid (show ∀ x : Cls (Below w4.heap.size w4), Calls Tryd.prog 40 #[.int .i64 8, .pointer (some ⟨w.heap.size, 0, none⟩)] x.w fun e w' => e = .returned (.int .u32 q8) ∧ ∃ y : Cls (Below w4.heap.size w4), w' = y.w from fun x => by
    refine (WD.out x.w 8 (by omega) (M4.out.trans (Mod.ofBelow x.ok) (fun _ _ h => h))).mono ?_
    rw [← Q8.out]
    rintro e w5 ⟨rfl, k5, rfl⟩
    exact ⟨rfl, ⟨_, below_drewN x.ok k5⟩, rfl⟩)
  have BXC := Lib.hid (show ∀ x : Cls (Below w4.heap.size w4), x.w.cell? ⟨w.heap.size, 0, none⟩ = some (.slice (some ⟨b, o, none⟩) (m + 12) c) from fun x => cell_of_heap ((M4.out.trans (Mod.ofBelow x.ok) (fun _ _ h => h)).heap BX.out (fun h => h)) 0)
  refine wp_region_quiet_tail (C := Below w4.heap.size w4) 5 (by kernel_rfl) (by kernel_rfl) ⟨rfl, rfl, rfl, Nat.le_refl _, fun _ _ => rfl⟩ (fun _ => ?_)
  simp only [List.take_succ_cons, List.take_zero, List.drop_succ_cons, List.drop_zero]
  have g1 := BXC.out
  repeat (go_big_quiet_step (exact SC.out _))
  refine wpQuiet_nil ?_
  intro x
  have hx := x.ok
  have RX := Reads.kept (reads_start (c' := 8) (Reads.kept (Reads.kept HR.out M1.out (fun _ _ h => h)) (M4.out.trans (Mod.ofBelow hx) (fun _ _ h => h)) (fun _ _ h => h)) (show 8 ≤ m + 12 by omega)) (Mod.refl (fun _ => False) x.w) (fun _ _ h => h)
  have RBX := Reads.kept (Reads.kept RB.out M1.out (fun _ _ h => h)) (M4.out.trans (Mod.ofBelow hx) (fun _ _ h => h)) (fun _ _ h => h)
  have l8 : (xs.take 8).length = 8 := by rw [List.length_take]; have := HXL.out; omega
  have lm : (xs.drop 12).length = m := by rw [List.length_drop]; have := HXL.out; omega
  obtain ⟨v6, w6, R6, RD6, M6⟩ := app_full_run x.w b o (.slice A m (c - 12)) (xs.take 8) (xs.drop 12) (by rw [l8] at RX ⊢; exact RX) (by rw [lm]; exact RBX) (by rw [l8, lm]; omega)
  rw [l8] at R6
  have R6' := Lib.hid R6
  have RD6' := Lib.hid RD6
  have L86 := Lib.hid (show (xs.take 8 ++ xs.drop 12).length ≤ 140737488355328 from by rw [List.length_append, l8, lm]; omega)
  have M6' := Lib.hid ((M4.out.trans (Mod.ofBelow hx) (fun _ _ h => h)).trans M6 (fun _ _ h => h))
  have HL6 := Lib.hid (HL.out.mod (M1.out.trans M6'.out (fun _ _ h => h)) (fun _ _ h => h))
  generalize x.w = wx at R6' hx
  clear R6 RX RBX l8 lm M6 RD6 g1 hx
  go_wp2_with (at_builtin; refine wpList_append_run rfl (.tmp 49) (.tmp 50) 22 rfl rfl rfl R6'.out ?_)
  refine (crc_any w6 v6 _ RD6'.out L86.out HL6.out.halfAt).mono ?_
  rintro e w7 ⟨rfl, rfl⟩
  rw [← QC.out]
  have BL6 := Lib.hid (show Below w.heap.size w w6 from (M1.out.trans M6'.out (fun _ _ h => h)).toBelow)
  by_cases c7 : q8 = cr
  case neg =>
    have c7' : (q8 != cr) = true := by rw [bne_iff_ne]; exact c7
    have EE := Lib.hid (E2.out.trans (show _ = (([], 12) : List Int × Int) from by rw [if_pos c7]))
    go_wp2_with fail
    go_ret2
    exact decOut_nil EE.out BL6.out
  have E3 := Lib.hid (E2.out.trans (show _ = ((xs.drop 12, 0) : List Int × Int) from by rw [if_neg (by rw [c7]; simp)]))
  have c7' : (q8 != cr) = false := by rw [c7]; simp
  clear c7
  have lm : (xs.drop 12).length = m := by rw [List.length_drop]; have := HXL.out; omega
  obtain ⟨v8, w8, R8, O8, M8, _⟩ := app_run2 (w6.alloc (.cells #[] 5)) w6.heap.size (.slice (some ⟨w6.heap.size, 0, none⟩) 0 0) (.slice A m (c - 12)) [] (xs.drop 12) (row_empty w6) (by simp)
    (by rw [lm]; exact Reads.kept (Reads.kept (Reads.kept RB.out M1.out (fun _ _ h => h)) M6'.out (fun _ _ h => h)) ((Mod.refl (fun _ => False) w6).alloc _) (fun _ _ h => h)) (by rw [lm]; simp; omega)
  have R8' := Lib.hid R8
  rw [List.nil_append] at O8
  have O8' := Lib.hid (ownsRow_base O8 (base' := w.heap.size) (fun j hj => Nat.le_trans BL6.out.size (O8.lt j hj).1))
  have B8 := Lib.hid (show Below w.heap.size w w8 from (BL6.out.alloc BL6.out.size (.cells #[] 5)).trans ((((Mod.refl (fun k => w6.heap.size ≤ k) (w6.alloc (.cells #[] 5))).trans M8 (fun k hk h => by cases h; exact Nat.le_refl _)) |> fun hm => (⟨hm.os, hm.tape, hm.output, hm.size, fun k hk => hm.block k (by have := BL6.out.size; simp; omega) (by have := BL6.out.size; omega)⟩ : Below w.heap.size _ w8))))
  clear R8 O8 M8 lm
  go_wp2_with (at_builtin; refine wpList_append_run rfl (.tmp 54) (.tmp 55) 22 rfl rfl rfl R8'.out ?_)
  go_ret2
  rw [E3.out]
  exact ⟨_, rfl, O8'.out, B8.out⟩

theorem decode_any (w : World) (n : Int) (hn0 : -9223372036854775808 ≤ n) (hn1 : n ≤ 9223372036854775807) (v : Value) (xs : List Int) (hR : Reads w 1 v xs.length (bcells xs)) (hc : ∀ a k c, v = .slice a k c → k ≤ c) (hB : Bytes xs) (hl : xs.length ≤ 140737488351232) (hL : Laid w) :
    Calls Tryd.prog 12 #[.int .i64 n, v] w (DecOut w (decode n xs)) := by
  by_cases hs : xs.length < 12
  · exact decode_short w n v xs hR hs
  · obtain ⟨a, c, rfl⟩ := reads_form hR
    cases a with
    | none => have := (reads_empty hR).2; rw [this] at hs; exact absurd (by decide) hs
    | some a =>
      have hp : a = ⟨a.block, a.off, none⟩ := by
        have h0 := reads_at hR (k := 0) (by omega)
        obtain ⟨b, o, sp⟩ := a
        cases sp with
        | none => rfl
        | some s => simp [World.cell?, Addr.add] at h0; split at h0 <;> cases h0
      obtain ⟨m, hm⟩ : ∃ m, xs.length = m + 12 := ⟨xs.length - 12, by omega⟩
      have hcl := hc _ _ _ rfl
      rw [hm] at hcl hR ⊢
      rw [hp] at hR ⊢
      exact decode_long w n hn0 hn1 _ _ m c xs hm hR hcl hB (by omega) hL
end Go.Proofs.YtmpdmejlpicdlaaDoor

/- Two lists of rows are the same. -/
import Derived.Test.YtmpdmejlpicdlaaDoorDiskJc
import Derived.Test.YtmpdmejlpicdlaaDoorWalR
namespace Go.Proofs.YtmpdmejlpicdlaaDoor
open Go.RowKit Go.Bw Go.Maps
set_option linter.unusedVariables false
set_option linter.unusedSimpArgs false

set_option maxHeartbeats 1000000 in
theorem same5_any (w : World) (v1 v2 : Value) (xs ys : List Int) (h1 : Reads w 1 v1 xs.length (bcells xs)) (h2 : Reads w 1 v2 ys.length (bcells ys)) (hl1 : xs.length ≤ 140737488355328) (hl2 : ys.length ≤ 140737488355328) :
    Calls Tryd.prog 34 #[v1, v2] w (SaysOut w (decide (xs = ys))) := by
  obtain ⟨a1, c1, rfl⟩ := reads_form h1
  obtain ⟨a2, c2, rfl⟩ := reads_form h2
  by_cases hl : xs.length = ys.length
  · have K : ∀ k (g1 : k < xs.length) (g2 : k < ys.length), ∃ p q : Nat × Nat × Option (Nat × Nat), True := fun _ _ _ => ⟨(0, 0, none), (0, 0, none), trivial⟩
    have H1 := Lib.hid h1
    have H2 := Lib.hid h2
    have L1 := Lib.hid hl1
    have L2 := Lib.hid hl2
    clear h1 h2 hl1 hl2 K
    go_enter Tryd.func34, Tryd.ntmps34
    go_wp2_with fail
    go_loopw [13] (fun i wr => ∃ k : Nat, k ≤ xs.length ∧ i = .int .i64 k ∧ xs.take k = ys.take k ∧ Below w.heap.size w wr) (fun i _ => xs.length - (intOf i).toNat)
    case atStart => exact ⟨0, Nat.zero_le _, rfl, rfl, Below.refl _ _⟩
    case round =>
      obtain ⟨k, hk, rfl, hs, hb⟩ := hrel
      have Hs := Lib.hid hs
      have Hb := Lib.hid hb
      clear hs hb
      by_cases hlt : k < xs.length
      · have hlt2 : k < ys.length := by omega
        cases a1 with
        | none => have := (reads_empty H1.out).2; rw [this] at hlt; cases hlt
        | some a1 =>
          cases a2 with
          | none => have := (reads_empty H2.out).2; rw [this] at hlt2; cases hlt2
          | some a2 =>
            have e1 := reads_at H1.out hlt
            have e2 := reads_at H2.out hlt2
            have g1 := (Hb.out.cell (World.block_lt_of_cell? w _ e1)).trans e1
            have g2 := (Hb.out.cell (World.block_lt_of_cell? w _ e2)).trans e2
            have HT := Lib.hid (fun e => take_succ_same Hs.out hlt hlt2 e)
            have HN := Lib.hid (show xs[k] ≠ ys[k] → decide (xs = ys) = false from fun h => by
              rw [decide_eq_false_iff_not]; intro e; exact h (by simp [e]))
            have hl1 := L1.out
            clear e1 e2
            go_wp2
            go_quiet (fail)
            go_wp2
            · rename_i hh
              go_ret
              exact ⟨congrArg _ (congrArg _ (HN.out (by simpa using hh)).symm), (⟨Hb.out.os, Hb.out.tape, Hb.out.output, Hb.out.size, Hb.out.block⟩ : Below w.heap.size w (wr.drewN _))⟩
            · rename_i hh
              exact ⟨⟨k + 1, by omega, by go_num, HT.out (by simpa using hh), (⟨Hb.out.os, Hb.out.tape, Hb.out.output, Hb.out.size, Hb.out.block⟩ : Below w.heap.size w (wr.drewN _))⟩, by simp [intOf]; omega⟩
      · obtain rfl : k = xs.length := by omega
        go_wp2_with fail
        go_ret
        exact ⟨by
          have := Hs.out
          rw [List.take_length, hl, List.take_length] at this
          simp [this], Hb.out⟩
  · have E := Lib.hid (not_same_len hl)
    have hl' : ¬ ((xs.length : Int) = ys.length) := by omega
    clear h1 h2
    go_enter Tryd.func34, Tryd.ntmps34
    go_wp2_with fail
    go_ret
    rw [E.out]
    exact ⟨rfl, Below.refl _ _⟩

theorem same5_yes (w : World) (v1 v2 : Value) (xs : List Int) (h1 : Reads w 1 v1 xs.length (bcells xs)) (h2 : Reads w 1 v2 xs.length (bcells xs)) (hl : xs.length ≤ 140737488355328) :
    Calls Tryd.prog 34 #[v1, v2] w (SaysOut w true) := by
  have := same5_any w v1 v2 xs xs h1 h2 hl hl
  rw [decide_eq_true rfl] at this
  exact this

/-- A slice whose rows read so. -/
structure RowsRd (w : World) (v : Value) (L : List (List Int)) : Prop where
  ex : ∃ a c, v = .slice a L.length c ∧ ∀ i x, L[i]? = some x → ∃ a' u, a = some a' ∧ w.cell? (a'.add i) = some u ∧ Reads w 1 u x.length (bcells x)
theorem RowsRd.front {w : World} {a : Option Addr} {n c k c' : Nat} {L : List (List Int)} (h : RowsRd w (.slice a n c) L) (hk : k ≤ L.length) : RowsRd w (.slice a k c') (L.take k) := by
  obtain ⟨a', c2, e, hh⟩ := h.ex
  cases e
  refine ⟨a, c', by rw [List.length_take, Nat.min_eq_left hk], fun i x hi => hh i x ?_⟩
  have hlt := (List.getElem?_eq_some_iff.1 hi).1
  rw [List.length_take] at hlt
  rw [List.getElem?_take, if_pos (by omega)] at hi
  exact hi
theorem RowsAt.rd {w : World} {Q : Nat → Prop} {v : Value} {L : List (List Int)} (h : RowsAt w Q v L) : RowsRd w v L := by
  obtain ⟨vs, h1, _, h2⟩ := h.ex
  obtain ⟨a, c, rfl, _⟩ := ownsRow_slice h1
  refine ⟨a, c, rfl, fun i x hi => ?_⟩
  obtain ⟨u, h3, h4, _⟩ := h2 i x hi
  obtain ⟨_, hr⟩ := ownsRow_reads h1
  rcases hr with ⟨_, _, h0⟩ | ⟨a', c', e, hc⟩
  · have := (List.getElem?_eq_some_iff.1 hi).1; omega
  · cases e
    exact ⟨a', u, rfl, hc i u h3, ownsRow_reads h4⟩

set_option maxRecDepth 100000 in
set_option maxHeartbeats 2000000 in
theorem alike_yes (w : World) (v1 v2 : Value) (L : List (List Int)) (h1 : RowsRd w v1 L) (h2 : RowsRd w v2 L) (hn : L.length ≤ 140737488351232) (hl : ∀ x ∈ L, x.length ≤ 140737488351232) :
    Calls Tryd.prog 35 #[v1, v2] w (SaysOut w true) := by
  obtain ⟨a1, c1, rfl, g1⟩ := h1.ex
  obtain ⟨a2, c2, rfl, g2⟩ := h2.ex
  have H1 := Lib.hid g1
  have H2 := Lib.hid g2
  have HLL := Lib.hid hl
  clear g1 g2 h1 h2 hl
  go_enter Tryd.func35, Tryd.ntmps35
  go_wp2_with fail
  go_loopw [13] (fun i wr => ∃ k : Nat, k ≤ L.length ∧ i = .int .i64 k ∧ Below w.heap.size w wr) (fun i _ => L.length - (intOf i).toNat)
  case atStart => exact ⟨0, Nat.zero_le _, rfl, Below.refl _ _⟩
  case round =>
    obtain ⟨k, hk, rfl, hb⟩ := hrel
    have Hb := Lib.hid hb
    clear hb
    by_cases hlt : k < L.length
    · obtain ⟨x, hx⟩ : ∃ x, L[k]? = some x := ⟨_, List.getElem?_eq_getElem hlt⟩
      obtain ⟨b1, u1, rfl, k1, r1⟩ := H1.out k x hx
      obtain ⟨b2, u2, rfl, k2, r2⟩ := H2.out k x hx
      have HX := Lib.hid (HLL.out x (List.mem_of_getElem? hx))
      have R1 := Lib.hid r1
      have R2 := Lib.hid r2
      have K1 := Lib.hid k1
      have K2 := Lib.hid k2
      clear hx k1 k2 r1 r2
      have SC := Lib.hid (show ∀ y : Cls (Below wr.heap.size wr), Calls Tryd.prog 34 #[u1, u2] y.w fun e w' => e = .returned (.bool true) ∧ ∃ z : Cls (Below wr.heap.size wr), w' = z.w from fun y => by
        have hm := Mod.ofBelow (Hb.out.trans (y.ok.mono Hb.out.size))
        refine (same5_yes y.w u1 u2 x (Reads.kept R1.out hm (fun _ _ h => h)) (Reads.kept R2.out hm (fun _ _ h => h)) (by have := HX.out; omega)).mono ?_
        rintro e w' ⟨rfl, hb'⟩
        exact ⟨rfl, ⟨w', y.ok.trans (hb'.mono y.ok.size)⟩, rfl⟩)
      have C1 := Lib.hid (show ∀ y : Cls (Below wr.heap.size wr), y.w.cell? (b1.add k) = some u1 from fun y => (Mod.ofBelow (Hb.out.trans (y.ok.mono Hb.out.size))).cell K1.out (fun h => h))
      have C2 := Lib.hid (show ∀ y : Cls (Below wr.heap.size wr), y.w.cell? (b2.add k) = some u2 from fun y => (Mod.ofBelow (Hb.out.trans (y.ok.mono Hb.out.size))).cell K2.out (fun h => h))
      go_wp2_with fail
      refine wp_region_cls (C := Below wr.heap.size wr) (by kernel_rfl) (by kernel_rfl) ⟨rfl, rfl, rfl, Nat.le_refl _, fun _ _ => rfl⟩ (fun _ => ?_)
      have q1 := C1.out
      have q2 := C2.out
      repeat (go_big_quiet_step (exact SC.out _))
      refine wpQuiet_nil ?_
      intro w2 hC
      have B2 := Lib.hid (Hb.out.trans (hC.mono Hb.out.size))
      clear q1 q2 hC
      go_wp2_with fail
      go_roundw
      case rel => exact ⟨k + 1, by omega, by go_num, B2.out⟩
      case measure => simp [intOf]; omega
    · obtain rfl : k = L.length := by omega
      go_wp2_with fail
      go_ret
      exact ⟨rfl, Hb.out⟩
end Go.Proofs.YtmpdmejlpicdlaaDoor

/- 'same': two rows of bytes told apart. -/
import Derived.Test.YtmpdmejlpicdlaaDoorDiskWc
namespace Go.Proofs.YtmpdmejlpicdlaaDoor
open Go.RowKit Go.Bw Go.Maps
set_option linter.unusedVariables false
set_option linter.unusedSimpArgs false

/-- A yes or a no; nothing that was there has turned. -/
def SaysOut (w : World) (b : Bool) (e : Ending) (w' : World) : Prop := e = .returned (.bool b) ∧ Below w.heap.size w w'

theorem reads_at {w : World} {a : Addr} {c : Nat} {xs : List Int} (h : Reads w 1 (.slice (some a) xs.length c) xs.length (bcells xs)) {k : Nat} (hk : k < xs.length) : w.cell? (a.add k) = some (.int .u8 xs[k]) := by
  rcases h.2 with ⟨c', e, h0⟩ | ⟨a', c', e, hc⟩
  · cases e
  · cases e
    exact hc k (.int .u8 xs[k]) (by simp [bcells, List.getElem?_eq_getElem hk])

theorem reads_empty {w : World} {n c : Nat} {xs : List Int} (h : Reads w 1 (.slice none n c) xs.length (bcells xs)) : n = 0 ∧ xs = [] := by
  rcases h.2 with ⟨c', e, h0⟩ | ⟨a, c', e, hc⟩
  · cases e; exact ⟨rfl, List.eq_nil_of_length_eq_zero h0⟩
  · cases e

/-- The slice's form. -/
theorem reads_form {w : World} {v : Value} {m : Nat} {cs : List Value} (h : Reads w 1 v m cs) : ∃ a c, v = .slice a m c := by
  rcases h.2 with ⟨c', e, h0⟩ | ⟨a, c', e, hc⟩
  · exact ⟨none, c', by rw [e, h0]⟩
  · exact ⟨some a, c', e⟩

theorem not_same_len {xs ys : List Int} (h : xs.length ≠ ys.length) : decide (xs = ys) = false := by
  rw [decide_eq_false_iff_not]; intro e; exact h (by rw [e])

theorem take_succ_same {xs ys : List Int} {k : Nat} (h : xs.take k = ys.take k) (h1 : k < xs.length) (h2 : k < ys.length) (e : xs[k] = ys[k]) : xs.take (k + 1) = ys.take (k + 1) := by
  rw [List.take_succ_eq_append_getElem h1, List.take_succ_eq_append_getElem h2, h, e]

set_option maxHeartbeats 1000000 in
theorem same_any (w : World) (v1 v2 : Value) (xs ys : List Int) (h1 : Reads w 1 v1 xs.length (bcells xs)) (h2 : Reads w 1 v2 ys.length (bcells ys)) (hl1 : xs.length ≤ 140737488355328) (hl2 : ys.length ≤ 140737488355328) :
    Calls Tryd.prog 16 #[v1, v2] w (SaysOut w (decide (xs = ys))) := by
  obtain ⟨a1, c1, rfl⟩ := reads_form h1
  obtain ⟨a2, c2, rfl⟩ := reads_form h2
  by_cases hl : xs.length = ys.length
  · have K : ∀ k (g1 : k < xs.length) (g2 : k < ys.length), ∃ p q : Nat × Nat × Option (Nat × Nat), True := fun _ _ _ => ⟨(0, 0, none), (0, 0, none), trivial⟩
    have H1 := Lib.hid h1
    have H2 := Lib.hid h2
    have L1 := Lib.hid hl1
    have L2 := Lib.hid hl2
    clear h1 h2 hl1 hl2 K
    go_enter Tryd.func16, Tryd.ntmps16
    go_wp2_with fail
    go_loopw [13] (fun i wr => ∃ k : Nat, k ≤ xs.length ∧ i = .int .i64 k ∧ xs.take k = ys.take k ∧ Below w.heap.size w wr) (fun i _ => xs.length - (intOf i).toNat)
    case atStart => exact ⟨0, Nat.zero_le _, rfl, rfl, Below.refl _ _⟩
    case round =>
      obtain ⟨k, hk, rfl, hs, hb⟩ := hrel
      have Hs := Lib.hid hs
      have Hb := Lib.hid hb
      clear hs hb
      by_cases hlt : k < xs.length
      · have hlt2 : k < ys.length := by omega
        cases a1 with
        | none => have := (reads_empty H1.out).2; rw [this] at hlt; cases hlt
        | some a1 =>
          cases a2 with
          | none => have := (reads_empty H2.out).2; rw [this] at hlt2; cases hlt2
          | some a2 =>
            have e1 := reads_at H1.out hlt
            have e2 := reads_at H2.out hlt2
            have g1 := (Hb.out.cell (World.block_lt_of_cell? w _ e1)).trans e1
            have g2 := (Hb.out.cell (World.block_lt_of_cell? w _ e2)).trans e2
            have HT := Lib.hid (fun e => take_succ_same Hs.out hlt hlt2 e)
            have HN := Lib.hid (show xs[k] ≠ ys[k] → decide (xs = ys) = false from fun h => by
              rw [decide_eq_false_iff_not]; intro e; exact h (by simp [e]))
            have hl1 := L1.out
            clear e1 e2
            go_wp2
            go_quiet (fail)
            go_wp2
            · rename_i hh
              go_ret
              exact ⟨congrArg _ (congrArg _ (HN.out (by simpa using hh)).symm), (⟨Hb.out.os, Hb.out.tape, Hb.out.output, Hb.out.size, Hb.out.block⟩ : Below w.heap.size w (wr.drewN _))⟩
            · rename_i hh
              exact ⟨⟨k + 1, by omega, by go_num, HT.out (by simpa using hh), (⟨Hb.out.os, Hb.out.tape, Hb.out.output, Hb.out.size, Hb.out.block⟩ : Below w.heap.size w (wr.drewN _))⟩, by simp [intOf]; omega⟩
      · obtain rfl : k = xs.length := by omega
        go_wp2_with fail
        go_ret
        exact ⟨by
          have := Hs.out
          rw [List.take_length, hl, List.take_length] at this
          simp [this], Hb.out⟩
  · have E := Lib.hid (not_same_len hl)
    have hl' : ¬ ((xs.length : Int) = ys.length) := by omega
    clear h1 h2
    go_enter Tryd.func16, Tryd.ntmps16
    go_wp2_with fail
    go_ret
    rw [E.out]
    exact ⟨rfl, Below.refl _ _⟩
end Go.Proofs.YtmpdmejlpicdlaaDoor

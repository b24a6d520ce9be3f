/- SnapLoses, of all arguments. -/
import Derived.Test.YtmpdmejlpicdlaaDoorSnapLo
namespace Go.Proofs.YtmpdmejlpicdlaaDoor
open Go.RowKit Go.Bw Go.Maps
set_option linter.unusedVariables false
set_option linter.unusedSimpArgs false

/-- Rows of bytes, with what each byte can be. -/
theorem rowsIn2 {w : World} {v : Value} (h : HasVal Tryd.prog w 37 [v]) : ∃ a n ca P, v = .slice a n ca ∧ RowsIn w a n P ∧ n ≤ 140737488351232 ∧ ∀ k, k < n → Bytes (P k) := by
  obtain ⟨a, n, cap, hv, hl, hm, hnil, hsz, hel⟩ := h.slice Tryd.underlying37
  have hb : Tryd.prog.bytesOf 22 = 24 := by kernel_rfl
  have hc : Tryd.prog.cellsOf 22 = 1 := by kernel_rfl
  rw [hb] at hsz
  rw [hc] at hel
  simp only [reachBytes] at hsz
  cases hv
  have hI : ∀ r, r < n → ∃ xs : List Int, (∃ a' x c, a = some a' ∧ w.cell? (a'.add r) = some (.slice x xs.length c) ∧ Reads w 1 (.slice x xs.length c) xs.length (bcells xs) ∧ xs.length ≤ 140737488351232) ∧ Bytes xs := fun r hr => by
    cases a with
    | none => have := hnil rfl; omega
    | some a =>
      obtain ⟨cs', h1, h2, h3⟩ := hel a rfl r (by omega)
      obtain ⟨v, rfl⟩ : ∃ v, cs' = [v] := by
        match cs', h1 with
        | [v], _ => exact ⟨v, rfl⟩
      obtain ⟨x, c, xs, rfl, hR, hl', _, hB⟩ := bytesIn2 h3
      exact ⟨xs, ⟨a, x, c, rfl, by simpa using h2 0 _ rfl, hR, hl'⟩, hB⟩
  obtain ⟨P, hP⟩ := Deep.choose_lt hI
  exact ⟨a, n, cap, P, rfl, fun k hk => (hP k hk).1, by omega, fun k hk => (hP k hk).2⟩

theorem stepsIn {w : World} {v : Value} (h : HasVal Tryd.prog w 38 [v]) : ∃ a n ca, v = .slice a n ca ∧ StepsIn w a n ∧ n ≤ 140737488351232 := by
  obtain ⟨a, n, cap, hv, hl, hm, hnil, hsz, hel⟩ := h.slice Tryd.underlying38
  cases hv
  obtain ⟨h1, h2⟩ := intsIn h
  exact ⟨a, n, cap, rfl, h1, h2⟩

theorem list_four {l : List Value} (h : l.length = 4) : ∃ a b c d, l = [a, b, c, d] := by
  match l, h with
  | [a, b, c, d], _ => exact ⟨a, b, c, d, rfl⟩

set_option maxRecDepth 100000 in
theorem snapLoses_in (w : World) (n0 : Array Value) (h0 : HasVal Tryd.prog w 40 n0.toList) (hL : Laid w) :
    Calls Tryd.prog 6 #[.agg n0] w (SaysOut w true) := by
  obtain ⟨hlen, _⟩ := h0.struct Tryd.underlying40
  have hc : Tryd.prog.cellsOf 40 = 4 := by kernel_rfl
  rw [hc] at hlen
  obtain ⟨l⟩ := n0
  have hlen' : l.length = 4 := hlen
  obtain ⟨c0, c1, c2, c3, rfl⟩ := list_four hlen'
  clear hlen hlen' hc
  have f0 := h0.field Tryd.underlying40 0 (u := 37) rfl (by kernel_rfl) (c := c0) rfl
  have f1 := h0.field Tryd.underlying40 1 (u := 38) rfl (by kernel_rfl) (c := c1) rfl
  have f2 := h0.field Tryd.underlying40 2 (u := 3) rfl (by kernel_rfl) (c := c2) rfl
  have f3 := h0.field Tryd.underlying40 3 (u := 3) rfl (by kernel_rfl) (c := c3) rfl
  obtain ⟨a, n, ca, P, rfl, hR, hn, hB⟩ := rowsIn2 f0
  obtain ⟨b, m, cb, rfl, hS, hm⟩ := stepsIn f1
  obtain ⟨k2, hk2, hw2⟩ := f2.int Tryd.underlying3
  cases hk2
  obtain ⟨k3, hk3, hw3⟩ := f3.int Tryd.underlying3
  cases hk3
  have b2 := bounds_i64 hw2
  have b3 := bounds_i64 hw3
  exact loses_walk w a n ca P b m cb k2 k3 hR hS hB hL (by omega) (by omega) b2.1 b2.2 b3.1 b3.2
end Go.Proofs.YtmpdmejlpicdlaaDoor

/- What came in, opened, for the journal's laws. -/
import Derived.Test.YtmpdmejlpicdlaaDoorDiskIn
import Derived.Test.YtmpdmejlpicdlaaDoorSnapD
namespace Go.Proofs.YtmpdmejlpicdlaaDoor
open Go.RowKit Go.Bw Go.Maps
set_option linter.unusedVariables false
set_option linter.unusedSimpArgs false

theorem list_six {l : List Value} (h : l.length = 6) : ∃ a b c d e f, l = [a, b, c, d, e, f] := by
  match l, h with
  | [a, b, c, d, e, f], _ => exact ⟨a, b, c, d, e, f, rfl⟩

/-- Rows of bytes, with what each byte can be. -/
theorem rowsInB {w : World} {v : Value} (h : HasVal Tryd.prog w 37 [v]) : ∃ a n ca P, v = .slice a n ca ∧ RowsIn w a n P ∧ n ≤ 140737488351232 ∧ ∀ k, k < n → Bytes (P k) := by
  obtain ⟨a, n, cap, hv, hl, hm, hnil, hsz, hel⟩ := h.slice Tryd.underlying37
  have hb : Tryd.prog.bytesOf 22 = 24 := by kernel_rfl
  have hc : Tryd.prog.cellsOf 22 = 1 := by kernel_rfl
  rw [hb] at hsz
  rw [hc] at hel
  simp only [reachBytes] at hsz
  cases hv
  have hI : ∀ r, r < n → ∃ xs : List Int, (∃ a' x c, a = some a' ∧ w.cell? (a'.add r) = some (.slice x xs.length c) ∧ Reads w 1 (.slice x xs.length c) xs.length (bcells xs) ∧ xs.length ≤ 140737488351232) ∧ Bytes xs := fun r hr => by
    cases a with
    | none => have := hnil rfl; omega
    | some a =>
      obtain ⟨cs', h1, h2, h3⟩ := hel a rfl r (by omega)
      obtain ⟨v, rfl⟩ : ∃ v, cs' = [v] := by
        match cs', h1 with
        | [v], _ => exact ⟨v, rfl⟩
      obtain ⟨x, c, xs, rfl, hR, hl', _, hB⟩ := bytesIn2 h3
      exact ⟨xs, ⟨a, x, c, rfl, by simpa using h2 0 _ rfl, hR, hl'⟩, hB⟩
  obtain ⟨P, hP⟩ := Deep.choose_lt hI
  exact ⟨a, n, cap, P, rfl, fun k hk => (hP k hk).1, by omega, fun k hk => (hP k hk).2⟩

/-- Likewise, with the room. -/
theorem rowsIn3 {w : World} {v : Value} (h : HasVal Tryd.prog w 37 [v]) : ∃ a n ca P, v = .slice a n ca ∧ RowsIn w a n P ∧ n ≤ 140737488351232 ∧ (∀ k, k < n → Bytes (P k)) ∧ n ≤ ca ∧ (a = none → n = 0 ∧ ca = 0) := by
  obtain ⟨a0, n0, cap0, hv0, hl0, hm0, hnil0, hsz0, hel0⟩ := h.slice Tryd.underlying37
  obtain ⟨a, n, cap, P, rfl, hR, hn, hB⟩ := rowsInB h
  obtain ⟨rfl, rfl, rfl⟩ : a = a0 ∧ n = n0 ∧ cap = cap0 := by cases hv0; exact ⟨rfl, rfl, rfl⟩
  exact ⟨_, _, _, P, rfl, hR, hn, hB, hl0, fun e => by have := hnil0 e; omega⟩
theorem intIn {w : World} {v : Value} (h : HasVal Tryd.prog w 3 [v]) : ∃ k : Int, v = .int .i64 k ∧ -9223372036854775808 ≤ k ∧ k ≤ 9223372036854775807 := by
  obtain ⟨k, hk, hw⟩ := h.int Tryd.underlying3
  cases hk
  have := bounds_i64 hw
  exact ⟨k, rfl, this.1, this.2⟩

end Go.Proofs.YtmpdmejlpicdlaaDoor

/- WalLoses, of all arguments. -/
import Derived.Test.YtmpdmejlpicdlaaDoorWalLo
namespace Go.Proofs.YtmpdmejlpicdlaaDoor
open Go.RowKit Go.Bw Go.Maps
set_option linter.unusedVariables false
set_option linter.unusedSimpArgs false

theorem list_six {l : List Value} (h : l.length = 6) : ∃ a b c d e f, l = [a, b, c, d, e, f] := by
  match l, h with
  | [a, b, c, d, e, f], _ => exact ⟨a, b, c, d, e, f, rfl⟩

/-- Rows of bytes, with what each byte can be. -/
theorem rowsInB {w : World} {v : Value} (h : HasVal Tryd.prog w 37 [v]) : ∃ a n ca P, v = .slice a n ca ∧ RowsIn w a n P ∧ n ≤ 140737488351232 ∧ ∀ k, k < n → Bytes (P k) := by
  obtain ⟨a, n, cap, hv, hl, hm, hnil, hsz, hel⟩ := h.slice Tryd.underlying37
  have hb : Tryd.prog.bytesOf 22 = 24 := by kernel_rfl
  have hc : Tryd.prog.cellsOf 22 = 1 := by kernel_rfl
  rw [hb] at hsz
  rw [hc] at hel
  simp only [reachBytes] at hsz
  cases hv
  have hI : ∀ r, r < n → ∃ xs : List Int, (∃ a' x c, a = some a' ∧ w.cell? (a'.add r) = some (.slice x xs.length c) ∧ Reads w 1 (.slice x xs.length c) xs.length (bcells xs) ∧ xs.length ≤ 140737488351232) ∧ Bytes xs := fun r hr => by
    cases a with
    | none => have := hnil rfl; omega
    | some a =>
      obtain ⟨cs', h1, h2, h3⟩ := hel a rfl r (by omega)
      obtain ⟨v, rfl⟩ : ∃ v, cs' = [v] := by
        match cs', h1 with
        | [v], _ => exact ⟨v, rfl⟩
      obtain ⟨x, c, xs, rfl, hR, hl', _, hB⟩ := bytesIn2 h3
      exact ⟨xs, ⟨a, x, c, rfl, by simpa using h2 0 _ rfl, hR, hl'⟩, hB⟩
  obtain ⟨P, hP⟩ := Deep.choose_lt hI
  exact ⟨a, n, cap, P, rfl, fun k hk => (hP k hk).1, by omega, fun k hk => (hP k hk).2⟩

/-- Likewise, with the room. -/
theorem rowsIn3 {w : World} {v : Value} (h : HasVal Tryd.prog w 37 [v]) : ∃ a n ca P, v = .slice a n ca ∧ RowsIn w a n P ∧ n ≤ 140737488351232 ∧ (∀ k, k < n → Bytes (P k)) ∧ n ≤ ca ∧ (a = none → n = 0 ∧ ca = 0) := by
  obtain ⟨a0, n0, cap0, hv0, hl0, hm0, hnil0, hsz0, hel0⟩ := h.slice Tryd.underlying37
  obtain ⟨a, n, cap, P, rfl, hR, hn, hB⟩ := rowsInB h
  obtain ⟨rfl, rfl, rfl⟩ : a = a0 ∧ n = n0 ∧ cap = cap0 := by cases hv0; exact ⟨rfl, rfl, rfl⟩
  exact ⟨_, _, _, P, rfl, hR, hn, hB, hl0, fun e => by have := hnil0 e; omega⟩
theorem intIn {w : World} {v : Value} (h : HasVal Tryd.prog w 3 [v]) : ∃ k : Int, v = .int .i64 k ∧ -9223372036854775808 ≤ k ∧ k ≤ 9223372036854775807 := by
  obtain ⟨k, hk, hw⟩ := h.int Tryd.underlying3
  cases hk
  have := bounds_i64 hw
  exact ⟨k, rfl, this.1, this.2⟩

set_option maxRecDepth 100000 in
theorem walLoses_in (w : World) (n0 : Array Value) (h0 : HasVal Tryd.prog w 57 n0.toList) (hL : Laid w) :
    Calls Tryd.prog 9 #[.agg n0] w (SaysOut w true) := by
  obtain ⟨hlen, _⟩ := h0.struct Tryd.underlying57
  have hc : Tryd.prog.cellsOf 57 = 6 := by kernel_rfl
  rw [hc] at hlen
  obtain ⟨l⟩ := n0
  have hlen' : l.length = 6 := hlen
  obtain ⟨c0, c1, c2, c3, c4, c5, rfl⟩ := list_six hlen'
  clear hlen hlen' hc
  have f0 := h0.field Tryd.underlying57 0 (u := 37) rfl (by kernel_rfl) (c := c0) rfl
  have f1 := h0.field Tryd.underlying57 1 (u := 3) rfl (by kernel_rfl) (c := c1) rfl
  have f2 := h0.field Tryd.underlying57 2 (u := 3) rfl (by kernel_rfl) (c := c2) rfl
  have f3 := h0.field Tryd.underlying57 3 (u := 3) rfl (by kernel_rfl) (c := c3) rfl
  have f4 := h0.field Tryd.underlying57 4 (u := 3) rfl (by kernel_rfl) (c := c4) rfl
  have f5 := h0.field Tryd.underlying57 5 (u := 3) rfl (by kernel_rfl) (c := c5) rfl
  obtain ⟨a, n, ca, P, rfl, hR, hn, hB, hca, hcn⟩ := rowsIn3 f0
  obtain ⟨k1, rfl, a1, b1⟩ := intIn f1
  obtain ⟨k2, rfl, a2, b2⟩ := intIn f2
  obtain ⟨k3, rfl, a3, b3⟩ := intIn f3
  obtain ⟨k4, rfl, a4, b4⟩ := intIn f4
  obtain ⟨k5, rfl, a5, b5⟩ := intIn f5
  exact wloses_walk w a n ca P k1 k2 k3 k4 k5 hR hB hL hn hca hcn b1 a1 a2 b2 a3 b3 a4 b4 a5 b5
end Go.Proofs.YtmpdmejlpicdlaaDoor

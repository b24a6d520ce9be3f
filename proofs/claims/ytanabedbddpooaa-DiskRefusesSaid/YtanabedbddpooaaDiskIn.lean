/- What came in, in the walks' own words: rows of bytes, flags, numbers. -/
import Derived.Test.YtanabedbddpooaaOpen
import Derived.Test.YtanabedbddpooaaDiskFa
namespace Go.Proofs.Ytanabedbddpooaa
open Go.RowKit Go.Bw Go.Maps
set_option linter.unusedVariables false
set_option linter.unusedSimpArgs false

theorem bytesIn {w : World} {v : Value} (h : HasVal Try.prog w 28 [v]) : ∃ x c, ∃ xs : List Int, v = .slice x xs.length c ∧ Reads w 1 (.slice x xs.length c) xs.length (bcells xs) ∧ xs.length ≤ 140737488351232 := by
  obtain ⟨a, len, cap, hv, hl, hm, hnil, hsz, hel⟩ := h.slice Try.underlying28
  have hb : Try.prog.bytesOf 5 = 1 := by kernel_rfl
  have hc : Try.prog.cellsOf 5 = 1 := by kernel_rfl
  rw [hb] at hsz
  rw [hc] at hel
  simp only [reachBytes] at hsz
  cases hv
  cases a with
  | none =>
    obtain rfl := hnil rfl
    obtain rfl : len = 0 := by omega
    exact ⟨none, 0, [], rfl, ⟨rfl, Or.inl ⟨0, rfl, rfl⟩⟩, by simp⟩
  | some a =>
    have hI : ∀ i, i < cap → ∃ n : Int, w.cell? (a.add i) = some (.int .u8 n) := fun i hi => by
      obtain ⟨cs', h1, h2, h3⟩ := hel a rfl i hi
      obtain ⟨n, rfl, _⟩ := h3.int Try.underlying5
      exact ⟨n, by simpa using h2 0 _ rfl⟩
    obtain ⟨f, hf⟩ := Deep.choose_lt hI
    refine ⟨some a, cap, (List.range len).map f, by simp, ⟨by simp [bcells], Or.inr ⟨a, cap, rfl, fun j u hj => ?_⟩⟩, by simp; omega⟩
    have hjl : j < len := by have := (List.getElem?_eq_some_iff.1 hj).1; simpa [bcells] using this
    rw [hf j (by omega)]
    simp [bcells, hjl] at hj
    rw [hj]

theorem rowsIn {w : World} {a : Option Addr} {n ca : Nat} (h : HasVal Try.prog w 22 [.slice a n ca]) : ∃ P, RowsIn w a n P ∧ n ≤ 140737488351232 := by
  obtain ⟨a', len, cap, hv, hl, hm, hnil, hsz, hel⟩ := h.slice Try.underlying22
  have hb : Try.prog.bytesOf 28 = 24 := by kernel_rfl
  have hc : Try.prog.cellsOf 28 = 1 := by kernel_rfl
  rw [hb] at hsz
  rw [hc] at hel
  simp only [reachBytes] at hsz
  cases hv
  have hI : ∀ r, r < n → ∃ xs : List Int, ∃ a' x c, a = some a' ∧ w.cell? (a'.add r) = some (.slice x xs.length c) ∧ Reads w 1 (.slice x xs.length c) xs.length (bcells xs) ∧ xs.length ≤ 140737488351232 := fun r hr => by
    cases a with
    | none => have := hnil rfl; omega
    | some a =>
      obtain ⟨cs', h1, h2, h3⟩ := hel a rfl r (by omega)
      obtain ⟨v, rfl⟩ : ∃ v, cs' = [v] := by
        match cs', h1 with
        | [v], _ => exact ⟨v, rfl⟩
      obtain ⟨x, c, xs, rfl, hR, hl'⟩ := bytesIn h3
      exact ⟨xs, a, x, c, rfl, by simpa using h2 0 _ rfl, hR, hl'⟩
  obtain ⟨P, hP⟩ := Deep.choose_lt hI
  exact ⟨P, hP, by omega⟩

theorem flagsIn {w : World} {a : Option Addr} {n ca : Nat} (h : HasVal Try.prog w 38 [.slice a n ca]) : FlagsIn w a n ∧ n ≤ 140737488351232 := by
  obtain ⟨a', len, cap, hv, hl, hm, hnil, hsz, hel⟩ := h.slice Try.underlying38
  have hb : Try.prog.bytesOf 4 = 1 := by kernel_rfl
  have hc : Try.prog.cellsOf 4 = 1 := by kernel_rfl
  rw [hb] at hsz
  rw [hc] at hel
  simp only [reachBytes] at hsz
  cases hv
  refine ⟨fun j hj => ?_, by omega⟩
  cases a with
  | none => have := hnil rfl; omega
  | some a =>
    obtain ⟨cs', h1, h2, h3⟩ := hel a rfl j (by omega)
    obtain ⟨b, rfl⟩ := h3.bool Try.underlying4
    exact ⟨a, b, rfl, by simpa using h2 0 _ rfl⟩

theorem intsIn {w : World} {a : Option Addr} {n ca : Nat} (h : HasVal Try.prog w 23 [.slice a n ca]) : IntsIn w a n ∧ n ≤ 140737488351232 := by
  obtain ⟨a', len, cap, hv, hl, hm, hnil, hsz, hel⟩ := h.slice Try.underlying23
  have hb : Try.prog.bytesOf 3 = 8 := by kernel_rfl
  have hc : Try.prog.cellsOf 3 = 1 := by kernel_rfl
  rw [hb] at hsz
  rw [hc] at hel
  simp only [reachBytes] at hsz
  cases hv
  refine ⟨fun j hj => ?_, by omega⟩
  cases a with
  | none => have := hnil rfl; omega
  | some a =>
    obtain ⟨cs', h1, h2, h3⟩ := hel a rfl j (by omega)
    obtain ⟨b, rfl, _⟩ := h3.int Try.underlying3
    exact ⟨a, b, rfl, by simpa using h2 0 _ rfl⟩
end Go.Proofs.Ytanabedbddpooaa

/- What came in, in the walks' own words: rows of bytes, flags, numbers. -/
import Derived.Test.YtmpdmejlpicdlaaDoorOpen
import Derived.Test.YtmpdmejlpicdlaaDoorDiskFa
namespace Go.Proofs.YtmpdmejlpicdlaaDoor
open Go.RowKit Go.Bw Go.Maps
set_option linter.unusedVariables false
set_option linter.unusedSimpArgs false

theorem bytesIn {w : World} {v : Value} (h : HasVal Tryd.prog w 22 [v]) : ∃ x c, ∃ xs : List Int, v = .slice x xs.length c ∧ Reads w 1 (.slice x xs.length c) xs.length (bcells xs) ∧ xs.length ≤ 140737488351232 := by
  obtain ⟨a, len, cap, hv, hl, hm, hnil, hsz, hel⟩ := h.slice Tryd.underlying22
  have hb : Tryd.prog.bytesOf 5 = 1 := by kernel_rfl
  have hc : Tryd.prog.cellsOf 5 = 1 := by kernel_rfl
  rw [hb] at hsz
  rw [hc] at hel
  simp only [reachBytes] at hsz
  cases hv
  cases a with
  | none =>
    obtain rfl := hnil rfl
    obtain rfl : len = 0 := by omega
    exact ⟨none, 0, [], rfl, ⟨rfl, Or.inl ⟨0, rfl, rfl⟩⟩, by simp⟩
  | some a =>
    have hI : ∀ i, i < cap → ∃ n : Int, w.cell? (a.add i) = some (.int .u8 n) := fun i hi => by
      obtain ⟨cs', h1, h2, h3⟩ := hel a rfl i hi
      obtain ⟨n, rfl, _⟩ := h3.int Tryd.underlying5
      exact ⟨n, by simpa using h2 0 _ rfl⟩
    obtain ⟨f, hf⟩ := Deep.choose_lt hI
    refine ⟨some a, cap, (List.range len).map f, by simp, ⟨by simp [bcells], Or.inr ⟨a, cap, rfl, fun j u hj => ?_⟩⟩, by simp; omega⟩
    have hjl : j < len := by have := (List.getElem?_eq_some_iff.1 hj).1; simpa [bcells] using this
    rw [hf j (by omega)]
    simp [bcells, hjl] at hj
    rw [hj]

/-- Likewise, with what each byte can be and the room. -/
theorem bytesIn2 {w : World} {v : Value} (h : HasVal Tryd.prog w 22 [v]) : ∃ x c, ∃ xs : List Int, v = .slice x xs.length c ∧ Reads w 1 (.slice x xs.length c) xs.length (bcells xs) ∧ xs.length ≤ 140737488351232 ∧ xs.length ≤ c ∧ (∀ y ∈ xs, 0 ≤ y ∧ y ≤ 255) := by
  obtain ⟨a, len, cap, hv, hl, hm, hnil, hsz, hel⟩ := h.slice Tryd.underlying22
  have hb : Tryd.prog.bytesOf 5 = 1 := by kernel_rfl
  have hc : Tryd.prog.cellsOf 5 = 1 := by kernel_rfl
  rw [hb] at hsz
  rw [hc] at hel
  simp only [reachBytes] at hsz
  cases hv
  cases a with
  | none =>
    obtain rfl := hnil rfl
    obtain rfl : len = 0 := by omega
    exact ⟨none, 0, [], rfl, ⟨rfl, Or.inl ⟨0, rfl, rfl⟩⟩, by simp, by simp, fun y hy => by cases hy⟩
  | some a =>
    have hI : ∀ i, i < cap → ∃ n : Int, w.cell? (a.add i) = some (.int .u8 n) ∧ 0 ≤ n ∧ n ≤ 255 := fun i hi => by
      obtain ⟨cs', h1, h2, h3⟩ := hel a rfl i hi
      obtain ⟨n, rfl, hw⟩ := h3.int Tryd.underlying5
      exact ⟨n, by simpa using h2 0 _ rfl, bounds_u8 hw⟩
    obtain ⟨f, hf⟩ := Deep.choose_lt hI
    refine ⟨some a, cap, (List.range len).map f, by simp, ⟨by simp [bcells], Or.inr ⟨a, cap, rfl, fun j u hj => ?_⟩⟩, by simp; omega, by simp; omega, fun y hy => ?_⟩
    · have hjl : j < len := by have := (List.getElem?_eq_some_iff.1 hj).1; simpa [bcells] using this
      rw [(hf j (by omega)).1]
      simp [bcells, hjl] at hj
      rw [hj]
    · obtain ⟨i, hi, rfl⟩ := List.mem_map.1 hy
      exact (hf i (by have := List.mem_range.1 hi; omega)).2

theorem rowsIn {w : World} {a : Option Addr} {n ca : Nat} (h : HasVal Tryd.prog w 37 [.slice a n ca]) : ∃ P, RowsIn w a n P ∧ n ≤ 140737488351232 := by
  obtain ⟨a', len, cap, hv, hl, hm, hnil, hsz, hel⟩ := h.slice Tryd.underlying37
  have hb : Tryd.prog.bytesOf 22 = 24 := by kernel_rfl
  have hc : Tryd.prog.cellsOf 22 = 1 := by kernel_rfl
  rw [hb] at hsz
  rw [hc] at hel
  simp only [reachBytes] at hsz
  cases hv
  have hI : ∀ r, r < n → ∃ xs : List Int, ∃ a' x c, a = some a' ∧ w.cell? (a'.add r) = some (.slice x xs.length c) ∧ Reads w 1 (.slice x xs.length c) xs.length (bcells xs) ∧ xs.length ≤ 140737488351232 := fun r hr => by
    cases a with
    | none => have := hnil rfl; omega
    | some a =>
      obtain ⟨cs', h1, h2, h3⟩ := hel a rfl r (by omega)
      obtain ⟨v, rfl⟩ : ∃ v, cs' = [v] := by
        match cs', h1 with
        | [v], _ => exact ⟨v, rfl⟩
      obtain ⟨x, c, xs, rfl, hR, hl'⟩ := bytesIn h3
      exact ⟨xs, a, x, c, rfl, by simpa using h2 0 _ rfl, hR, hl'⟩
  obtain ⟨P, hP⟩ := Deep.choose_lt hI
  exact ⟨P, hP, by omega⟩

theorem intsIn {w : World} {a : Option Addr} {n ca : Nat} (h : HasVal Tryd.prog w 38 [.slice a n ca]) : IntsIn w a n ∧ n ≤ 140737488351232 := by
  obtain ⟨a', len, cap, hv, hl, hm, hnil, hsz, hel⟩ := h.slice Tryd.underlying38
  have hb : Tryd.prog.bytesOf 3 = 8 := by kernel_rfl
  have hc : Tryd.prog.cellsOf 3 = 1 := by kernel_rfl
  rw [hb] at hsz
  rw [hc] at hel
  simp only [reachBytes] at hsz
  cases hv
  refine ⟨fun j hj => ?_, by omega⟩
  cases a with
  | none => have := hnil rfl; omega
  | some a =>
    obtain ⟨cs', h1, h2, h3⟩ := hel a rfl j (by omega)
    obtain ⟨b, rfl, _⟩ := h3.int Tryd.underlying3
    exact ⟨a, b, rfl, by simpa using h2 0 _ rfl⟩
end Go.Proofs.YtmpdmejlpicdlaaDoor

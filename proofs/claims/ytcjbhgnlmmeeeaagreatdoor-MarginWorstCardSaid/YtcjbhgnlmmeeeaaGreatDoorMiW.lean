/- What came in, opened, for MarginWorst. -/
import Derived.Test.YtcjbhgnlmmeeeaaGreatDoorLawW
import Derived.Test.YtcjbhgnlmmeeeaaGreatDoorGh
namespace Go.Proofs.YtcjbhgnlmmeeeaaGreatDoor
open Go.RowKit Go.Bw Go.Maps Go.WideShapes
set_option linter.unusedVariables false
theorem okWide_arr {P : Program} {w : World} {r : Reach} {base : Nat} {t e : TypeId} {n : Nat} {v : Value} (ht : P.underlying t = some (.array n e)) (h : Value.okWide P w r base t v) : ∃ cs, v = .agg cs ∧ cs.size = P.cellsOf t := by
  simp only [Value.okWide, ht] at h
  obtain ⟨cs, h1, h2, _⟩ := h
  exact ⟨cs, h1, h2⟩
set_option maxRecDepth 100000 in
theorem three_in {w : World} {cs : Array Value} (h : HasVal Tryz.prog w 38 cs.toList) : ∃ p0 p1 p2 : Int, cs = #[.int .i64 p0, .int .i64 p1, .int .i64 p2] := by
  obtain ⟨hl, hi⟩ := h.array Tryz.underlying38
  rw [show Tryz.prog.cellsOf 38 = 3 from by kernel_rfl] at hl
  obtain ⟨cs⟩ := cs
  match cs, hl with
  | [c0, c1, c2], _ =>
    have e1 : Tryz.prog.cellsOf 3 = 1 := by kernel_rfl
    have g0 := hi 0 (by omega)
    have g1 := hi 1 (by omega)
    have g2 := hi 2 (by omega)
    rw [e1] at g0 g1 g2
    obtain ⟨x0, rfl, _⟩ := i64_in (c := c0) g0
    obtain ⟨x1, rfl, _⟩ := i64_in (c := c1) g1
    obtain ⟨x2, rfl, _⟩ := i64_in (c := c2) g2
    exact ⟨x0, x1, x2, rfl⟩
theorem u32_in {w : World} {c : Value} (h : HasVal Tryz.prog w 51 [c]) : ∃ x : Int, c = .int .u32 x ∧ 0 ≤ x ∧ x < 4294967296 := by
  obtain ⟨n, h1, h2⟩ := h.int Tryz.underlying51
  simp at h1
  have m1 : IntKind.min .u32 = 0 := rfl
  have m2 : IntKind.max .u32 = 4294967295 := rfl
  simp only [Lit.wf, Bool.and_eq_true, decide_eq_true_eq, m1, m2] at h2
  exact ⟨n, h1, by omega, by omega⟩
theorem marginWorst_in (W : World) (n0 n1 : Array Value) (n2 : Int) (V0 : HasVal Tryz.prog W 31 n0.toList) (V1 : HasVal Tryz.prog W 38 n1.toList) (V2 : HasVal Tryz.prog W 51 [.int .u32 n2]) (HL : Grd W) :
    Calls Tryz.prog 7 #[.agg n0, .agg n1, .int .u32 n2] W fun e w' => e = .returned (.bool true) ∧ Below W.heap.size W w' := by
  obtain ⟨V, l, e, h, s⟩ := led_in V0
  obtain ⟨p0, p1, p2, rfl⟩ := three_in V1
  obtain ⟨x, e2, hx⟩ := u32_in V2
  injection e2 with _ e2
  subst e2
  rw [e]
  exact worst_law W V l h s HL p0 p1 p2 _ hx
end Go.Proofs.YtcjbhgnlmmeeeaaGreatDoor

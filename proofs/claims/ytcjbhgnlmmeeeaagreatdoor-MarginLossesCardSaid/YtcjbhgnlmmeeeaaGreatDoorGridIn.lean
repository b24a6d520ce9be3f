/- From the rows' list of variables to what the walks ask of them. -/
import Derived.Test.YtcjbhgnlmmeeeaaGreatDoorMgD
import Derived.Test.YtcjbhgnlmmeeeaaGreatDoorRows
import Derived.LaidMore
import Derived.Lib.LaidTab
import Derived.Stop.LaidErr
import Derived.Stop.Joined
namespace Go.Proofs.YtcjbhgnlmmeeeaaGreatDoor
open Go.RowKit Go.Bw Go.Maps
set_option linter.unusedVariables false

/-- The list that all rows of this seat bear. -/
def laidList : List (String × DataW Unit) := Rows.marginNeedsRow.laid
theorem var_block {w : World} {name : String} {cs : Array Value} {g : Nat} (hg : Tryz.prog.globalNamed name = some g) (h : w.var? Tryz.prog name = some cs) : ∃ t f, w.heap[g]? = some (.cells cs t f) := by
  unfold World.var? at h
  rw [hg] at h
  simp only [Option.bind_some] at h
  split at h
  · rename_i cs' t f hh
    cases h
    exact ⟨t, f, hh⟩
  · cases h
theorem laid_in {W : World} (hL : laidMetH Tryz.prog laidList W) : Grd W := by
  rw [MakeChecks.laidMetH_plain _ _ _ (by kernel_rfl)] at hL
  have h1 : laidMet Tryz.prog (("bulwark/grid.shifts", Lib.tabData .i64 [-2000, -1000, -500, 0, 500, 1000, 2000]) :: laidList.drop 2) W := hL.tail
  have h2 : laidMet Tryz.prog (("bulwark/grid.vols", Lib.tabData .i64 [-2500, 0, 2500]) :: laidList.drop 3) W := hL.tail.tail
  have g1 : Tryz.prog.globalNamed "bulwark/grid.shifts" = some 2 := by kernel_rfl
  have g2 : Tryz.prog.globalNamed "bulwark/grid.vols" = some 3 := by kernel_rfl
  have t1 := Lib.tabIs_of_head g1 (by kernel_rfl) Tryz.underlying175 Tryz.underlying3 (by kernel_rfl) (by kernel_rfl) h1
  have t2 := Lib.tabIs_of_head g2 (by kernel_rfl) Tryz.underlying38 Tryz.underlying3 (by kernel_rfl) (by kernel_rfl) h2
  obtain ⟨x1, y1, e1⟩ := var_block g1 t1
  obtain ⟨x2, y2, e2⟩ := var_block g2 t2
  exact ⟨⟨x1, y1, e1⟩, ⟨x2, y2, e2⟩⟩
end Go.Proofs.YtcjbhgnlmmeeeaaGreatDoor

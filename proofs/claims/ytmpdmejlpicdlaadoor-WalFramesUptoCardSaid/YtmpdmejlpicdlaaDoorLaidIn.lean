/- From the rows' list of variables to what the walks ask of them. -/
import Derived.Test.YtmpdmejlpicdlaaDoorSnapN
import Derived.Test.YtmpdmejlpicdlaaDoorRows
import Derived.LaidMore
import Derived.Stop.LaidErr
import Derived.Stop.Joined
namespace Go.Proofs.YtmpdmejlpicdlaaDoor
open Go.RowKit Go.Bw Go.Maps
set_option linter.unusedVariables false

/-- The list that all rows of this seat bear. -/
def laidList : List (String × DataW Unit) := Rows.snapBackRow.laid

theorem star : "*" ++ "errors.errorString" = "*errors.errorString" := by decide
theorem rowErr (u : TypeId) (h : Tryd.prog.typeName? 3 u = some "*errors.errorString") : u = 150 :=
  typeName_ptr_named (nm := "errors.errorString") (by rw [star]; kernel_rfl) (by kernel_rfl) (by decide) u (by rw [star]; exact h)

theorem var_block {w : World} {name : String} {cs : Array Value} {g : Nat} (hg : Tryd.prog.globalNamed name = some g) (h : w.var? Tryd.prog name = some cs) : ∃ t f, w.heap[g]? = some (.cells cs t f) := by
  unfold World.var? at h
  rw [hg] at h
  simp only [Option.bind_some] at h
  split at h
  · rename_i cs' t f hh
    cases h
    exact ⟨t, f, hh⟩
  · cases h

theorem laid_in {W : World} (hL : laidMetH Tryd.prog laidList W) : Laid W := by
  rw [MakeChecks.laidMetH_plain _ _ _ (by kernel_rfl)] at hL
  have h0 : laidMet Tryd.prog (("bulwark/sum.half", Lib.tabData .u32 halfTab) :: laidList.drop 1) W := hL
  have h3 : laidMet Tryd.prog (("internal/strconv.uint64pow10", Lib.tabData .u64 Lib.pow10Tab) :: laidList.drop 4) W := hL.tail.tail.tail
  have h5 : laidMet Tryd.prog (("strconv.ErrSyntax", .iface "*errors.errorString" (.ptr (.agg [.lit (.string [105, 110, 118, 97, 108, 105, 100, 32, 115, 121, 110, 116, 97, 120])]))) :: []) W := hL.tail.tail.tail.tail.tail
  have g0 : Tryd.prog.globalNamed "bulwark/sum.half" = some 0 := by kernel_rfl
  have g3 : Tryd.prog.globalNamed "internal/strconv.uint64pow10" = some 1 := by kernel_rfl
  have g5 : Tryd.prog.globalNamed "strconv.ErrSyntax" = some 2 := by kernel_rfl
  have t0 := Lib.tabIs_of_head g0 (by kernel_rfl) Tryd.underlying89 Tryd.underlying61 (by kernel_rfl) (by kernel_rfl) h0
  have t3 := Lib.tabIs_of_head g3 (by kernel_rfl) Tryd.underlying133 Tryd.underlying64 (by kernel_rfl) (by kernel_rfl) h3
  obtain ⟨a0, s0, hv0, -, -, -⟩ := laid_sentinel h5 g5 (by kernel_rfl) Tryd.underlying97 rowErr Tryd.underlying150 Tryd.underlying152 rfl rfl Tryd.underlying9 (by kernel_rfl) (by kernel_rfl)
  obtain ⟨x0, y0, e0⟩ := var_block g0 t0
  obtain ⟨x3, y3, e3⟩ := var_block g3 t3
  obtain ⟨x5, y5, e5⟩ := var_block g5 hv0
  exact ⟨⟨x0, y0, e0⟩, ⟨x3, y3, e3⟩, ⟨_, _, x5, y5, e5⟩⟩
end Go.Proofs.YtmpdmejlpicdlaaDoor

/- DiskSafe, of all arguments. -/
import Derived.Test.YtanabedbddpooaaDiskIn
import Derived.Test.YtanabedbddpooaaDiskSb
namespace Go.Proofs.Ytanabedbddpooaa
open Go.RowKit Go.Bw Go.Maps
theorem diskSafe_in (w : World) (a : Option Addr) (n ca : Nat) (b : Option Addr) (m cb : Nat) (keep : Int) (h0 : HasVal Try.prog w 22 [.slice a n ca]) (h1 : HasVal Try.prog w 38 [.slice b m cb]) (h2 : HasVal Try.prog w 3 [.int .i64 keep]) :
    Calls Try.prog 5 #[.slice a n ca, .slice b m cb, .int .i64 keep] w (SaysOut w true) := by
  obtain ⟨P, hR, e1⟩ := rowsIn h0
  obtain ⟨hF, e2⟩ := flagsIn h1
  obtain ⟨k, hk, hw⟩ := h2.int Try.underlying3
  cases hk
  have := bounds_i64 hw
  exact safe_walk w a n ca P b m cb keep hR hF (by omega) (by omega) (by omega) (by omega)
end Go.Proofs.Ytanabedbddpooaa

/- DiskFull, of all arguments. -/
import Derived.Test.YtanabedbddpooaaDiskIn
import Derived.Test.YtanabedbddpooaaDiskFb
namespace Go.Proofs.Ytanabedbddpooaa
open Go.RowKit Go.Bw Go.Maps
theorem diskFull_in (w : World) (room : Int) (a : Option Addr) (n ca : Nat) (b : Option Addr) (m cb : Nat) (h0 : HasVal Try.prog w 3 [.int .i64 room]) (h1 : HasVal Try.prog w 22 [.slice a n ca]) (h2 : HasVal Try.prog w 23 [.slice b m cb]) :
    Calls Try.prog 3 #[.int .i64 room, .slice a n ca, .slice b m cb] w (SaysOut w true) := by
  obtain ⟨P, hR, e1⟩ := rowsIn h1
  obtain ⟨hF, e2⟩ := intsIn h2
  exact full_walk w room a n ca P b m cb hR hF (by omega) (by omega)
end Go.Proofs.Ytanabedbddpooaa

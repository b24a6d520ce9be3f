/- DiskRefuses, of all arguments. -/
import Derived.Test.YtanabedbddpooaaDiskRc
namespace Go.Proofs.Ytanabedbddpooaa
open Go.RowKit Go.Bw Go.Maps
theorem diskRefuses_in (w : World) (room : Int) (a : Option Addr) (n ca : Nat) (_h0 : HasVal Try.prog w 3 [.int .i64 room]) (h1 : HasVal Try.prog w 41 [.slice a n ca]) :
    Calls Try.prog 7 #[.int .i64 room, .slice a n ca] w (SaysOut w true) := by
  obtain ⟨S, hS, e1⟩ := opsIn h1
  exact refuses_walk w room a n ca S hS e1
end Go.Proofs.Ytanabedbddpooaa

/- WalSegments, of all arguments. -/
import Derived.Test.YtmpdmejlpicdlaaDoorWalSg
import Derived.Test.YtmpdmejlpicdlaaDoorWalIn
namespace Go.Proofs.YtmpdmejlpicdlaaDoor
open Go.RowKit Go.Bw Go.Maps
set_option maxRecDepth 100000 in
theorem walSegments_in (w : World) (cnt per below : Int) (h0 : HasVal Tryd.prog w 3 [.int .i64 cnt]) (h1 : HasVal Tryd.prog w 3 [.int .i64 per]) (h2 : HasVal Tryd.prog w 3 [.int .i64 below]) (hL : Laid w) :
    Calls Tryd.prog 10 #[.int .i64 cnt, .int .i64 per, .int .i64 below] w (SaysOut w true) := by
  obtain ⟨k0, e0, a0, b0⟩ := intIn h0
  cases e0
  obtain ⟨k1, e1, a1, b1⟩ := intIn h1
  cases e1
  obtain ⟨k2, e2, a2, b2⟩ := intIn h2
  cases e2
  exact wsegs_walk w _ _ _ a0 b0 a1 b1 a2 b2 hL
end Go.Proofs.YtmpdmejlpicdlaaDoor

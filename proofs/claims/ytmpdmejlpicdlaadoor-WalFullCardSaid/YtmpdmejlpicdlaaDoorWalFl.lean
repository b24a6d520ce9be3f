/- WalFull, of all arguments. -/
import Derived.Test.YtmpdmejlpicdlaaDoorWalFu
import Derived.Test.YtmpdmejlpicdlaaDoorWalIn
namespace Go.Proofs.YtmpdmejlpicdlaaDoor
open Go.RowKit Go.Bw Go.Maps
set_option maxRecDepth 100000 in
theorem walFull_in (w : World) (a : Option Addr) (n ca : Nat) (per : Int) (b : Option Addr) (m cb : Nat) (h0 : HasVal Tryd.prog w 37 [.slice a n ca]) (h1 : HasVal Tryd.prog w 3 [.int .i64 per]) (h2 : HasVal Tryd.prog w 38 [.slice b m cb]) (hL : Laid w) :
    Calls Tryd.prog 8 #[.slice a n ca, .int .i64 per, .slice b m cb] w (SaysOut w true) := by
  obtain ⟨a1, n1, c1, P, hv, hR, hn, hB, _, _⟩ := rowsIn3 h0
  cases hv
  obtain ⟨k, hk, k1, k2⟩ := intIn h1
  cases hk
  obtain ⟨hF, hm⟩ := intsIn h2
  exact wfull_walk w _ _ _ P per _ _ _ hR hF hB hL hn hm k2 k1
end Go.Proofs.YtmpdmejlpicdlaaDoor

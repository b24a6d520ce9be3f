/- SnapKeeps, of all arguments. -/
import Derived.Test.YtmpdmejlpicdlaaDoorSnapKa
namespace Go.Proofs.YtmpdmejlpicdlaaDoor
open Go.RowKit Go.Bw Go.Maps
theorem snapKeeps_in (w : World) (n : Int) (a : Option Addr) (len c : Nat) (h0 : HasVal Tryd.prog w 3 [.int .i64 n]) (h1 : HasVal Tryd.prog w 22 [.slice a len c]) (hL : Laid w) :
    Calls Tryd.prog 5 #[.int .i64 n, .slice a len c] w (SaysOut w true) := by
  obtain ⟨m, hm, hw⟩ := h0.int Tryd.underlying3
  cases hm
  have b1 := bounds_i64 hw
  obtain ⟨x, c', xs, hv, hR, hl, _, hB⟩ := bytesIn2 h1
  cases hv
  by_cases hs : xs.length ≤ 4096
  · exact skeeps_small w n b1.1 b1.2 a c xs hR hB hL hs
  · exact keeps_big w n a xs.length c hL (by omega) hl
end Go.Proofs.YtmpdmejlpicdlaaDoor

/- SnapBack, of all arguments. -/
import Derived.Test.YtmpdmejlpicdlaaDoorDiskIn
import Derived.Test.YtmpdmejlpicdlaaDoorSnapBa
namespace Go.Proofs.YtmpdmejlpicdlaaDoor
open Go.RowKit Go.Bw Go.Maps
theorem snapBack_in (w : World) (n : Int) (a : Option Addr) (len c : Nat) (k : Int) (h0 : HasVal Tryd.prog w 3 [.int .i64 n]) (h1 : HasVal Tryd.prog w 22 [.slice a len c]) (h2 : HasVal Tryd.prog w 3 [.int .i64 k]) (hL : Laid w) :
    Calls Tryd.prog 4 #[.int .i64 n, .slice a len c, .int .i64 k] w (SaysOut w true) := by
  obtain ⟨m, hm, hw⟩ := h0.int Tryd.underlying3
  cases hm
  obtain ⟨m, hm, hw2⟩ := h2.int Tryd.underlying3
  cases hm
  have b1 := bounds_i64 hw
  have b2 := bounds_i64 hw2
  obtain ⟨x, c', xs, hv, hR, hl, _, hB⟩ := bytesIn2 h1
  cases hv
  by_cases hs : xs.length ≤ 4096
  · exact back_small w n k b1.1 b1.2 b2.1 b2.2 a c xs hR hB hL hs
  · exact back_great w n k a xs.length c hL (by omega) hl
end Go.Proofs.YtmpdmejlpicdlaaDoor

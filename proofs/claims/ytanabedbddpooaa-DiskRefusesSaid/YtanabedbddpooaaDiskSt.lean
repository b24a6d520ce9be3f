/- numbers for DiskSafe. -/
import Derived.Test.YtanabedbddpooaaDiskSa
namespace Go.Proofs.Ytanabedbddpooaa
open Go.RowKit
theorem safe_e1 (N s t : Nat) (h : s + t = N) (hN : N ≤ 524288) : RowKit.wrap64 ((N : Int) - (s : Int)) = (t : Int) := by
  unfold RowKit.wrap64; omega
theorem safe_e2 (keep : Int) (t q : Nat) (h : q = min keep.toNat t) : min (max keep 0) (t : Int) = (q : Int) := by omega
theorem safe_e3 (s q z : Nat) (h : z = s + q) (hz : z ≤ 524288) : RowKit.wrap64 ((s : Int) + (q : Int)) = (z : Int) := by
  unfold RowKit.wrap64; omega
end Go.Proofs.Ytanabedbddpooaa

/- 'long': whether a script is longer than is played. -/
import Derived.Test.YtanabedbddpooaaDiskOp
namespace Go.Proofs.Ytanabedbddpooaa
open Go.RowKit Go.Bw Go.Maps
set_option linter.unusedVariables false
set_option linter.unusedSimpArgs false

/-- A yes or a no. -/
def SomeBool (w : World) (e : Ending) (w' : World) : Prop := ∃ b, e = .returned (.bool b) ∧ Below w.heap.size w w'

set_option maxRecDepth 100000 in
set_option maxHeartbeats 2000000 in
theorem long_any (w : World) (a : Option Addr) (n ca : Nat) (S : Nat → SOp) (hS : OpsIn w a n S) (hn : n ≤ 140737488351232) :
    Calls Try.prog 18 #[.slice a n ca] w (SomeBool w) := by
  have HS := Lib.hid hS
  clear hS
  go_enter Try.func18, Try.ntmps18
  go_wp2_with fail
  go_loopw [3, 8] (fun t i wr => ∃ k s : Nat, k ≤ n ∧ s ≤ 4194304 ∧ i = .int .i64 k ∧ t = .int .i64 s ∧ Below w.heap.size w wr) (fun _ i _ => n - (intOf i).toNat)
  case atStart => exact ⟨0, 0, Nat.zero_le _, Nat.zero_le _, rfl, rfl, Below.refl _ _⟩
  case round =>
    obtain ⟨k, s, hk, hs, rfl, rfl, hb⟩ := hrel
    have HB := Lib.hid hb
    clear hb
    by_cases hlt : k < n
    · obtain ⟨b', o', rfl, C0, C1, C2, C3, C4, C5, ⟨x, c, hv⟩, hbl⟩ := HS.out.at HB.out hlt
      rw [hv] at C5
      clear hv
      generalize S k = so at C0 C1 C2 C3 C4 C5 hbl
      obtain ⟨kk, ff, gg, nn, kp, bb, vv⟩ := so
      dsimp only at C0 C1 C2 C3 C4 C5 hbl
      obtain ⟨q, hq⟩ : ∃ q : Nat, q = s + (bb.length + 64) := ⟨_, rfl⟩
      have hsum : (s : Int) + ((bb.length : Int) + 64) = (q : Int) := by omega
      clear hq
      by_cases hgt : q ≤ 4194304
      · go_wp2_with fail
        go_roundw
        case rel => exact ⟨k + 1, q, by omega, hgt, by go_num, rfl, HB.out.alloc HB.out.size _⟩
        case measure => simp [intOf]; omega
      · have hgt' : (4194304 : Int) < (q : Int) := by omega
        go_wp2_with fail
        go_ret
        exact ⟨_, rfl, HB.out.alloc HB.out.size _⟩
    · go_wp2_with fail
      go_ret
      exact ⟨_, rfl, HB.out⟩
end Go.Proofs.Ytanabedbddpooaa

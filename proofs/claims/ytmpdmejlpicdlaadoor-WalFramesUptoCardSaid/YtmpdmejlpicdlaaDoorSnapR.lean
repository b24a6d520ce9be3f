/- The document's names and bytes of snapshots: Name, four, Encode. -/
import Derived.Test.YtmpdmejlpicdlaaDoorRefCrc
import Derived.Test.YtmpdmejlpicdlaaDoorSnapC
import Derived.Test.YtmpdmejlpicdlaaDoorLexC
namespace Go.Proofs.YtmpdmejlpicdlaaDoor
open Go.RowKit Go.Bw Go.Maps
set_option linter.unusedVariables false
set_option linter.unusedSimpArgs false

theorem one_str (m : Nat) : strOfNums [48 + (m : Int) % 10] = ⟨[UInt8.ofNat (48 + m % 10)].toArray⟩ := by
  have h : m % 10 = 0 ∨ m % 10 = 1 ∨ m % 10 = 2 ∨ m % 10 = 3 ∨ m % 10 = 4 ∨ m % 10 = 5 ∨ m % 10 = 6 ∨ m % 10 = 7 ∨ m % 10 = 8 ∨ m % 10 = 9 := by omega
  have e : (m : Int) % 10 = ((m % 10 : Nat) : Int) := by omega
  rw [e]
  rcases h with h | h | h | h | h | h | h | h | h | h <;> rw [h] <;> rfl

set_option maxRecDepth 100000 in
set_option maxHeartbeats 2000000 in
theorem rname_any (w : World) (n : Int) : Calls Tryd.prog 15 #[.int .i64 n] w (StrOut w (nm9 115 0 n)) := by
  by_cases hb : n < 0 ∨ n > 999999999
  · have E := Lib.hid (show nm9 115 0 n = [] from by unfold nm9; rw [if_pos hb])
    rcases hb with hb | hb
    all_goals
      go_enter Tryd.func15, Tryd.ntmps15
      go_wp2_with fail
      go_ret
      rw [E.out]
      exact ⟨rfl, Below.refl _ _⟩
  · obtain ⟨N, rfl⟩ := Int.eq_ofNat_of_zero_le (show 0 ≤ n by omega)
    have hhi : N ≤ 999999999 := by omega
    have E := Lib.hid (show nm9 115 0 (N : Int) = 115 :: dig 9 N from by unfold nm9; rw [if_neg hb]; simp)
    clear hb
    go_enter Tryd.func15, Tryd.ntmps15
    go_wp2_with fail
    go_loopw [0, 3, 4] (fun x v i wr => ∃ (j m : Nat) (s : ByteArray), j ≤ 9 ∧ i = .int .i64 j ∧ x = .int .i64 m ∧ v = .string s ∧ m ≤ 999999999 ∧ s.size ≤ 9 ∧ Hid (m = N / 10 ^ j ∧ s = ⟨(dig j N).toArray⟩ ∧ s.size = j) ∧ Below w.heap.size w wr) (fun _ _ i _ => 9 - (intOf i).toNat)
    case atStart => exact ⟨0, N, _, by omega, rfl, rfl, rfl, hhi, by decide, Lib.hid ⟨by simp, rfl, rfl⟩, Below.refl _ _⟩
    case round =>
      obtain ⟨j, m, s, hj, rfl, rfl, rfl, hm, hsz, H, hb⟩ := hrel
      have HB := Lib.hid hb
      clear hb
      by_cases hjl : j < 9
      · obtain ⟨ds, hds⟩ : ∃ ds : ByteArray, ds = ⟨[UInt8.ofNat (48 + m % 10)].toArray⟩ := ⟨_, rfl⟩
        have kv := convert_reads (w := wr.alloc (.cells (bcells [48 + (m : Int) % 10]).toArray 5 (0, 0))) (reads_const wr [48 + (m : Int) % 10] (0, 0))
        rw [one_str m, ← hds] at kv
        have kv2 : (convert 22 9 (.slice (some ⟨wr.heap.size, 0, none⟩) 1 1)).run Tryd.prog (wr.alloc (.cells #[.int .u8 (48 + (m : Int) % 10)] 5 (0, 0))) = .ok (.string ds) (wr.alloc (.cells #[.int .u8 (48 + (m : Int) % 10)] 5 (0, 0))) := kv
        have DS := Lib.hid hds
        have hd1 : ds.size ≤ 1 := by rw [hds]; exact Nat.le_refl _
        clear kv hds
        go_wp2_with fail
        have hm10 : m % 10 < 10 := Nat.mod_lt _ (by decide)
        have hz : (ds ++ s).size = j + 1 := by
          rw [ByteArray.size_append, DS.out, H.out.2.2]
          show 1 + j = j + 1; omega
        have he : ds ++ s = ⟨(dig (j + 1) N).toArray⟩ := by
          rw [DS.out, H.out.2.1, dig_front, ← H.out.1]
          apply ByteArray.ext
          rw [ByteArray.data_append]
          show [UInt8.ofNat (48 + m % 10)].toArray ++ (dig j N).toArray = (UInt8.ofNat (48 + m % 10) :: dig j N).toArray
          simp
        have hq : m / 10 = N / 10 ^ (j + 1) := by rw [H.out.1, Nat.div_div_eq_div_mul, Nat.pow_succ]
        go_roundw
        case rel => exact ⟨j + 1, m / 10, ds ++ s, by omega, rfl, rfl, rfl, by omega, by omega, Lib.hid ⟨hq, he, hz⟩, HB.out.alloc HB.out.size _⟩
        case measure => simp [intOf]; omega
      · obtain rfl : j = 9 := by omega
        go_wp2_with fail
        go_ret
        refine ⟨?_, HB.out⟩
        have he : ({ data := #[115] } : ByteArray) ++ s = ⟨(115 :: dig 9 N).toArray⟩ := by
          rw [H.out.2.1]
          apply ByteArray.ext
          rw [ByteArray.data_append]
          show #[115] ++ (dig 9 N).toArray = (115 :: dig 9 N).toArray
          simp
        rw [E.out, ← he]
        rfl

theorem row_four (w : World) (x : Int) : (w.alloc (.cells (bcells (le4 x)).toArray 5)).ownsRow w.heap.size 5 1 (.slice (some ⟨w.heap.size, 0, none⟩) 4 4) (le4 x).length (bcells (le4 x)) := by
  refine ⟨rfl, Or.inr ⟨w.heap.size, 4, (bcells (le4 x)).toArray, rfl, Nat.le_refl _, ?_, Nat.le_refl _, by decide, rfl, rfl⟩⟩
  show (w.heap.push _)[w.heap.size]? = _
  simp
set_option maxHeartbeats 1000000 in
theorem four_any (w : World) (x : Int) (h0 : 0 ≤ x) (h1 : x < 4294967296) :
    Calls Tryd.prog 42 #[.int .u32 x] w fun e w' => e = .returned (.slice (some ⟨w.heap.size, 0, none⟩) 4 4) ∧ w' = w.alloc (.cells (bcells (le4 x)).toArray 5) := by
  go_enter Tryd.func42, Tryd.ntmps42
  go_wp2_with fail
  go_ret
  exact ⟨rfl, rfl⟩
end Go.Proofs.YtmpdmejlpicdlaaDoor

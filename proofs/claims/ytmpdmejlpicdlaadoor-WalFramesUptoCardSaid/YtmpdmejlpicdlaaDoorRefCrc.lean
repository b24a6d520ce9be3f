/- The document's Crc, bit by bit. -/
import Derived.Test.YtmpdmejlpicdlaaDoorSum
namespace Go.Proofs.YtmpdmejlpicdlaaDoor
open Go.RowKit Go.Bw Go.Maps
set_option linter.unusedVariables false
set_option linter.unusedSimpArgs false

/-- So many bits. -/
def bitN : Nat → BitVec 32 → BitVec 32
  | 0, q => q
  | n + 1, q => bit1 (bitN n q)
theorem bitN_byte (r : BitVec 32) (x : Int) : bitN 8 (r ^^^ BitVec.ofInt 32 x) = crcByte r x := by
  unfold crcByte
  rw [nib_bits, nib_bits]; rfl
theorem half_bit (q : BitVec 32) : (@HDiv.hDiv Int Int Int _ (q.toNat : Int) (2 : Int)) = ((q >>> 1).toNat : Int) := by
  rw [BitVec.toNat_ushiftRight, Nat.shiftRight_eq_div_pow]; omega
theorem bit1_odd (q : BitVec 32) (h : q.toNat % 2 = 1) : bits .xor .u32 ((q >>> 1).toNat : Int) 3988292384 = ((bit1 q).toNat : Int) := by
  have hp : BitVec.ofInt 32 3988292384 = poly := by decide
  rw [u32_xor_int, hp]
  unfold bit1
  rw [bit0_mod, h]
  simp
theorem bit1_ev (q : BitVec 32) (h : q.toNat % 2 = 0) : ((q >>> 1).toNat : Int) = ((bit1 q).toNat : Int) := by
  rw [bit1_even q (by rw [bit0_mod, h]; rfl)]

set_option maxRecDepth 100000 in
set_option maxHeartbeats 2000000 in
theorem rcrc_any (w : World) (v : Value) (xs : List Int) (hR : Reads w 1 v xs.length (bcells xs)) (hl : xs.length ≤ 140737488355328) :
    Calls Tryd.prog 44 #[v] w fun e w' => e = .returned (.int .u32 (crc xs)) ∧ w = w' := by
  obtain ⟨a, c, rfl⟩ := reads_form hR
  have HR := Lib.hid hR
  have HL := Lib.hid hl
  clear hR hl
  have hl' : xs.length ≤ 9223372036854775807 := by have := HL.out; omega
  go_enter Tryd.func44, Tryd.ntmps44
  go_wp2_with fail
  go_loop [3, 4] (fun r i => ∃ k : Nat, k ≤ xs.length ∧ i = .int .i64 k ∧ r = .int .u32 ((crcOf (xs.take k)).toNat : Int)) (fun _ i => xs.length - (intOf i).toNat)
  case atStart => exact ⟨0, Nat.zero_le _, rfl, by show Value.int .u32 4294967295 = .int .u32 (((BitVec.allOnes 32).toNat : Nat) : Int); rfl⟩
  case round =>
    obtain ⟨k, hk, rfl, rfl⟩ := hrel
    by_cases hlt : k < xs.length
    · cases a with
      | none => have := (reads_empty HR.out).2; rw [this] at hlt; cases hlt
      | some a =>
        have hc := reads_at HR.out hlt
        have ES := Lib.hid (crcOf_take_succ xs k hlt)
        generalize crcOf (xs.take k) = R at ES
        go_wp2_with fail
        go_loop [3, 5] (fun r i => ∃ j : Nat, j ≤ 8 ∧ i = .int .i64 j ∧ r = .int .u32 ((bitN j (R ^^^ BitVec.ofInt 32 xs[k])).toNat : Int)) (fun _ i => 8 - (intOf i).toNat)
        case atStart => exact ⟨0, by omega, rfl, by rw [byte_step]; rfl⟩
        case round =>
          obtain ⟨j, hj, rfl, rfl⟩ := hrel
          by_cases hjl : j < 8
          · have NS := Lib.hid (show bitN (j + 1) (R ^^^ BitVec.ofInt 32 xs[k]) = bit1 (bitN j (R ^^^ BitVec.ofInt 32 xs[k])) from rfl)
            generalize bitN j (R ^^^ BitVec.ofInt 32 xs[k]) = Q at NS
            have hA := u32_and1 Q
            have hH := half_bit Q
            have hQ := Q.isLt
            have hm : Q.toNat % 2 = 0 ∨ Q.toNat % 2 = 1 := by omega
            rcases hm with hm | hm
            · have ST := Lib.hid (bit1_ev Q hm)
              rw [hm] at hA
              generalize (Q >>> 1).toNat = q2 at hH ST
              have HH2 := Lib.hid hH
              clear hH
              clear hm
              go_wp2_with fail
              go_round
              case rel => exact ⟨j + 1, by omega, by go_num, by rw [NS.out, ← ST.out, ← HH2.out]⟩
              case measure => simp [intOf]; omega
            · have ST := Lib.hid (bit1_odd Q hm)
              rw [hm] at hA
              generalize (Q >>> 1).toNat = q2 at hH ST
              have HH2 := Lib.hid hH
              clear hH
              clear hm
              go_wp2_with fail
              go_round
              case rel => exact ⟨j + 1, by omega, by go_num, by rw [NS.out, ← ST.out, ← HH2.out]⟩
              case measure => simp [intOf]; omega
          · obtain rfl : j = 8 := by omega
            go_wp2_with fail
            go_round
            case rel => exact ⟨k + 1, by omega, by go_num, by rw [ES.out, ← bitN_byte]⟩
            case measure => simp [intOf]; omega
    · obtain rfl : k = xs.length := by omega
      have hR := (crcOf (xs.take xs.length)).isLt
      have EC := Lib.hid (show crc xs = ((~~~ crcOf (xs.take xs.length)).toNat : Int) from by rw [List.take_length]; rfl)
      generalize crcOf (xs.take xs.length) = R at hR EC
      go_wp2_with fail
      go_ret
      exact ⟨by rw [EC.out, ← u32_not]; rfl, rfl⟩
end Go.Proofs.YtmpdmejlpicdlaaDoor

/- sum.Crc: the table is the program's own variable, which the row lists. -/
import Derived.Test.YtmpdmejlpicdlaaDoorDiskJc
import Derived.Test.YtmpdmejlpicdlaaDoorCrc
namespace Go.Proofs.YtmpdmejlpicdlaaDoor
open Go.RowKit Go.Bw Go.Maps
set_option linter.unusedVariables false
set_option linter.unusedSimpArgs false

/-- The table of half bytes lies in its variable. -/
def Half (w : World) : Prop := ∀ i, i < 16 → w.cell? ⟨0, i, none⟩ = some (.int .u32 (halfTab.getD i 0))

set_option maxRecDepth 100000 in
set_option maxHeartbeats 2000000 in
theorem crc_any (w : World) (v : Value) (xs : List Int) (hR : Reads w 1 v xs.length (bcells xs)) (hl : xs.length ≤ 140737488355328) (hH : Half w) :
    Calls Tryd.prog 41 #[v] w fun e w' => e = .returned (.int .u32 (crc xs)) ∧ w = w' := by
  obtain ⟨a, c, rfl⟩ := reads_form hR
  have HR := Lib.hid hR
  have HH := Lib.hid hH
  have HL := Lib.hid hl
  clear hR hH hl
  have hl' : xs.length ≤ 9223372036854775807 := by have := HL.out; omega
  go_enter Tryd.func41, Tryd.ntmps41
  go_wp2_with fail
  go_loop [3, 8] (fun r i => ∃ k : Nat, k ≤ xs.length ∧ i = .int .i64 k ∧ r = .int .u32 ((crcOf (xs.take k)).toNat : Int)) (fun _ i => xs.length - (intOf i).toNat)
  case atStart => exact ⟨0, Nat.zero_le _, rfl, by show Value.int .u32 4294967295 = .int .u32 (((BitVec.allOnes 32).toNat : Nat) : Int); rfl⟩
  case round =>
    obtain ⟨k, hk, rfl, rfl⟩ := hrel
    by_cases hlt : k < xs.length
    · cases a with
      | none => have := (reads_empty HR.out).2; rw [this] at hlt; cases hlt
      | some a =>
        have hc := reads_at HR.out hlt
        have ES := Lib.hid (crcOf_take_succ xs k hlt)
        generalize crcOf (xs.take k) = R at ES
        go_wp2_with fail
        go_loop [3, 16] (fun r i => ∃ j : Nat, j ≤ 2 ∧ i = .int .i64 j ∧ r = .int .u32 ((nibN j (R ^^^ BitVec.ofInt 32 xs[k])).toNat : Int)) (fun _ i => 2 - (intOf i).toNat)
        case atStart => exact ⟨0, by omega, rfl, by rw [byte_step]; rfl⟩
        case round =>
          obtain ⟨j, hj, rfl, rfl⟩ := hrel
          by_cases hjl : j < 2
          · have NS := Lib.hid (show nibN (j + 1) (R ^^^ BitVec.ofInt 32 xs[k]) = nib (nibN j (R ^^^ BitVec.ofInt 32 xs[k])) from rfl)
            generalize nibN j (R ^^^ BitVec.ofInt 32 xs[k]) = Q at NS
            have hA := u32_and15 Q
            have hC := HH.out (Q.toNat % 16) (Nat.mod_lt _ (by decide))
            have ST := Lib.hid (nib_step Q)
            have hm : Q.toNat % 16 < 16 := Nat.mod_lt _ (by decide)
            have hQ := Q.isLt
            generalize halfTab.getD (Q.toNat % 16) 0 = T at hC ST
            generalize Q.toNat % 16 = m at hA hC hm
            go_wp2_with fail
            go_round
            case rel => exact ⟨j + 1, by omega, by go_num, by rw [ST.out, NS.out]⟩
            case measure => simp [intOf]; omega
          · obtain rfl : j = 2 := by omega
            go_wp2_with fail
            go_round
            case rel => exact ⟨k + 1, by omega, by go_num, by rw [ES.out]; rfl⟩
            case measure => simp [intOf]; omega
    · obtain rfl : k = xs.length := by omega
      have hR := (crcOf (xs.take xs.length)).isLt
      have EC := Lib.hid (show crc xs = ((~~~ crcOf (xs.take xs.length)).toNat : Int) from by rw [List.take_length]; rfl)
      generalize crcOf (xs.take xs.length) = R at hR EC
      go_wp2_with fail
      go_ret
      exact ⟨by rw [EC.out, ← u32_not]; rfl, rfl⟩
end Go.Proofs.YtmpdmejlpicdlaaDoor

/- snap.Decode. -/
import Derived.Test.YtmpdmejlpicdlaaDoorSnapE
namespace Go.Proofs.YtmpdmejlpicdlaaDoor
open Go.RowKit Go.Bw Go.Maps
set_option linter.unusedVariables false
set_option linter.unusedSimpArgs false

/-- The number in four bytes. -/
def num4 (xs : List Int) (i : Nat) : Int := xs.getD i 0 + 256 * xs.getD (i + 1) 0 + 65536 * xs.getD (i + 2) 0 + 16777216 * xs.getD (i + 3) 0
def Bytes (xs : List Int) : Prop := ∀ x ∈ xs, 0 ≤ x ∧ x ≤ 255

theorem or_at (a b k : Nat) (ha : a < 2 ^ k) (hb : a + b * 2 ^ k < 4294967296) : bits .or .u32 (a : Int) ((b * 2 ^ k : Nat) : Int) = ((a + b * 2 ^ k : Nat) : Int) := by
  rw [u32_or_nat a (b * 2 ^ k) (by omega) (by omega)]
  have h := Nat.two_pow_add_eq_or_of_lt ha b
  rw [Nat.or_comm, Nat.mul_comm b, ← h]
  congr 1; omega
theorem or_bytes {x0 x1 x2 x3 : Int} (g0 : 0 ≤ x0 ∧ x0 ≤ 255) (g1 : 0 ≤ x1 ∧ x1 ≤ 255) (g2 : 0 ≤ x2 ∧ x2 ≤ 255) (g3 : 0 ≤ x3 ∧ x3 ≤ 255) :
    bits .or .u32 (bits .or .u32 (bits .or .u32 x0 (x1 * 256)) (x2 * 65536)) (x3 * 16777216) = x0 + 256 * x1 + 65536 * x2 + 16777216 * x3 := by
  obtain ⟨a, rfl⟩ := Int.eq_ofNat_of_zero_le g0.1
  obtain ⟨b, rfl⟩ := Int.eq_ofNat_of_zero_le g1.1
  obtain ⟨c, rfl⟩ := Int.eq_ofNat_of_zero_le g2.1
  obtain ⟨d, rfl⟩ := Int.eq_ofNat_of_zero_le g3.1
  have e1 := or_at a b 8 (by omega) (by omega)
  have e2 := or_at (a + b * 2 ^ 8) c 16 (by omega) (by omega)
  have e3 := or_at (a + b * 2 ^ 8 + c * 2 ^ 16) d 24 (by omega) (by omega)
  have f1 : ((b * 2 ^ 8 : Nat) : Int) = (b : Int) * 256 := by simp
  have f2 : ((c * 2 ^ 16 : Nat) : Int) = (c : Int) * 65536 := by simp
  have f3 : ((d * 2 ^ 24 : Nat) : Int) = (d : Int) * 16777216 := by simp
  rw [f1] at e1
  rw [f2] at e2
  rw [f3] at e3
  rw [e1, e2, e3]
  omega

set_option maxRecDepth 100000 in
set_option maxHeartbeats 4000000 in
theorem word_any (w : World) (bx b o c : Nat) (xs : List Int) (i : Nat) (hbx : w.cell? ⟨bx, 0, none⟩ = some (.slice (some ⟨b, o, none⟩) xs.length c)) (hR : Reads w 1 (.slice (some ⟨b, o, none⟩) xs.length c) xs.length (bcells xs)) (hB : Bytes xs) (hi : i + 4 ≤ xs.length) (hl : xs.length ≤ 140737488355328) :
    Calls Tryd.prog 40 #[.int .i64 (i : Int), .pointer (some ⟨bx, 0, none⟩)] w fun e w' => e = .returned (.int .u32 (num4 xs i)) ∧ ∃ k, w' = w.drewN k := by
  have h0 := reads_at hR (k := i) (by omega)
  have h1 := reads_at hR (k := i + 1) (by omega)
  have h2 := reads_at hR (k := i + 2) (by omega)
  have h3 := reads_at hR (k := i + 3) (by omega)
  rw [addr_add] at h0 h1 h2 h3
  have g0 := hB xs[i] (List.getElem_mem _)
  have g1 := hB xs[i + 1] (List.getElem_mem _)
  have g2 := hB xs[i + 2] (List.getElem_mem _)
  have g3 := hB xs[i + 3] (List.getElem_mem _)
  have E := Lib.hid (show num4 xs i = xs[i] + 256 * xs[i + 1] + 65536 * xs[i + 2] + 16777216 * xs[i + 3] from by
    unfold num4
    simp only [List.getD_eq_getElem?_getD, List.getElem?_eq_getElem (show i < xs.length by omega), List.getElem?_eq_getElem (show i + 1 < xs.length by omega), List.getElem?_eq_getElem (show i + 2 < xs.length by omega), List.getElem?_eq_getElem (show i + 3 < xs.length by omega), Option.getD_some])
  have HO := Lib.hid (or_bytes g0 g1 g2 g3)
  generalize xs[i] = x0 at h0 g0 E HO
  generalize xs[i + 1] = x1 at h1 g1 E HO
  generalize xs[i + 2] = x2 at h2 g2 E HO
  generalize xs[i + 3] = x3 at h3 g3 E HO
  have c1 : IntKind.i64.wrap ((i : Int) + 1) = (i : Int) + 1 := IntWalk.i64_in _ (by omega)
  have c2 : IntKind.i64.wrap ((i : Int) + 2) = (i : Int) + 2 := IntWalk.i64_in _ (by omega)
  have c3 : IntKind.i64.wrap ((i : Int) + 3) = (i : Int) + 3 := IntWalk.i64_in _ (by omega)
  have d1 : 0 ≤ (i : Int) + 1 := by omega
  have d2 : 0 ≤ (i : Int) + 2 := by omega
  have d3 : 0 ≤ (i : Int) + 3 := by omega
  have f1 : ((i : Int) + 1).toNat = i + 1 := by omega
  have f2 : ((i : Int) + 2).toNat = i + 2 := by omega
  have f3 : ((i : Int) + 3).toNat = i + 3 := by omega
  have l0 : (i : Int) < xs.length := by omega
  have l1 : (i : Int) + 1 < xs.length := by omega
  have l2 : (i : Int) + 2 < xs.length := by omega
  have l3 : (i : Int) + 3 < xs.length := by omega
  clear hR hB
  go_enter Tryd.func40, Tryd.ntmps40
  go_wp2_with fail
  go_quiet (fail)
  go_wp2_with fail
  go_ret
  refine ⟨?_, _, rfl⟩
  rw [E.out, ← HO.out]
  rfl
end Go.Proofs.YtmpdmejlpicdlaaDoor

/- The CRC-32, by half bytes and by bits, as plain functions on 32 bits: they are one. No program is named. -/
import Derived.WalkKit
import Derived.Laws.BitsAllLaws
namespace Go.Bw
open Go.RowKit

def poly : BitVec 32 := 0xEDB88320#32
def bit1 (r : BitVec 32) : BitVec 32 := (r >>> 1) ^^^ (if r.getLsbD 0 then poly else 0#32)
def halfTab : List Int := [0x00000000, 0x1db71064, 0x3b6e20c8, 0x26d930ac, 0x76dc4190, 0x6b6b51f4, 0x4db26158, 0x5005713c, 0xedb88320, 0xf00f9344, 0xd6d6a3e8, 0xcb61b38c, 0x9b64c2b0, 0x86d3d2d4, 0xa00ae278, 0xbdbdf21c]
def nib (r : BitVec 32) : BitVec 32 := (r >>> 4) ^^^ BitVec.ofInt 32 (halfTab.getD (r.toNat % 16) 0)

theorem bit1_xor (a b : BitVec 32) : bit1 (a ^^^ b) = bit1 a ^^^ bit1 b := by
  unfold bit1
  rw [BitVec.ushiftRight_xor_distrib, BitVec.getLsbD_xor]
  generalize a >>> 1 = x
  generalize b >>> 1 = y
  cases a.getLsbD 0 <;> cases b.getLsbD 0 <;> simp
  · rw [BitVec.xor_assoc]
  · rw [BitVec.xor_assoc, BitVec.xor_assoc, BitVec.xor_comm y]
  · rw [BitVec.xor_assoc, BitVec.xor_comm y poly, ← BitVec.xor_assoc poly poly, BitVec.xor_self, BitVec.zero_xor]

theorem bit1_even (a : BitVec 32) (h : a.getLsbD 0 = false) : bit1 a = a >>> 1 := by unfold bit1; rw [h]; simp

theorem bit1_low : ∀ i : Fin 16, bit1 (bit1 (bit1 (bit1 (BitVec.ofNat 32 i.val)))) = BitVec.ofInt 32 (halfTab.getD i.val 0) := by decide +kernel

theorem part (r : BitVec 32) : r = ((r >>> 4) <<< 4) ^^^ BitVec.ofNat 32 (r.toNat % 16) := by
  apply BitVec.eq_of_getLsbD_eq
  intro i hi
  rw [BitVec.getLsbD_xor, BitVec.getLsbD_shiftLeft, BitVec.getLsbD_ushiftRight, BitVec.getLsbD_ofNat, show (16 : Nat) = 2 ^ 4 from rfl, Nat.testBit_mod_two_pow]
  by_cases h : i < 4
  · simp [h, hi, BitVec.testBit_toNat]
  · simp [h, hi, show 4 + (i - 4) = i from by omega]

theorem shl_shr (x : BitVec 32) (k : Nat) (hx : x.toNat < 2 ^ 28) (hk : k < 4) : (x <<< (k + 1)) >>> 1 = x <<< k := by
  apply BitVec.eq_of_toNat_eq
  rw [BitVec.toNat_ushiftRight, BitVec.toNat_shiftLeft, BitVec.toNat_shiftLeft, Nat.shiftLeft_eq, Nat.shiftLeft_eq, Nat.shiftRight_eq_div_pow]
  have : k = 0 ∨ k = 1 ∨ k = 2 ∨ k = 3 := by omega
  rcases this with rfl | rfl | rfl | rfl <;> simp <;> omega

theorem four_high (r : BitVec 32) : bit1 (bit1 (bit1 (bit1 ((r >>> 4) <<< 4)))) = r >>> 4 := by
  have hx : (r >>> 4).toNat < 2 ^ 28 := by
    rw [BitVec.toNat_ushiftRight, Nat.shiftRight_eq_div_pow]
    have := r.isLt
    omega
  have e : ∀ k, k < 4 → bit1 ((r >>> 4) <<< (k + 1)) = (r >>> 4) <<< k := fun k hk => by
    rw [bit1_even _ (by rw [BitVec.getLsbD_shiftLeft]; simp), shl_shr _ k hx hk]
  rw [e 3 (by decide), e 2 (by decide), e 1 (by decide), e 0 (by decide)]
  simp

/-- Half a byte at one time is four bits, one at a time. -/
theorem nib_bits (r : BitVec 32) : nib r = bit1 (bit1 (bit1 (bit1 r))) := by
  have h : bit1 (bit1 (bit1 (bit1 r))) = bit1 (bit1 (bit1 (bit1 (((r >>> 4) <<< 4) ^^^ BitVec.ofNat 32 (r.toNat % 16))))) := by rw [← part r]
  rw [h, bit1_xor, bit1_xor, bit1_xor, bit1_xor, four_high, bit1_low ⟨r.toNat % 16, Nat.mod_lt _ (by decide)⟩]
  rfl

/-- A byte. -/
def crcByte (r : BitVec 32) (x : Int) : BitVec 32 := nib (nib (r ^^^ BitVec.ofInt 32 x))
def crcOf (xs : List Int) : BitVec 32 := xs.foldl crcByte (BitVec.allOnes 32)
/-- The sum, as Go's number. -/
def crc (xs : List Int) : Int := ((~~~ crcOf xs).toNat : Int)
theorem crcOf_take_succ (xs : List Int) (k : Nat) (h : k < xs.length) : crcOf (xs.take (k + 1)) = crcByte (crcOf (xs.take k)) xs[k] := by
  unfold crcOf
  rw [List.take_succ_eq_append_getElem h, List.foldl_append]; rfl
theorem crc_lo (xs : List Int) : 0 ≤ crc xs := Int.natCast_nonneg _
theorem crc_hi (xs : List Int) : crc xs < 4294967296 := by
  unfold crc
  have := (~~~ crcOf xs).isLt
  omega

/-! ### The model's own operations on such numbers -/
theorem ofInt_toNat (r : BitVec 32) : BitVec.ofInt 32 (r.toNat : Int) = r := by rw [BitVec.ofInt_natCast]; simp
theorem wrap_toNat (r : BitVec 32) : IntKind.u32.wrap (r.toNat : Int) = (r.toNat : Int) := by
  rw [IntKind.wrap_u32']; have := r.isLt; omega
theorem u32_xor (a b : BitVec 32) : bits .xor .u32 (a.toNat : Int) (b.toNat : Int) = ((a ^^^ b).toNat : Int) := by
  show IntKind.u32.wrap ((BitVec.ofInt 32 (a.toNat : Int) ^^^ BitVec.ofInt 32 (b.toNat : Int)).toNat : Int) = _
  rw [ofInt_toNat, ofInt_toNat, wrap_toNat]
theorem u32_xor_int (a : BitVec 32) (x : Int) : bits .xor .u32 (a.toNat : Int) x = ((a ^^^ BitVec.ofInt 32 x).toNat : Int) := by
  show IntKind.u32.wrap ((BitVec.ofInt 32 (a.toNat : Int) ^^^ BitVec.ofInt 32 x).toNat : Int) = _
  rw [ofInt_toNat, wrap_toNat]
theorem u32_and15 (a : BitVec 32) : bits .and .u32 (a.toNat : Int) 15 = ((a.toNat % 16 : Nat) : Int) := by
  show IntKind.u32.wrap ((BitVec.ofInt 32 (a.toNat : Int) &&& BitVec.ofInt 32 15).toNat : Int) = _
  rw [ofInt_toNat, wrap_toNat]
  rw [BitVec.toNat_and, show (BitVec.ofInt 32 15).toNat = 2 ^ 4 - 1 from rfl, Nat.and_two_pow_sub_one_eq_mod]
theorem u32_and1 (a : BitVec 32) : bits .and .u32 (a.toNat : Int) 1 = ((a.toNat % 2 : Nat) : Int) := by
  show IntKind.u32.wrap ((BitVec.ofInt 32 (a.toNat : Int) &&& BitVec.ofInt 32 1).toNat : Int) = _
  rw [ofInt_toNat, wrap_toNat]
  rw [BitVec.toNat_and, show (BitVec.ofInt 32 1).toNat = 2 ^ 1 - 1 from rfl, Nat.and_two_pow_sub_one_eq_mod]
theorem bit0_mod (a : BitVec 32) : a.getLsbD 0 = decide (a.toNat % 2 = 1) := by
  rw [← BitVec.testBit_toNat, Nat.testBit_zero]
theorem ofInt_mod (x : Int) : BitVec.ofInt 32 (x % 4294967296) = BitVec.ofInt 32 x := by
  apply BitVec.eq_of_toNat_eq
  rw [BitVec.toNat_ofInt, BitVec.toNat_ofInt]
  have : (((2 ^ 32 : Nat) : Nat) : Int) = 4294967296 := rfl
  rw [this, Int.emod_emod_of_dvd _ (Int.dvd_refl _)]
theorem u32_not (r : BitVec 32) : bits .xor .u32 IntKind.u32.max (r.toNat : Int) = ((~~~ r).toNat : Int) := by
  have h : (IntKind.u32.max : Int) = ((BitVec.allOnes 32).toNat : Int) := by decide
  rw [h, u32_xor, BitVec.allOnes_xor]
/-- So many half bytes. -/
def nibN : Nat → BitVec 32 → BitVec 32
  | 0, q => q
  | n + 1, q => nib (nibN n q)
theorem nib_step (q : BitVec 32) : bits .xor .u32 ((q.toNat : Int) / 16) (halfTab.getD (q.toNat % 16) 0) = ((nib q).toNat : Int) := by
  have h : @HDiv.hDiv Int Int Int _ (q.toNat : Int) (16 : Int) = ((q >>> 4).toNat : Int) := by
    rw [BitVec.toNat_ushiftRight, Nat.shiftRight_eq_div_pow]; omega
  have h2 := u32_xor_int (q >>> 4) (halfTab.getD (q.toNat % 16) 0)
  rw [← h] at h2
  exact h2
theorem byte_step (q : BitVec 32) (x : Int) : bits .xor .u32 (q.toNat : Int) (x % 4294967296) = ((q ^^^ BitVec.ofInt 32 x).toNat : Int) := by
  rw [u32_xor_int, ofInt_mod]
end Go.Bw

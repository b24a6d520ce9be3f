/- Numbers in nine digits. No program is named. -/
import Derived.Lib.ItoaNum
import Derived.Lib.Atoi
import Derived.Lib.AtoiErr
import Derived.Maps.Views
namespace Go.Bw
open Go.Lib
set_option linter.unusedVariables false
set_option linter.unusedSimpArgs false

/-- The last k digits of n. -/
def dig : Nat → Nat → List UInt8
  | 0, _ => []
  | k + 1, n => dig k (n / 10) ++ [UInt8.ofNat (48 + n % 10)]
theorem dig_length : ∀ k n, (dig k n).length = k
  | 0, _ => rfl
  | k + 1, n => by simp [dig, dig_length k]
theorem dig_zero : ∀ k, dig k 0 = List.replicate k 48
  | 0 => rfl
  | k + 1 => by
    simp only [dig, Nat.zero_div, dig_zero k]
    rw [List.replicate_succ']; rfl
/-- A digit more, in front. -/
theorem dig_front : ∀ j n, dig (j + 1) n = UInt8.ofNat (48 + n / 10 ^ j % 10) :: dig j n
  | 0, n => by simp [dig]
  | j + 1, n => by
    rw [show dig (j + 1 + 1) n = dig (j + 1) (n / 10) ++ [UInt8.ofNat (48 + n % 10)] from rfl, dig_front j (n / 10)]
    rw [show n / 10 / 10 ^ j = n / 10 ^ (j + 1) from by rw [Nat.div_div_eq_div_mul, Nat.pow_succ, Nat.mul_comm]]
    rfl
def pad (k : Nat) (l : List UInt8) : List UInt8 := List.replicate (k - l.length) 48 ++ l
theorem pad_dig : ∀ k n, n < 10 ^ (k + 1) → pad (k + 1) (decDigits n) = dig (k + 1) n := by
  intro k
  induction k with
  | zero =>
    intro n h
    have h' : n < 10 := by simpa using h
    rw [decDigits, dif_pos h']
    simp [pad, dig, Nat.mod_eq_of_lt h']
  | succ k ih =>
    intro n h
    by_cases h' : n < 10
    · rw [decDigits, dif_pos h']
      have e : n / 10 = 0 := by omega
      have e2 : n % 10 = n := Nat.mod_eq_of_lt h'
      rw [show dig (k + 1 + 1) n = dig (k + 1) (n / 10) ++ [UInt8.ofNat (48 + n % 10)] from rfl, e, e2, dig_zero]
      simp [pad]
    · rw [decDigits, dif_neg h']
      rw [show dig (k + 1 + 1) n = dig (k + 1) (n / 10) ++ [UInt8.ofNat (48 + n % 10)] from rfl, ← ih (n / 10) (by rw [Nat.pow_succ] at h; omega)]
      simp [pad]
theorem decDigits_len9 {n : Nat} (h : n ≤ 999999999) : (decDigits n).length ≤ 9 := by
  have e := pad_dig 8 n (by simpa using (show n < 1000000000 by omega))
  have := congrArg List.length e
  rw [dig_length] at this
  simp only [pad, List.length_append, List.length_replicate] at this
  omega

theorem digitVal_digit (d : Nat) (h : d < 10) : digitVal (UInt8.ofNat (48 + d)) = some d := by
  have : d = 0 ∨ d = 1 ∨ d = 2 ∨ d = 3 ∨ d = 4 ∨ d = 5 ∨ d = 6 ∨ d = 7 ∨ d = 8 ∨ d = 9 := by omega
  rcases this with rfl | rfl | rfl | rfl | rfl | rfl | rfl | rfl | rfl | rfl <;> rfl
theorem decFrom_append (l : List UInt8) : ∀ (acc : Nat) (r : List UInt8), decFrom acc (l ++ r) = (decFrom acc l).bind (fun m => decFrom m r) := by
  induction l with
  | nil => intro acc r; rfl
  | cons a t ih =>
    intro acc r
    simp only [List.cons_append, decFrom]
    cases digitVal a with
    | none => rfl
    | some d => exact ih _ r
theorem decFrom_dig : ∀ k n, n < 10 ^ k → decFrom 0 (dig k n) = some n
  | 0, n, h => by
    have : n = 0 := by simpa using h
    subst this; rfl
  | k + 1, n, h => by
    rw [show dig (k + 1) n = dig k (n / 10) ++ [UInt8.ofNat (48 + n % 10)] from rfl, decFrom_append, decFrom_dig k (n / 10) (by rw [Nat.pow_succ] at h; omega)]
    simp only [Option.bind_some, decFrom, digitVal_digit (n % 10) (by omega)]
    congr 1; omega
theorem dig_digits : ∀ k n, ∀ b ∈ dig k n, b ≠ 45 ∧ b ≠ 43
  | 0, _, b, hb => by cases hb
  | k + 1, n, b, hb => by
    simp only [dig, List.mem_append, List.mem_singleton] at hb
    rcases hb with hb | rfl
    · exact dig_digits k _ b hb
    · have : n % 10 = 0 ∨ n % 10 = 1 ∨ n % 10 = 2 ∨ n % 10 = 3 ∨ n % 10 = 4 ∨ n % 10 = 5 ∨ n % 10 = 6 ∨ n % 10 = 7 ∨ n % 10 = 8 ∨ n % 10 = 9 := by omega
      rcases this with h | h | h | h | h | h | h | h | h | h <;> rw [h] <;> decide
theorem atoi_dig (k n : Nat) (h : n < 10 ^ (k + 1)) : atoi (dig (k + 1) n) = some (n : Int) := by
  have hl := dig_length (k + 1) n
  cases hd : dig (k + 1) n with
  | nil => rw [hd] at hl; simp at hl
  | cons b r =>
    have hb := dig_digits (k + 1) n b (by rw [hd]; simp)
    have he := decFrom_dig (k + 1) n h
    rw [hd] at he
    simp [atoi, hb.1, hb.2, decNat, he]

/-- A letter and nine digits; nothing, if the number can't be. -/
def nm9 (c : UInt8) (lo n : Int) : List UInt8 := if n < lo ∨ n > 999999999 then [] else c :: dig 9 n.toNat
/-- The number of such a name; no: it is none. -/
def num9 (c : UInt8) (lo no : Int) (l : List UInt8) : Int :=
  if l.length = 10 ∧ l.head? = some c then (match atoi l.tail with | some v => if nm9 c lo v = l then v else no | none => no) else no
theorem num9_nm9 {c : UInt8} {lo no n : Int} (h0 : 0 ≤ lo) (h1 : lo ≤ n) (h2 : n ≤ 999999999) : num9 c lo no (nm9 c lo n) = n := by
  have e : nm9 c lo n = c :: dig 9 n.toNat := by unfold nm9; rw [if_neg (by omega)]
  have ha : atoi (dig 9 n.toNat) = some n := by
    have := atoi_dig 8 n.toNat (by simpa using (show n.toNat < 1000000000 by omega))
    rw [this]; congr 1; omega
  unfold num9
  rw [e]
  simp [dig_length, ha, e]
theorem nm9_num9 {c : UInt8} {lo no : Int} {l : List UInt8} (h : num9 c lo no l ≠ no) : nm9 c lo (num9 c lo no l) = l ∧ l ≠ [] := by
  unfold num9 at *
  split
  · rename_i hc
    rw [if_pos hc] at h
    cases ha : atoi l.tail with
    | none => rw [ha] at h; exact absurd rfl h
    | some v =>
      rw [ha] at h
      dsimp only at h ⊢
      by_cases hn : nm9 c lo v = l
      · rw [if_pos hn]; exact ⟨hn, fun e => by rw [e] at hc; simp at hc⟩
      · rw [if_neg hn] at h; exact absurd rfl h
  · rename_i hc
    rw [if_neg hc] at h; exact absurd rfl h
theorem nm9_bounds {c : UInt8} {lo n : Int} (h : nm9 c lo n ≠ []) : lo ≤ n ∧ n ≤ 999999999 := by
  unfold nm9 at h
  by_cases hc : n < lo ∨ n > 999999999
  · rw [if_pos hc] at h; exact absurd rfl h
  · omega
theorem nm9_length {c : UInt8} {lo n : Int} (h : nm9 c lo n ≠ []) : (nm9 c lo n).length = 10 := by
  have := nm9_bounds h
  unfold nm9; rw [if_neg (by omega)]; simp [dig_length]
end Go.Bw

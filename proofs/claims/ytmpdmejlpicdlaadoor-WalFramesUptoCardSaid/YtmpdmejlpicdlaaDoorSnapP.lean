/- What decode makes of encode's bytes. -/
import Derived.Test.YtmpdmejlpicdlaaDoorSnapL
namespace Go.Proofs.YtmpdmejlpicdlaaDoor
open Go.RowKit Go.Bw Go.Maps
set_option linter.unusedVariables false
set_option linter.unusedSimpArgs false

theorem le4_sum {x : Int} (h0 : 0 ≤ x) (h1 : x < 4294967296) : x % 256 + 256 * (x / 256 % 256) + 65536 * (x / 65536 % 256) + 16777216 * (x / 16777216) = x := by omega
theorem le4_bytes {x : Int} (h0 : 0 ≤ x) (h1 : x < 4294967296) : Bytes (le4 x) := by
  intro y hy
  simp only [le4, List.mem_cons, List.not_mem_nil, or_false] at hy
  rcases hy with rfl | rfl | rfl | rfl <;> omega
theorem mod_lo (n : Int) : 0 ≤ n % 4294967296 := Int.emod_nonneg _ (by decide)
theorem mod_hi (n : Int) : n % 4294967296 < 4294967296 := Int.emod_lt_of_pos _ (by decide)
theorem encode_bytes {n : Int} {body : List Int} (hB : Bytes body) : Bytes (encode n body) := by
  intro y hy
  simp only [encode, head8, List.mem_append] at hy
  rcases hy with ((hy | hy) | hy) | hy
  · exact le4_bytes (mod_lo n) (mod_hi n) y hy
  · exact le4_bytes (mod_lo _) (mod_hi _) y hy
  · exact le4_bytes (crc_lo _) (crc_hi _) y hy
  · exact hB y hy
theorem encode_form (n : Int) (body : List Int) : ∃ a b c : Int, encode n body = [a % 256, a / 256 % 256, a / 65536 % 256, a / 16777216, b % 256, b / 256 % 256, b / 65536 % 256, b / 16777216, c % 256, c / 256 % 256, c / 65536 % 256, c / 16777216] ++ body ∧
    a = n % 4294967296 ∧ b = (body.length : Int) % 4294967296 ∧ c = crc (head8 n body.length ++ body) := ⟨_, _, _, rfl, rfl, rfl, rfl⟩
theorem encode_num0 (n : Int) (body ys : List Int) : num4 (encode n body ++ ys) 0 = n % 4294967296 := by
  obtain ⟨a, b, c, h, ha, hb, hc⟩ := encode_form n body
  rw [h]
  show a % 256 + 256 * (a / 256 % 256) + 65536 * (a / 65536 % 256) + 16777216 * (a / 16777216) = _
  rw [le4_sum (by rw [ha]; exact mod_lo n) (by rw [ha]; exact mod_hi n), ha]
theorem encode_num4 (n : Int) (body ys : List Int) : num4 (encode n body ++ ys) 4 = (body.length : Int) % 4294967296 := by
  obtain ⟨a, b, c, h, ha, hb, hc⟩ := encode_form n body
  rw [h]
  show b % 256 + 256 * (b / 256 % 256) + 65536 * (b / 65536 % 256) + 16777216 * (b / 16777216) = _
  rw [le4_sum (by rw [hb]; exact mod_lo _) (by rw [hb]; exact mod_hi _), hb]
theorem encode_num8 (n : Int) (body ys : List Int) : num4 (encode n body ++ ys) 8 = crc (head8 n body.length ++ body) := by
  obtain ⟨a, b, c, h, ha, hb, hc⟩ := encode_form n body
  rw [h]
  show c % 256 + 256 * (c / 256 % 256) + 65536 * (c / 65536 % 256) + 16777216 * (c / 16777216) = _
  rw [le4_sum (by rw [hc]; exact crc_lo _) (by rw [hc]; exact crc_hi _), hc]
theorem encode_take8 (n : Int) (body : List Int) : (encode n body).take 8 = head8 n body.length := rfl
theorem encode_drop12 (n : Int) (body : List Int) : (encode n body).drop 12 = body := rfl

/-- A snapshot's bytes under a number. -/
theorem decode_encode (n k : Int) (body : List Int) (hl : body.length < 4294967296) :
    decode k (encode n body) = if k < 0 ∨ 999999999 < k ∨ n % 4294967296 ≠ k % 4294967296 then ([], 11) else (body, 0) := by
  have e0 := encode_num0 n body []
  have e4 := encode_num4 n body []
  have e8 := encode_num8 n body []
  rw [List.append_nil] at e0 e4 e8
  have em : (body.length : Int) % 4294967296 = body.length := by omega
  have el := encode_length n body
  unfold decode
  rw [if_neg (by omega), e4, em, show (encode n body).length - 12 = body.length from by omega, if_neg (by omega), e0, e8, encode_take8, encode_drop12]
  by_cases h : k < 0 ∨ 999999999 < k ∨ n % 4294967296 ≠ k % 4294967296
  · rw [if_pos (Or.inr h), if_pos h]
  · rw [if_neg (by omega), if_neg h, if_neg (by simp)]
theorem decode_self {n : Int} (h0 : 0 ≤ n) (h1 : n ≤ 999999999) {body : List Int} (hl : body.length < 4294967296) : decode n (encode n body) = (body, 0) := by
  rw [decode_encode n n body hl, if_neg (by omega)]
theorem decode_bad {n : Int} (h : nm9 115 0 n = []) {body : List Int} (hl : body.length < 4294967296) : decode n (encode n body) = ([], 11) := by
  have hb : n < 0 ∨ n > 999999999 := by
    by_cases hc : n < 0 ∨ n > 999999999
    · exact hc
    · unfold nm9 at h; rw [if_neg hc] at h; cases h
  rw [decode_encode n n body hl, if_pos (by omega)]
/-- A proper beginning is too short. -/
theorem decode_take {n k : Int} {body : List Int} (hl : body.length < 4294967296) {i : Nat} (hi : i < (encode n body).length) : decode k ((encode n body).take i) = ([], 10) := by
  have el := encode_length n body
  have hlt : ((encode n body).take i).length = i := by rw [List.length_take]; omega
  unfold decode
  rw [hlt]
  by_cases h12 : i < 12
  · rw [if_pos h12]
  · rw [if_neg h12]
    have hn : num4 ((encode n body).take i) 4 = (body.length : Int) := by
      have e4 := encode_num4 n body []
      rw [List.append_nil] at e4
      have : num4 ((encode n body).take i) 4 = num4 (encode n body) 4 := by
        unfold num4
        simp only [List.getD_eq_getElem?_getD, List.getElem?_take, show 4 < i by omega, show 4 + 1 < i by omega, show 4 + 2 < i by omega, show 4 + 3 < i by omega, if_true]
      rw [this, e4]; omega
    rw [if_pos (by rw [hn]; omega)]
/-- A byte more stands behind. -/
theorem decode_more {n k : Int} {body : List Int} (hl : body.length < 4294967296) (x : Int) : decode k (encode n body ++ [x]) = ([], 11) := by
  have el := encode_length n body
  have e4 := encode_num4 n body [x]
  have em : (body.length : Int) % 4294967296 = body.length := by omega
  unfold decode
  rw [List.length_append, el, List.length_singleton, if_neg (by omega), e4, em, if_neg (by omega), if_pos (by omega)]
theorem decode_other {n k : Int} (h0 : 0 ≤ n) (h1 : n ≤ 999999999) {body : List Int} (hl : body.length < 4294967296) : ((decode k (encode n body)).2 == 0) = (k == n) := by
  rw [decode_encode n k body hl]
  by_cases h : k = n
  · subst h; rw [if_neg (by omega)]; simp
  · rw [if_pos (by omega)]
    have : (k == n) = false := by simp [h]
    rw [this]; rfl
end Go.Proofs.YtmpdmejlpicdlaaDoor

/- What the document's Decode compares, plainly. -/
import Derived.Test.YtmpdmejlpicdlaaDoorSnapP
import Derived.Test.YtmpdmejlpicdlaaDoorSnapRe
namespace Go.Proofs.YtmpdmejlpicdlaaDoor
open Go.RowKit Go.Bw Go.Maps
set_option linter.unusedVariables false
set_option linter.unusedSimpArgs false

theorem strOf_inj : ∀ {a b : List Int}, Bytes a → Bytes b → strOfNums a = strOfNums b → a = b := by
  intro a b ha hb h
  have h2 : (a.map fun n => UInt8.ofNat n.toNat) = (b.map fun n => UInt8.ofNat n.toNat) := by
    rw [← strOfNums_data, ← strOfNums_data, h]
  clear h
  induction a generalizing b with
  | nil => cases b with
    | nil => rfl
    | cons y ys => simp at h2
  | cons x xs ih => cases b with
    | nil => simp at h2
    | cons y ys =>
      simp only [List.map_cons, List.cons.injEq] at h2
      have hx := ha x (by simp)
      have hy := hb y (by simp)
      have e := congrArg UInt8.toNat h2.1
      simp only [UInt8.toNat_ofNat'] at e
      have : x = y := by omega
      rw [this, ih (fun z hz => ha z (by simp [hz])) (fun z hz => hb z (by simp [hz])) h2.2]
/-- Two rows of bytes as strings. -/
theorem strOf_beq {a b : List Int} (ha : Bytes a) (hb : Bytes b) : ((strOfNums a).toList == (strOfNums b).toList) = decide (a = b) := by
  by_cases h : a = b
  · subst h; simp
  · rw [decide_eq_false h, beq_eq_false_iff_ne, ByteArray.toList_eq, ByteArray.toList_eq]
    intro e
    exact h (strOf_inj ha hb (by
      apply ByteArray.ext
      apply Array.ext'
      exact e))
theorem le4_inj {a b : Int} (h0 : 0 ≤ a) (h1 : a < 4294967296) (g0 : 0 ≤ b) (g1 : b < 4294967296) (h : le4 a = le4 b) : a = b := by
  simp only [le4, List.cons.injEq, and_true] at h
  have := le4_sum h0 h1
  have := le4_sum g0 g1
  omega
theorem le4_num {xs : List Int} (hB : Bytes xs) {i : Nat} (hi : i + 4 ≤ xs.length) : (xs.drop i).take 4 = le4 (num4 xs i) := by
  have g0 := hB xs[i] (List.getElem_mem _)
  have g1 := hB xs[i + 1] (List.getElem_mem _)
  have g2 := hB xs[i + 2] (List.getElem_mem _)
  have g3 := hB xs[i + 3] (List.getElem_mem _)
  rw [List.drop_eq_getElem_cons (show i < xs.length by omega), List.drop_eq_getElem_cons (show i + 1 < xs.length by omega), List.drop_eq_getElem_cons (show i + 1 + 1 < xs.length by omega), List.drop_eq_getElem_cons (show i + 1 + 1 + 1 < xs.length by omega)]
  simp only [List.take_succ_cons, List.take_zero]
  unfold num4 le4
  simp only [List.getD_eq_getElem?_getD, List.getElem?_eq_getElem (show i < xs.length by omega), List.getElem?_eq_getElem (show i + 1 < xs.length by omega), List.getElem?_eq_getElem (show i + 2 < xs.length by omega), List.getElem?_eq_getElem (show i + 3 < xs.length by omega), Option.getD_some]
  show [xs[i], xs[i + 1], xs[i + 2], xs[i + 3]] = _
  generalize xs[i] = a at *
  generalize xs[i + 1] = b at *
  generalize xs[i + 2] = c at *
  generalize xs[i + 3] = d at *
  congr 1
  · omega
  congr 1
  · omega
  congr 1
  · omega
  congr 1
  omega

theorem bytes_take {xs : List Int} (h : Bytes xs) (k : Nat) : Bytes (xs.take k) := fun x hx => h x (List.mem_of_mem_take hx)
theorem bytes_drop {xs : List Int} (h : Bytes xs) (k : Nat) : Bytes (xs.drop k) := fun x hx => h x (List.mem_of_mem_drop hx)

theorem take4_iff {xs : List Int} (hB : Bytes xs) (hl : 12 ≤ xs.length) {n : Int} (h0 : 0 ≤ n) (h1 : n ≤ 999999999) : (le4 n = xs.take 4) ↔ num4 xs 0 = n := by
  have e := le4_num hB (show 0 + 4 ≤ xs.length by omega)
  rw [List.drop_zero] at e
  have hb := num4_bounds hB 0 (by omega)
  constructor
  · intro h
    exact (le4_inj h0 (by omega) hb.1 hb.2 (h.trans e)).symm
  · intro h; rw [e, h]

theorem whole_iff {xs : List Int} (hB : Bytes xs) {m : Nat} (hl : xs.length = m + 12) {n : Int} (h0 : 0 ≤ n) (h1 : n ≤ 999999999) (hn : num4 xs 0 = n) (hm : num4 xs 4 = m) :
    (encode n (xs.drop 12) = xs) ↔ num4 xs 8 = crc (xs.take 8 ++ xs.drop 12) := by
  have e0 := le4_num hB (show 0 + 4 ≤ xs.length by omega)
  have e4 := le4_num hB (show 4 + 4 ≤ xs.length by omega)
  have e8 := le4_num hB (show 8 + 4 ≤ xs.length by omega)
  have b4 := num4_bounds hB 4 (by omega)
  have b8 := num4_bounds hB 8 (by omega)
  rw [List.drop_zero, hn] at e0
  rw [hm] at e4 b4
  have t8 : xs.take 8 = head8 n (xs.drop 12).length := by
    unfold head8
    rw [List.length_drop, hl, show m + 12 - 12 = m by omega, Int.emod_eq_of_lt h0 (by omega), Int.emod_eq_of_lt b4.1 b4.2, ← e0, ← e4]
    rw [show (8 : Nat) = 4 + 4 from rfl, List.take_add]
  have hx : xs = xs.take 8 ++ le4 (num4 xs 8) ++ xs.drop 12 := by
    rw [← e8]
    have a1 := List.take_append_drop 8 xs
    have a2 := List.take_append_drop 4 (xs.drop 8)
    rw [List.drop_drop] at a2
    rw [List.append_assoc, a2, a1]
  have he : encode n (xs.drop 12) = xs.take 8 ++ le4 (crc (xs.take 8 ++ xs.drop 12)) ++ xs.drop 12 := by
    unfold encode; rw [← t8]
  constructor
  · intro h
    rw [he] at h
    have h2 : xs.take 8 ++ le4 (crc (xs.take 8 ++ xs.drop 12)) ++ xs.drop 12 = xs.take 8 ++ le4 (num4 xs 8) ++ xs.drop 12 := h.trans hx
    have h3 := List.append_cancel_right h2
    have h4 := List.append_cancel_left h3
    exact (le4_inj (crc_lo _) (crc_hi _) b8.1 b8.2 h4).symm
  · intro h
    rw [he, ← h]; exact hx.symm
end Go.Proofs.YtmpdmejlpicdlaaDoor

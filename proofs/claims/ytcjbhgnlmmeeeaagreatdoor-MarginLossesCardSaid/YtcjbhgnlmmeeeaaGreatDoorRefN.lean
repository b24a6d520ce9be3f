/- ref.Name, the document's Name; ref.within, walked. -/
import Derived.Test.YtcjbhgnlmmeeeaaGreatDoorTreeC
import Derived.Lib.SlTrimSet
namespace Go.Proofs.YtcjbhgnlmmeeeaaGreatDoor
open Go.RowKit Go.Bw Go.Maps Go.Shelf
set_option linter.unusedVariables false
set_option linter.unusedSimpArgs false

def inB (x lo hi : Int) : Bool := decide (lo ≤ x ∧ x ≤ hi)
theorem inB_true {x lo hi : Int} : inB x lo hi = true ↔ lo ≤ x ∧ x ≤ hi := by simp [inB]
theorem inB_false {x lo hi : Int} : inB x lo hi = false ↔ ¬ (lo ≤ x ∧ x ≤ hi) := by simp only [inB, decide_eq_false_iff_not]
set_option maxHeartbeats 400000 in
theorem within_any (x lo hi : Int) (w : World) : Calls Tryz.prog 133 #[.int .i64 x, .int .i64 lo, .int .i64 hi] w fun e w' => e = .returned (.bool (inB x lo hi)) ∧ w = w' := by
  obtain ⟨r, hr⟩ : ∃ r, r = inB x lo hi := ⟨_, rfl⟩
  rw [← hr]
  have ch : ¬ lo ≤ x ∨ (lo ≤ x ∧ ¬ x ≤ hi) ∨ (lo ≤ x ∧ x ≤ hi) := by omega
  rcases ch with h1 | ⟨h1, h2⟩ | ⟨h1, h2⟩
  all_goals
    first
    | (have R := Lib.hid (show r = true from by rw [hr]; exact decide_eq_true (by omega)))
    | (have R := Lib.hid (show r = false from by rw [hr]; exact decide_eq_false (by omega)))
    clear hr
    go_enter Tryz.func133, Tryz.ntmps133
    go_wp2_with fail
    go_ret
    refine ⟨ret_bool ?_, rfl⟩
    first | (rw [R.out]; done) | (rw [R.out]; simp; done) | (rw [R.out]; simp; omega)
theorem within_to {x lo hi : Int} {b : Bool} (h : inB x lo hi = b) (w : World) : Calls Tryz.prog 133 #[.int .i64 x, .int .i64 lo, .int .i64 hi] w fun e w' => e = .returned (.bool b) ∧ w = w' := by
  rw [← h]; exact within_any x lo hi w

theorem dropWhile_nil {α : Type} (p : α → Bool) : ∀ l : List α, l.dropWhile p = [] ↔ ∀ x ∈ l, p x = true
  | [] => by simp
  | x :: l => by
    cases h : p x with
    | true => rw [List.dropWhile_cons_of_pos h, dropWhile_nil p l]; simp [h]
    | false => rw [List.dropWhile_cons_of_neg (by simp [h])]; simp [h]
theorem trim_nil (l cs : List UInt8) : Lib.trimS l cs = [] ↔ ∀ x ∈ l, cs.contains x = true := by
  unfold Lib.trimS Lib.trimLeftS Lib.trimRightS
  rw [dropWhile_nil]
  constructor
  · intro h
    have h2 : l.reverse.dropWhile (cs.contains ·) = [] := by
      cases hd : l.reverse.dropWhile (cs.contains ·) with
      | nil => rfl
      | cons y r =>
        have h3 := h y (by rw [hd]; simp)
        have h4 := List.head?_dropWhile_not (cs.contains ·) l.reverse
        rw [hd] at h4
        simp only [List.head?_cons] at h4
        rw [h3] at h4; simp at h4
    rw [dropWhile_nil] at h2
    intro x hx
    exact h2 x (by simpa using hx)
  · intro h x hx
    have : x ∈ l.reverse.dropWhile (cs.contains ·) := by simpa using hx
    exact h x (by have := (List.dropWhile_sublist _).subset this; simpa using this)
def upper : ByteArray := ⟨#[65, 66, 67, 68, 69, 70, 71, 72, 73, 74, 75, 76, 77, 78, 79, 80, 81, 82, 83, 84, 85, 86, 87, 88, 89, 90]⟩
theorem upper_iff (c : UInt8) : upper.data.toList.contains c = decide (65 ≤ c.toNat ∧ c.toNat ≤ 90) := by
  have h : ∀ k : Fin 256, upper.data.toList.contains (UInt8.ofNat k.val) = decide (65 ≤ k.val ∧ k.val ≤ 90) := by decide +kernel
  have := h ⟨c.toNat, c.toNat_lt⟩
  simpa using this
theorem name_iff (s : ByteArray) : nameB s = (decide (1 ≤ s.size ∧ s.size ≤ 8) && decide (Lib.trimS s.data.toList upper.data.toList = [])) := by
  unfold nameB
  congr 1
  rw [Bool.eq_iff_iff, decide_eq_true_iff, trim_nil, List.all_eq_true]
  constructor
  · intro h x hx; rw [upper_iff]; exact h x hx
  · intro h x hx; have := h x hx; rw [upper_iff] at this; exact this

set_option maxRecDepth 100000 in
set_option maxHeartbeats 1000000 in
theorem name_any (s : ByteArray) (hs : s.size ≤ maxLen) (w : World) : Calls Tryz.prog 134 #[.string s] w fun e w' => e = .returned (.bool (nameB s)) ∧ Below w.heap.size w w' := by
  obtain ⟨r, hr⟩ : ∃ r, r = nameB s := ⟨_, rfl⟩
  rw [← hr]
  rw [name_iff] at hr
  by_cases h0 : s.size = 0
  · have R := Lib.hid (show r = false from by rw [hr, decide_eq_false (by omega)]; rfl)
    have hl : s.toList.isEmpty = true := by rw [ByteArray.toList_eq]; simpa [Array.toList_eq_nil_iff, ← Array.size_eq_zero_iff] using h0
    have hl2 : s.toList = [] := by simpa using hl
    clear hr
    go_enter Tryz.func134, Tryz.ntmps134
    go_wp2_with fail
    go_ret
    refine ⟨ret_bool ?_, Below.refl _ _⟩
    first | (rw [R.out]; done) | (rw [R.out]; simp; done)
  have hl : s.toList.isEmpty = false := by
    rw [ByteArray.toList_eq]
    cases h : s.data.toList with
    | nil => exact absurd (show s.size = 0 from by have := congrArg List.length h; simpa using this) h0
    | cons x r => rfl
  by_cases h8 : s.size ≤ 8
  case neg =>
    have R := Lib.hid (show r = false from by rw [hr, decide_eq_false (by omega)]; rfl)
    have h8' : ¬ (s.size : Int) ≤ 8 := by omega
    clear hr
    go_enter Tryz.func134, Tryz.ntmps134
    go_wp2_with fail
    go_ret
    refine ⟨ret_bool ?_, Below.refl _ _⟩
    first | (rw [R.out]; done) | (rw [R.out]; simp; done)
  have h8' : (s.size : Int) ≤ 8 := by omega
  rw [decide_eq_true (by omega), Bool.true_and] at hr
  have TR := Tryz.lib_trim s upper w (by unfold maxLen at hs; omega) (by decide) (ascii_of_all (by decide))
  obtain ⟨T, hT⟩ : ∃ T : ByteArray, T = ⟨(Lib.trimS s.data.toList upper.data.toList).toArray⟩ := ⟨_, rfl⟩
  rw [← hT] at TR
  have TRh := Lib.hid TR
  have hTl : T.toList = Lib.trimS s.data.toList upper.data.toList := by rw [ByteArray.toList_eq, hT]
  unfold upper at TRh
  clear TR hs
  cases ht : T.toList with
  | nil =>
    have R := Lib.hid (show r = true from by rw [hr, ← hTl, ht]; rfl)
    have ht2 : T.toList.isEmpty = true := by rw [ht]; rfl
    clear hr hTl hT
    go_enter Tryz.func134, Tryz.ntmps134
    go_wp2_with fail
    refine TRh.out.mono ?_
    rintro e w' ⟨rfl, hb⟩
    have B := Lib.hid hb
    clear hb
    go_wp2_with fail
    go_ret
    refine ⟨ret_bool ?_, B.out⟩
    first | (rw [R.out]; done) | (rw [R.out]; simp; done)
  | cons y ys =>
    have R := Lib.hid (show r = false from by rw [hr, ← hTl, ht]; rfl)
    have ht2 : T.toList.isEmpty = false := by rw [ht]; rfl
    clear hr hTl hT ht
    go_enter Tryz.func134, Tryz.ntmps134
    go_wp2_with fail
    refine TRh.out.mono ?_
    rintro e w' ⟨rfl, hb⟩
    have B := Lib.hid hb
    clear hb
    go_wp2_with fail
    go_ret
    refine ⟨ret_bool ?_, B.out⟩
    first | (rw [R.out]; done) | (rw [R.out]; simp; done) | trace_state

set_option maxRecDepth 100000 in
set_option maxHeartbeats 1000000 in
theorem rname_any (s : ByteArray) (hs : s.size ≤ maxLen) (w : World) : Calls Tryz.prog 81 #[.string s] w fun e w' => e = .returned (.bool (nameB s)) ∧ w = w' := by
  obtain ⟨r, hr⟩ : ∃ r, r = nameB s := ⟨_, rfl⟩
  rw [← hr]
  have HR := Lib.hid hr
  have hsz : s.size ≤ 9223372036854775807 := by unfold maxLen at hs; omega
  clear hr hs
  go_enter Tryz.func81, Tryz.ntmps81
  go_wp2_with fail
  go_loop [3] (fun i => ∃ k : Nat, k ≤ s.size ∧ i = .int .i64 k ∧ Hid (∀ (j : Nat) (c : UInt8), j < k → s.data.toList[j]? = some c → 65 ≤ c.toNat ∧ c.toNat ≤ 90)) (fun i => s.size - (intOf i).toNat)
  case atStart => exact ⟨0, Nat.zero_le _, rfl, Lib.hid (fun j c hj => by omega)⟩
  case round =>
    obtain ⟨k, hk, rfl, INV⟩ := hrel
    by_cases hlt : k < s.size
    · have hlt' : (k : Int) < (s.size : Int) := by omega
      have HC := Lib.hid (show s.data.toList[k]? = some s[k] from by simp [ByteArray.getElem_eq_getElem_data, hlt])
      have LT := Lib.hid hlt
      by_cases h1 : (s[k].toNat : Int) < 65
      · have R := Lib.hid (show r = false from by
          rw [HR.out]; unfold nameB
          rw [List.all_eq_false.2 ⟨s[k], List.mem_of_getElem? HC.out, by simp; omega⟩, Bool.and_false])
        go_wp2_with fail
        go_ret
        exact ⟨ret_bool R.out.symm, rfl⟩
      by_cases h2 : (90 : Int) < (s[k].toNat : Int)
      · have R := Lib.hid (show r = false from by
          rw [HR.out]; unfold nameB
          rw [List.all_eq_false.2 ⟨s[k], List.mem_of_getElem? HC.out, by simp; omega⟩, Bool.and_false])
        go_wp2_with fail
        go_ret
        exact ⟨ret_bool R.out.symm, rfl⟩
      have YES := Lib.hid (show 65 ≤ s[k].toNat ∧ s[k].toNat ≤ 90 from by omega)
      go_wp2_with fail
      go_round
      case rel => exact ⟨k + 1, by have := LT.out; omega, by go_num, Lib.hid (fun j c hj hc => by
        by_cases e : j = k
        · subst e; have h := HC.out; rw [hc] at h; cases h; exact YES.out
        · exact INV.out j c (by omega) hc)⟩
      case measure => have := LT.out; simp [intOf]; omega
    · have hlt' : ¬ (k : Int) < (s.size : Int) := by omega
      have ALL := Lib.hid (show (s.data.toList.all fun c => decide (65 ≤ c.toNat ∧ c.toNat ≤ 90)) = true from by
        rw [List.all_eq_true]
        intro c hc
        obtain ⟨j, hj, e⟩ := List.mem_iff_getElem.1 hc
        exact decide_eq_true (INV.out j c (by simp at hj; have : s.data.size = s.size := rfl; omega) (by rw [← e]; exact List.getElem?_eq_getElem hj)))
      have R := Lib.hid (show r = decide (1 ≤ s.size ∧ s.size ≤ 8) from by rw [HR.out]; unfold nameB; rw [ALL.out, Bool.and_true])
      have ch : ¬ (1 : Int) ≤ (s.size : Int) ∨ ((1 : Int) ≤ (s.size : Int) ∧ ¬ (s.size : Int) ≤ 8) ∨ ((1 : Int) ≤ (s.size : Int) ∧ (s.size : Int) ≤ 8) := by omega
      rcases ch with g1 | ⟨g1, g2⟩ | ⟨g1, g2⟩
      all_goals
        first
        | (have R2 := Lib.hid (R.out.trans (decide_eq_true (by omega))))
        | (have R2 := Lib.hid (R.out.trans (decide_eq_false (by omega))))
        go_wp2_with fail
        go_ret
        refine ⟨ret_bool ?_, rfl⟩
        first | (rw [R2.out]; done) | (rw [R2.out]; simp; done) | (rw [R2.out]; simp; omega)
end Go.Proofs.YtcjbhgnlmmeeeaaGreatDoor

/- SnapLoses, plainly: what a Save leaves in which the power may go, what is loaded then, and that it goes on. -/
import Derived.Test.YtmpdmejlpicdlaaDoorSnapP
namespace Go.Proofs.YtmpdmejlpicdlaaDoor
open Go.RowKit Go.Bw Go.Maps
set_option linter.unusedVariables false
set_option linter.unusedSimpArgs false

theorem dig_before : ∀ k m n, m % 10 ^ k < n % 10 ^ k → bytesBefore (dig k m) (dig k n) = true
  | 0, m, n, h => by simp [Nat.mod_one] at h
  | j + 1, m, n, h => by
    rw [dig_front, dig_front]
    rw [Nat.mod_pow_succ, Nat.mod_pow_succ] at h
    have hm : m / 10 ^ j % 10 < 10 := Nat.mod_lt _ (by decide)
    have hn : n / 10 ^ j % 10 < 10 := Nat.mod_lt _ (by decide)
    have hmj : m % 10 ^ j < 10 ^ j := Nat.mod_lt _ (Nat.pow_pos (by decide))
    have hnj : n % 10 ^ j < 10 ^ j := Nat.mod_lt _ (Nat.pow_pos (by decide))
    generalize m / 10 ^ j % 10 = a at *
    generalize n / 10 ^ j % 10 = b at *
    have hlt : UInt8.ofNat (48 + a) < UInt8.ofNat (48 + b) ↔ a < b := by
      rw [UInt8.lt_iff_toNat_lt, UInt8.toNat_ofNat', UInt8.toNat_ofNat']; omega
    have heq : UInt8.ofNat (48 + a) = UInt8.ofNat (48 + b) ↔ a = b := by
      constructor
      · intro e
        have := congrArg UInt8.toNat e
        rw [UInt8.toNat_ofNat', UInt8.toNat_ofNat'] at this; omega
      · intro e; rw [e]
    by_cases hab : a = b
    · subst hab
      have := dig_before j m n (by omega)
      unfold bytesBefore
      simp [this]
    · have hab2 : a < b := by
        rcases Nat.lt_or_gt_of_ne hab with h1 | h1
        · exact h1
        · exfalso
          have : 10 ^ j * (b + 1) ≤ 10 ^ j * a := Nat.mul_le_mul_left _ h1
          rw [Nat.mul_add, Nat.mul_one] at this
          omega
      show (decide (UInt8.ofNat (48 + a) < UInt8.ofNat (48 + b)) || _) = true
      rw [decide_eq_true (hlt.2 hab2)]; rfl
theorem nm9_before {c : UInt8} {m n : Int} (h0 : 0 ≤ m) (h : m < n) (h1 : n ≤ 999999999) : bytesBefore (nm9 c 0 m) (nm9 c 0 n) = true := by
  unfold nm9
  rw [if_neg (by omega), if_neg (by omega)]
  have := dig_before 9 m.toNat n.toNat (by rw [Nat.mod_eq_of_lt (by omega), Nat.mod_eq_of_lt (by omega)]; omega)
  unfold bytesBefore
  simp [this]

theorem nm_form {n : Int} (h0 : 0 ≤ n) (h1 : n ≤ 999999999) : nm9 115 0 n = 115 :: dig 9 n.toNat := by
  unfold nm9; rw [if_neg (by omega)]
theorem nm_ne {n : Int} (h0 : 0 ≤ n) (h1 : n ≤ 999999999) : nm9 115 0 n ≠ [] := by rw [nm_form h0 h1]; simp
theorem nm_ne_draft {n : Int} (h0 : 0 ≤ n) (h1 : n ≤ 999999999) : nm9 115 0 n ≠ draft := by
  rw [nm_form h0 h1]; intro e; injection e with e1 _; cases e1
theorem draft_before {n : Int} (h0 : 0 ≤ n) (h1 : n ≤ 999999999) : bytesBefore draft (nm9 115 0 n) = true := by
  rw [nm_form h0 h1]; rfl
theorem nm_named {n : Int} (h0 : 0 ≤ n) (h1 : n ≤ 999999999) : namedB (nm9 115 0 n) = true := by
  have := nm9_length (nm_ne h0 h1)
  unfold namedB; rw [this]; decide
theorem nm_no {n : Int} (h0 : 0 ≤ n) (h1 : n ≤ 999999999) : snapNo (nm9 115 0 n) = n := num9_nm9 (Int.le_refl 0) h0 h1

/-- A snapshot's file. -/
def entry (n : Int) (body : List Int) : Nm × Cont := (nm9 115 0 n, ⟨encode n body, []⟩)
def last1 : Option (Int × List Int) → List (Nm × Cont)
  | none => []
  | some q => [entry q.1 q.2]
def Good (p : Option (Int × List Int)) (n : Int) : Prop := ∀ q, p = some q → 0 ≤ q.1 ∧ q.1 < n ∧ q.2.length ≤ 262144
structure Snug (A : ADsk) (p : Option (Int × List Int)) : Prop where
  files : A.files = last1 p
  on : A.off = false
  room : A.room = 2097152

theorem last_draft {p : Option (Int × List Int)} {n : Int} (hp : Good p n) (h1 : n ≤ 999999999) : lookF (last1 p) draft = none := by
  cases p with
  | none => rfl
  | some q =>
    obtain ⟨a, b, _⟩ := hp q rfl
    have := nm_ne_draft (n := q.1) a (by omega)
    unfold last1 lookF entry
    simp [this]
theorem last_total {p : Option (Int × List Int)} {n : Int} (hp : Good p n) : total (last1 p) ≤ 262156 := by
  cases p with
  | none => simp [last1, total]
  | some q =>
    obtain ⟨_, _, c⟩ := hp q rfl
    have := encode_length q.1 q.2
    simp [last1, total, entry, Cont.len]; omega
theorem last_drop {p : Option (Int × List Int)} {n : Int} (hp : Good p n) (h1 : n ≤ 999999999) : drop (last1 p) draft = last1 p := by
  cases p with
  | none => rfl
  | some q =>
    obtain ⟨a, b, _⟩ := hp q rfl
    have := nm_ne_draft (n := q.1) a (by omega)
    unfold last1 drop entry
    simp [this]
theorem last_put {p : Option (Int × List Int)} {n : Int} (hp : Good p n) (h1 : n ≤ 999999999) (c : Cont) : put (last1 p) draft c = (draft, c) :: last1 p := by
  unfold put
  rw [last_drop hp h1]
  cases p with
  | none => rfl
  | some q =>
    obtain ⟨a, b, _⟩ := hp q rfl
    unfold last1 ins entry
    simp [draft_before (n := q.1) a (by omega)]
theorem last_new {p : Option (Int × List Int)} {n : Int} (hp : Good p n) (h1 : n ≤ 999999999) (c : Cont) : put (last1 p) (nm9 115 0 n) c = last1 p ++ [(nm9 115 0 n, c)] := by
  cases p with
  | none => rfl
  | some q =>
    obtain ⟨a, b, _⟩ := hp q rfl
    have hb := nm9_before (c := 115) a b h1
    have hn := before_ne hb
    have hb2 : bytesBefore (nm9 115 0 n) (nm9 115 0 q.1) = false := by
      cases hh : bytesBefore (nm9 115 0 n) (nm9 115 0 q.1) with
      | false => rfl
      | true => have := WideShapes.bytes_trans _ _ _ hb hh; rw [before_irrefl] at this; cases this
    unfold put drop last1 entry
    simp [hn, ins, hb2]
theorem last_lost (p : Option (Int × List Int)) (k : Int) : (last1 p).map (fun f => (f.1, ADsk.lost k f.2)) = last1 p := by
  cases p with
  | none => rfl
  | some q => simp [last1, entry, ADsk.lost]
theorem last_onFile {p : Option (Int × List Int)} {n : Int} (hp : Good p n) (h1 : n ≤ 999999999) (g : Cont → Cont) : ADsk.onFile draft g (last1 p) = last1 p := by
  cases p with
  | none => rfl
  | some q =>
    obtain ⟨a, b, _⟩ := hp q rfl
    have := nm_ne_draft (n := q.1) a (by omega)
    simp [last1, entry, ADsk.onFile, this]
theorem last_len (p : Option (Int × List Int)) : (last1 p).length ≤ 1 := by cases p <;> simp [last1]

section steps
variable {p : Option (Int × List Int)} {n : Int} (hp : Good p n) (h0 : 0 ≤ n) (h1 : n ≤ 999999999) (wr ar kp : Int)
include hp h1
theorem st_read : (⟨last1 p, 2097152, false, wr, ar, kp⟩ : ADsk).read draft = ([], 21) := by
  have := last_draft hp h1
  simp [ADsk.read, ADsk.there, ADsk.ready, namedB, this]
theorem st_append (E : List Int) (hE : E.length ≤ 262156) : (⟨last1 p, 2097152, false, wr, ar, kp⟩ : ADsk).append draft E =
    if ar = 1 then (⟨(draft, ⟨E.take kp.toNat, []⟩) :: last1 p, 2097152, true, RowKit.wrap64 (wr + 1), 0, kp⟩, 20)
    else (⟨(draft, ⟨[], E⟩) :: last1 p, 2097152, false, RowKit.wrap64 (wr + 1), (if ar = 0 then 0 else ar - 1), kp⟩, 0) := by
  have e1 := last_draft hp h1
  have e2 := last_total hp
  have e3 := last_put hp h1 ⟨[], E⟩
  have e4 := last_lost p kp
  simp only [ADsk.lost] at e4
  have e5 := last_len p
  have f1 : ¬ (E.length > 1048576) := by omega
  have f2 : ¬ ((2097152 : Int) < ((total (last1 p) + E.length : Nat) : Int)) := by omega
  have f3 : ¬ (16 ≤ (last1 p).length) := by omega
  unfold ADsk.append
  rw [if_neg (show ¬ ((⟨last1 p, 2097152, false, wr, ar, kp⟩ : ADsk).ready draft ≠ 0) from by simp [ADsk.ready, namedB])]
  simp only [e1, Option.getD_none, Option.isNone_none, true_and]
  rw [if_neg (by simp [Cont.len]; omega), if_neg (by intro h; rcases h with h | h; exact f3 h; exact f2 h)]
  rw [show put (last1 p) draft ⟨([] : List Int), [] ++ E⟩ = (draft, ⟨[], E⟩) :: last1 p from e3]
  by_cases ha : ar = 1
  · rw [if_pos ha, if_pos ha]
    simp [ADsk.goesOff, ADsk.armed, ADsk.lost, e4, ha]
  · rw [if_neg ha, if_neg ha]
    rfl
theorem st_sync (E : List Int) : (⟨(draft, ⟨[], E⟩) :: last1 p, 2097152, false, wr, ar, kp⟩ : ADsk).sync draft =
    if ar = 1 then (⟨(draft, ⟨E.take kp.toNat, []⟩) :: last1 p, 2097152, true, RowKit.wrap64 (wr + 1), 0, kp⟩, 20)
    else (⟨(draft, ⟨E, []⟩) :: last1 p, 2097152, false, RowKit.wrap64 (wr + 1), (if ar = 0 then 0 else ar - 1), kp⟩, 0) := by
  have e4 := last_lost p kp
  simp only [ADsk.lost] at e4
  have e5 := last_onFile hp h1 (fun c => ⟨c.safe ++ c.wait, []⟩)
  unfold ADsk.sync
  rw [if_neg (by simp [ADsk.there, ADsk.ready, namedB, lookF])]
  unfold ADsk.does
  by_cases ha : ar = 1
  · rw [if_pos ha, if_pos ha]
    simp [ADsk.goesOff, ADsk.armed, ADsk.lost, e4, ha]
  · rw [if_neg ha, if_neg ha]
    rw [show ADsk.onFile draft (fun c => ⟨c.safe ++ c.wait, []⟩) ((draft, (⟨[], E⟩ : Cont)) :: last1 p) = (draft, ⟨E, []⟩) :: last1 p from by
      rw [show ADsk.onFile draft (fun c => ⟨c.safe ++ c.wait, []⟩) ((draft, (⟨[], E⟩ : Cont)) :: last1 p) = (draft, ⟨[] ++ E, []⟩) :: ADsk.onFile draft (fun c => ⟨c.safe ++ c.wait, []⟩) (last1 p) from by simp [ADsk.onFile], e5]; rfl]
    rfl
include h0
theorem st_rename (E : List Int) : (⟨(draft, ⟨E, []⟩) :: last1 p, 2097152, false, wr, ar, kp⟩ : ADsk).rename draft (nm9 115 0 n) =
    if ar = 1 then (⟨(draft, ⟨E, []⟩) :: last1 p, 2097152, true, RowKit.wrap64 (wr + 1), 0, kp⟩, 20)
    else (⟨last1 p ++ [(nm9 115 0 n, ⟨E, []⟩)], 2097152, false, RowKit.wrap64 (wr + 1), (if ar = 0 then 0 else ar - 1), kp⟩, 0) := by
  have e4 := last_lost p kp
  simp only [ADsk.lost] at e4
  have e5 := last_drop hp h1
  have e6 := last_new hp h1 ⟨E, []⟩
  have hth : (⟨(draft, ⟨E, []⟩) :: last1 p, 2097152, false, wr, ar, kp⟩ : ADsk).there draft = 0 := by simp [ADsk.there, ADsk.ready, namedB, lookF]
  unfold ADsk.rename
  rw [hth, if_neg (by decide), nm_named h0 h1, if_neg (by decide), if_neg (by decide)]
  unfold ADsk.does
  by_cases ha : ar = 1
  · rw [if_pos ha, if_pos ha]
    simp [ADsk.goesOff, ADsk.armed, ADsk.lost, e4, ha]
  · rw [if_neg ha, if_neg ha]
    show ((⟨put (drop ((draft, ⟨E, []⟩) :: last1 p) draft) (nm9 115 0 n) _, _, _, _, _, _⟩ : ADsk), (0 : Int)) = _
    rw [show drop ((draft, (⟨E, []⟩ : Cont)) :: last1 p) draft = last1 p from by
      rw [show drop ((draft, (⟨E, []⟩ : Cont)) :: last1 p) draft = drop (last1 p) draft from by simp [drop], e5]]
    rw [show ((lookF ((draft, (⟨E, []⟩ : Cont)) :: last1 p) draft).getD ⟨[], []⟩) = ⟨E, []⟩ from by simp [lookF], e6]
    rfl
end steps

/-- What is there where the power went in a Save. -/
def CutF (p : Option (Int × List Int)) (n : Int) (body : List Int) (F : List (Nm × Cont)) : Prop :=
  (∃ k, F = (draft, ⟨(encode n body).take k, []⟩) :: last1 p) ∨ F = last1 p ++ [entry n body]

theorem go_last {p : Option (Int × List Int)} {n : Int} (hp : Good p n) (h0 : 0 ≤ n) (h1 : n ≤ 999999999) (body : List Int) (wr ar kp : Int) :
    (∃ A', saveGo n ((last1 p ++ [entry n body]).map (·.1)) ⟨last1 p ++ [entry n body], 2097152, false, wr, ar, kp⟩ = (A', 0) ∧ Snug A' (some (n, body))) ∨
    (∃ A', saveGo n ((last1 p ++ [entry n body]).map (·.1)) ⟨last1 p ++ [entry n body], 2097152, false, wr, ar, kp⟩ = (A', 20) ∧ A'.off = true ∧ A'.room = 2097152 ∧ CutF p n body A'.files) := by
  have hn := nm_no h0 h1
  have own : ∀ A : ADsk, saveGo n [nm9 115 0 n] A = (A, 0) := fun A => by unfold saveGo; rw [if_pos (Or.inr hn)]; rfl
  cases p with
  | none =>
    left
    exact ⟨_, own _, ⟨rfl, rfl, rfl⟩⟩
  | some q =>
    obtain ⟨a, b, _⟩ := hp q rfl
    have hq := nm_no (n := q.1) a (by omega)
    have hqn := nm_named (n := q.1) a (by omega)
    have hne := before_ne (nm9_before (c := 115) a b h1)
    have hrm : (⟨last1 (some q) ++ [entry n body], 2097152, false, wr, ar, kp⟩ : ADsk).remove (nm9 115 0 q.1) =
        if ar = 1 then (⟨last1 (some q) ++ [entry n body], 2097152, true, RowKit.wrap64 (wr + 1), 0, kp⟩, 20)
        else (⟨[entry n body], 2097152, false, RowKit.wrap64 (wr + 1), (if ar = 0 then 0 else ar - 1), kp⟩, 0) := by
      unfold ADsk.remove
      rw [if_neg (by simp [ADsk.there, ADsk.ready, hqn, lookF, last1, entry])]
      unfold ADsk.does
      by_cases ha : ar = 1
      · rw [if_pos ha, if_pos ha]
        simp [ADsk.goesOff, ADsk.armed, ADsk.lost, ha, last1, entry]
      · rw [if_neg ha, if_neg ha]
        simp [ADsk.armed, last1, entry, drop, Ne.symm hne]
    show (∃ A', saveGo n [nm9 115 0 q.1, nm9 115 0 n] _ = (A', 0) ∧ _) ∨ (∃ A', saveGo n [nm9 115 0 q.1, nm9 115 0 n] _ = (A', 20) ∧ _)
    have hsk : ¬ (snapNo (nm9 115 0 q.1) < 0 ∨ snapNo (nm9 115 0 q.1) = n) := by rw [hq]; omega
    unfold saveGo
    rw [if_neg hsk, hrm]
    by_cases ha : ar = 1
    · rw [if_pos ha, if_pos (by simp)]
      right
      exact ⟨_, rfl, rfl, rfl, Or.inr rfl⟩
    · rw [if_neg ha, if_neg (by simp)]
      left
      exact ⟨_, own _, ⟨rfl, rfl, rfl⟩⟩

theorem save_snug {A : ADsk} {p : Option (Int × List Int)} {n : Int} {body : List Int} (h : Snug A p) (hp : Good p n) (h0 : 0 ≤ n) (h1 : n ≤ 999999999) (hl : body.length ≤ 262144) :
    (∃ A', saveA A n body = (A', 0) ∧ Snug A' (some (n, body))) ∨
    (∃ A', saveA A n body = (A', 20) ∧ A'.off = true ∧ A'.room = 2097152 ∧ CutF p n body A'.files) := by
  obtain ⟨F, room, off, wr, ar, kp⟩ := A
  obtain ⟨hf, ho, hr⟩ := h
  simp only at hf ho hr
  subst hf; subst ho; subst hr
  have el := encode_length n body
  unfold saveA
  rw [if_neg (nm_ne h0 h1), if_neg (by omega), st_read hp h1]
  simp only [Bool.false_eq_true, if_false]
  rw [if_neg (by decide)]
  unfold save1
  rw [if_neg (by simp), st_append hp h1 wr ar kp (encode n body) (by omega)]
  by_cases ha : ar = 1
  · rw [if_pos ha]
    right
    unfold save2
    rw [if_pos (by simp)]
    exact ⟨_, rfl, rfl, rfl, Or.inl ⟨_, rfl⟩⟩
  rw [if_neg ha]
  unfold save2
  rw [if_neg (by simp), st_sync hp h1]
  generalize (if ar = 0 then 0 else ar - 1) = ar2
  generalize RowKit.wrap64 (wr + 1) = wr2
  by_cases ha2 : ar2 = 1
  · rw [if_pos ha2]
    right
    unfold save3
    rw [if_pos (by simp)]
    exact ⟨_, rfl, rfl, rfl, Or.inl ⟨_, rfl⟩⟩
  rw [if_neg ha2]
  unfold save3
  rw [if_neg (by simp), st_rename hp h0 h1]
  generalize (if ar2 = 0 then 0 else ar2 - 1) = ar3
  generalize RowKit.wrap64 (wr2 + 1) = wr3
  by_cases ha3 : ar3 = 1
  · rw [if_pos ha3]
    right
    unfold save4
    rw [if_pos (by simp)]
    exact ⟨_, rfl, rfl, rfl, Or.inl ⟨(encode n body).length, by rw [List.take_length]⟩⟩
  rw [if_neg ha3]
  unfold save4
  rw [if_neg (by simp)]
  exact go_last hp h0 h1 body _ _ kp
end Go.Proofs.YtmpdmejlpicdlaaDoor

/- Joined: SnapQ, SnapQb. -/
import Derived.Test.YtmpdmejlpicdlaaDoorSnapP
/- SnapLoses, plainly: what a Save leaves in which the power may go, what is loaded then, and that it goes on. -/
namespace Go.Proofs.YtmpdmejlpicdlaaDoor
open Go.RowKit Go.Bw Go.Maps
set_option linter.unusedVariables false
set_option linter.unusedSimpArgs false

theorem dig_before : ∀ k m n, m % 10 ^ k < n % 10 ^ k → bytesBefore (dig k m) (dig k n) = true
  | 0, m, n, h => by simp [Nat.mod_one] at h
  | j + 1, m, n, h => by
    rw [dig_front, dig_front]
    rw [Nat.mod_pow_succ, Nat.mod_pow_succ] at h
    have hm : m / 10 ^ j % 10 < 10 := Nat.mod_lt _ (by decide)
    have hn : n / 10 ^ j % 10 < 10 := Nat.mod_lt _ (by decide)
    have hmj : m % 10 ^ j < 10 ^ j := Nat.mod_lt _ (Nat.pow_pos (by decide))
    have hnj : n % 10 ^ j < 10 ^ j := Nat.mod_lt _ (Nat.pow_pos (by decide))
    generalize m / 10 ^ j % 10 = a at *
    generalize n / 10 ^ j % 10 = b at *
    have hlt : UInt8.ofNat (48 + a) < UInt8.ofNat (48 + b) ↔ a < b := by
      rw [UInt8.lt_iff_toNat_lt, UInt8.toNat_ofNat', UInt8.toNat_ofNat']; omega
    have heq : UInt8.ofNat (48 + a) = UInt8.ofNat (48 + b) ↔ a = b := by
      constructor
      · intro e
        have := congrArg UInt8.toNat e
        rw [UInt8.toNat_ofNat', UInt8.toNat_ofNat'] at this; omega
      · intro e; rw [e]
    by_cases hab : a = b
    · subst hab
      have := dig_before j m n (by omega)
      unfold bytesBefore
      simp [this]
    · have hab2 : a < b := by
        rcases Nat.lt_or_gt_of_ne hab with h1 | h1
        · exact h1
        · exfalso
          have : 10 ^ j * (b + 1) ≤ 10 ^ j * a := Nat.mul_le_mul_left _ h1
          rw [Nat.mul_add, Nat.mul_one] at this
          omega
      show (decide (UInt8.ofNat (48 + a) < UInt8.ofNat (48 + b)) || _) = true
      rw [decide_eq_true (hlt.2 hab2)]; rfl
theorem nm9_before {c : UInt8} {m n : Int} (h0 : 0 ≤ m) (h : m < n) (h1 : n ≤ 999999999) : bytesBefore (nm9 c 0 m) (nm9 c 0 n) = true := by
  unfold nm9
  rw [if_neg (by omega), if_neg (by omega)]
  have := dig_before 9 m.toNat n.toNat (by rw [Nat.mod_eq_of_lt (by omega), Nat.mod_eq_of_lt (by omega)]; omega)
  unfold bytesBefore
  simp [this]

theorem nm_form {n : Int} (h0 : 0 ≤ n) (h1 : n ≤ 999999999) : nm9 115 0 n = 115 :: dig 9 n.toNat := by
  unfold nm9; rw [if_neg (by omega)]
theorem nm_ne {n : Int} (h0 : 0 ≤ n) (h1 : n ≤ 999999999) : nm9 115 0 n ≠ [] := by rw [nm_form h0 h1]; simp
theorem nm_ne_draft {n : Int} (h0 : 0 ≤ n) (h1 : n ≤ 999999999) : nm9 115 0 n ≠ draft := by
  rw [nm_form h0 h1]; intro e; injection e with e1 _; cases e1
theorem draft_before {n : Int} (h0 : 0 ≤ n) (h1 : n ≤ 999999999) : bytesBefore draft (nm9 115 0 n) = true := by
  rw [nm_form h0 h1]; rfl
theorem nm_named {n : Int} (h0 : 0 ≤ n) (h1 : n ≤ 999999999) : namedB (nm9 115 0 n) = true := by
  have := nm9_length (nm_ne h0 h1)
  unfold namedB; rw [this]; decide
theorem nm_no {n : Int} (h0 : 0 ≤ n) (h1 : n ≤ 999999999) : snapNo (nm9 115 0 n) = n := num9_nm9 (Int.le_refl 0) h0 h1

/-- A snapshot's file. -/
def entry (n : Int) (body : List Int) : Nm × Cont := (nm9 115 0 n, ⟨encode n body, []⟩)
def last1 : Option (Int × List Int) → List (Nm × Cont)
  | none => []
  | some q => [entry q.1 q.2]
def Good (p : Option (Int × List Int)) (n : Int) : Prop := ∀ q, p = some q → 0 ≤ q.1 ∧ q.1 < n ∧ q.2.length ≤ 262144
structure Snug (A : ADsk) (p : Option (Int × List Int)) : Prop where
  files : A.files = last1 p
  on : A.off = false
  room : A.room = 2097152

theorem last_draft {p : Option (Int × List Int)} {n : Int} (hp : Good p n) (h1 : n ≤ 999999999) : lookF (last1 p) draft = none := by
  cases p with
  | none => rfl
  | some q =>
    obtain ⟨a, b, _⟩ := hp q rfl
    have := nm_ne_draft (n := q.1) a (by omega)
    unfold last1 lookF entry
    simp [this]
theorem last_total {p : Option (Int × List Int)} {n : Int} (hp : Good p n) : total (last1 p) ≤ 262156 := by
  cases p with
  | none => simp [last1, total]
  | some q =>
    obtain ⟨_, _, c⟩ := hp q rfl
    have := encode_length q.1 q.2
    simp [last1, total, entry, Cont.len]; omega
theorem last_drop {p : Option (Int × List Int)} {n : Int} (hp : Good p n) (h1 : n ≤ 999999999) : drop (last1 p) draft = last1 p := by
  cases p with
  | none => rfl
  | some q =>
    obtain ⟨a, b, _⟩ := hp q rfl
    have := nm_ne_draft (n := q.1) a (by omega)
    unfold last1 drop entry
    simp [this]
theorem last_put {p : Option (Int × List Int)} {n : Int} (hp : Good p n) (h1 : n ≤ 999999999) (c : Cont) : put (last1 p) draft c = (draft, c) :: last1 p := by
  unfold put
  rw [last_drop hp h1]
  cases p with
  | none => rfl
  | some q =>
    obtain ⟨a, b, _⟩ := hp q rfl
    unfold last1 ins entry
    simp [draft_before (n := q.1) a (by omega)]
theorem last_new {p : Option (Int × List Int)} {n : Int} (hp : Good p n) (h1 : n ≤ 999999999) (c : Cont) : put (last1 p) (nm9 115 0 n) c = last1 p ++ [(nm9 115 0 n, c)] := by
  cases p with
  | none => rfl
  | some q =>
    obtain ⟨a, b, _⟩ := hp q rfl
    have hb := nm9_before (c := 115) a b h1
    have hn := before_ne hb
    have hb2 : bytesBefore (nm9 115 0 n) (nm9 115 0 q.1) = false := by
      cases hh : bytesBefore (nm9 115 0 n) (nm9 115 0 q.1) with
      | false => rfl
      | true => have := WideShapes.bytes_trans _ _ _ hb hh; rw [before_irrefl] at this; cases this
    unfold put drop last1 entry
    simp [hn, ins, hb2]
theorem last_lost (p : Option (Int × List Int)) (k : Int) : (last1 p).map (fun f => (f.1, ADsk.lost k f.2)) = last1 p := by
  cases p with
  | none => rfl
  | some q => simp [last1, entry, ADsk.lost]
theorem last_onFile {p : Option (Int × List Int)} {n : Int} (hp : Good p n) (h1 : n ≤ 999999999) (g : Cont → Cont) : ADsk.onFile draft g (last1 p) = last1 p := by
  cases p with
  | none => rfl
  | some q =>
    obtain ⟨a, b, _⟩ := hp q rfl
    have := nm_ne_draft (n := q.1) a (by omega)
    simp [last1, entry, ADsk.onFile, this]
theorem last_len (p : Option (Int × List Int)) : (last1 p).length ≤ 1 := by cases p <;> simp [last1]

section steps
variable {p : Option (Int × List Int)} {n : Int} (hp : Good p n) (h0 : 0 ≤ n) (h1 : n ≤ 999999999) (wr ar kp : Int)
include hp h1
theorem st_read : (⟨last1 p, 2097152, false, wr, ar, kp⟩ : ADsk).read draft = ([], 21) := by
  have := last_draft hp h1
  simp [ADsk.read, ADsk.there, ADsk.ready, namedB, this]
theorem st_append (E : List Int) (hE : E.length ≤ 262156) : (⟨last1 p, 2097152, false, wr, ar, kp⟩ : ADsk).append draft E =
    if ar = 1 then (⟨(draft, ⟨E.take kp.toNat, []⟩) :: last1 p, 2097152, true, RowKit.wrap64 (wr + 1), 0, kp⟩, 20)
    else (⟨(draft, ⟨[], E⟩) :: last1 p, 2097152, false, RowKit.wrap64 (wr + 1), (if ar = 0 then 0 else ar - 1), kp⟩, 0) := by
  have e1 := last_draft hp h1
  have e2 := last_total hp
  have e3 := last_put hp h1 ⟨[], E⟩
  have e4 := last_lost p kp
  simp only [ADsk.lost] at e4
  have e5 := last_len p
  have f1 : ¬ (E.length > 1048576) := by omega
  have f2 : ¬ ((2097152 : Int) < ((total (last1 p) + E.length : Nat) : Int)) := by omega
  have f3 : ¬ (16 ≤ (last1 p).length) := by omega
  unfold ADsk.append
  rw [if_neg (show ¬ ((⟨last1 p, 2097152, false, wr, ar, kp⟩ : ADsk).ready draft ≠ 0) from by simp [ADsk.ready, namedB])]
  simp only [e1, Option.getD_none, Option.isNone_none, true_and]
  rw [if_neg (by simp [Cont.len]; omega), if_neg (by intro h; rcases h with h | h; exact f3 h; exact f2 h)]
  rw [show put (last1 p) draft ⟨([] : List Int), [] ++ E⟩ = (draft, ⟨[], E⟩) :: last1 p from e3]
  by_cases ha : ar = 1
  · rw [if_pos ha, if_pos ha]
    simp [ADsk.goesOff, ADsk.armed, ADsk.lost, e4, ha]
  · rw [if_neg ha, if_neg ha]
    rfl
theorem st_sync (E : List Int) : (⟨(draft, ⟨[], E⟩) :: last1 p, 2097152, false, wr, ar, kp⟩ : ADsk).sync draft =
    if ar = 1 then (⟨(draft, ⟨E.take kp.toNat, []⟩) :: last1 p, 2097152, true, RowKit.wrap64 (wr + 1), 0, kp⟩, 20)
    else (⟨(draft, ⟨E, []⟩) :: last1 p, 2097152, false, RowKit.wrap64 (wr + 1), (if ar = 0 then 0 else ar - 1), kp⟩, 0) := by
  have e4 := last_lost p kp
  simp only [ADsk.lost] at e4
  have e5 := last_onFile hp h1 (fun c => ⟨c.safe ++ c.wait, []⟩)
  unfold ADsk.sync
  rw [if_neg (by simp [ADsk.there, ADsk.ready, namedB, lookF])]
  unfold ADsk.does
  by_cases ha : ar = 1
  · rw [if_pos ha, if_pos ha]
    simp [ADsk.goesOff, ADsk.armed, ADsk.lost, e4, ha]
  · rw [if_neg ha, if_neg ha]
    rw [show ADsk.onFile draft (fun c => ⟨c.safe ++ c.wait, []⟩) ((draft, (⟨[], E⟩ : Cont)) :: last1 p) = (draft, ⟨E, []⟩) :: last1 p from by
      rw [show ADsk.onFile draft (fun c => ⟨c.safe ++ c.wait, []⟩) ((draft, (⟨[], E⟩ : Cont)) :: last1 p) = (draft, ⟨[] ++ E, []⟩) :: ADsk.onFile draft (fun c => ⟨c.safe ++ c.wait, []⟩) (last1 p) from by simp [ADsk.onFile], e5]; rfl]
    rfl
include h0
theorem st_rename (E : List Int) : (⟨(draft, ⟨E, []⟩) :: last1 p, 2097152, false, wr, ar, kp⟩ : ADsk).rename draft (nm9 115 0 n) =
    if ar = 1 then (⟨(draft, ⟨E, []⟩) :: last1 p, 2097152, true, RowKit.wrap64 (wr + 1), 0, kp⟩, 20)
    else (⟨last1 p ++ [(nm9 115 0 n, ⟨E, []⟩)], 2097152, false, RowKit.wrap64 (wr + 1), (if ar = 0 then 0 else ar - 1), kp⟩, 0) := by
  have e4 := last_lost p kp
  simp only [ADsk.lost] at e4
  have e5 := last_drop hp h1
  have e6 := last_new hp h1 ⟨E, []⟩
  have hth : (⟨(draft, ⟨E, []⟩) :: last1 p, 2097152, false, wr, ar, kp⟩ : ADsk).there draft = 0 := by simp [ADsk.there, ADsk.ready, namedB, lookF]
  unfold ADsk.rename
  rw [hth, if_neg (by decide), nm_named h0 h1, if_neg (by decide), if_neg (by decide)]
  unfold ADsk.does
  by_cases ha : ar = 1
  · rw [if_pos ha, if_pos ha]
    simp [ADsk.goesOff, ADsk.armed, ADsk.lost, e4, ha]
  · rw [if_neg ha, if_neg ha]
    show ((⟨put (drop ((draft, ⟨E, []⟩) :: last1 p) draft) (nm9 115 0 n) _, _, _, _, _, _⟩ : ADsk), (0 : Int)) = _
    rw [show drop ((draft, (⟨E, []⟩ : Cont)) :: last1 p) draft = last1 p from by
      rw [show drop ((draft, (⟨E, []⟩ : Cont)) :: last1 p) draft = drop (last1 p) draft from by simp [drop], e5]]
    rw [show ((lookF ((draft, (⟨E, []⟩ : Cont)) :: last1 p) draft).getD ⟨[], []⟩) = ⟨E, []⟩ from by simp [lookF], e6]
    rfl
end steps

/-- What is there where the power went in a Save. -/
def CutF (p : Option (Int × List Int)) (n : Int) (body : List Int) (F : List (Nm × Cont)) : Prop :=
  (∃ k, F = (draft, ⟨(encode n body).take k, []⟩) :: last1 p) ∨ F = last1 p ++ [entry n body]

theorem go_last {p : Option (Int × List Int)} {n : Int} (hp : Good p n) (h0 : 0 ≤ n) (h1 : n ≤ 999999999) (body : List Int) (wr ar kp : Int) :
    (∃ A', saveGo n ((last1 p ++ [entry n body]).map (·.1)) ⟨last1 p ++ [entry n body], 2097152, false, wr, ar, kp⟩ = (A', 0) ∧ Snug A' (some (n, body))) ∨
    (∃ A', saveGo n ((last1 p ++ [entry n body]).map (·.1)) ⟨last1 p ++ [entry n body], 2097152, false, wr, ar, kp⟩ = (A', 20) ∧ A'.off = true ∧ A'.room = 2097152 ∧ CutF p n body A'.files) := by
  have hn := nm_no h0 h1
  have own : ∀ A : ADsk, saveGo n [nm9 115 0 n] A = (A, 0) := fun A => by unfold saveGo; rw [if_pos (Or.inr hn)]; rfl
  cases p with
  | none =>
    left
    exact ⟨_, own _, ⟨rfl, rfl, rfl⟩⟩
  | some q =>
    obtain ⟨a, b, _⟩ := hp q rfl
    have hq := nm_no (n := q.1) a (by omega)
    have hqn := nm_named (n := q.1) a (by omega)
    have hne := before_ne (nm9_before (c := 115) a b h1)
    have hrm : (⟨last1 (some q) ++ [entry n body], 2097152, false, wr, ar, kp⟩ : ADsk).remove (nm9 115 0 q.1) =
        if ar = 1 then (⟨last1 (some q) ++ [entry n body], 2097152, true, RowKit.wrap64 (wr + 1), 0, kp⟩, 20)
        else (⟨[entry n body], 2097152, false, RowKit.wrap64 (wr + 1), (if ar = 0 then 0 else ar - 1), kp⟩, 0) := by
      unfold ADsk.remove
      rw [if_neg (by simp [ADsk.there, ADsk.ready, hqn, lookF, last1, entry])]
      unfold ADsk.does
      by_cases ha : ar = 1
      · rw [if_pos ha, if_pos ha]
        simp [ADsk.goesOff, ADsk.armed, ADsk.lost, ha, last1, entry]
      · rw [if_neg ha, if_neg ha]
        simp [ADsk.armed, last1, entry, drop, Ne.symm hne]
    show (∃ A', saveGo n [nm9 115 0 q.1, nm9 115 0 n] _ = (A', 0) ∧ _) ∨ (∃ A', saveGo n [nm9 115 0 q.1, nm9 115 0 n] _ = (A', 20) ∧ _)
    have hsk : ¬ (snapNo (nm9 115 0 q.1) < 0 ∨ snapNo (nm9 115 0 q.1) = n) := by rw [hq]; omega
    unfold saveGo
    rw [if_neg hsk, hrm]
    by_cases ha : ar = 1
    · rw [if_pos ha, if_pos (by simp)]
      right
      exact ⟨_, rfl, rfl, rfl, Or.inr rfl⟩
    · rw [if_neg ha, if_neg (by simp)]
      left
      exact ⟨_, own _, ⟨rfl, rfl, rfl⟩⟩

theorem save_snug {A : ADsk} {p : Option (Int × List Int)} {n : Int} {body : List Int} (h : Snug A p) (hp : Good p n) (h0 : 0 ≤ n) (h1 : n ≤ 999999999) (hl : body.length ≤ 262144) :
    (∃ A', saveA A n body = (A', 0) ∧ Snug A' (some (n, body))) ∨
    (∃ A', saveA A n body = (A', 20) ∧ A'.off = true ∧ A'.room = 2097152 ∧ CutF p n body A'.files) := by
  obtain ⟨F, room, off, wr, ar, kp⟩ := A
  obtain ⟨hf, ho, hr⟩ := h
  simp only at hf ho hr
  subst hf; subst ho; subst hr
  have el := encode_length n body
  unfold saveA
  rw [if_neg (nm_ne h0 h1), if_neg (by omega), st_read hp h1]
  simp only [Bool.false_eq_true, if_false]
  rw [if_neg (by decide)]
  unfold save1
  rw [if_neg (by simp), st_append hp h1 wr ar kp (encode n body) (by omega)]
  by_cases ha : ar = 1
  · rw [if_pos ha]
    right
    unfold save2
    rw [if_pos (by simp)]
    exact ⟨_, rfl, rfl, rfl, Or.inl ⟨_, rfl⟩⟩
  rw [if_neg ha]
  unfold save2
  rw [if_neg (by simp), st_sync hp h1]
  generalize (if ar = 0 then 0 else ar - 1) = ar2
  generalize RowKit.wrap64 (wr + 1) = wr2
  by_cases ha2 : ar2 = 1
  · rw [if_pos ha2]
    right
    unfold save3
    rw [if_pos (by simp)]
    exact ⟨_, rfl, rfl, rfl, Or.inl ⟨_, rfl⟩⟩
  rw [if_neg ha2]
  unfold save3
  rw [if_neg (by simp), st_rename hp h0 h1]
  generalize (if ar2 = 0 then 0 else ar2 - 1) = ar3
  generalize RowKit.wrap64 (wr2 + 1) = wr3
  by_cases ha3 : ar3 = 1
  · rw [if_pos ha3]
    right
    unfold save4
    rw [if_pos (by simp)]
    exact ⟨_, rfl, rfl, rfl, Or.inl ⟨(encode n body).length, by rw [List.take_length]⟩⟩
  rw [if_neg ha3]
  unfold save4
  rw [if_neg (by simp)]
  exact go_last hp h0 h1 body _ _ kp
end Go.Proofs.YtmpdmejlpicdlaaDoor
/- SnapLoses, plainly: what is loaded, and that it goes on. -/
namespace Go.Proofs.YtmpdmejlpicdlaaDoor
open Go.RowKit Go.Bw Go.Maps
set_option linter.unusedVariables false
set_option linter.unusedSimpArgs false

def lastOf : Option (Int × List Int) → Int × List Int
  | none => (-1, [])
  | some q => q
theorem load_entry {n : Int} (h0 : 0 ≤ n) (h1 : n ≤ 999999999) {body : List Int} (hl : body.length ≤ 262144) (r : Int × List Int) : loadStep (entry n body) r = (n, body) := by
  unfold loadStep entry Cont.all
  simp only [List.append_nil]
  rw [nm_no h0 h1, if_neg (by omega), decode_self h0 h1 (by omega)]
  simp
theorem load_last {p : Option (Int × List Int)} {n : Int} (hp : Good p n) (h1 : n ≤ 999999999) (r : List (Nm × Cont)) : loadGo (last1 p ++ r) (-1, []) = loadGo r (lastOf p) := by
  cases p with
  | none => rfl
  | some q =>
    obtain ⟨a, b, c⟩ := hp q rfl
    show loadGo r (loadStep (entry q.1 q.2) (-1, [])) = _
    rw [load_entry a (by omega) c]; rfl
theorem load_snug {A : ADsk} {p : Option (Int × List Int)} {n : Int} (h : Snug A p) (hp : Good p n) (h1 : n ≤ 999999999) : loadGo A.files (-1, []) = lastOf p := by
  have := load_last hp h1 []
  rw [List.append_nil] at this
  rw [h.files, this]; rfl
theorem draft_no : snapNo draft = -1 := by decide
theorem load_cut {p : Option (Int × List Int)} {n : Int} (hp : Good p n) (h0 : 0 ≤ n) (h1 : n ≤ 999999999) {body : List Int} (hl : body.length ≤ 262144) {F : List (Nm × Cont)} (h : CutF p n body F) :
    loadGo F (-1, []) = lastOf p ∨ loadGo F (-1, []) = (n, body) := by
  rcases h with ⟨k, rfl⟩ | rfl
  · left
    have := load_last hp h1 []
    rw [List.append_nil] at this
    show loadGo (last1 p) (loadStep (draft, _) (-1, [])) = _
    rw [show loadStep (draft, (⟨(encode n body).take k, []⟩ : Cont)) (-1, []) = (-1, []) from by
      unfold loadStep; rw [if_pos (show snapNo draft < 0 from by rw [draft_no]; decide)], this]; rfl
  · right
    rw [load_last hp h1]
    show loadStep (entry n body) _ = _
    exact load_entry h0 h1 hl _
def BytesO (p : Option (Int × List Int)) : Prop := ∀ q, p = some q → Bytes q.2
theorem bytes_last {p : Option (Int × List Int)} (h : BytesO p) : BytesF (last1 p) := by
  cases p with
  | none => intro f hf; cases hf
  | some q =>
    intro f hf
    rcases List.mem_singleton.1 hf with rfl
    show Bytes (encode q.1 q.2 ++ [])
    rw [List.append_nil]; exact encode_bytes (h q rfl)
theorem bytes_cut {p : Option (Int × List Int)} {n : Int} {body : List Int} (h : BytesO p) (hb : Bytes body) {F : List (Nm × Cont)} (hc : CutF p n body F) : BytesF F := by
  rcases hc with ⟨k, rfl⟩ | rfl
  · intro f hf
    rcases List.mem_cons.1 hf with rfl | hf
    · show Bytes ((encode n body).take k ++ [])
      rw [List.append_nil]
      exact fun x hx => encode_bytes hb x (List.mem_of_mem_take hx)
    · exact bytes_last h f hf
  · intro f hf
    rcases List.mem_append.1 hf with hf | hf
    · exact bytes_last h f hf
    · rcases List.mem_singleton.1 hf with rfl
      show Bytes (encode n body ++ [])
      rw [List.append_nil]; exact encode_bytes hb

/-! ### It goes on -/
theorem look_drop_ne {F : List (Nm × Cont)} {n x : Nm} (h : x ≠ n) : lookF (drop F n) x = lookF F x := by
  induction F with
  | nil => rfl
  | cons y r ih =>
    by_cases hy : y.1 = n
    · have e1 : drop (y :: r) n = drop r n := by simp [drop, hy]
      rw [e1, ih]
      unfold lookF
      rw [List.find?_cons]
      have : (y.1 == x) = false := by rw [hy]; simpa using Ne.symm h
      rw [this]
    · have e1 : drop (y :: r) n = y :: drop r n := by simp [drop, hy]
      rw [e1]
      unfold lookF at ih ⊢
      rw [List.find?_cons, List.find?_cons]
      cases hh : (y.1 == x) with
      | true => rfl
      | false => exact ih
theorem look_drop_self (F : List (Nm × Cont)) (n : Nm) : lookF (drop F n) n = none := by
  unfold lookF
  rw [List.find?_eq_none.2 (fun p hp => by have := (mem_drop.1 hp).2; simpa using this)]; rfl
theorem remove_ok {A : ADsk} {n : Nm} (ho : A.off = false) (ha : A.ar = 0) (hn : namedB n = true) (hf : lookF A.files n ≠ none) :
    ∃ A', A.remove n = (A', 0) ∧ A'.off = false ∧ A'.ar = 0 ∧ A'.files = drop A.files n ∧ A'.room = A.room := by
  have h1 : A.there n = 0 := by
    cases hl : lookF A.files n with
    | none => exact absurd hl hf
    | some c => simp [ADsk.there, ADsk.ready, hn, ho, hl]
  unfold ADsk.remove
  rw [if_neg (by rw [h1]; simp)]
  unfold ADsk.does
  rw [if_neg (by omega)]
  exact ⟨_, rfl, ho, by simp [ADsk.armed, ha], rfl, rfl⟩
theorem saveGo_ok (n : Int) : ∀ (l : List Nm) (A : ADsk), A.off = false → A.ar = 0 → l.Nodup → (∀ x ∈ l, lookF A.files x ≠ none ∧ namedB x = true) →
    ∃ A', saveGo n l A = (A', 0) ∧ A'.off = false ∧ (∀ f ∈ A'.files, f ∈ A.files) ∧ (∀ f ∈ A.files, snapNo f.1 < 0 ∨ snapNo f.1 = n → f ∈ A'.files) ∧ (∀ f ∈ A'.files, f.1 ∈ l → snapNo f.1 < 0 ∨ snapNo f.1 = n) ∧ A'.files.Sublist A.files
  | [], A, ho, _, _, _ => ⟨A, rfl, ho, fun _ h => h, fun _ h _ => h, (fun _ _ h => by cases h), List.Sublist.refl _⟩
  | x :: r, A, ho, ha, hd, hf => by
    obtain ⟨hx, hr⟩ := List.nodup_cons.1 hd
    unfold saveGo
    split
    · rename_i hs
      obtain ⟨A', h1, h2, h3, h4, h5, h6⟩ := saveGo_ok n r A ho ha hr (fun y hy => hf y (by simp [hy]))
      refine ⟨A', h1, h2, h3, h4, fun f hf' hl => ?_, h6⟩
      rcases List.mem_cons.1 hl with e | hl
      · rw [e]; exact hs
      · exact h5 f hf' hl
    · rename_i hs
      obtain ⟨A1, g1, g2, g3, g4, _⟩ := remove_ok ho ha (hf x (by simp)).2 (hf x (by simp)).1
      rw [g1, if_neg (by simp)]
      obtain ⟨A', h1, h2, h3, h4, h5, h6⟩ := saveGo_ok n r A1 g2 g3 hr (fun y hy => by
        rw [g4, look_drop_ne (fun e => hx (by rw [← e]; exact hy))]
        exact hf y (by simp [hy]))
      rw [g4] at h3 h4 h6
      refine ⟨A', h1, h2, fun f hf' => (mem_drop.1 (h3 f hf')).1, fun f hf' hc => h4 f (mem_drop.2 ⟨hf', fun e => hs (by rw [← e]; exact hc)⟩) hc, fun f hf' hl => ?_, h6.trans List.filter_sublist⟩
      rcases List.mem_cons.1 hl with e | hl
      · exact absurd e (mem_drop.1 (h3 f hf')).2
      · exact h5 f hf' hl
/-- Where all files but one are no snapshots. -/
theorem load_only {n : Int} (h0 : 0 ≤ n) (h1 : n ≤ 999999999) {body : List Int} (hl : body.length ≤ 262144) : ∀ (F : List (Nm × Cont)) (r : Int × List Int), (∀ f ∈ F, snapNo f.1 < 0 ∨ f = entry n body) → (entry n body ∈ F ∨ r = (n, body)) → loadGo F r = (n, body)
  | [], r, _, h => by
    rcases h with h | h
    · cases h
    · exact h
  | f :: F, r, hf, h => by
    show loadGo F (loadStep f r) = _
    refine load_only h0 h1 hl F _ (fun g hg => hf g (by simp [hg])) ?_
    rcases hf f (by simp) with hs | rfl
    · have e : loadStep f r = r := by unfold loadStep; rw [if_pos hs]
      rw [e]
      rcases h with h | h
      · rcases List.mem_cons.1 h with e2 | h
        · rw [← e2] at hs
          have := nm_no h0 h1
          unfold entry at hs
          simp only at hs
          omega
        · exact Or.inl h
      · exact Or.inr h
    · right; exact load_entry h0 h1 hl _
theorem total_drop_le (F : List (Nm × Cont)) (n : Nm) : total (drop F n) ≤ total F := by
  induction F with
  | nil => exact Nat.le_refl _
  | cons y r ih =>
    by_cases hy : y.1 = n
    · have e1 : drop (y :: r) n = drop r n := by simp [drop, hy]
      rw [e1]; simp only [total, List.map_cons, List.sum_cons] at ih ⊢; omega
    · have e1 : drop (y :: r) n = y :: drop r n := by simp [drop, hy]
      rw [e1]; simp only [total, List.map_cons, List.sum_cons] at ih ⊢; omega
theorem rising_names {F : List (Nm × Cont)} (h : Rising F) : (F.map (·.1)).Nodup := by
  unfold List.Nodup
  rw [List.pairwise_map]
  exact h.imp (fun hb => before_ne hb)
theorem rising_onFile {F : List (Nm × Cont)} (h : Rising F) (n : Nm) (g : Cont → Cont) : Rising (ADsk.onFile n g F) := by
  unfold Rising ADsk.onFile
  rw [List.pairwise_map]
  refine h.imp (fun {a b} hb => ?_)
  have f : ∀ p : Nm × Cont, (if p.1 = n then (p.1, g p.2) else p).1 = p.1 := fun p => by split <;> rfl
  rw [f, f]; exact hb
theorem save_ok {A : ADsk} {n : Int} {body : List Int} (h0 : 0 ≤ n) (h1 : n ≤ 999999999) (hl : body.length ≤ 1048564) (ho : A.off = false) (ha : A.ar = 0) (hr : Rising A.files) (hn : ∀ p ∈ A.files, namedB p.1 = true)
    (hf : A.files.length ≤ 15) (ht : ((total A.files + (body.length + 12) : Nat) : Int) ≤ A.room) (hl2 : body.length ≤ 262144) (hall : ∀ f ∈ A.files, f.1 = draft ∨ 0 ≤ snapNo f.1) :
    ∃ A', saveA A n body = (A', 0) ∧ A'.off = false ∧ A'.files = [entry n body] := by
  have el := encode_length n body
  have dn : namedB draft = true := rfl
  unfold saveA
  rw [if_neg (nm_ne h0 h1), if_neg (by omega), ho]
  simp only [Bool.false_eq_true, if_false]
  have start : ∃ A1, (if (A.read draft).2 = 0 then A.remove draft else (A, 0)) = (A1, 0) ∧ A1.off = false ∧ A1.ar = 0 ∧ A1.room = A.room ∧ A1.files = drop A.files draft := by
    cases hd : lookF A.files draft with
    | none =>
      have e : A.read draft = ([], 21) := by simp [ADsk.read, ADsk.there, ADsk.ready, dn, ho, hd]
      rw [e, if_neg (by simp)]
      refine ⟨A, rfl, ho, ha, rfl, ?_⟩
      have := look_none hd
      unfold drop
      rw [List.filter_eq_self.2 (fun p hp => by simpa using this p hp)]
    | some c =>
      have e : (A.read draft).2 = 0 := by simp [ADsk.read, ADsk.there, ADsk.ready, dn, ho, hd]
      rw [if_pos e]
      obtain ⟨A', g1, g2, g3, g4, g5⟩ := remove_ok ho ha dn (by rw [hd]; simp)
      exact ⟨A', g1, g2, g3, g5, g4⟩
  obtain ⟨A1, e1, o1, a1, r1, f1⟩ := start
  rw [e1]
  unfold save1
  rw [if_neg (by simp)]
  have t1 : total A1.files ≤ total A.files := by rw [f1]; exact total_drop_le _ _
  have l1 : A1.files.length ≤ 15 := by rw [f1]; exact Nat.le_trans (List.length_filter_le _ _) hf
  have k1 : lookF A1.files draft = none := by rw [f1]; exact look_drop_self _ _
  have s1 : Rising A1.files := by rw [f1]; exact rising_drop hr _
  have n1 : ∀ p ∈ A1.files, namedB p.1 = true := fun p hp => by rw [f1] at hp; exact hn p (mem_drop.1 hp).1
  have app : ∃ A2, A1.append draft (encode n body) = (A2, 0) ∧ A2.off = false ∧ A2.ar = 0 ∧ A2.files = put A1.files draft ⟨[], encode n body⟩ := by
    unfold ADsk.append
    rw [if_neg (by simp [ADsk.ready, dn, o1])]
    simp only [k1, Option.getD_none, Option.isNone_none, true_and]
    rw [if_neg (by simp [Cont.len]; omega), if_neg (by intro h; rcases h with h | h; omega; rw [r1] at h; omega), if_neg (by omega)]
    exact ⟨_, rfl, o1, by simp [ADsk.armed, a1], rfl⟩
  obtain ⟨A2, e2, o2, a2, f2⟩ := app
  rw [e2]
  unfold save2
  rw [if_neg (by simp)]
  have s2 : Rising A2.files := by rw [f2]; exact rising_put s1 _ _
  have m2 : (draft, (⟨[], encode n body⟩ : Cont)) ∈ A2.files := by rw [f2]; exact mem_ins.2 (Or.inl rfl)
  have k2 : lookF A2.files draft = some ⟨[], encode n body⟩ := look_of_mem s2 m2
  have n2 : ∀ p ∈ A2.files, namedB p.1 = true := fun p hp => by
    rw [f2] at hp
    rcases mem_ins.1 hp with rfl | hp
    · exact dn
    · exact n1 p (mem_drop.1 hp).1
  have sy : ∃ A3, A2.sync draft = (A3, 0) ∧ A3.off = false ∧ A3.ar = 0 ∧ A3.files = ADsk.onFile draft (fun c => ⟨c.safe ++ c.wait, []⟩) A2.files := by
    unfold ADsk.sync
    rw [if_neg (by simp [ADsk.there, ADsk.ready, dn, o2, k2])]
    unfold ADsk.does
    rw [if_neg (by omega)]
    exact ⟨_, rfl, o2, by simp [ADsk.armed, a2], rfl⟩
  obtain ⟨A3, e3, o3, a3, f3⟩ := sy
  rw [e3]
  unfold save3
  rw [if_neg (by simp)]
  have s3 : Rising A3.files := by rw [f3]; exact rising_onFile s2 _ _
  have m3 : (draft, (⟨encode n body, []⟩ : Cont)) ∈ A3.files := by
    rw [f3]
    exact List.mem_map.2 ⟨_, m2, by simp⟩
  have k3 : lookF A3.files draft = some ⟨encode n body, []⟩ := look_of_mem s3 m3
  have n3 : ∀ p ∈ A3.files, namedB p.1 = true := fun p hp => by
    rw [f3] at hp
    obtain ⟨q, hq, rfl⟩ := List.mem_map.1 hp
    have := n2 q hq
    split <;> exact this
  have rn : ∃ A4, A3.rename draft (nm9 115 0 n) = (A4, 0) ∧ A4.off = false ∧ A4.ar = 0 ∧ A4.files = put (drop A3.files draft) (nm9 115 0 n) ⟨encode n body, []⟩ := by
    have hth : A3.there draft = 0 := by simp [ADsk.there, ADsk.ready, dn, o3, k3]
    unfold ADsk.rename
    rw [hth, if_neg (by decide), nm_named h0 h1, if_neg (by decide), if_neg (by decide)]
    unfold ADsk.does
    rw [if_neg (by omega), k3]
    exact ⟨_, rfl, o3, by simp [ADsk.armed, a3], rfl⟩
  obtain ⟨A4, e4, o4, a4, f4⟩ := rn
  rw [e4]
  unfold save4
  rw [if_neg (by simp)]
  have s4 : Rising A4.files := by rw [f4]; exact rising_put (rising_drop s3 _) _ _
  have n4 : ∀ p ∈ A4.files, namedB p.1 = true := fun p hp => by
    rw [f4] at hp
    rcases mem_ins.1 hp with rfl | hp
    · exact nm_named h0 h1
    · exact n3 p (mem_drop.1 (mem_drop.1 hp).1).1
  have hnm : A4.names = A4.files.map (·.1) := by unfold ADsk.names; rw [o4]; rfl
  rw [hnm]
  obtain ⟨A', g1, g2, g3, g4, g5, g6⟩ := saveGo_ok n (A4.files.map (·.1)) A4 o4 a4 (rising_names s4) (fun x hx => by
    obtain ⟨q, hq, rfl⟩ := List.mem_map.1 hx
    exact ⟨by rw [look_of_mem s4 hq]; simp, n4 q hq⟩)
  have hm : entry n body ∈ A4.files := by rw [f4]; exact mem_ins.2 (Or.inl rfl)
  have only : ∀ f ∈ A'.files, f = entry n body := fun f hf' => by
    have h4 := g3 f hf'
    have hs := g5 f hf' (List.mem_map.2 ⟨f, h4, rfl⟩)
    rw [f4] at h4
    rcases mem_ins.1 h4 with rfl | h4
    · rfl
    · exfalso
      obtain ⟨h5a, h5b⟩ := mem_drop.1 h4
      obtain ⟨h5, h6⟩ := mem_drop.1 h5a
      rw [f3] at h5
      obtain ⟨q, hq, hqe⟩ := List.mem_map.1 h5
      have hq1 : f.1 = q.1 := by rw [← hqe]; split <;> rfl
      rw [hq1] at hs h6 h5b
      rw [f2] at hq
      rcases mem_ins.1 hq with rfl | hq
      · exact h6 rfl
      · have h7 := (mem_drop.1 hq).1
        rw [f1] at h7
        have h8 := hall q (mem_drop.1 h7).1
        rcases hs with hs | hs
        · rcases h8 with h8 | h8
          · exact h6 h8
          · omega
        · have hne : num9 115 0 (-1) q.1 ≠ -1 := by
            show snapNo q.1 ≠ -1
            rw [hs]; omega
          have := (nm9_num9 hne).1
          apply h5b
          rw [← this]; congr 1
  have hin := g4 _ hm (Or.inr (nm_no h0 h1))
  have hnd : A'.files.Nodup := by
    have h9 : Rising A'.files := List.Pairwise.sublist g6 s4
    unfold List.Nodup
    exact h9.imp (fun hb e => by rw [e, before_irrefl] at hb; cases hb)
  refine ⟨A', g1, g2, ?_⟩
  cases hA : A'.files with
  | nil => rw [hA] at hin; cases hin
  | cons x r =>
    rw [hA] at only hnd
    have hx := only x (by simp)
    cases r with
    | nil => rw [hx]
    | cons y r =>
      have hy := only y (by simp)
      have := (List.nodup_cons.1 hnd).1
      exact absurd (by rw [hx, hy]; simp) this

structure Few (F : List (Nm × Cont)) : Prop where
  len : F.length ≤ 2
  tot : total F ≤ 524312
  all : ∀ f ∈ F, f.1 = draft ∨ 0 ≤ snapNo f.1
theorem few_last {p : Option (Int × List Int)} {n : Int} (hp : Good p n) (h1 : n ≤ 999999999) : Few (last1 p) := by
  refine ⟨by have := last_len p; omega, by have := last_total hp; omega, fun f hf => ?_⟩
  cases p with
  | none => cases hf
  | some q =>
    obtain ⟨a, b, _⟩ := hp q rfl
    rcases List.mem_singleton.1 hf with rfl
    right
    show 0 ≤ snapNo (nm9 115 0 q.1)
    rw [nm_no a (by omega)]; exact a
theorem few_cut {p : Option (Int × List Int)} {n : Int} (hp : Good p n) (h0 : 0 ≤ n) (h1 : n ≤ 999999999) {body : List Int} (hl : body.length ≤ 262144) {F : List (Nm × Cont)} (h : CutF p n body F) : Few F := by
  have hL := few_last hp h1
  have h3 := last_total hp
  have h4 := last_len p
  have el := encode_length n body
  rcases h with ⟨k, rfl⟩ | rfl
  · refine ⟨by simp; omega, ?_, fun f hf => ?_⟩
    · have : total ((draft, (⟨(encode n body).take k, []⟩ : Cont)) :: last1 p) = ((encode n body).take k).length + total (last1 p) := by simp [total, Cont.len]
      rw [this, List.length_take]; omega
    · rcases List.mem_cons.1 hf with rfl | hf
      · exact Or.inl rfl
      · exact hL.all f hf
  · refine ⟨by simp; omega, ?_, fun f hf => ?_⟩
    · have : total (last1 p ++ [entry n body]) = total (last1 p) + (encode n body).length := by simp [total, Cont.len, entry]
      rw [this]; omega
    · rcases List.mem_append.1 hf with hf | hf
      · exact hL.all f hf
      · rcases List.mem_singleton.1 hf with rfl
        right
        show 0 ≤ snapNo (nm9 115 0 n)
        rw [nm_no h0 h1]; exact h0
end Go.Proofs.YtmpdmejlpicdlaaDoor

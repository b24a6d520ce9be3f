/- What the simulated disk does, as plain functions on lists; and the lists of files by rising names. No program is named. -/
import Derived.Maps.Views
import Derived.WideAt
import Derived.IntWalk
import Derived.RowKit
namespace Go.Bw

abbrev Nm := List UInt8

section
variable {α : Type}
/-- a file's place is by its name: what is known of the file of this name. -/
def lookF (F : List (Nm × α)) (n : Nm) : Option α := (F.find? (fun p => p.1 == n)).map (·.2)
def ins (x : Nm × α) : List (Nm × α) → List (Nm × α)
  | [] => [x]
  | y :: r => if bytesBefore x.1 y.1 then x :: y :: r else y :: ins x r
def drop (F : List (Nm × α)) (n : Nm) : List (Nm × α) := F.filter (fun p => !(p.1 == n))
def put (F : List (Nm × α)) (n : Nm) (x : α) : List (Nm × α) := ins (n, x) (drop F n)
def Rising (F : List (Nm × α)) : Prop := F.Pairwise (fun p q => bytesBefore p.1 q.1 = true)
end

/-- Bytes that are safe, bytes that wait. -/
structure Cont where
  safe : List Int
  wait : List Int

structure ADsk where
  files : List (Nm × Cont)
  room : Int
  off : Bool
  wr : Int
  ar : Int
  kp : Int

def Cont.len (c : Cont) : Nat := c.safe.length + c.wait.length
def total (F : List (Nm × Cont)) : Nat := (F.map (fun p => p.2.len)).sum
def namedB (n : Nm) : Bool := decide (1 ≤ n.length ∧ n.length ≤ 16)

namespace ADsk
def ready (A : ADsk) (n : Nm) : Int := if namedB n = false then 1 else if A.off then 20 else 0
def lost (keep : Int) (c : Cont) : Cont := ⟨c.safe ++ c.wait.take keep.toNat, []⟩
def goesOff (A : ADsk) (keep : Int) : ADsk :=
  if A.off then A else { A with files := A.files.map (fun p => (p.1, lost keep p.2)), off := true, ar := 0 }
def armed (A : ADsk) : ADsk := { A with wr := RowKit.wrap64 (A.wr + 1), ar := if A.ar = 0 then 0 else A.ar - 1 }
/-- behind a raw write: the disk with the write counted, f being what it does (done first where the write is an Append's). -/
def raw (A : ADsk) : ADsk × Bool := (A.armed, A.ar == 1)
def append (A : ADsk) (n : Nm) (b : List Int) : ADsk × Int :=
  if A.ready n ≠ 0 then (A, A.ready n) else
  let c := (lookF A.files n).getD ⟨[], []⟩
  if c.len + b.length > 1048576 then (A, 3) else
  if ((lookF A.files n).isNone = true ∧ 16 ≤ A.files.length) ∨ A.room < ((total A.files + b.length : Nat) : Int) then (A, 22) else
  let A1 : ADsk := { A with files := put A.files n ⟨c.safe, c.wait ++ b⟩ }
  if A.ar = 1 then (A1.armed.goesOff A.kp, 20) else (A1.armed, 0)
def there (A : ADsk) (n : Nm) : Int := if A.ready n ≠ 0 then A.ready n else if (lookF A.files n).isNone then 21 else 0
/-- Sync, Truncate, Rename, Remove: what is done where the write is not the armed one. -/
def does (A : ADsk) (f : List (Nm × Cont) → List (Nm × Cont)) : ADsk × Int :=
  if A.ar = 1 then (A.armed.goesOff A.kp, 20) else ({ A.armed with files := f A.files }, 0)
def onFile (n : Nm) (g : Cont → Cont) (F : List (Nm × Cont)) : List (Nm × Cont) := F.map (fun p => if p.1 = n then (p.1, g p.2) else p)
def sync (A : ADsk) (n : Nm) : ADsk × Int :=
  if A.there n ≠ 0 then (A, A.there n) else A.does (onFile n (fun c => ⟨c.safe ++ c.wait, []⟩))
def trunc (A : ADsk) (n : Nm) (k : Int) : ADsk × Int :=
  if A.there n ≠ 0 then (A, A.there n) else
  let c := (lookF A.files n).getD ⟨[], []⟩
  if k < 0 ∨ (c.len : Int) < k then (A, 3) else A.does (onFile n (fun c => ⟨c.safe.take k.toNat, c.wait.take (k.toNat - c.safe.length)⟩))
def rename (A : ADsk) (n to : Nm) : ADsk × Int :=
  if A.there n = 1 then (A, 1) else if namedB to = false then (A, 1) else if A.there n ≠ 0 then (A, A.there n) else
  let c := (lookF A.files n).getD ⟨[], []⟩
  A.does (fun F => put (drop F n) to c)
def remove (A : ADsk) (n : Nm) : ADsk × Int :=
  if A.there n ≠ 0 then (A, A.there n) else A.does (fun F => drop F n)
def read (A : ADsk) (n : Nm) : List Int × Int :=
  if A.there n ≠ 0 then ([], A.there n) else ((fun c : Cont => (c.safe ++ c.wait, 0)) ((lookF A.files n).getD ⟨[], []⟩))
def names (A : ADsk) : List Nm := if A.off then [] else A.files.map (·.1)
def arm (A : ADsk) (n keep : Int) : ADsk := { A with ar := max n 0, kp := keep }
def new (room : Int) : ADsk := ⟨[], room, false, 0, 0, 0⟩
/-- What every disk is. -/
structure Ok (A : ADsk) : Prop where
  few : A.files.length ≤ 16
  small : ∀ p ∈ A.files, p.2.len ≤ 1048576
  rising : Rising A.files
  ar0 : 0 ≤ A.ar
  ar1 : A.ar ≤ 9223372036854775807
  names : ∀ p ∈ A.files, namedB p.1 = true
  kp0 : -9223372036854775808 ≤ A.kp
  kp1 : A.kp ≤ 9223372036854775807
end ADsk

/-! ### The lists by rising names -/
section
variable {α : Type}
theorem before_irrefl (n : Nm) : bytesBefore n n = false := WideAt.bytes_irrefl n
theorem before_ne {a b : Nm} (h : bytesBefore a b = true) : a ≠ b := fun e => by rw [e, before_irrefl] at h; cases h
theorem mem_ins {x p : Nm × α} : ∀ {F : List (Nm × α)}, p ∈ ins x F ↔ p = x ∨ p ∈ F
  | [] => by simp [ins]
  | y :: r => by
    unfold ins
    split
    · simp
    · simp [mem_ins (F := r)]; constructor <;> (rintro (h | h | h) <;> simp [h])
theorem length_ins (x : Nm × α) : ∀ F : List (Nm × α), (ins x F).length = F.length + 1
  | [] => rfl
  | y :: r => by unfold ins; split <;> simp [length_ins x r]
theorem mem_drop {F : List (Nm × α)} {n : Nm} {p : Nm × α} : p ∈ drop F n ↔ p ∈ F ∧ p.1 ≠ n := by simp [drop]
theorem rising_ins {x : Nm × α} : ∀ {F : List (Nm × α)}, Rising F → (∀ p ∈ F, p.1 ≠ x.1) → Rising (ins x F)
  | [], _, _ => by simp [ins, Rising]
  | y :: r, h, hne => by
    obtain ⟨h1, h2⟩ := List.pairwise_cons.1 h
    unfold ins
    split
    · rename_i hb
      refine List.pairwise_cons.2 ⟨fun q hq => ?_, h⟩
      rcases List.mem_cons.1 hq with rfl | hq
      · exact hb
      · exact WideShapes.bytes_trans _ _ _ hb (h1 q hq)
    · rename_i hb
      have hyx : bytesBefore y.1 x.1 = true := by
        rcases WideAt.bytes_total y.1 x.1 (hne y (by simp)) with h' | h'
        · exact h'
        · exact absurd h' hb
      refine List.pairwise_cons.2 ⟨fun q hq => ?_, rising_ins h2 (fun p hp => hne p (by simp [hp]))⟩
      rcases mem_ins.1 hq with rfl | hq
      · exact hyx
      · exact h1 q hq
theorem rising_drop {F : List (Nm × α)} (h : Rising F) (n : Nm) : Rising (drop F n) := h.filter _
theorem rising_put {F : List (Nm × α)} (h : Rising F) (n : Nm) (x : α) : Rising (put F n x) :=
  rising_ins (rising_drop h n) (fun p hp => (mem_drop.1 hp).2)
theorem look_some {F : List (Nm × α)} {n : Nm} {x : α} (h : lookF F n = some x) : (n, x) ∈ F := by
  unfold lookF at h
  simp only [Option.map_eq_some_iff] at h
  obtain ⟨p, hp, rfl⟩ := h
  have h1 := List.find?_some hp
  have h2 := List.mem_of_find?_eq_some hp
  simp at h1
  rw [← h1]; exact h2
theorem look_none {F : List (Nm × α)} {n : Nm} (h : lookF F n = none) : ∀ p ∈ F, p.1 ≠ n := by
  unfold lookF at h
  simp only [Option.map_eq_none_iff] at h
  intro p hp e
  have := List.find?_eq_none.1 h p hp
  simp [e] at this
theorem rising_inj {F : List (Nm × α)} (h : Rising F) {p q : Nm × α} (hp : p ∈ F) (hq : q ∈ F) (e : p.1 = q.1) : p = q := by
  induction F with
  | nil => cases hp
  | cons y r ih =>
    obtain ⟨h1, h2⟩ := List.pairwise_cons.1 h
    rcases List.mem_cons.1 hp with rfl | hp' <;> rcases List.mem_cons.1 hq with rfl | hq'
    · rfl
    · exact absurd e (before_ne (h1 q hq'))
    · exact absurd e.symm (before_ne (h1 p hp'))
    · exact ih h2 hp' hq'
theorem look_of_mem {F : List (Nm × α)} (h : Rising F) {p : Nm × α} (hp : p ∈ F) : lookF F p.1 = some p.2 := by
  cases hl : lookF F p.1 with
  | none => exact absurd rfl (look_none hl p hp)
  | some x => rw [rising_inj h (p := p) (q := (p.1, x)) hp (look_some hl) rfl]
theorem look_map {β : Type} (g : α → β) (F : List (Nm × α)) (n : Nm) : lookF (F.map (fun p => (p.1, g p.2))) n = (lookF F n).map g := by
  induction F with
  | nil => rfl
  | cons y r ih =>
    unfold lookF at *
    simp only [List.map_cons, List.find?_cons]
    split <;> simp_all
theorem drop_map {β : Type} (g : α → β) (F : List (Nm × α)) (n : Nm) : drop (F.map (fun p => (p.1, g p.2))) n = (drop F n).map (fun p => (p.1, g p.2)) := by
  simp [drop, List.filter_map]; rfl
theorem ins_map {β : Type} (g : α → β) (x : Nm × α) : ∀ F : List (Nm × α), ins (x.1, g x.2) (F.map (fun p => (p.1, g p.2))) = (ins x F).map (fun p => (p.1, g p.2))
  | [] => rfl
  | y :: r => by
    simp only [List.map_cons, ins]
    split <;> simp [ins_map g x r]
theorem put_map {β : Type} (g : α → β) (F : List (Nm × α)) (n : Nm) (x : α) : put (F.map (fun p => (p.1, g p.2))) n (g x) = (put F n x).map (fun p => (p.1, g p.2)) := by
  unfold put; rw [drop_map]; exact ins_map g (n, x) _
theorem ins_comm_replace {F : List (Nm × α)} (h : Rising F) {n : Nm} {x y : α} (hm : (n, y) ∈ F) : put F n x = F.map (fun p => if p.1 = n then (p.1, x) else p) := by
  induction F with
  | nil => cases hm
  | cons z r ih =>
    obtain ⟨h1, h2⟩ := List.pairwise_cons.1 h
    by_cases hz : z.1 = n
    · have hr : ∀ p ∈ r, p.1 ≠ n := fun p hp e => before_ne (h1 p hp) (by rw [e]; exact hz)
      have hd : drop (z :: r) n = r := by
        simp only [drop, List.filter_cons, hz, beq_self_eq_true, Bool.not_true, Bool.false_eq_true, if_false]
        exact List.filter_eq_self.2 (fun p hp => by simp [hr p hp])
      have hmap : r.map (fun p => if p.1 = n then (p.1, x) else p) = r := by
        conv => rhs; rw [← List.map_id r]
        exact List.map_congr_left (fun p hp => by simp [hr p hp])
      unfold put
      rw [hd, List.map_cons, hmap, if_pos hz]
      cases r with
      | nil => simp [ins, hz]
      | cons p r' => simp [ins, ← hz, h1 p (by simp)]
    · have hm' : (n, y) ∈ r := by
        rcases List.mem_cons.1 hm with e | e
        · exact absurd (by rw [← e]) hz
        · exact e
      have hb : bytesBefore n z.1 = false := by
        have h3 := h1 _ hm'
        cases hh : bytesBefore n z.1 with
        | false => rfl
        | true => exact absurd rfl (before_ne (WideShapes.bytes_trans _ _ _ hh h3))
      have ih' := ih h2 hm'
      unfold put at ih' ⊢
      have hd : drop (z :: r) n = z :: drop r n := by simp [drop, List.filter_cons, hz]
      rw [hd]
      simp only [ins, hb, Bool.false_eq_true, if_false, List.map_cons, if_neg hz, ih']
end
end Go.Bw

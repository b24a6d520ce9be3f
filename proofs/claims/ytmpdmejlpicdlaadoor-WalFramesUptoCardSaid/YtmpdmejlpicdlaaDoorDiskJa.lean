/- Joined: Mem, DiskAbs, DiskRep, DiskW1, DiskW2, Append, Lex, DiskW3, DiskW4. -/
import Derived.WalkKit
import Derived.WalkSpells
import Derived.Deep.QuietTactic
import Derived.BigQuiet
import Derived.Lib.Hide
import Derived.Maps.Views
import Derived.WideAt
import Derived.IntWalk
import Derived.RowKit
import Derived.Maps.OwnSet
import Derived.Maps.RangeWalk
import Derived.Maps.OwnOps
import Derived.Sort.KeysCollected
import Derived.Test.YtmpdmejlpicdlaaDoorProg
import Derived.LoopTactic
import Derived.OrdersHeld
import Derived.Deep.Quiet
import Derived.Deep.RegionLaw
/- Laws on memory that all texts of this seat share: a world that is another one but for some blocks and new ones; owned rows. No program is named. -/
namespace Go.Bw
open Go.RowKit

/-- w' is w, but for the blocks of S, and new ones. -/
structure Mod (S : Nat → Prop) (w w' : World) : Prop where
  os : w'.os = w.os
  tape : w'.tape = w.tape
  output : w'.output = w.output
  size : w.heap.size ≤ w'.heap.size
  block : ∀ k, k < w.heap.size → ¬ S k → w'.heap[k]? = w.heap[k]?

variable {S T : Nat → Prop} {w a b c w' : World}

theorem Mod.refl (S : Nat → Prop) (w : World) : Mod S w w := ⟨rfl, rfl, rfl, Nat.le_refl _, fun _ _ _ => rfl⟩

theorem Mod.trans (h : Mod S a b) (k : Mod T b c) (hT : ∀ i, i < a.heap.size → T i → S i) : Mod S a c :=
  ⟨k.os.trans h.os, k.tape.trans h.tape, k.output.trans h.output, Nat.le_trans h.size k.size,
   fun i hi hS => (k.block i (Nat.lt_of_lt_of_le hi h.size) (fun hx => hS (hT i hi hx))).trans (h.block i hi hS)⟩

theorem Mod.mono (h : Mod S w w') (hS : ∀ i, i < w.heap.size → S i → T i) : Mod T w w' :=
  ⟨h.os, h.tape, h.output, h.size, fun k hk hT => h.block k hk (fun hs => hT (hS k hk hs))⟩

theorem Mod.drew (h : Mod S a w) : Mod S a w.drew := ⟨h.os, h.tape, h.output, h.size, h.block⟩

theorem Mod.drewN (h : Mod S a w) (n : Nat) : Mod S a (w.drewN n) := ⟨h.os, h.tape, h.output, h.size, h.block⟩

theorem Mod.alloc (h : Mod S a w) (o : Obj) : Mod S a (w.alloc o) :=
  h.trans (T := fun _ => False) ⟨rfl, rfl, rfl, by simp, fun k hk _ => Below.heap_alloc _ _ _ hk⟩ (fun _ _ h => h.elim)

theorem Mod.setCell (h : Mod S a w) {p : Addr} (u : Value) (hp : p.block < a.heap.size → S p.block) : Mod S a (w.setCell p u) :=
  h.trans (T := fun k => k = p.block) ⟨rfl, rfl, rfl, by simp [World.setCell], fun k _ hne => Below.heap_setCell _ _ _ _ hne⟩ (fun i hi e => by subst e; exact hp hi)

theorem Mod.grown {row : Option Nat} (h : Mod S a w) (hg : w.grownBy w' row) (hr : ∀ k, row = some k → k < a.heap.size → S k) : Mod S a w' :=
  h.trans (T := fun k => row = some k) ⟨hg.os, hg.tape, hg.output, hg.size, fun k hk hne => hg.block k hk (fun e => hne e.symm)⟩ (fun i hi e => hr i e hi)

theorem Mod.below {B : Nat} (h : Mod S a w) (hb : Below B w w') (hB : ∀ i, i < a.heap.size → B ≤ i → S i) : Mod S a w' :=
  h.trans (T := fun k => B ≤ k) ⟨hb.os, hb.tape, hb.output, hb.size, fun k _ hne => hb.block k (by omega)⟩ hB

theorem Mod.toBelow (h : Mod (fun _ => False) w w') : Below w.heap.size w w' := ⟨h.os, h.tape, h.output, h.size, fun k hk => h.block k hk (fun h => h)⟩

theorem Mod.cell (h : Mod S w w') {p : Addr} {v : Value} (hc : w.cell? p = some v) (hp : ¬ S p.block) : w'.cell? p = some v :=
  (World.cell?_of_block (h.block p.block (World.block_lt_of_cell? w p hc) hp)).trans hc

theorem lt_of_heap {w : World} {b : Nat} {o : Obj} (h : w.heap[b]? = some o) : b < w.heap.size := by
  rcases Nat.lt_or_ge b w.heap.size with h' | h'
  · exact h'
  · rw [Array.getElem?_eq_none h'] at h; cases h

theorem Mod.heap (h : Mod S w w') {k : Nat} {o : Obj} (hc : w.heap[k]? = some o) (hp : ¬ S k) : w'.heap[k]? = some o :=
  (h.block k (lt_of_heap hc) hp).trans hc

theorem cell_of_heap {w : World} {b : Nat} {cs : Array Value} {t : TypeId} {fr : Nat × Nat} (h : w.heap[b]? = some (.cells cs t fr)) (o : Nat) : w.cell? ⟨b, o, none⟩ = cs[o]? := by simp [World.cell?, h]
theorem free_of_heap {w : World} {b : Nat} {cs : Array Value} {t : TypeId} (h : w.heap[b]? = some (.cells cs t (0, 0))) (o : Nat) : w.frozen? ⟨b, o, none⟩ = false := by simp [World.frozen?, h]

theorem heap_setCell_at {w : World} {b : Nat} {cs : Array Value} {t : TypeId} {fr : Nat × Nat} (h : w.heap[b]? = some (.cells cs t fr)) (o : Nat) (u : Value) :
    (w.setCell ⟨b, o, none⟩ u).heap[b]? = some (.cells (cs.setIfInBounds o u) t fr) := by
  simp [World.setCell, Array.getElem?_modify, h]

theorem heap_setCell_ne {w : World} {p : Addr} {u : Value} {k : Nat} (h : k ≠ p.block) : (w.setCell p u).heap[k]? = w.heap[k]? := Below.heap_setCell _ _ _ _ h

/-- An owned row stays where its block stays. -/
theorem ownsRow_kept {base : Nat} {e : TypeId} {size : Nat} {v : Value} {n : Nat} {xs : List Value} (h : w.ownsRow base e size v n xs)
    (hk : ∀ k, v.ownBlock = some k → w'.heap[k]? = w.heap[k]?) : w'.ownsRow base e size v n xs := by
  obtain ⟨h1, h2⟩ := h
  refine ⟨h1, ?_⟩
  rcases h2 with h2 | ⟨g, cap, cur, hv, hg, hh, r⟩
  · exact Or.inl h2
  · subst hv; exact Or.inr ⟨g, cap, cur, rfl, hg, by rw [hk g rfl]; exact hh, r⟩

theorem ownsRow_base {base base' : Nat} {e : TypeId} {size : Nat} {v : Value} {n : Nat} {xs : List Value} (h : w.ownsRow base e size v n xs)
    (hk : ∀ k, v.ownBlock = some k → base' ≤ k) : w.ownsRow base' e size v n xs := by
  obtain ⟨h1, h2⟩ := h
  refine ⟨h1, ?_⟩
  rcases h2 with h2 | ⟨g, cap, cur, hv, hg, hh, r⟩
  · exact Or.inl h2
  · subst hv; exact Or.inr ⟨g, cap, cur, rfl, hk g rfl, hh, r⟩

/-- The first k elements of an owned row of one-cell elements are one. -/
theorem ownsRow_take {base : Nat} {e : TypeId} {a : Option Addr} {n cap : Nat} {xs : List Value} (h : w.ownsRow base e 1 (.slice a n cap) n xs) (k : Nat) (hk : k ≤ n) : w.ownsRow base e 1 (.slice a k cap) k (xs.take k) := by
  obtain ⟨h1, h2⟩ := h
  refine ⟨by simp at h1 ⊢; omega, ?_⟩
  rcases h2 with ⟨hv, h2⟩ | ⟨g, cap', cur, hv, hg, hh, hc, hm, hs, ht⟩
  · simp at hv; obtain ⟨rfl, rfl, rfl⟩ := hv; exact Or.inl ⟨by simp; omega, by omega⟩
  · simp at hv; obtain ⟨rfl, rfl⟩ := hv
    exact Or.inr ⟨g, cap, cur, rfl, hg, hh, by omega, hm, hs, by rw [← ht, List.take_take]; congr 1; omega⟩

end Go.Bw
/- What the simulated disk does, as plain functions on lists; and the lists of files by rising names. No program is named. -/
namespace Go.Bw

abbrev Nm := List UInt8

section
variable {α : Type}
/-- a file's place is by its name: what is known of the file of this name. -/
def lookF (F : List (Nm × α)) (n : Nm) : Option α := (F.find? (fun p => p.1 == n)).map (·.2)
def ins (x : Nm × α) : List (Nm × α) → List (Nm × α)
  | [] => [x]
  | y :: r => if bytesBefore x.1 y.1 then x :: y :: r else y :: ins x r
def drop (F : List (Nm × α)) (n : Nm) : List (Nm × α) := F.filter (fun p => !(p.1 == n))
def put (F : List (Nm × α)) (n : Nm) (x : α) : List (Nm × α) := ins (n, x) (drop F n)
def Rising (F : List (Nm × α)) : Prop := F.Pairwise (fun p q => bytesBefore p.1 q.1 = true)
end

/-- Bytes that are safe, bytes that wait. -/
structure Cont where
  safe : List Int
  wait : List Int

structure ADsk where
  files : List (Nm × Cont)
  room : Int
  off : Bool
  wr : Int
  ar : Int
  kp : Int

def Cont.len (c : Cont) : Nat := c.safe.length + c.wait.length
def total (F : List (Nm × Cont)) : Nat := (F.map (fun p => p.2.len)).sum
def namedB (n : Nm) : Bool := decide (1 ≤ n.length ∧ n.length ≤ 16)

namespace ADsk
def ready (A : ADsk) (n : Nm) : Int := if namedB n = false then 1 else if A.off then 20 else 0
def lost (keep : Int) (c : Cont) : Cont := ⟨c.safe ++ c.wait.take keep.toNat, []⟩
def goesOff (A : ADsk) (keep : Int) : ADsk :=
  if A.off then A else { A with files := A.files.map (fun p => (p.1, lost keep p.2)), off := true, ar := 0 }
def armed (A : ADsk) : ADsk := { A with wr := RowKit.wrap64 (A.wr + 1), ar := if A.ar = 0 then 0 else A.ar - 1 }
/-- behind a raw write: the disk with the write counted, f being what it does (done first where the write is an Append's). -/
def raw (A : ADsk) : ADsk × Bool := (A.armed, A.ar == 1)
def append (A : ADsk) (n : Nm) (b : List Int) : ADsk × Int :=
  if A.ready n ≠ 0 then (A, A.ready n) else
  let c := (lookF A.files n).getD ⟨[], []⟩
  if c.len + b.length > 1048576 then (A, 3) else
  if ((lookF A.files n).isNone = true ∧ 16 ≤ A.files.length) ∨ A.room < ((total A.files + b.length : Nat) : Int) then (A, 22) else
  let A1 : ADsk := { A with files := put A.files n ⟨c.safe, c.wait ++ b⟩ }
  if A.ar = 1 then (A1.armed.goesOff A.kp, 20) else (A1.armed, 0)
def there (A : ADsk) (n : Nm) : Int := if A.ready n ≠ 0 then A.ready n else if (lookF A.files n).isNone then 21 else 0
/-- Sync, Truncate, Rename, Remove: what is done where the write is not the armed one. -/
def does (A : ADsk) (f : List (Nm × Cont) → List (Nm × Cont)) : ADsk × Int :=
  if A.ar = 1 then (A.armed.goesOff A.kp, 20) else ({ A.armed with files := f A.files }, 0)
def onFile (n : Nm) (g : Cont → Cont) (F : List (Nm × Cont)) : List (Nm × Cont) := F.map (fun p => if p.1 = n then (p.1, g p.2) else p)
def sync (A : ADsk) (n : Nm) : ADsk × Int :=
  if A.there n ≠ 0 then (A, A.there n) else A.does (onFile n (fun c => ⟨c.safe ++ c.wait, []⟩))
def trunc (A : ADsk) (n : Nm) (k : Int) : ADsk × Int :=
  if A.there n ≠ 0 then (A, A.there n) else
  let c := (lookF A.files n).getD ⟨[], []⟩
  if k < 0 ∨ (c.len : Int) < k then (A, 3) else A.does (onFile n (fun c => ⟨c.safe.take k.toNat, c.wait.take (k.toNat - c.safe.length)⟩))
def rename (A : ADsk) (n to : Nm) : ADsk × Int :=
  if A.there n = 1 then (A, 1) else if namedB to = false then (A, 1) else if A.there n ≠ 0 then (A, A.there n) else
  let c := (lookF A.files n).getD ⟨[], []⟩
  A.does (fun F => put (drop F n) to c)
def remove (A : ADsk) (n : Nm) : ADsk × Int :=
  if A.there n ≠ 0 then (A, A.there n) else A.does (fun F => drop F n)
def read (A : ADsk) (n : Nm) : List Int × Int :=
  if A.there n ≠ 0 then ([], A.there n) else ((fun c : Cont => (c.safe ++ c.wait, 0)) ((lookF A.files n).getD ⟨[], []⟩))
def names (A : ADsk) : List Nm := if A.off then [] else A.files.map (·.1)
def arm (A : ADsk) (n keep : Int) : ADsk := { A with ar := max n 0, kp := keep }
def new (room : Int) : ADsk := ⟨[], room, false, 0, 0, 0⟩
/-- What every disk is. -/
structure Ok (A : ADsk) : Prop where
  few : A.files.length ≤ 16
  small : ∀ p ∈ A.files, p.2.len ≤ 1048576
  rising : Rising A.files
  ar0 : 0 ≤ A.ar
  ar1 : A.ar ≤ 9223372036854775807
  names : ∀ p ∈ A.files, namedB p.1 = true
  kp0 : -9223372036854775808 ≤ A.kp
  kp1 : A.kp ≤ 9223372036854775807
end ADsk

/-! ### The lists by rising names -/
section
variable {α : Type}
theorem before_irrefl (n : Nm) : bytesBefore n n = false := WideAt.bytes_irrefl n
theorem before_ne {a b : Nm} (h : bytesBefore a b = true) : a ≠ b := fun e => by rw [e, before_irrefl] at h; cases h
theorem mem_ins {x p : Nm × α} : ∀ {F : List (Nm × α)}, p ∈ ins x F ↔ p = x ∨ p ∈ F
  | [] => by simp [ins]
  | y :: r => by
    unfold ins
    split
    · simp
    · simp [mem_ins (F := r)]; constructor <;> (rintro (h | h | h) <;> simp [h])
theorem length_ins (x : Nm × α) : ∀ F : List (Nm × α), (ins x F).length = F.length + 1
  | [] => rfl
  | y :: r => by unfold ins; split <;> simp [length_ins x r]
theorem mem_drop {F : List (Nm × α)} {n : Nm} {p : Nm × α} : p ∈ drop F n ↔ p ∈ F ∧ p.1 ≠ n := by simp [drop]
theorem rising_ins {x : Nm × α} : ∀ {F : List (Nm × α)}, Rising F → (∀ p ∈ F, p.1 ≠ x.1) → Rising (ins x F)
  | [], _, _ => by simp [ins, Rising]
  | y :: r, h, hne => by
    obtain ⟨h1, h2⟩ := List.pairwise_cons.1 h
    unfold ins
    split
    · rename_i hb
      refine List.pairwise_cons.2 ⟨fun q hq => ?_, h⟩
      rcases List.mem_cons.1 hq with rfl | hq
      · exact hb
      · exact WideShapes.bytes_trans _ _ _ hb (h1 q hq)
    · rename_i hb
      have hyx : bytesBefore y.1 x.1 = true := by
        rcases WideAt.bytes_total y.1 x.1 (hne y (by simp)) with h' | h'
        · exact h'
        · exact absurd h' hb
      refine List.pairwise_cons.2 ⟨fun q hq => ?_, rising_ins h2 (fun p hp => hne p (by simp [hp]))⟩
      rcases mem_ins.1 hq with rfl | hq
      · exact hyx
      · exact h1 q hq
theorem rising_drop {F : List (Nm × α)} (h : Rising F) (n : Nm) : Rising (drop F n) := h.filter _
theorem rising_put {F : List (Nm × α)} (h : Rising F) (n : Nm) (x : α) : Rising (put F n x) :=
  rising_ins (rising_drop h n) (fun p hp => (mem_drop.1 hp).2)
theorem look_some {F : List (Nm × α)} {n : Nm} {x : α} (h : lookF F n = some x) : (n, x) ∈ F := by
  unfold lookF at h
  simp only [Option.map_eq_some_iff] at h
  obtain ⟨p, hp, rfl⟩ := h
  have h1 := List.find?_some hp
  have h2 := List.mem_of_find?_eq_some hp
  simp at h1
  rw [← h1]; exact h2
theorem look_none {F : List (Nm × α)} {n : Nm} (h : lookF F n = none) : ∀ p ∈ F, p.1 ≠ n := by
  unfold lookF at h
  simp only [Option.map_eq_none_iff] at h
  intro p hp e
  have := List.find?_eq_none.1 h p hp
  simp [e] at this
theorem rising_inj {F : List (Nm × α)} (h : Rising F) {p q : Nm × α} (hp : p ∈ F) (hq : q ∈ F) (e : p.1 = q.1) : p = q := by
  induction F with
  | nil => cases hp
  | cons y r ih =>
    obtain ⟨h1, h2⟩ := List.pairwise_cons.1 h
    rcases List.mem_cons.1 hp with rfl | hp' <;> rcases List.mem_cons.1 hq with rfl | hq'
    · rfl
    · exact absurd e (before_ne (h1 q hq'))
    · exact absurd e.symm (before_ne (h1 p hp'))
    · exact ih h2 hp' hq'
theorem look_of_mem {F : List (Nm × α)} (h : Rising F) {p : Nm × α} (hp : p ∈ F) : lookF F p.1 = some p.2 := by
  cases hl : lookF F p.1 with
  | none => exact absurd rfl (look_none hl p hp)
  | some x => rw [rising_inj h (p := p) (q := (p.1, x)) hp (look_some hl) rfl]
theorem look_map {β : Type} (g : α → β) (F : List (Nm × α)) (n : Nm) : lookF (F.map (fun p => (p.1, g p.2))) n = (lookF F n).map g := by
  induction F with
  | nil => rfl
  | cons y r ih =>
    unfold lookF at *
    simp only [List.map_cons, List.find?_cons]
    split <;> simp_all
theorem drop_map {β : Type} (g : α → β) (F : List (Nm × α)) (n : Nm) : drop (F.map (fun p => (p.1, g p.2))) n = (drop F n).map (fun p => (p.1, g p.2)) := by
  simp [drop, List.filter_map]; rfl
theorem ins_map {β : Type} (g : α → β) (x : Nm × α) : ∀ F : List (Nm × α), ins (x.1, g x.2) (F.map (fun p => (p.1, g p.2))) = (ins x F).map (fun p => (p.1, g p.2))
  | [] => rfl
  | y :: r => by
    simp only [List.map_cons, ins]
    split <;> simp [ins_map g x r]
theorem put_map {β : Type} (g : α → β) (F : List (Nm × α)) (n : Nm) (x : α) : put (F.map (fun p => (p.1, g p.2))) n (g x) = (put F n x).map (fun p => (p.1, g p.2)) := by
  unfold put; rw [drop_map]; exact ins_map g (n, x) _
theorem ins_comm_replace {F : List (Nm × α)} (h : Rising F) {n : Nm} {x y : α} (hm : (n, y) ∈ F) : put F n x = F.map (fun p => if p.1 = n then (p.1, x) else p) := by
  induction F with
  | nil => cases hm
  | cons z r ih =>
    obtain ⟨h1, h2⟩ := List.pairwise_cons.1 h
    by_cases hz : z.1 = n
    · have hr : ∀ p ∈ r, p.1 ≠ n := fun p hp e => before_ne (h1 p hp) (by rw [e]; exact hz)
      have hd : drop (z :: r) n = r := by
        simp only [drop, List.filter_cons, hz, beq_self_eq_true, Bool.not_true, Bool.false_eq_true, if_false]
        exact List.filter_eq_self.2 (fun p hp => by simp [hr p hp])
      have hmap : r.map (fun p => if p.1 = n then (p.1, x) else p) = r := by
        conv => rhs; rw [← List.map_id r]
        exact List.map_congr_left (fun p hp => by simp [hr p hp])
      unfold put
      rw [hd, List.map_cons, hmap, if_pos hz]
      cases r with
      | nil => simp [ins, hz]
      | cons p r' => simp [ins, ← hz, h1 p (by simp)]
    · have hm' : (n, y) ∈ r := by
        rcases List.mem_cons.1 hm with e | e
        · exact absurd (by rw [← e]) hz
        · exact e
      have hb : bytesBefore n z.1 = false := by
        have h3 := h1 _ hm'
        cases hh : bytesBefore n z.1 with
        | false => rfl
        | true => exact absurd rfl (before_ne (WideShapes.bytes_trans _ _ _ hh h3))
      have ih' := ih h2 hm'
      unfold put at ih' ⊢
      have hd : drop (z :: r) n = z :: drop r n := by simp [drop, List.filter_cons, hz]
      rw [hd]
      simp only [ins, hb, Bool.false_eq_true, if_false, List.map_cons, if_neg hz, ih']
end
end Go.Bw
/- How the program's disk lies in memory. -/
namespace Go.Proofs.YtmpdmejlpicdlaaDoor
open Go.RowKit Go.Bw Go.Maps
set_option linter.unusedVariables false
set_option linter.unusedSimpArgs false

/-- A file: its block, the values of its two fields, the bytes in them. -/
structure Fil where
  blk : Nat
  sv : Value
  wv : Value
  c : Cont

def Fil.blocks (f : Fil) : List Nat := f.blk :: (f.sv.ownBlock.toList ++ f.wv.ownBlock.toList)
def bcells (xs : List Int) : List Value := xs.map (Value.int .u8)

structure FileAt (w : World) (f : Fil) : Prop where
  cells : w.heap[f.blk]? = some (.cells #[f.sv, f.wv] 78 (0, 0))
  safe : w.ownsRow 0 5 1 f.sv f.c.safe.length (bcells f.c.safe)
  wait : w.ownsRow 0 5 1 f.wv f.c.wait.length (bcells f.c.wait)

def ptrElem (v : Value) : Option (DataW Unit × List MemPlace) :=
  match v with
  | .pointer (some ⟨b, 0, none⟩) => some (.lit (.int .i64 b), [])
  | .pointer none => some (.nil, [])
  | _ => none

theorem ptrElem_inv {v : Value} {b : Nat} {ps : List MemPlace} (h : ptrElem v = some (.lit (.int .i64 b), ps)) : v = .pointer (some ⟨b, 0, none⟩) := by
  unfold ptrElem at h
  split at h
  · simp at h; have := Int.ofNat.inj h.1; subst this; rfl
  · simp at h
  · simp at h
theorem ptrElem_nil {v : Value} {ps : List MemPlace} (h : ptrElem v = some (.nil, ps)) : v = .pointer none := by
  unfold ptrElem at h
  split at h
  · simp at h
  · rfl
  · simp at h


def fent (p : Nm × Fil) : Lit × DataW Unit := (.string p.1, .lit (.int .i64 p.2.blk))
def fdata (F : List (Nm × Fil)) : DataW Unit := .map (F.map fent)
theorem insert_fdata (x : Nm × Fil) : ∀ F : List (Nm × Fil), DataW.insert (fent x) (F.map fent) = (ins x F).map fent
  | [] => rfl
  | y :: r => by
    have e : DataW.insert (fent x) ((y :: r).map fent) = if bytesBefore x.1 y.1 = true then fent x :: fent y :: r.map fent else fent y :: DataW.insert (fent x) (r.map fent) := rfl
    have e' : ins x (y :: r) = if bytesBefore x.1 y.1 = true then x :: y :: r else y :: ins x r := rfl
    rw [e, e', insert_fdata x r]
    by_cases hb : bytesBefore x.1 y.1 = true
    · rw [if_pos hb, if_pos hb]; rfl
    · rw [if_neg hb, if_neg hb]; rfl
theorem filter_fdata (n : Nm) (F : List (Nm × Fil)) : (F.map fent).filter (ChangeMaps.notKey (.string n)) = (drop F n).map fent := by
  unfold drop; rw [List.filter_map]; rfl
theorem del_fdata (n : Nm) (F : List (Nm × Fil)) : (fdata F).del (.string n) = fdata (drop F n) := by
  show DataW.map ((F.map fent).filter (ChangeMaps.notKey (.string n))) = _
  rw [filter_fdata]; rfl
theorem put_fdata (n : Nm) (f : Fil) (F : List (Nm × Fil)) : (fdata F).put (.string n) (.lit (.int .i64 f.blk)) = fdata (put F n f) := by
  show DataW.map (DataW.insert (fent (n, f)) ((F.map fent).filter (ChangeMaps.notKey (.string n)))) = _
  rw [filter_fdata, insert_fdata]; rfl
theorem atKey_fdata (n : Nm) (F : List (Nm × Fil)) : (fdata F).atKey (.string n) .nil = match lookF F n with | some f => .lit (.int .i64 f.blk) | none => .nil := by
  have e2 : ((fun p : Lit × DataW Unit => p.1.sameKey (.string n)) ∘ fent) = fun p => p.1 == n := rfl
  have e3 : (F.map fent).find? (fun p => p.1.sameKey (.string n)) = (F.find? (fun p => p.1 == n)).map fent := by rw [List.find?_map, e2]
  unfold lookF fdata DataW.atKey
  dsimp only
  split
  · rename_i p hp
    have hp' := hp.symm.trans e3
    cases hf : F.find? (fun p => p.1 == n) with
    | none => rw [hf] at hp'; cases hp'
    | some q => rw [hf] at hp'; cases hp'; rfl
  · rename_i hp
    have hp' := hp.symm.trans e3
    cases hf : F.find? (fun p => p.1 == n) with
    | none => rfl
    | some q => rw [hf] at hp'; cases hp'
theorem size_fdata (F : List (Nm × Fil)) : Maps.size (fdata F) = F.length := by simp [fdata, Maps.size]
theorem strKeys_fdata (F : List (Nm × Fil)) : strKeys (fdata F) = F.map (·.1) := by
  show (F.map fent).map (fun p => strOf p.1) = _
  rw [List.map_map]; rfl

/-- What is known of a disk in memory: the map's block; its files; the numbers. -/
structure Dsk where
  m : Nat
  files : List (Nm × Fil)
  room : Int
  off : Bool
  wr : Int
  ar : Int
  kp : Int

def Dsk.abs (D : Dsk) : ADsk := ⟨D.files.map (fun p => (p.1, p.2.c)), D.room, D.off, D.wr, D.ar, D.kp⟩
def fblocks (F : List (Nm × Fil)) : List Nat := F.flatMap (fun p => p.2.blocks)
def Dsk.blocks (d : Nat) (D : Dsk) : List Nat := d :: D.m :: fblocks D.files

structure DiskAt (w : World) (d : Nat) (D : Dsk) : Prop where
  cells : w.heap[d]? = some (.cells #[.map (some D.m), .int .i64 D.room, .bool D.off, .int .i64 D.wr, .int .i64 D.ar, .int .i64 D.kp] 70 (0, 0))
  map : w.ownsMap Tryd.prog 9 ptrElem D.m 16 (fdata D.files)
  files : ∀ p ∈ D.files, FileAt w p.2
  apart : (D.blocks d).Nodup
  ok : D.abs.Ok

theorem DiskAt.kept {S : Nat → Prop} {w w' : World} {d : Nat} {D : Dsk} (h : DiskAt w d D) (hm : Mod S w w') (hS : ∀ k ∈ D.blocks d, ¬ S k) : DiskAt w' d D := by
  refine ⟨hm.heap h.cells (hS _ (by simp [Dsk.blocks])), ?_, ?_, h.apart, h.ok⟩
  · obtain ⟨es, clock, hb, F, hs, hD⟩ := h.map
    exact ⟨es, clock, hm.heap hb (hS _ (by simp [Dsk.blocks])), F, hs, hD⟩
  · intro p hp
    have hf := h.files p hp
    have hin : ∀ k ∈ p.2.blocks, ¬ S k := fun k hk => hS k (by
      simp only [Dsk.blocks, fblocks, List.mem_cons, List.mem_flatMap]; exact Or.inr (Or.inr ⟨p, hp, hk⟩))
    refine ⟨hm.heap hf.cells (hin _ (by simp [Fil.blocks])), ownsRow_kept hf.safe ?_, ownsRow_kept hf.wait ?_⟩
    · intro k hk
      exact hm.block k (hf.safe.lt k hk).2 (hin k (by simp [Fil.blocks, hk]))
    · intro k hk
      exact hm.block k (hf.wait.lt k hk).2 (hin k (by simp [Fil.blocks, hk]))

theorem DiskAt.lt {w : World} {d : Nat} {D : Dsk} (h : DiskAt w d D) : ∀ k ∈ D.blocks d, k < w.heap.size := by
  intro k hk
  simp only [Dsk.blocks, fblocks, List.mem_cons, List.mem_flatMap] at hk
  rcases hk with rfl | rfl | ⟨p, hp, hk⟩
  · exact lt_of_heap h.cells
  · exact h.map.lt
  · have hf := h.files p hp
    simp only [Fil.blocks, List.mem_cons, List.mem_append, Option.mem_toList] at hk
    rcases hk with rfl | hk | hk
    · exact lt_of_heap hf.cells
    · exact (hf.safe.lt k hk).2
    · exact (hf.wait.lt k hk).2

theorem DiskAt.look {w : World} {d : Nat} {D : Dsk} (h : DiskAt w d D) (s : ByteArray) (hs : s.size ≤ maxLen) :
    (Instr.lookup 68 (.map (some D.m)) (.string s) false).run Tryd.prog w = .ok (match lookF D.files s.data.toList with | some f => .pointer (some ⟨f.blk, 0, none⟩) | none => .pointer none) w := by
  have hz : (zeroValue 76).run Tryd.prog w = .ok (.pointer none) w := by kernel_rfl
  obtain ⟨v, ps, hrun, hv⟩ := h.map.lookup (string_keyed Tryd.underlying9) Tryd.underlying68 hz (zd := .nil) (zp := []) rfl (WideMaps.keyOf_string_mk Tryd.underlying9 hs)
  rw [atKey_fdata] at hv
  rw [hrun]
  cases hl : Bw.lookF D.files s.data.toList with
  | none => rw [hl] at hv; rw [ptrElem_nil hv]
  | some f => rw [hl] at hv; rw [ptrElem_inv hv]

theorem look_abs (D : Dsk) (n : Nm) : Bw.lookF D.abs.files n = (Bw.lookF D.files n).map (·.c) := look_map (fun f : Fil => f.c) D.files n

/-- A call's step from a disk that holds D to one of which A' is said. -/
def DStep (w : World) (d : Nat) (D : Dsk) (w' : World) (A' : ADsk) : Prop :=
  ∃ D', DiskAt w' d D' ∧ D'.abs = A' ∧ Mod (fun k => k ∈ D.blocks d) w w' ∧ ∀ k ∈ D'.blocks d, k ∈ D.blocks d ∨ w.heap.size ≤ k

end Go.Proofs.YtmpdmejlpicdlaaDoor
/- The disk's small methods, walked. -/
namespace Go.Proofs.YtmpdmejlpicdlaaDoor
open Go.RowKit Go.Bw Go.Maps
set_option linter.unusedVariables false
set_option linter.unusedSimpArgs false

theorem ret_bool {a b : Bool} (h : a = b) : Ending.returned (.bool a) = .returned (.bool b) := by rw [h]
theorem ret_int {k : IntKind} {a b : Int} (h : a = b) : Ending.returned (.int k a) = .returned (.int k b) := by rw [h]

set_option maxHeartbeats 400000 in
theorem named_any (s : ByteArray) (w : World) :
    Calls Tryd.prog 66 #[.string s] w fun e w' => e = .returned (.bool (namedB s.data.toList)) ∧ w = w' := by
  by_cases h1 : 1 ≤ s.size
  · by_cases h2 : s.size ≤ 16
    · have hv : namedB s.data.toList = true := by simp [namedB]; omega
      have Hv := Lib.hid hv; clear hv
      go_enter Tryd.func66, Tryd.ntmps66
      go_wp2
      go_ret
      exact ⟨ret_bool (by rw [Hv.out]; simp; omega), rfl⟩
    · have hv : namedB s.data.toList = false := by simp [namedB]; omega
      have Hv := Lib.hid hv; clear hv
      go_enter Tryd.func66, Tryd.ntmps66
      go_wp2
      go_ret
      exact ⟨ret_bool (by rw [Hv.out]; simp; omega), rfl⟩
  · have hv : namedB s.data.toList = false := by simp [namedB]; omega
    have Hv := Lib.hid hv; clear hv
    go_enter Tryd.func66, Tryd.ntmps66
    go_wp2
    go_ret
    exact ⟨ret_bool (by rw [Hv.out]), rfl⟩

section
variable {w : World} {d : Nat} {D : Dsk}

theorem DiskAt.drewN (h : DiskAt w d D) (n : Nat) : DiskAt (w.drewN n) d D := h.kept (S := fun _ => False) ((Mod.refl _ _).drewN n) (fun _ _ h => h)

/-- What a walk is told of the disk's block. -/
theorem DiskAt.c0 (h : DiskAt w d D) : w.cell? ⟨d, 0, none⟩ = some (.map (some D.m)) := cell_of_heap h.cells 0
theorem DiskAt.c1 (h : DiskAt w d D) : w.cell? ⟨d, 1, none⟩ = some (.int .i64 D.room) := cell_of_heap h.cells 1
theorem DiskAt.c2 (h : DiskAt w d D) : w.cell? ⟨d, 2, none⟩ = some (.bool D.off) := cell_of_heap h.cells 2
theorem DiskAt.c3 (h : DiskAt w d D) : w.cell? ⟨d, 3, none⟩ = some (.int .i64 D.wr) := cell_of_heap h.cells 3
theorem DiskAt.c4 (h : DiskAt w d D) : w.cell? ⟨d, 4, none⟩ = some (.int .i64 D.ar) := cell_of_heap h.cells 4
theorem DiskAt.c5 (h : DiskAt w d D) : w.cell? ⟨d, 5, none⟩ = some (.int .i64 D.kp) := cell_of_heap h.cells 5
theorem DiskAt.fz (h : DiskAt w d D) : ∀ o, w.frozen? ⟨d, o, none⟩ = false := free_of_heap h.cells

set_option maxHeartbeats 400000 in
theorem ready_any (h : DiskAt w d D) (s : ByteArray) :
    Calls Tryd.prog 64 #[.pointer (some ⟨d, 0, none⟩), .string s] w fun e w' => e = .returned (.int .i64 (D.abs.ready s.data.toList)) ∧ w = w' := by
  have c2 := h.c2
  clear h
  cases hn : namedB s.data.toList
  · have hv : D.abs.ready s.data.toList = 1 := by simp [ADsk.ready, hn]
    have Hv := Lib.hid hv; clear hv
    have Hn := Lib.hid hn; clear hn
    go_enter Tryd.func64, Tryd.ntmps64
    go_wp2_with (go_at_call 66; refine (named_any _ _).mono ?_; rw [Hn.out]; rintro e w' ⟨rfl, rfl⟩)
    go_ret
    exact ⟨ret_int (by rw [Hv.out]), rfl⟩
  · cases ho : D.off
    · have hv : D.abs.ready s.data.toList = 0 := by simp [ADsk.ready, hn, Dsk.abs, ho]
      have Hv := Lib.hid hv; clear hv
      have Hn := Lib.hid hn; clear hn
      rw [ho] at c2; clear ho
      go_enter Tryd.func64, Tryd.ntmps64
      go_wp2_with (go_at_call 66; refine (named_any _ _).mono ?_; rw [Hn.out]; rintro e w' ⟨rfl, rfl⟩)
      go_ret
      exact ⟨ret_int (by rw [Hv.out]), rfl⟩
    · have hv : D.abs.ready s.data.toList = 20 := by simp [ADsk.ready, hn, Dsk.abs, ho]
      have Hv := Lib.hid hv; clear hv
      have Hn := Lib.hid hn; clear hn
      rw [ho] at c2; clear ho
      go_enter Tryd.func64, Tryd.ntmps64
      go_wp2_with (go_at_call 66; refine (named_any _ _).mono ?_; rw [Hn.out]; rintro e w' ⟨rfl, rfl⟩)
      go_ret
      exact ⟨ret_int (by rw [Hv.out]), rfl⟩

/-- The world behind a raw write's count. -/
def rawW (w : World) (d : Nat) (D : Dsk) : World :=
  let w1 := w.setCell ⟨d, 3, none⟩ (.int .i64 (wrap64 (D.wr + 1)))
  if D.ar = 0 then w1 else w1.setCell ⟨d, 4, none⟩ (.int .i64 (D.ar - 1))
def Dsk.armed (D : Dsk) : Dsk := { D with wr := wrap64 (D.wr + 1), ar := if D.ar = 0 then 0 else D.ar - 1 }

set_option maxHeartbeats 400000 in
theorem raw_any (h : DiskAt w d D) :
    Calls Tryd.prog 62 #[.pointer (some ⟨d, 0, none⟩)] w fun e w' => e = .returned (.bool (D.ar == 1)) ∧ rawW w d D = w' := by
  have c3 := h.c3
  have c4 := h.c4
  have fz := h.fz
  have h0 := h.ok.ar0
  have h1 := h.ok.ar1
  simp only [Dsk.abs] at h0 h1
  clear h
  by_cases ha : D.ar = 0
  · have hw : rawW w d D = w.setCell ⟨d, 3, none⟩ (.int .i64 (wrap64 (D.wr + 1))) := by simp [rawW, ha]
    have Hw := Lib.hid hw; clear hw
    rw [ha] at c4
    have Ha := Lib.hid ha; clear ha
    go_enter Tryd.func62, Tryd.ntmps62
    go_wp2
    go_ret
    exact ⟨ret_bool (by rw [Ha.out]; rfl), Hw.out⟩
  · have hw : rawW w d D = (w.setCell ⟨d, 3, none⟩ (.int .i64 (wrap64 (D.wr + 1)))).setCell ⟨d, 4, none⟩ (.int .i64 (D.ar - 1)) := by simp [rawW, ha]
    have Hw := Lib.hid hw; clear hw
    have hb : (D.ar == 0) = false := by simpa using ha
    go_enter Tryd.func62, Tryd.ntmps62
    go_wp2
    go_ret
    exact ⟨ret_bool (by rw [Bool.eq_iff_iff]; simp; omega), Hw.out⟩

theorem heap_rawW {k : Nat} (hk : k ≠ d) : (rawW w d D).heap[k]? = w.heap[k]? := by
  unfold rawW
  dsimp only
  split
  · exact heap_setCell_ne hk
  · rw [heap_setCell_ne hk, heap_setCell_ne hk]

theorem mod_rawW : Mod (fun k => k = d) w (rawW w d D) := by
  unfold rawW
  dsimp only
  split
  · exact (Mod.refl (fun k => k = d) w).setCell _ (fun _ => rfl)
  · exact ((Mod.refl (fun k => k = d) w).setCell _ (fun _ => rfl)).setCell _ (fun _ => rfl)

theorem size_rawW : (rawW w d D).heap.size = w.heap.size := by
  unfold rawW
  dsimp only
  split <;> simp [World.setCell]

theorem DiskAt.notFile (h : DiskAt w d D) : ∀ p ∈ D.files, d ∉ p.2.blocks ∧ D.m ∉ p.2.blocks := by
  intro p hp
  have ha := h.apart
  simp only [Dsk.blocks, List.nodup_cons, List.mem_cons, not_or] at ha
  have hin : ∀ k, k ∉ fblocks D.files → k ∉ p.2.blocks := fun k hk hx => hk (List.mem_flatMap.2 ⟨p, hp, hx⟩)
  exact ⟨hin _ ha.1.2, hin _ ha.2.1⟩

/-- A world in which the disk's own block alone is another one. -/
theorem DiskAt.own {w' : World} {D' : Dsk} (h : DiskAt w d D) (hm : Mod (fun k => k = d) w w') (hc : w'.heap[d]? = some (.cells #[.map (some D'.m), .int .i64 D'.room, .bool D'.off, .int .i64 D'.wr, .int .i64 D'.ar, .int .i64 D'.kp] 70 (0, 0)))
    (e1 : D'.m = D.m) (e2 : D'.files = D.files) (hok : D'.abs.Ok) : DiskAt w' d D' := by
  have hf := h.notFile
  have ha := h.apart
  have hb : D'.blocks d = D.blocks d := by simp [Dsk.blocks, e1, e2]
  refine ⟨hc, ?_, ?_, by rw [hb]; exact ha, hok⟩
  · rw [e1, e2]
    obtain ⟨es, clock, hb, F, hs, hD⟩ := h.map
    refine ⟨es, clock, hm.heap hb (fun e => ?_), F, hs, hD⟩
    simp only [Dsk.blocks, List.nodup_cons, List.mem_cons, not_or] at ha
    exact ha.1.1 e.symm
  · intro p hp
    rw [e2] at hp
    have hp1 := h.files p hp
    have hd := (hf p hp).1
    simp only [Fil.blocks, List.mem_cons, List.mem_append, Option.mem_toList, not_or] at hd
    refine ⟨hm.heap hp1.cells (fun e => hd.1 e.symm), ownsRow_kept hp1.safe ?_, ownsRow_kept hp1.wait ?_⟩
    · exact fun k hk => hm.block k (hp1.safe.lt k hk).2 (fun e => hd.2.1 (by rw [← e]; exact hk))
    · exact fun k hk => hm.block k (hp1.wait.lt k hk).2 (fun e => hd.2.2 (by rw [← e]; exact hk))

theorem Ok_armed {A : ADsk} (h : A.Ok) : A.armed.Ok := by
  have h0 := h.ar0
  have h1 := h.ar1
  refine ⟨h.few, h.small, h.rising, ?_, ?_, h.names, h.kp0, h.kp1⟩ <;> (simp only [ADsk.armed]; split <;> omega)

theorem DiskAt.raw (h : DiskAt w d D) : DiskAt (rawW w d D) d D.armed := by
  refine h.own mod_rawW ?_ rfl rfl (Ok_armed h.ok)
  unfold rawW Dsk.armed
  dsimp only
  by_cases ha : D.ar = 0
  · rw [if_pos ha, if_pos ha, heap_setCell_at h.cells]; simp [ha]
  · rw [if_neg ha, if_neg ha, heap_setCell_at (heap_setCell_at h.cells 3 _)]; simp

set_option maxHeartbeats 400000 in
theorem there_yes (h : DiskAt w d D) (s : ByteArray) (hs : s.size ≤ maxLen) (f : Fil) (hf : lookF D.files s.data.toList = some f) (hr : D.abs.ready s.data.toList = 0) :
    Calls Tryd.prog 60 #[.pointer (some ⟨d, 0, none⟩), .string s] w fun e w' => e = .returned (.tuple #[.pointer (some ⟨f.blk, 0, none⟩), .int .i64 0]) ∧ w = w' := by
  have c0 := h.c0
  have hl := h.look s hs
  have R := Lib.hid (ready_any h s)
  clear hs h
  rw [hf] at hl
  have Hr := Lib.hid hr; clear hr
  clear hf
  go_enter Tryd.func60, Tryd.ntmps60
  go_wp2_with (go_at_call 64; refine R.out.mono ?_; rw [Hr.out]; rintro e w' ⟨rfl, rfl⟩)
  go_ret2
  exact ⟨rfl, rfl⟩

set_option maxHeartbeats 400000 in
theorem there_no (h : DiskAt w d D) (s : ByteArray) (hs : s.size ≤ maxLen) (hn : D.abs.there s.data.toList ≠ 0) :
    Calls Tryd.prog 60 #[.pointer (some ⟨d, 0, none⟩), .string s] w fun e w' => e = .returned (.tuple #[.pointer none, .int .i64 (D.abs.there s.data.toList)]) ∧ w = w' := by
  have c0 := h.c0
  have hl := h.look s hs
  have R := Lib.hid (ready_any h s)
  clear hs h
  by_cases hr : D.abs.ready s.data.toList = 0
  · cases hf : lookF D.files s.data.toList with
    | some f => exact absurd (by simp [ADsk.there, hr, look_abs, hf]) hn
    | none =>
      rw [hf] at hl
      have hv : D.abs.there s.data.toList = 21 := by simp [ADsk.there, hr, look_abs, hf]
      have Hv := Lib.hid hv; clear hv
      have Hr := Lib.hid hr; clear hr
      clear hf hn
      go_enter Tryd.func60, Tryd.ntmps60
      go_wp2_with (go_at_call 64; refine R.out.mono ?_; rw [Hr.out]; rintro e w' ⟨rfl, rfl⟩)
      go_ret2
      exact ⟨by rw [Hv.out]; rfl, rfl⟩
  · have hv : D.abs.there s.data.toList = D.abs.ready s.data.toList := by simp [ADsk.there, hr]
    have Hv := Lib.hid hv; clear hv
    have hb : (D.abs.ready s.data.toList == 0) = false := by simpa using hr
    have hb2 : (D.abs.ready s.data.toList != 0) = true := by simpa using hr
    clear hl hn
    go_enter Tryd.func60, Tryd.ntmps60
    go_wp2_with (go_at_call 64; refine R.out.mono ?_; rintro e w' ⟨rfl, rfl⟩)
    go_ret2
    exact ⟨by rw [Hv.out]; rfl, rfl⟩
end
end Go.Proofs.YtmpdmejlpicdlaaDoor
/- The disk's size and the loss of power: the two loops over its map. -/
namespace Go.Proofs.YtmpdmejlpicdlaaDoor
open Go.RowKit Go.Bw Go.Maps
set_option linter.unusedVariables false
set_option linter.unusedSimpArgs false

theorem atKey_fdata' (n : Nm) (F : List (Nm × Fil)) (z : DataW Unit) : (fdata F).atKey (.string n) z = match lookF F n with | some f => .lit (.int .i64 f.blk) | none => z := by
  have e2 : ((fun p : Lit × DataW Unit => p.1.sameKey (.string n)) ∘ fent) = fun p => p.1 == n := rfl
  have e3 : (F.map fent).find? (fun p => p.1.sameKey (.string n)) = (F.find? (fun p => p.1 == n)).map fent := by rw [List.find?_map, e2]
  unfold lookF fdata DataW.atKey
  dsimp only
  split
  · rename_i p hp
    have hp' := hp.symm.trans e3
    cases hf : F.find? (fun p => p.1 == n) with
    | none => rw [hf] at hp'; cases hp'
    | some q => rw [hf] at hp'; cases hp'; rfl
  · rename_i hp
    have hp' := hp.symm.trans e3
    cases hf : F.find? (fun p => p.1 == n) with
    | none => rfl
    | some q => rw [hf] at hp'; cases hp'

theorem key_inv {key : Value} {kl : Lit} (h : keyOf Tryd.prog 9 key = some kl) : ∃ x : ByteArray, key = .string x ∧ kl = .string x.data.toList := by
  cases key <;> simp [keyOf, Tryd.underlying9, mapKey] at h
  obtain ⟨_, rfl⟩ := h
  exact ⟨_, rfl, rfl⟩

section
variable {P : Program} (w : World) {ops : Array Oper} {rest : List Oper} {o : Oper} {a : Act} {Q : Exit → Act → World → Prop}
def strike (left : Lit → Bool) (n : Nm) : Lit → Bool := fun z => left z && !z.sameKey (.string n)
/-- The step of a range over the disk's map. -/
theorem wpList_next_disk (hg : o.guard = none) (it : Operand) (hop : o.op = Op.next it false) (b r n : Nat) (F : List (Nm × Fil)) (left : Lit → Bool) (cnt : Nat)
    (hit : a.eval it = .pointer (some ⟨r, 0, none⟩)) (h : w.ranges Tryd.prog 9 ptrElem b r n (fdata F) left cnt)
    (hDone : (∀ kl, left kl = false) → wpList Tryd.prog ops Q rest (a.put o.dst (.tuple #[.bool false])) w)
    (hMore : ∀ (x : ByteArray) (m : Nm) (f : Fil) (w' : World) (cnt' : Nat), (m, f) ∈ F → m = x.data.toList → left (.string m) = true → w'.ranges Tryd.prog 9 ptrElem b r n (fdata F) (strike left m) cnt' → cnt' < cnt →
      w.grownBy w' (some r) → w'.heap.size = w.heap.size → (Instr.entry (.pointer (some ⟨r, 0, none⟩))).run Tryd.prog w' = .ok (.tuple #[.string x, .pointer (some ⟨f.blk, 0, none⟩)]) w' → wpList Tryd.prog ops Q rest (a.put o.dst (.tuple #[.bool true, .string x, .pointer (some ⟨f.blk, 0, none⟩)])) w') :
    wpList Tryd.prog ops Q (o :: rest) a w := by
  refine wpList_next_ranges w hg it hop 9 (string_keyed Tryd.underlying9) ptrElem (fun s : ByteArray => Value.string s) (fun q : Option Addr => Value.pointer q) (fun key kl hk => ?_) (fun v y hv => ?_) b r n (fdata F) left cnt hit h (fun _ hl => hDone hl) ?_
  · obtain ⟨x, hx, _⟩ := key_inv hk; exact ⟨x, hx⟩
  · unfold ptrElem at hv
    split at hv
    · exact ⟨_, rfl⟩
    · exact ⟨_, rfl⟩
    · cases hv
  · intro x c kl y w' cnt' hkey hlk hv hat hrg hlt hgr hsz hen
    obtain ⟨x', ex, rfl⟩ := key_inv hkey
    cases ex
    cases hl : lookF F x.data.toList with
    | none =>
      have h1 := hat .nil
      have h2 := hat (.lit (.bool true))
      rw [atKey_fdata', hl] at h1 h2
      dsimp only at h1 h2
      exact absurd (h1.trans h2.symm) (by simp)
    | some f =>
      have h1 := hat .nil
      rw [atKey_fdata', hl] at h1
      dsimp only at h1
      obtain ⟨y1, y2⟩ := y
      dsimp only at h1
      subst h1
      have hc := ptrElem_inv hv
      cases hc
      exact hMore x x.data.toList f w' cnt' (look_some hl) rfl hlk hrg hlt hgr hsz hen
end

/-! ### Sums over what has come -/
def partSum (left : Lit → Bool) (F : List (Nm × Fil)) : Nat := ((F.filter (fun p => !left (.string p.1))).map (fun p => p.2.c.len)).sum

theorem sum_filter_step {α : Type} (g : α → Nat) (u v : α → Bool) : ∀ (F : List α) (q : α), q ∈ F → F.Nodup → u q = false → v q = true → (∀ p ∈ F, p ≠ q → v p = u p) →
    ((F.filter v).map g).sum = ((F.filter u).map g).sum + g q
  | [], _, h, _, _, _, _ => by cases h
  | y :: r, q, h, hd, hu, hv, he => by
    obtain ⟨h1, h2⟩ := List.nodup_cons.1 hd
    by_cases hy : y = q
    · subst hy
      have hr : r.filter v = r.filter u := List.filter_congr (fun p hp => he p (by simp [hp]) (fun e => h1 (e ▸ hp)))
      rw [List.filter_cons, List.filter_cons, hu, hv, hr]
      simp; omega
    · have hq : q ∈ r := by rcases List.mem_cons.1 h with e | e; exact absurd e.symm hy; exact e
      have ih := sum_filter_step g u v r q hq h2 hu hv (fun p hp => he p (by simp [hp]))
      rw [List.filter_cons, List.filter_cons, he y (by simp) hy]
      split <;> simp [ih]; omega

theorem rising_nodup {α : Type} {F : List (Nm × α)} (h : Rising F) : F.Nodup :=
  List.Pairwise.imp (fun {p q} hb e => by subst e; rw [before_irrefl] at hb; cases hb) h

theorem partSum_step {left : Lit → Bool} {F : List (Nm × Fil)} (hr : Rising F) {p : Nm × Fil} (hp : p ∈ F) (hl : left (.string p.1) = true) :
    partSum (strike left p.1) F = partSum left F + p.2.c.len := by
  unfold partSum
  refine sum_filter_step (fun p : Nm × Fil => p.2.c.len) (fun p => !left (.string p.1)) (fun q => !strike left p.1 (.string q.1)) F p hp (rising_nodup hr) (by simp [hl]) (by simp [strike, Lit.sameKey]) ?_
  intro q hq hne
  have : q.1 ≠ p.1 := fun e => hne (rising_inj hr hq hp e)
  simp [strike, Lit.sameKey, this]

theorem partSum_done {left : Lit → Bool} {D : Dsk} (hl : ∀ kl, left kl = false) : partSum left D.files = total D.abs.files := by
  unfold partSum total Dsk.abs
  rw [List.filter_eq_self.2 (fun p _ => by simp [hl])]
  simp [List.map_map, Function.comp_def]

theorem has_fdata {F : List (Nm × Fil)} {p : Nm × Fil} (hp : p ∈ F) : Maps.has (fdata F) (.string p.1) = true := by
  show (F.map fent).any (fun q => q.1.sameKey (.string p.1)) = true
  rw [List.any_eq_true]
  exact ⟨fent p, List.mem_map_of_mem hp, by simp [fent, Lit.sameKey]⟩

theorem partSum_start (F : List (Nm × Fil)) : partSum (Maps.has (fdata F)) F = 0 := by
  unfold partSum
  have : F.filter (fun p => !Maps.has (fdata F) (.string p.1)) = [] := List.filter_eq_nil_iff.2 (fun p hp => by simp [has_fdata hp])
  rw [this]; rfl

theorem sum_le {α : Type} (g : α → Nat) (B : Nat) : ∀ l : List α, (∀ p ∈ l, g p ≤ B) → (l.map g).sum ≤ l.length * B
  | [], _ => by simp
  | y :: r, h => by
    have := sum_le g B r (fun p hp => h p (by simp [hp]))
    have h1 := h y (by simp)
    simp only [List.map_cons, List.sum_cons, List.length_cons, Nat.succ_mul]; omega

theorem partSum_le {left : Lit → Bool} {D : Dsk} (h : D.abs.Ok) : partSum left D.files ≤ 16777216 := by
  unfold partSum
  have h1 := sum_le (fun p : Nm × Fil => p.2.c.len) 1048576 (D.files.filter (fun p => !left (.string p.1))) (fun p hp => by
    have := h.small (p.1, p.2.c) (by simp only [Dsk.abs]; exact List.mem_map.2 ⟨p, (List.mem_filter.1 hp).1, rfl⟩)
    exact this)
  have h2 := List.length_filter_le (fun p : Nm × Fil => !left (.string p.1)) D.files
  have h3 := h.few
  simp only [Dsk.abs, List.length_map] at h3
  have h4 : (D.files.filter (fun p => !left (.string p.1))).length * 1048576 ≤ 16 * 1048576 := Nat.mul_le_mul_right _ (by omega)
  omega

theorem FileAt.shape {w : World} {f : Fil} (h : FileAt w f) : ∃ a1 c1 a2 c2, f.sv = .slice a1 f.c.safe.length c1 ∧ f.wv = .slice a2 f.c.wait.length c2 ∧ w.cell? ⟨f.blk, 0, none⟩ = some (.slice a1 f.c.safe.length c1) ∧ w.cell? ⟨f.blk, 1, none⟩ = some (.slice a2 f.c.wait.length c2) := by
  have h1 := cell_of_heap h.cells 0
  have h2 := cell_of_heap h.cells 1
  obtain ⟨_, hs⟩ := h.safe
  obtain ⟨_, hw⟩ := h.wait
  have s1 : ∃ a1 c1, f.sv = .slice a1 f.c.safe.length c1 := by
    rcases hs with ⟨e, e2⟩ | ⟨g, cap, cur, e, _⟩
    · exact ⟨none, 0, by rw [e, e2]⟩
    · exact ⟨_, _, e⟩
  have s2 : ∃ a1 c1, f.wv = .slice a1 f.c.wait.length c1 := by
    rcases hw with ⟨e, e2⟩ | ⟨g, cap, cur, e, _⟩
    · exact ⟨none, 0, by rw [e, e2]⟩
    · exact ⟨_, _, e⟩
  obtain ⟨a1, c1, e1⟩ := s1
  obtain ⟨a2, c2, e2⟩ := s2
  exact ⟨a1, c1, a2, c2, e1, e2, by rw [h1, ← e1]; rfl, by rw [h2, ← e2]; rfl⟩

theorem Dsk.rising {D : Dsk} (h : D.abs.Ok) : Rising D.files := by
  have := h.rising
  simp only [Dsk.abs, Rising] at this
  exact List.pairwise_map.1 this

set_option maxHeartbeats 800000 in
theorem size_any {w : World} {d : Nat} {D : Dsk} (h : DiskAt w d D) :
    Calls Tryd.prog 65 #[.pointer (some ⟨d, 0, none⟩)] w fun e w' => e = .returned (.int .i64 (total D.abs.files)) ∧ Below w.heap.size w w' := by
  have c0 := h.c0
  have H := Lib.hid h
  have hown := Lib.hid h.map
  clear h
  go_enter Tryd.func65, Tryd.ntmps65
  go_wp2_with (at_range; refine wpList_range_own _ rfl _ 68 rfl 9 76 (string_keyed Tryd.underlying9) Tryd.underlying68 _ D.m 16 _ rfl hown.out ?_; intro w0 hrg0 hg0 hs0)
  go_frame
  go_loopw [3] (fun v wr => ∃ left cnt, v = .int .i64 (partSum left D.files) ∧ wr.ranges Tryd.prog 9 ptrElem D.m w.heap.size 16 (fdata D.files) left cnt ∧ Below w.heap.size w wr) (fun _ wr => wr.rangeLeft D.m w.heap.size)
  case atStart => exact ⟨_, _, by rw [partSum_start]; rfl, hrg0, (Below.refl _ _).grown hg0 (Nat.le_refl _) (by simp)⟩
  case round =>
    obtain ⟨left, cnt, rfl, hrg, hb⟩ := hrel
    have Hrg := Lib.hid hrg
    have Hb := Lib.hid hb
    clear hrg hb hrg0 hg0
    go_wp2_with (at_next; refine wpList_next_disk _ rfl _ rfl D.m w.heap.size 16 _ left cnt rfl Hrg.out ?_ ?_)
    · intro hdone
      have e := Lib.hid (partSum_done (D := D) hdone)
      clear hdone
      go_wp2
      go_ret
      exact ⟨ret_int (by rw [e.out]), Hb.out⟩
    · intro x m f w1 cnt1 hp hx hl hrg1 hlt hg1 hs1 hen
      have hb1 : Below w.heap.size w w1 := Hb.out.grown hg1 Hb.out.size (by simp)
      obtain ⟨a1, k1, a2, k2, _, _, f1, f2⟩ := (H.out.files (m, f) hp).shape
      have g1 := (hb1.cell (p := ⟨f.blk, 0, none⟩) (World.block_lt_of_cell? w _ f1)).trans f1
      have g2 := (hb1.cell (p := ⟨f.blk, 1, none⟩) (World.block_lt_of_cell? w _ f2)).trans f2
      have hstep := Lib.hid (partSum_step (Dsk.rising H.out.ok) hp hl)
      have hle := partSum_le (left := strike left m) H.out.ok
      have hle0 := partSum_le (left := left) H.out.ok
      have hlen : f.c.safe.length + f.c.wait.length ≤ 1048576 := H.out.ok.small (m, f.c) (List.mem_map.2 ⟨(m, f), hp, rfl⟩)
      have Hm := Lib.hid (show w1.rangeLeft D.m w.heap.size < wr.rangeLeft D.m w.heap.size by rw [hrg1.left_eq, Hrg.out.left_eq]; exact hlt)
      have Hrg1 := Lib.hid hrg1
      have Hb1 := Lib.hid hb1
      clear hx hl hrg1 hlt hg1 hs1 hb1 f1 f2 c0 hp hs0
      go_wp2
      go_quiet (fail)
      go_wp2
      go_roundw
      case rel =>
        refine ⟨_, _, ?_, Hrg1.out, ?_⟩
        · rw [hstep.out]; simp [Cont.len]
        · exact ⟨Hb1.out.os, Hb1.out.tape, Hb1.out.output, Hb1.out.size, Hb1.out.block⟩
      case measure => exact Hm.out
end Go.Proofs.YtmpdmejlpicdlaaDoor
/- append onto a slice that owns its row, of whatever slice: the law with the new row's place told. No program is named. -/
namespace Go.Bw
open Go.RowKit
set_option linter.unusedVariables false
set_option linter.unusedSimpArgs false

/-- A slice of m elements of so many cells reads as these cells. -/
def Reads (w : World) (size : Nat) (x : Value) (m : Nat) (news : List Value) : Prop :=
  news.length = m * size ∧ ((∃ c, x = .slice none 0 c ∧ m = 0) ∨ ∃ a c, x = .slice (some a) m c ∧ ∀ j u, news[j]? = some u → w.cell? (a.add j) = some u)

section
variable {P : Program} {w : World}

theorem run_append_to (t ty e : TypeId) (i : TypeInfo) (z : Value) (size bytes : Nat) (ht : P.underlying t = some (.slice e)) (hi : P.info? e = some i) (hz : i.zero = some z)
    (hsize : i.size = size) (hby : i.bytes = bytes) (hzs : z.cells.size = size) (hsz : 0 < size)
    (v : Value) (n : Nat) (xs : List Value) (hown : w.ownsRow 0 e size v n xs)
    (x : Value) (m : Nat) (news : List Value) (hx : Reads w size x m news) (h1 : ∀ u ∈ news, u.oneCell' = true)
    (h63 : n + m ≤ maxLen) (hbytes : (n + m) * bytes ≤ 140737488355328) :
    ∃ v' w', (Builtin.append_ #[t, t] ty #[v, x]).run P w = .ok v' w' ∧ w'.ownsRow 0 e size v' (n + m) (xs ++ news) ∧ Mod (fun k => v.ownBlock = some k) w w' ∧
      (∀ k, v'.ownBlock = some k → v.ownBlock = some k ∨ k = w.heap.size) ∧ (v' = .slice none 0 0 ↔ v = .slice none 0 0 ∧ m = 0) := by
  subst hsize
  subst hby
  obtain ⟨hl, hx⟩ := hx
  have hsmall : n + m ≤ 9223372036854775807 := by simp only [maxLen] at h63; omega
  have hlen : (xs ++ news).length = (n + m) * i.size := by rw [List.length_append, hown.1, hl, Nat.add_mul]
  rcases hx with ⟨c, rfl, rfl⟩ | ⟨a, c, rfl, hnews⟩
  · -- nothing is appended
    have hn : news = [] := List.eq_nil_of_length_eq_zero (by simpa using hl)
    subst hn
    refine ⟨v, w, ?_, by simpa using hown, Mod.refl _ _, fun k hk => Or.inl hk, by simp⟩
    rcases hown.2 with ⟨rfl, rfl⟩ | ⟨g, cap, cur, rfl, hbg, hg, hnc, hcm, hcs, htake⟩
    · simp [Builtin.append_, run_underlying ht, sizeOf, typeInfo, hi, Builtin.lenOf, Builtin.firstCells]
    · simp [Builtin.append_, run_underlying ht, sizeOf, typeInfo, hi, Builtin.lenOf, Builtin.firstCells, hnc, storeCells]
  · have grown : ∀ (old : Nat), old < n + m →
        (w.drew.alloc (.cells (xs.toArray ++ news.toArray ++ Builtin.zeroCells z.cells (grownCap w (n + m) old e - (n + m))) e)).ownsRow 0 e i.size
          (.slice (some ⟨w.heap.size, 0, none⟩) (n + m) (grownCap w (n + m) old e)) (n + m) (xs ++ news) ∧
        ∀ S, Mod S w (w.drew.alloc (.cells (xs.toArray ++ news.toArray ++ Builtin.zeroCells z.cells (grownCap w (n + m) old e - (n + m))) e)) := by
      intro old ho
      have hge := grownCap_ge w (n + m) old e
      have hcm : grownCap w (n + m) old e ≤ maxLen := grownCap_le_maxLen w (n + m) old e h63
      refine ⟨⟨hlen, .inr ⟨w.heap.size, _, _, rfl, Nat.zero_le _, heap_alloc_new w.drew _, hge, hcm, ?_, ?_⟩⟩, fun S => ((Mod.refl S w).drew).alloc _⟩
      · simp only [Array.size_append, List.size_toArray, size_zeroCells, hzs, hown.1, hl, ← Nat.add_mul]
        congr 1
        omega
      · simp only [Array.toList_append, List.append_assoc]
        rw [← List.append_assoc, ← hlen]
        exact List.take_left
    rcases hown.2 with ⟨rfl, rfl⟩ | ⟨g, cap, cur, rfl, hbg, hg, hnc, hcm, hcs, htake⟩
    · have hx : xs = [] := List.eq_nil_of_length_eq_zero (by simpa using hown.1)
      subst hx
      by_cases hm : m = 0
      · subst hm
        have hn : news = [] := List.eq_nil_of_length_eq_zero (by simpa using hl)
        subst hn
        refine ⟨.slice none 0 0, w, ?_, World.ownsRow_nil w 0 e i.size, Mod.refl _ _, fun k hk => Or.inl hk, by simp⟩
        simp [Builtin.append_, run_underlying ht, sizeOf, typeInfo, hi, Builtin.lenOf, Builtin.firstCells, loadCells, loadCellsFrom]
      · have hr := run_append_nil (P := P) w t ty e i z ht hi hz a m c news hl hnews (by omega) (by omega) (by have hb := hbytes; simp only [Nat.zero_add] at hb; omega)
        have hgr := grown 0 (by omega)
        simp only [Nat.zero_add, List.nil_append, Array.empty_append] at hgr ⊢
        exact ⟨_, _, hr, hgr.1, hgr.2 _, fun k hk => Or.inr (by simpa [Value.ownBlock] using hk.symm), by simp [hm]⟩
    · by_cases hroom : n + m ≤ cap
      · have hfit : n * i.size + news.length ≤ cur.size := by rw [hl, hcs, ← Nat.add_mul]; exact Nat.mul_le_mul_right _ hroom
        have hr := run_append_room (P := P) w t ty e i ht hi g n cap cur hg a m c news hl hnews h1 hroom hfit
        refine ⟨_, _, hr, ⟨hlen, .inr ⟨g, cap, _, rfl, hbg, setRow_heap w g cur _ e _ hg, hroom, hcm, ?_, ?_⟩⟩, ⟨rfl, rfl, rfl, by simp, fun k _ hk => setRow_other w g k _ (fun e => hk (by simp [Value.ownBlock, e]))⟩, fun k hk => Or.inl (by simpa [Value.ownBlock] using hk), by simp⟩
        · simp only [List.size_toArray, List.length_append, List.length_take, List.length_drop, Array.length_toList]
          omega
        · rw [htake, ← hlen]
          exact List.take_left
      · have holds : ∀ j u, xs[j]? = some u → w.cell? ((⟨g, 0, none⟩ : Addr).add j) = some u := hown.cells (g := g) rfl
        have hr := run_append_grow (P := P) w t ty e i z ht hi hz ⟨g, 0, none⟩ n cap xs hown.1 holds a m c news hl hnews (by omega) (by omega) (growslice_fits (by omega) hbytes)
        have hgr := grown cap (by omega)
        exact ⟨_, _, hr, hgr.1, hgr.2 _, fun k hk => Or.inr (by simpa [Value.ownBlock] using hk.symm), by simp⟩

theorem ownsRow_reads {base e size : Nat} {v : Value} {n : Nat} {xs : List Value} (h : w.ownsRow base e size v n xs) : Reads w size v n xs := by
  refine ⟨h.1, ?_⟩
  rcases h.2 with ⟨rfl, rfl⟩ | ⟨g, cap, cur, rfl, r⟩
  · exact Or.inl ⟨0, rfl, rfl⟩
  · exact Or.inr ⟨_, _, rfl, h.cells (g := g) rfl⟩

theorem ownsRow_slice {base e size : Nat} {v : Value} {n : Nat} {xs : List Value} (h : w.ownsRow base e size v n xs) : ∃ a c, v = .slice a n c ∧ n ≤ c := by
  rcases h.2 with ⟨rfl, rfl⟩ | ⟨g, cap, cur, rfl, _, _, hc, _⟩
  · exact ⟨none, 0, rfl, Nat.le_refl _⟩
  · exact ⟨_, _, rfl, hc⟩

theorem Reads.kept {S : Nat → Prop} {w' : World} {size : Nat} {x : Value} {m : Nat} {news : List Value} (h : Reads w size x m news) (hm : Mod S w w') (hS : ∀ k, x.ownBlock = some k → ¬ S k) : Reads w' size x m news := by
  obtain ⟨h1, h2⟩ := h
  refine ⟨h1, ?_⟩
  rcases h2 with h2 | ⟨a, c, rfl, h2⟩
  · exact Or.inl h2
  · exact Or.inr ⟨a, c, rfl, fun j u hu => hm.cell (h2 j u hu) (by
      have : (a.add j).block = a.block := by unfold Addr.add; split <;> rfl
      rw [this]; exact hS _ rfl)⟩
/-- append whose run is known, as one step of a region that draws. -/
theorem step_append_run {ops : Array Oper} {o : Oper} {a : Act} {K : Act → World → Prop} {Q : Exit → Act → World → Prop} {E : Prop} {w' : World} {r v u : Value}
    (hg : o.guard = none) (s x : Operand) (t : TypeId) (hop : o.op = Op.call { callee := Callee.builtin Builtin.append, args := #[s, x], argTypes := #[t, t] })
    (hs : a.eval s = v) (hx : a.eval x = u) (hrun : (Builtin.append_ #[t, t] o.type #[v, u]).run P w = .ok r w') (hK : K (a.put o.dst r) w') :
    if Region.wanted o (yielded ops a.tmps) = true then Oper.wp P o a w K Q else E := by
  have hw : Region.wanted o (yielded ops a.tmps) = true := by simp [Region.wanted, hg]
  rw [if_pos hw]
  unfold Oper.wp
  simp [execOp, hop, resolve, invoke, builtin, hs, hx, hrun, Result.andThen]
  exact hK
theorem wp_append_run {o : Oper} {a : Act} {K : Act → World → Prop} {Q : Exit → Act → World → Prop} {w' : World} {r v u : Value}
    (s x : Operand) (t : TypeId) (hop : o.op = Op.call { callee := Callee.builtin Builtin.append, args := #[s, x], argTypes := #[t, t] })
    (hs : a.eval s = v) (hx : a.eval x = u) (hrun : (Builtin.append_ #[t, t] o.type #[v, u]).run P w = .ok r w') (hK : K (a.put o.dst r) w') :
    Oper.wp P o a w K Q := by
  unfold Oper.wp
  simp [execOp, hop, resolve, invoke, builtin, hs, hx, hrun, Result.andThen]
  exact hK
/-- The same in a list of operations. -/
theorem wpList_append_run {ops : Array Oper} {o : Oper} {rest : List Oper} {a : Act} {Q : Exit → Act → World → Prop} {w' : World} {r v u : Value}
    (hg : o.guard = none) (s x : Operand) (t : TypeId) (hop : o.op = Op.call { callee := Callee.builtin Builtin.append, args := #[s, x], argTypes := #[t, t] })
    (hs : a.eval s = v) (hx : a.eval x = u) (hrun : (Builtin.append_ #[t, t] o.type #[v, u]).run P w = .ok r w') (hK : wpList P ops Q rest (a.put o.dst r) w') :
    wpList P ops Q (o :: rest) a w := by
  refine wpList_plain hg fun K' hK' => ?_
  unfold Oper.wp
  simp [execOp, hop, resolve, invoke, builtin, hs, hx, hrun, Result.andThen]
  exact hK' _ _ hK
end
end Go.Bw
/- A region that draws its order, walked once in the order of its text: where each two operations that may come in either order do not touch each other. No program is named. -/
namespace Go.Bw
set_option linter.unusedVariables false
set_option linter.unusedSimpArgs false

/-- Q, but False at a panic and at the end of memory. -/
def Strict (Q : Exit → Act → World → Prop) : Exit → Act → World → Prop
  | .panic _, _, _ => False
  | .outgrown, _, _ => False
  | e, a, w => Q e a w

theorem Strict.imp {Q : Exit → Act → World → Prop} {e : Exit} {a : Act} {w : World} (h : Strict Q e a w) : Q e a w := by
  cases e <;> first | exact h | exact h.elim

/-- An operation whose run gives a value or nothing. -/
def simpleOp : Op → Bool
  | .move _ | .assign _ | .pick .. | .nilCheck _ | .fieldAddr .. | .extract .. => true
  | _ => false

def OnlyVal (P : Program) (s : Sem Next) : Prop := ∀ w n w', s.run P w = .ok n w' → ∃ v, n = .value v
theorem OnlyVal.bind {P : Program} {β : Type} {s : Sem β} {f : β → Sem Next} (h : ∀ x, OnlyVal P (f x)) : OnlyVal P (s >>= f) := by
  intro w n w' hb
  rw [Sem.run_bind] at hb
  cases hr : s.run P w with
  | ok v w1 => rw [hr, Result.andThen_ok] at hb; exact h v w1 n w' hb
  | halt x w1 => rw [hr] at hb; simp at hb
theorem OnlyVal.pure {P : Program} (v : Value) : OnlyVal P (pure (.value v)) := by
  intro w n w' h; simp at h; exact ⟨v, h.1.symm⟩
theorem OnlyVal.halt {P : Program} (x : Halt) : OnlyVal P (.halt x) := by
  intro w n w' h; simp [Sem.run] at h
theorem OnlyVal.nil {P : Program} : OnlyVal P (runtimePanic .nilDeref) := by
  intro w n w' h; simp [runtimePanic, goPanic] at h

theorem simple_value {P : Program} {ρ : Operand → Value} {o : Oper} (hs : simpleOp o.op = true) : OnlyVal P (execOp ρ o) := by
  obtain ⟨dst, op, type, pos, after, guard⟩ := o
  cases op <;> simp only [simpleOp] at hs <;> try cases hs
  case move x => exact OnlyVal.pure _
  case assign x => exact OnlyVal.pure _
  case pick c x y => exact OnlyVal.bind (fun _ => OnlyVal.pure _)
  case fieldAddr s x f => exact OnlyVal.bind (fun _ => OnlyVal.pure _)
  case extract t ix => exact OnlyVal.bind (fun _ => OnlyVal.pure _)
  case nilCheck x =>
    simp only [execOp]
    split
    · exact OnlyVal.nil
    · exact OnlyVal.nil
    · exact OnlyVal.nil
    · split
      · exact OnlyVal.nil
      · refine OnlyVal.bind (fun _ => OnlyVal.bind (fun _ => ?_))
        split
        · exact OnlyVal.bind (fun _ => OnlyVal.pure _)
        · exact OnlyVal.pure _
      · exact OnlyVal.pure _
    · exact OnlyVal.pure _

section
variable {P : Program} {ops : Array Oper} {Q : Exit → Act → World → Prop} {effs pures : List Nat}

/-- Operation i comes next: one that may do anything; one that yields its value in whatever world; one that leaves the world alone. -/
def lexStep (P : Program) (ops : Array Oper) (Q : Exit → Act → World → Prop) (effs pures : List Nat) (i : Nat) (K : Act → World → Prop) (a : Act) (w : World) : Prop :=
  match ops[i]? with
  | none => K a w
  | some o =>
    if effs.contains i then wpOp P ops (Strict Q) i K a w
    else if pures.contains i then ∃ v, YieldsIf P ops (fun _ => True) o v a ∧ K (a.put o.dst v) w
    else ∃ v, YieldsIn P ops (fun w' => w' = w) o v a ∧ K (a.put o.dst v) w

def lexAll (P : Program) (ops : Array Oper) (Q : Exit → Act → World → Prop) (effs pures : List Nat) : List Nat → Act → World → Prop
  | [], a, w => Q .normal a w
  | i :: rest, a, w => lexStep P ops Q effs pures i (lexAll P ops Q effs pures rest) a w

theorem lexStep_mono {i : Nat} {K K' : Act → World → Prop} (h : ∀ a w, K a w → K' a w) {a : Act} {w : World} (hh : lexStep P ops Q effs pures i K a w) : lexStep P ops Q effs pures i K' a w := by
  unfold lexStep at *
  split
  · rename_i ho; simp only [ho] at hh; exact h _ _ hh
  · rename_i o ho
    simp only [ho] at hh
    split
    · rename_i he; rw [if_pos he] at hh; exact wpOp_mono h hh
    · rename_i he
      rw [if_neg he] at hh
      split
      · rename_i hp; rw [if_pos hp] at hh; obtain ⟨v, h1, h2⟩ := hh; exact ⟨v, h1, h _ _ h2⟩
      · rename_i hp; rw [if_neg hp] at hh; obtain ⟨v, h1, h2⟩ := hh; exact ⟨v, h1, h _ _ h2⟩

theorem lexStep_wpOp {i : Nat} {K : Act → World → Prop} {a : Act} {w : World} (hh : lexStep P ops Q effs pures i K a w) : wpOp P ops (Strict Q) i K a w := by
  unfold lexStep at hh
  split at hh
  · rename_i ho; unfold wpOp; simp only [ho]; exact hh
  · rename_i o ho
    split at hh
    · exact hh
    · split at hh
      · obtain ⟨v, h1, h2⟩ := hh; exact h1.wpOp (S := fun _ => True) ho trivial h2
      · obtain ⟨v, h1, h2⟩ := hh
        exact wpOp_of_qOp (C := fun w' => w' = w) (K := fun a' => a' = a.put o.dst v) rfl (fun a' w' e h => by subst e; subst h; exact h2) (h1.qOp ho rfl)

/-- j must wait for i, by at most so many edges. -/
def waits (ops : Array Oper) : Nat → Nat → Nat → Bool
  | 0, _, _ => false
  | n + 1, j, i => match ops[j]? with
    | none => false
    | some o => o.after.toList.any (fun e => Region.binds .any e && e.on == i) || o.after.toList.any (fun e => Region.binds .any e && decide (i < e.on) && waits ops n e.on i)

def plainOp : Op → Bool
  | .select .. | .defer .. | .go .. | .recv .. | .send .. => false
  | _ => true

/-- i and j may come in either order. -/
def commB (ops : Array Oper) (effs pures : List Nat) (i j : Nat) : Bool :=
  match ops[i]?, ops[j]? with
  | some oi, some oj => oi.apart ops oj && oj.apart ops oi && (pures.contains i || pures.contains j || (!effs.contains i && !effs.contains j))
  | _, _ => false

def lexB (ops : Array Oper) (effs pures : List Nat) : Bool :=
  ops.all (fun o => plainOp o.op) &&
  (List.range ops.size).all (fun j =>
    ((ops[j]?).map (fun o => o.after.all (fun e => !Region.binds .any e || decide (e.on < j)))).getD true &&
    ((ops[j]?).map (fun o => !pures.contains j || (simpleOp o.op && !effs.contains j))).getD true &&
    (List.range j).all (fun i => commB ops effs pures i j || waits ops 12 j i))

theorem plain_select {o : Oper} (h : plainOp o.op = true) : ∀ cs b, o.op ≠ .select cs b := by
  intro cs b e; rw [e] at h; cases h

/-! ### Exchanging two neighbours -/

theorem letsOut_strict : ¬ LetsOut (Strict Q) := fun ⟨_, _, h⟩ => h

/-- What comes behind an operation is its act with the value put in. -/
theorem wpOp_shape {i : Nat} {o : Oper} (hi : ops[i]? = some o) {K : Act → World → Prop} {a : Act} {w : World} (h : wpOp P ops (Strict Q) i K a w) :
    wpOp P ops (Strict Q) i (fun a' w' => (∃ ds v, a' = ({ a with defers := ds } : Act).put o.dst v) ∧ K a' w') a w := by
  unfold wpOp at *
  simp only [hi] at *
  split
  · rename_i hw
    rw [if_pos hw] at h
    rcases h with h | h
    case inr => exact .inr h
    refine .inl ?_
    unfold Oper.wp at *
    generalize (execOp a.eval o).run P w = r at *
    cases r with
    | ok n w' =>
      cases n <;> simp only [Oper.upon] at h ⊢
      case value u => exact ⟨⟨a.defers, u, rfl⟩, h⟩
      case skip => exact ⟨⟨a.defers, undef, rfl⟩, h⟩
      case defer d => exact ⟨⟨d :: a.defers, undef, rfl⟩, h⟩
      case enter f args => exact Calls.mono h fun e w'' he => by cases e <;> first | exact ⟨⟨a.defers, _, rfl⟩, he⟩ | exact he
      case row row args => exact Rows.mono h fun u w'' he => ⟨⟨a.defers, _, rfl⟩, he⟩
    | halt x w' =>
      cases x <;> simp only [Oper.upon] at h ⊢
      case panic u => exact h
  · rename_i hw
    rw [if_neg hw] at h
    exact ⟨⟨a.defers, undef, rfl⟩, h⟩

theorem wpOp_false {i : Nat} {o : Oper} (hi : ops[i]? = some o) {a : Act} {w : World} (h : wpOp P ops (Strict Q) i (fun _ _ => False) a w) : False := by
  unfold wpOp at h
  simp only [hi] at h
  split at h
  · rcases h with h | ⟨_, h⟩
    · unfold Oper.wp at h
      generalize (execOp a.eval o).run P w = r at *
      cases r with
      | ok n w' =>
        cases n <;> simp only [Oper.upon] at h
        case enter f args =>
          obtain ⟨e, w'', fr, he, _⟩ := h []
          cases e <;> first | exact he | exact letsOut_strict he
        case row row args =>
          obtain ⟨v, w'', hv, _⟩ := h (Frame.enter P 0 #[] .normal) []
          exact hv
      | halt x w' =>
        cases x <;> simp only [Oper.upon] at h
        case panic u => exact h
    · exact letsOut_strict h
  · exact h

/-- What an operation does is done as well with another one's value put in ahead. -/
theorem wpOp_ahead {i : Nat} {oi oj : Oper} {u : Value} (hi : ops[i]? = some oi) (hap : oj.apart ops oi = true) (hsi : ∀ cs b, oi.op ≠ .select cs b) {K : Act → World → Prop} {a : Act} {w : World}
    (h : wpOp P ops (Strict Q) i (fun a' w' => K (a'.put oj.dst u) w') a w) : wpOp P ops (Strict Q) i K (a.put oj.dst u) w := by
  obtain ⟨h1, h2, h3⟩ := Oper.apart_spec hap
  unfold wpOp at *
  simp only [hi] at *
  rw [wanted_put oi a oj.dst u h1]
  split
  · rename_i hw
    rw [if_pos hw] at h
    rcases h with h | ⟨_, h⟩
    · refine .inl ?_
      unfold Oper.wp at *
      rw [execOp_put oi hsi a oj.dst u h1]
      generalize (execOp a.eval oi).run P w = r at *
      cases r with
      | ok n w' =>
        cases n <;> simp only [Oper.upon] at h ⊢
        case value x => rw [Act.put_comm a u x h2]; exact h
        case skip => rw [Act.put_comm a u undef h2]; exact h
        case defer d => rw [Act.put_defers, Act.put_comm _ u undef h2]; exact h
        case enter f args =>
          refine Calls.mono h fun e w'' he => ?_
          cases e with
          | returned x => show K _ _; rw [Act.put_comm a u x h2]; exact he
          | panicked c => exact he
          | outgrown => exact he
        case row row args => exact Rows.mono h fun x w'' he => by rw [Act.put_comm a u x h2]; exact he
      | halt x w' =>
        cases x <;> simp only [Oper.upon] at h ⊢
        case panic x => exact h
    · exact absurd h letsOut_strict
  · rename_i hw
    rw [if_neg hw] at h
    rw [Act.put_comm a u undef h2]; exact h

theorem YieldsIf.uniq {o : Oper} {a : Act} {v u : Value} (h1 : YieldsIf P ops (fun _ => True) o v a) (h2 : YieldsIf P ops (fun _ => True) o u a) : v = u := by
  rcases h1 with ⟨a1, b1⟩ | ⟨a1, b1⟩ <;> rcases h2 with ⟨a2, b2⟩ | ⟨a2, b2⟩
  · have e := (b1 default trivial).symm.trans (b2 default trivial)
    simpa using e
  · rw [a1] at a2; cases a2
  · rw [a1] at a2; cases a2
  · rw [b1, b2]

theorem lex_swap {i j : Nat} {oi oj : Oper} (hi : ops[i]? = some oi) (hj : ops[j]? = some oj) (hpi : plainOp oi.op = true) (hpj : plainOp oj.op = true) (hc : commB ops effs pures i j = true) (hei : pures.contains i = true → effs.contains i = false) (hej : pures.contains j = true → effs.contains j = false)
    {K : Act → World → Prop} {a : Act} {w : World} (h : lexStep P ops Q effs pures i (lexStep P ops Q effs pures j K) a w) : lexStep P ops Q effs pures j (lexStep P ops Q effs pures i K) a w := by
  unfold commB at hc
  simp only [hi, hj, Bool.and_eq_true, Bool.or_eq_true, Bool.not_eq_true'] at hc
  obtain ⟨⟨apij, apji⟩, hk⟩ := hc
  obtain ⟨h1, h2, h3⟩ := Oper.apart_spec apij
  have hsi := plain_select hpi
  have hsj := plain_select hpj
  unfold lexStep at h ⊢
  simp only [hi, hj] at h ⊢
  by_cases ej : effs.contains j = true
  · -- j may do anything: i is pure
    have pj : pures.contains j = false := by cases hp : pures.contains j; rfl; rw [hej hp] at ej; cases ej
    have pi : pures.contains i = true := by
      rcases hk with (hk | hk) | hk
      · exact hk
      · rw [pj] at hk; cases hk
      · rw [hk.2] at ej; cases ej
    have ei := hei pi
    simp only [ej, ei, pi, if_true, Bool.false_eq_true, if_false] at h ⊢
    obtain ⟨v, hv, hh⟩ := h
    have := wpOp_putIf (S := fun _ => True) hj apij hsi hsj (fun _ _ _ hq => hq.elim) hv hh
    exact wpOp_mono (fun a' w' hx => ⟨v, hx.1, hx.2⟩) this
  · have ej' : effs.contains j = false := by simpa using ej
    by_cases ei : effs.contains i = true
    · -- i may do anything: j is pure
      have pi : pures.contains i = false := by cases hp : pures.contains i; rfl; rw [hei hp] at ei; cases ei
      have pj : pures.contains j = true := by
        rcases hk with (hk | hk) | hk
        · rw [pi] at hk; cases hk
        · exact hk
        · rw [hk.1] at ei; cases ei
      simp only [ei, ej', pj, if_true, Bool.false_eq_true, if_false] at h ⊢
      obtain ⟨g1, g2, g3⟩ := Oper.apart_spec apij
      have same : ∀ a', (∃ ds v, a' = ({ a with defers := ds } : Act).put oi.dst v) → execOp a'.eval oj = execOp a.eval oj ∧ Region.wanted oj (yielded ops a'.tmps) = Region.wanted oj (yielded ops a.tmps) := by
        rintro a' ⟨ds, v, rfl⟩
        exact ⟨execOp_put oj hsj ({ a with defers := ds } : Act) oi.dst v g1, wanted_put oj ({ a with defers := ds } : Act) oi.dst v g1⟩
      have hsh := wpOp_shape hi h
      by_cases hex : ∃ u, YieldsIf P ops (fun _ => True) oj u a
      · obtain ⟨u, hu⟩ := hex
        refine ⟨u, hu, wpOp_ahead hi apji hsi (wpOp_mono (fun a' w' hx => ?_) hsh)⟩
        obtain ⟨hs, u', hu', hK⟩ := hx
        obtain ⟨s1, s2⟩ := same a' hs
        have : YieldsIf P ops (fun _ => True) oj u' a := hu'.of_same s1.symm s2.symm
        rw [YieldsIf.uniq hu this]; exact hK
      · exfalso
        refine wpOp_false (P := P) (Q := Q) (a := a) (w := w) hi (wpOp_mono (fun a' w' hx => ?_) hsh)
        obtain ⟨hs, u', hu', hK⟩ := hx
        obtain ⟨s1, s2⟩ := same a' hs
        exact hex ⟨u', hu'.of_same s1.symm s2.symm⟩
    · have ei' : effs.contains i = false := by simpa using ei
      simp only [ei', ej', Bool.false_eq_true, if_false] at h ⊢
      -- neither does anything to the world
      have key : ∀ (Yi Yj : Value → Act → Prop), (∀ v (x : Act) d u, Yi v x → (∀ t, d = some t → t ∉ oi.looksAt ops) → Yi v (x.put d u)) → (∀ v (x : Act) d u, Yj v (x.put d u) → (∀ t, d = some t → t ∉ oj.looksAt ops) → Yj v x) →
          (∃ v, Yi v a ∧ ∃ u, Yj u (a.put oi.dst v) ∧ K ((a.put oi.dst v).put oj.dst u) w) → ∃ u, Yj u a ∧ ∃ v, Yi v (a.put oj.dst u) ∧ K ((a.put oj.dst u).put oi.dst v) w := by
        rintro Yi Yj ki kj ⟨v, hv, u, hu, hK⟩
        exact ⟨u, kj u a oi.dst v hu h1, v, ki v a oj.dst u hv h3, by rw [← Act.put_comm a v u h2]; exact hK⟩
      have pif : ∀ (o : Oper) (hs : ∀ cs b, o.op ≠ .select cs b) v (x : Act) d u, YieldsIf P ops (fun _ => True) o v x → (∀ t, d = some t → t ∉ o.looksAt ops) → YieldsIf P ops (fun _ => True) o v (x.put d u) :=
        fun o hs v x d u hy hd => hy.of_same (execOp_put o hs x d u hd) (wanted_put o x d u hd)
      have pif' : ∀ (o : Oper) (hs : ∀ cs b, o.op ≠ .select cs b) v (x : Act) d u, YieldsIf P ops (fun _ => True) o v (x.put d u) → (∀ t, d = some t → t ∉ o.looksAt ops) → YieldsIf P ops (fun _ => True) o v x :=
        fun o hs v x d u hy hd => hy.of_same (execOp_put o hs x d u hd).symm (wanted_put o x d u hd).symm
      have pin : ∀ (o : Oper) (hs : ∀ cs b, o.op ≠ .select cs b) v (x : Act) d u, YieldsIn P ops (fun w' => w' = w) o v x → (∀ t, d = some t → t ∉ o.looksAt ops) → YieldsIn P ops (fun w' => w' = w) o v (x.put d u) :=
        fun o hs v x d u hy hd => hy.of_same (execOp_put o hs x d u hd) (wanted_put o x d u hd)
      have pin' : ∀ (o : Oper) (hs : ∀ cs b, o.op ≠ .select cs b) v (x : Act) d u, YieldsIn P ops (fun w' => w' = w) o v (x.put d u) → (∀ t, d = some t → t ∉ o.looksAt ops) → YieldsIn P ops (fun w' => w' = w) o v x :=
        fun o hs v x d u hy hd => hy.of_same (execOp_put o hs x d u hd).symm (wanted_put o x d u hd).symm
      by_cases pi : pures.contains i = true <;> by_cases pj : pures.contains j = true
      · simp only [pi, pj, if_true] at h ⊢
        exact key _ _ (pif oi hsi) (pif' oj hsj) h
      · have pj' : pures.contains j = false := by simpa using pj
        simp only [pi, pj', if_true, Bool.false_eq_true, if_false] at h ⊢
        exact key _ _ (pif oi hsi) (pin' oj hsj) h
      · have pi' : pures.contains i = false := by simpa using pi
        simp only [pi', pj, if_true, Bool.false_eq_true, if_false] at h ⊢
        exact key _ _ (pin oi hsi) (pif' oj hsj) h
      · have pi' : pures.contains i = false := by simpa using pi
        have pj' : pures.contains j = false := by simpa using pj
        simp only [pi', pj', Bool.false_eq_true, if_false] at h ⊢
        exact key _ _ (pin oi hsi) (pin' oj hsj) h

/-! ### Whatever order is picked -/

/-- What has come up has all that it waits for before it. -/
def Closed (ops : Array Oper) (listed : Array Bool) : Prop := ∀ k o, ops[k]? = some o → listed.getD k false = true → ∀ e ∈ o.after, Region.binds .any e = true → listed.getD e.on false = true

theorem waits_listed {listed : Array Bool} (hc : Closed ops listed) : ∀ (n j i : Nat), waits ops n j i = true → (∀ o, ops[j]? = some o → ∀ e ∈ o.after, Region.binds .any e = true → listed.getD e.on false = true) → listed.getD i false = true
  | 0, _, _, h, _ => by simp [waits] at h
  | n + 1, j, i, h, hj => by
    unfold waits at h
    split at h
    · cases h
    · rename_i o ho
      rw [Bool.or_eq_true, List.any_eq_true, List.any_eq_true] at h
      rcases h with ⟨e, he, h⟩ | ⟨e, he, h⟩
      · simp only [Bool.and_eq_true, beq_iff_eq] at h
        rw [← h.2]; exact hj o ho e (by simpa using he) h.1
      · simp only [Bool.and_eq_true] at h
        have hl := hj o ho e (by simpa using he) h.1.1
        exact waits_listed hc n e.on i h.2 (fun o' ho' e' he' hb' => hc e.on o' ho' hl e' he' hb')

def rest (n : Nat) (listed : Array Bool) : List Nat := (List.range n).filter (fun i => !listed.getD i true)

theorem lex_front {l2 : List Nat} {j : Nat} : ∀ (l1 : List Nat), (∀ i ∈ l1, ∀ (K : Act → World → Prop) a w, lexStep P ops Q effs pures i (lexStep P ops Q effs pures j K) a w → lexStep P ops Q effs pures j (lexStep P ops Q effs pures i K) a w) →
    ∀ a w, lexAll P ops Q effs pures (l1 ++ j :: l2) a w → lexAll P ops Q effs pures (j :: (l1 ++ l2)) a w
  | [], _, a, w, h => h
  | i :: l1, hs, a, w, h => by
    have h1 : lexStep P ops Q effs pures i (lexAll P ops Q effs pures (j :: (l1 ++ l2))) a w :=
      lexStep_mono (fun a w hx => lex_front l1 (fun i hi => hs i (by simp [hi])) a w hx) h
    exact hs i (by simp) _ a w h1

theorem lexB_spec (h : lexB ops effs pures = true) : (∀ (j : Nat) o, ops[j]? = some o → plainOp o.op = true) ∧
    (∀ (j : Nat) o, ops[j]? = some o → ∀ e ∈ o.after, Region.binds .any e = true → e.on < j) ∧ (∀ (j : Nat) o, ops[j]? = some o → pures.contains j = true → effs.contains j = false) ∧
    (∀ i j : Nat, i < j → j < ops.size → commB ops effs pures i j = true ∨ waits ops 12 j i = true) := by
  unfold lexB at h
  rw [Bool.and_eq_true, List.all_eq_true] at h
  obtain ⟨h1, h2⟩ := h
  have lt : ∀ (j : Nat) o, ops[j]? = some o → j < ops.size := fun j o ho => (Array.getElem?_eq_some_iff.1 ho).1
  refine ⟨fun j o ho => ?_, fun j o ho e he hb => ?_, fun j o ho hp => ?_, fun i j hij hj => ?_⟩
  · obtain ⟨hlt, rfl⟩ := Array.getElem?_eq_some_iff.1 ho
    exact (Array.all_eq_true.1 h1) j hlt
  · have := h2 j (List.mem_range.2 (lt j o ho))
    simp only [ho, Option.map_some, Option.getD_some, Bool.and_eq_true] at this
    have h3 := this.1.1
    rw [Array.all_eq_true_iff_forall_mem] at h3
    have h4 := h3 e he
    simp only [hb, Bool.not_true, Bool.false_or, decide_eq_true_eq] at h4
    exact h4
  · have := h2 j (List.mem_range.2 (lt j o ho))
    simp only [ho, Option.map_some, Option.getD_some, Bool.and_eq_true, hp, Bool.not_true, Bool.false_or, Bool.not_eq_true'] at this
    exact this.1.2.2
  · have := h2 j (List.mem_range.2 hj)
    rw [Bool.and_eq_true, List.all_eq_true] at this
    have h3 := this.2 i (List.mem_range.2 hij)
    rwa [Bool.or_eq_true] at h3

theorem wpAny_of_lex (hB : lexB ops effs pures = true) : ∀ (fuel : Nat) (listed : Array Bool) (a : Act) (w : World), listed.size = ops.size → (rest ops.size listed).length = fuel → Closed ops listed →
    lexAll P ops Q effs pures (rest ops.size listed) a w → wpAny P .any ops (Strict Q) fuel listed a w := by
  obtain ⟨hp, hback, hpe, hcom⟩ := lexB_spec hB
  have mem_rest : ∀ (listed : Array Bool) i, i ∈ rest ops.size listed ↔ i < ops.size ∧ listed.getD i true = false := by
    intro listed i; simp [rest]
  -- where something is left something may come up: the first of what is left
  have first : ∀ (listed : Array Bool), listed.size = ops.size → rest ops.size listed ≠ [] → Region.ready .any ops listed ≠ [] := by
    intro listed hsz hne hr
    cases hl : rest ops.size listed with
    | nil => exact hne hl
    | cons i l =>
      have hi := (mem_rest listed i).1 (by rw [hl]; simp)
      have hsorted : (rest ops.size listed).Pairwise (· < ·) := List.Pairwise.filter _ List.pairwise_lt_range
      rw [hl] at hsorted
      have hmin : ∀ k, k < i → listed.getD k false = true := by
        intro k hk
        have hks : k < ops.size := Nat.lt_trans hk hi.1
        by_cases hx : listed.getD k true = false
        · have : k ∈ rest ops.size listed := (mem_rest listed k).2 ⟨hks, hx⟩
          rw [hl] at this
          rcases List.mem_cons.1 this with e | e
          · omega
          · have := (List.pairwise_cons.1 hsorted).1 k e; omega
        · have hks' : k < listed.size := by omega
          simp [hks'] at hx ⊢; exact hx
      have : i ∈ Region.ready .any ops listed := by
        obtain ⟨o, ho⟩ : ∃ o, ops[i]? = some o := ⟨_, Array.getElem?_eq_getElem hi.1⟩
        exact mem_ready.2 ⟨hi.2, o, ho, fun e he hb => hmin e.on (hback i o ho e he hb)⟩
      rw [hr] at this; cases this
  intro fuel
  induction fuel with
  | zero =>
    intro listed a w hsz hf hc h
    have hnil := List.eq_nil_of_length_eq_zero hf
    rw [hnil] at h
    refine ⟨?_, h⟩
    cases hr : Region.ready .any ops listed with
    | nil => rfl
    | cons i l =>
      obtain ⟨h1, o, ho, _⟩ := mem_ready.1 (by rw [hr]; simp : i ∈ Region.ready .any ops listed)
      have : i ∈ rest ops.size listed := (mem_rest listed i).2 ⟨(Array.getElem?_eq_some_iff.1 ho).1, h1⟩
      rw [hnil] at this; cases this
  | succ fuel ih =>
    intro listed a w hsz hf hc h
    refine ⟨fun h0 => absurd h0 (first listed hsz (fun e => by rw [e] at hf; cases hf)), fun j hj => ?_⟩
    obtain ⟨hjun, oj, hoj, hall⟩ := mem_ready.1 hj
    have hjs : j < ops.size := (Array.getElem?_eq_some_iff.1 hoj).1
    have hjr : j ∈ rest ops.size listed := (mem_rest listed j).2 ⟨hjs, hjun⟩
    obtain ⟨l1, l2, hl⟩ := List.append_of_mem hjr
    have hsorted : (rest ops.size listed).Pairwise (· < ·) := List.Pairwise.filter _ List.pairwise_lt_range
    rw [hl] at h hsorted
    have hlt1 : ∀ i ∈ l1, i < j := fun i hi => (List.pairwise_append.1 hsorted).2.2 i hi j (by simp)
    have h1 := lex_front l1 (fun i hi K a w hh => by
      have hir := (mem_rest listed i).1 (by rw [hl]; simp [hi])
      obtain ⟨oi, hoi⟩ : ∃ o, ops[i]? = some o := ⟨_, Array.getElem?_eq_getElem hir.1⟩
      rcases hcom i j (hlt1 i hi) hjs with hcm | hwt
      · exact lex_swap hoi hoj (hp i oi hoi) (hp j oj hoj) hcm (hpe i oi hoi) (hpe j oj hoj) hh
      · exfalso
        have := waits_listed hc 12 j i hwt (fun o ho e he hb => by rw [hoj] at ho; cases ho; exact hall e he hb)
        have his : i < listed.size := by omega
        have h2 := hir.2
        simp [his] at this h2
        rw [this] at h2; cases h2) a w h
    have hjl : j < listed.size := by omega
    -- what is left behind j
    have hrest : rest ops.size (listed.setIfInBounds j true) = l1 ++ l2 := by
      have e1 : rest ops.size (listed.setIfInBounds j true) = (rest ops.size listed).filter (fun i => decide (i ≠ j)) := by
        unfold rest
        rw [List.filter_filter]
        refine List.filter_congr (fun i hi => ?_)
        by_cases e : i = j
        · subst e; simp [hjl]
        · rw [getD_set_ne true (Ne.symm e)]; simp [e]
      rw [e1, hl, List.filter_append, List.filter_cons]
      have hnd : ∀ i ∈ l1, i ≠ j := fun i hi e => by have := hlt1 i hi; omega
      have hnd2 : ∀ i ∈ l2, i ≠ j := fun i hi e => by
        have := (List.pairwise_cons.1 (List.pairwise_append.1 hsorted).2.1).1 i hi; omega
      have f1 : l1.filter (fun i => decide (i ≠ j)) = l1 := List.filter_eq_self.2 (fun i hi => by simp [hnd i hi])
      have f2 : l2.filter (fun i => decide (i ≠ j)) = l2 := List.filter_eq_self.2 (fun i hi => by simp [hnd2 i hi])
      rw [f1, f2]
      simp
    have hlen : (rest ops.size (listed.setIfInBounds j true)).length = fuel := by
      rw [hrest]
      rw [hl] at hf
      simp at hf ⊢; omega
    have hclosed : Closed ops (listed.setIfInBounds j true) := by
      intro k o ho hk e he hb
      by_cases e1 : k = j
      · subst e1
        rw [hoj] at ho; cases ho
        exact getD_set_true (hall e he hb)
      · rw [getD_set_ne false (Ne.symm e1)] at hk
        exact getD_set_true (hc k o ho hk e he hb)
    refine wpOp_mono (fun a' w' hx => ?_) (lexStep_wpOp h1)
    exact ih (listed.setIfInBounds j true) a' w' (by simp [hsz]) hlen hclosed (by rw [hrest]; exact hx)

theorem wp_region_lexAll {id : Nat} {a : Act} {w : World} (hm : P.follows .mixedOrders = true) (hB : lexB ops effs pures = true) (h : lexAll P ops Q effs pures (List.range ops.size) a w.drew) : (Code.region id ops true).wp P Q a w := by
  have e0 : rest ops.size (Array.replicate ops.size false) = List.range ops.size := by
    unfold rest
    exact List.filter_eq_self.2 (fun i hi => by have := List.mem_range.1 hi; simp [this])
  have h1 : (Code.region id ops true).wp P (Strict Q) a w := by
    refine wp_region_any hm (wpAny_of_lex (effs := effs) (pures := pures) (Q := Q) hB ops.size (Array.replicate ops.size false) a w.drew (by simp) (by rw [e0]; simp) ?_ (by rw [e0]; exact h))
    intro k o ho hk
    have hks : k < ops.size := (Array.getElem?_eq_some_iff.1 ho).1
    simp [hks] at hk
  exact wp_mono h1 (fun e a w hq => hq.imp)

/-! ### The walk, piece by piece -/

/-- From operation k on, what is left written out. -/
def LexG (P : Program) (ops : Array Oper) (Q : Exit → Act → World → Prop) (effs pures : List Nat) (k : Nat) (rem : List Oper) (a : Act) (w : World) : Prop :=
  (∀ j, rem[j]? = ops[k + j]?) → lexAll P ops Q effs pures (List.range' k rem.length) a w

theorem LexG_nil {k : Nat} {a : Act} {w : World} (h : Q .normal a w) : LexG P ops Q effs pures k [] a w := fun _ => h

def noneOf (effs pures : List Nat) : Nat → Nat → Bool
  | _, 0 => true
  | k, m + 1 => !effs.contains k && !pures.contains k && noneOf effs pures (k + 1) m
def allPure (ops : Array Oper) (effs pures : List Nat) : Nat → Nat → Bool
  | _, 0 => true
  | k, m + 1 => !effs.contains k && pures.contains k && ((ops[k]?).map (fun o => simpleOp o.op)).getD true && allPure ops effs pures (k + 1) m

theorem LexG_still : ∀ (m : Nat) {k : Nat} {rem : List Oper} {a : Act} {w : World}, noneOf effs pures k m = true →
    wpQuiet P ops (fun w' => w' = w) (fun a' => LexG P ops Q effs pures (k + m) (rem.drop m) a' w) (rem.take m) a → LexG P ops Q effs pures k rem a w
  | 0, _, _, _, _, _, h => h
  | m + 1, k, rem, a, w, hn, h => by
    intro hrem
    cases rem with
    | nil => exact h (by
        intro j
        have e1 : ops.size ≤ k := by
          have := hrem 0
          simp at this; exact this
        rw [Array.getElem?_eq_none (by omega)]; simp)
    | cons o r =>
      unfold noneOf at hn
      simp only [Bool.and_eq_true, Bool.not_eq_true'] at hn
      have h0 : ops[k]? = some o := by simpa using (hrem 0).symm
      have hq : qOp P ops (fun w' => w' = w) k (wpQuiet P ops (fun w' => w' = w) (fun a' => LexG P ops Q effs pures (k + (m + 1)) (r.drop m) a' w) (r.take m)) a := by
        unfold qOp; simp only [h0]; exact h
      obtain ⟨v, hy, hK⟩ := yieldsIn_of_qOp h0 hq
      show lexStep P ops Q effs pures k (lexAll P ops Q effs pures (List.range' (k + 1) r.length)) a w
      unfold lexStep
      simp only [h0, hn.1.1, hn.1.2, Bool.false_eq_true, if_false]
      refine ⟨v, hy, ?_⟩
      have e : k + (m + 1) = k + 1 + m := by omega
      rw [e] at hK
      exact LexG_still m hn.2 hK (fun j => by have := hrem (j + 1); simpa [Nat.add_assoc, Nat.add_comm 1 j] using this)

theorem LexG_pure : ∀ (m : Nat) {k : Nat} {rem : List Oper} {a : Act} {w : World}, allPure ops effs pures k m = true →
    wpQuiet P ops (fun _ => True) (fun a' => LexG P ops Q effs pures (k + m) (rem.drop m) a' w) (rem.take m) a → LexG P ops Q effs pures k rem a w
  | 0, _, _, _, _, _, h => h
  | m + 1, k, rem, a, w, hn, h => by
    intro hrem
    cases rem with
    | nil => exact h (by
        intro j
        have e1 : ops.size ≤ k := by
          have := hrem 0
          simp at this; exact this
        rw [Array.getElem?_eq_none (by omega)]; simp)
    | cons o r =>
      unfold allPure at hn
      simp only [Bool.and_eq_true, Bool.not_eq_true'] at hn
      have h0 : ops[k]? = some o := by simpa using (hrem 0).symm
      have hs : simpleOp o.op = true := by have := hn.1.2; simpa [h0] using this
      have hq : qOp P ops (fun _ => True) k (wpQuiet P ops (fun _ => True) (fun a' => LexG P ops Q effs pures (k + (m + 1)) (r.drop m) a' w) (r.take m)) a := by
        unfold qOp; simp only [h0]; exact h
      obtain ⟨v, hy, hK⟩ := yieldsIn_of_qOp h0 hq
      show lexStep P ops Q effs pures k (lexAll P ops Q effs pures (List.range' (k + 1) r.length)) a w
      unfold lexStep
      simp only [h0, hn.1.1.1, hn.1.1.2, Bool.false_eq_true, if_false, if_true]
      refine ⟨v, ?_, ?_⟩
      · rcases hy with ⟨hw, hv⟩ | ⟨hw, hv⟩
        · refine .inl ⟨hw, fun w' _ => ?_⟩
          have h1 := hv w' trivial
          unfold Oper.quietAt at h1
          cases hr : (execOp a.eval o).run P w' with
          | halt x w1 => rw [hr] at h1; exact h1.elim
          | ok n w1 =>
            obtain ⟨u, rfl⟩ := simple_value hs w' n w1 hr
            rw [hr] at h1
            obtain ⟨e1, e2⟩ := h1
            rw [e1, e2]
        · exact .inr ⟨hw, hv⟩
      · have e : k + (m + 1) = k + 1 + m := by omega
        rw [e] at hK
        exact LexG_pure m hn.2 hK (fun j => by have := hrem (j + 1); simpa [Nat.add_assoc, Nat.add_comm 1 j] using this)

theorem LexG_eff {k : Nat} {o : Oper} {r : List Oper} {a : Act} {w : World} (he : effs.contains k = true) (hg : o.guard = none)
    (h : ∀ K : Act → World → Prop, (∀ a w, LexG P ops Q effs pures (k + 1) r a w → K a w) → o.wp P a w K (Strict Q)) : LexG P ops Q effs pures k (o :: r) a w := by
  intro hrem
  have h0 : ops[k]? = some o := by simpa using (hrem 0).symm
  show lexStep P ops Q effs pures k (lexAll P ops Q effs pures (List.range' (k + 1) r.length)) a w
  unfold lexStep
  simp only [h0, he, if_true]
  unfold wpOp
  simp only [h0]
  rw [if_pos (by simp [Region.wanted, hg])]
  exact Or.inl (h _ (fun a w hx => hx (fun j => by have := hrem (j + 1); simpa [Nat.add_assoc, Nat.add_comm 1 j] using this)))

/-- Likewise, where the operation is guarded and wanted. -/
theorem LexG_effg {k : Nat} {o : Oper} {r : List Oper} {a : Act} {w : World} (he : effs.contains k = true) (hg : Region.wanted o (yielded ops a.tmps) = true)
    (h : ∀ K : Act → World → Prop, (∀ a w, LexG P ops Q effs pures (k + 1) r a w → K a w) → o.wp P a w K (Strict Q)) : LexG P ops Q effs pures k (o :: r) a w := by
  intro hrem
  have h0 : ops[k]? = some o := by simpa using (hrem 0).symm
  show lexStep P ops Q effs pures k (lexAll P ops Q effs pures (List.range' (k + 1) r.length)) a w
  unfold lexStep
  simp only [h0, he, if_true]
  unfold wpOp
  simp only [h0]
  rw [if_pos hg]
  exact Or.inl (h _ (fun a w hx => hx (fun j => by have := hrem (j + 1); simpa [Nat.add_assoc, Nat.add_comm 1 j] using this)))

theorem wp_region_lex {id : Nat} {l : List Oper} {a : Act} {w : World} (effs pures : List Nat) (hm : P.follows .mixedOrders = true) (hB : lexB l.toArray effs pures = true) (h : LexG P l.toArray Q effs pures 0 l a w.drew) : (Code.region id l.toArray true).wp P Q a w :=
  wp_region_lexAll (effs := effs) (pures := pures) hm hB (by
    have := h (by simp)
    rw [List.range_eq_range']
    simpa using this)

/-! ### A region that draws its order and only reads, with calls that leave a class of worlds -/
/-- The worlds of a class. -/
structure Cls (C : World → Prop) where
  w : World
  ok : C w

theorem wp_region_cls {C : World → Prop} {id : Nat} {Q : Exit → Act → World → Prop} {a : Act} {w : World} {l : List Oper} (hm : P.follows .mixedOrders = true) (hB : Region.lexB .any l.toArray = true) (hC : C w.drew)
    (h : Nonempty (Cls C) → wpQuiet P l.toArray (fun w' => ∃ x : Cls C, w' = x.w) (fun a' => ∀ w', C w' → Q .normal a' w') l a) : (Code.region id l.toArray true).wp P Q a w := by
  have hi := h ⟨⟨_, hC⟩⟩
  have mono : ∀ (l' : List Oper) (a : Act), wpQuiet P l.toArray (fun w' => ∃ x : Cls C, w' = x.w) (fun a' => ∀ w', C w' → Q .normal a' w') l' a →
      wpQuiet P l.toArray (fun w' => ∃ x : Cls C, w' = x.w) (fun a' => ∀ w', (∃ x : Cls C, w' = x.w) → Q .normal a' w') l' a := by
    intro l'
    induction l' with
    | nil => intro a hx w' hw; obtain ⟨x, rfl⟩ := hw; exact hx x.w x.ok
    | cons o r ih =>
      intro a hx
      unfold wpQuiet at hx ⊢
      split
      · rename_i hw; rw [if_pos hw] at hx; exact Oper.quiet_mono ih hx
      · rename_i hw; rw [if_neg hw] at hx; exact ih _ hx
  exact wp_region_quiet (C := fun w' => ∃ x : Cls C, w' = x.w) hm hB ⟨⟨_, hC⟩, rfl⟩ (by simpa using mono l a hi)
end
end Go.Bw
/- One file of the disk is another one; the loss of power. -/
namespace Go.Proofs.YtmpdmejlpicdlaaDoor
open Go.RowKit Go.Bw Go.Maps
set_option linter.unusedVariables false
set_option linter.unusedSimpArgs false

theorem TByte.info : (Tryd.prog.info? 5).map (fun i => (i.zero, i.size, i.bytes)) = some (some (.int .u8 0), 1, 1) := by kernel_rfl

def repl (n : Nm) (f' : Fil) (F : List (Nm × Fil)) : List (Nm × Fil) := F.map (fun p => if p.1 = n then (p.1, f') else p)

theorem repl_none {n : Nm} {f' : Fil} {F : List (Nm × Fil)} (h : ∀ p ∈ F, p.1 ≠ n) : repl n f' F = F := by
  unfold repl
  conv => rhs; rw [← List.map_id F]
  exact List.map_congr_left (fun p hp => by simp [h p hp])

theorem fblocks_cons (p : Nm × Fil) (F : List (Nm × Fil)) : fblocks (p :: F) = p.2.blocks ++ fblocks F := by simp [fblocks]

theorem nodup_repl {n : Nm} {f f' : Fil} {N : Nat} (hb : ∀ k ∈ f'.blocks, k ∈ f.blocks ∨ N ≤ k) (hnd : f'.blocks.Nodup) : ∀ (F : List (Nm × Fil)) (pre : List Nat), Rising F → (n, f) ∈ F → (pre ++ fblocks F).Nodup →
    (∀ k ∈ pre ++ fblocks F, k < N) → (pre ++ fblocks (repl n f' F)).Nodup
  | [], _, _, h, _, _ => by cases h
  | y :: r, pre, hr, hm, h, hlt => by
    obtain ⟨h1, h2⟩ := List.pairwise_cons.1 hr
    rw [fblocks_cons] at h hlt
    by_cases hy : y.1 = n
    · have hrr : ∀ p ∈ r, p.1 ≠ n := fun p hp e => before_ne (h1 p hp) (by rw [e]; exact hy)
      have hyf : y.2 = f := by
        have := rising_inj hr (p := y) (q := (n, f)) (by simp) hm hy
        rw [this]
      have e : repl n f' (y :: r) = (y.1, f') :: r := by
        have := repl_none (f' := f') hrr
        unfold repl at this ⊢
        rw [List.map_cons, this, if_pos hy]
      rw [e, fblocks_cons]
      rw [hyf] at h hlt
      rw [List.nodup_append] at h ⊢
      obtain ⟨a1, a2, a3⟩ := h
      rw [List.nodup_append] at a2 ⊢
      obtain ⟨b1, b2, b3⟩ := a2
      refine ⟨a1, ⟨hnd, b2, ?_⟩, ?_⟩
      · intro x hx z hz e
        subst e
        rcases hb x hx with h3 | h3
        · exact b3 x h3 x hz rfl
        · have := hlt x (by simp [hz]); omega
      · intro x hx z hz e
        subst e
        rcases List.mem_append.1 hz with h3 | h3
        · rcases hb x h3 with h4 | h4
          · exact a3 x hx x (by simp [h4]) rfl
          · have := hlt x (by simp [hx]); omega
        · exact a3 x hx x (by simp [h3]) rfl
    · have hm' : (n, f) ∈ r := by
        rcases List.mem_cons.1 hm with e | e
        · exact absurd (by rw [← e]) hy
        · exact e
      have e : repl n f' (y :: r) = y :: repl n f' r := by simp [repl, hy]
      rw [e, fblocks_cons, ← List.append_assoc]
      rw [← List.append_assoc] at h hlt
      exact nodup_repl hb hnd r (pre ++ y.2.blocks) h2 hm' h hlt

theorem fdata_repl {n : Nm} {f f' : Fil} (hblk : f'.blk = f.blk) {F : List (Nm × Fil)} (hr : Rising F) (hm : (n, f) ∈ F) : fdata (repl n f' F) = fdata F := by
  unfold fdata repl
  rw [List.map_map]
  congr 1
  refine List.map_congr_left (fun p hp => ?_)
  by_cases e : p.1 = n
  · have := rising_inj hr hp hm e
    subst this
    simp [fent, hblk]
  · simp [e]

theorem mem_repl {n : Nm} {f' : Fil} {F : List (Nm × Fil)} {p : Nm × Fil} (h : p ∈ repl n f' F) : (p = (n, f')) ∨ (p ∈ F ∧ p.1 ≠ n) := by
  unfold repl at h
  obtain ⟨q, hq, rfl⟩ := List.mem_map.1 h
  by_cases e : q.1 = n
  · exact Or.inl (by simp [e])
  · exact Or.inr ⟨by simp [e, hq], by simp [e]⟩

theorem blocks_apart {d : Nat} {D : Dsk} (ha : (D.blocks d).Nodup) {p q : Nm × Fil} (hp : p ∈ D.files) (hq : q ∈ D.files) (hne : p ≠ q) : ∀ k ∈ p.2.blocks, k ∉ q.2.blocks := by
  have h1 : (fblocks D.files).Nodup := by
    simp only [Dsk.blocks, List.nodup_cons] at ha
    exact ha.2.2
  revert h1 hp hq
  generalize D.files = F
  induction F with
  | nil => intro hp; cases hp
  | cons y r ih =>
    intro hp hq h1
    rw [fblocks_cons, List.nodup_append] at h1
    obtain ⟨b1, b2, b3⟩ := h1
    intro k hk hk'
    rcases List.mem_cons.1 hp with rfl | hp' <;> rcases List.mem_cons.1 hq with rfl | hq'
    · exact hne rfl
    · exact b3 k hk k (List.mem_flatMap.2 ⟨q, hq', hk'⟩) rfl
    · exact b3 k hk' k (List.mem_flatMap.2 ⟨p, hp', hk⟩) rfl
    · exact ih hp' hq' b2 k hk hk'

theorem DiskAt.onFile {w w' : World} {d : Nat} {D : Dsk} (h : DiskAt w d D) {n : Nm} {f : Fil} (hf : (n, f) ∈ D.files) (f' : Fil) (hblk : f'.blk = f.blk) (hm : Mod (fun k => k ∈ f.blocks) w w') (hfile : FileAt w' f')
    (hb : ∀ k ∈ f'.blocks, k ∈ f.blocks ∨ w.heap.size ≤ k) (hnd : f'.blocks.Nodup) (hok : ({ D with files := repl n f' D.files } : Dsk).abs.Ok) : DiskAt w' d { D with files := repl n f' D.files } := by
  have hr := Dsk.rising h.ok
  have hnf := h.notFile (n, f) hf
  refine ⟨hm.heap h.cells hnf.1, ?_, ?_, ?_, hok⟩
  · show w'.ownsMap Tryd.prog 9 ptrElem D.m 16 (fdata (repl n f' D.files))
    rw [fdata_repl hblk hr hf]
    obtain ⟨es, clock, hb, F, hs, hD⟩ := h.map
    exact ⟨es, clock, hm.heap hb hnf.2, F, hs, hD⟩
  · intro p hp
    rcases mem_repl hp with rfl | ⟨hp, hne⟩
    · exact hfile
    · have hp1 := h.files p hp
      have hap := blocks_apart h.apart hp hf (fun e => hne (by rw [e]))
      refine ⟨hm.heap hp1.cells (hap _ (by simp [Fil.blocks])), ownsRow_kept hp1.safe ?_, ownsRow_kept hp1.wait ?_⟩
      · exact fun k hk => hm.block k (hp1.safe.lt k hk).2 (hap k (by simp [Fil.blocks, hk]))
      · exact fun k hk => hm.block k (hp1.wait.lt k hk).2 (hap k (by simp [Fil.blocks, hk]))
  · exact nodup_repl hb hnd D.files [d, D.m] hr hf h.apart h.lt

theorem repl_abs {n : Nm} {f' : Fil} {D : Dsk} {f : Fil} (hr : Rising D.files) (hf : (n, f) ∈ D.files) (g : Cont → Cont) (hc : f'.c = g f.c) : ({ D with files := repl n f' D.files } : Dsk).abs.files = ADsk.onFile n g D.abs.files := by
  simp only [Dsk.abs, repl, ADsk.onFile, List.map_map]
  refine List.map_congr_left (fun p hp => ?_)
  by_cases e : p.1 = n
  · have := rising_inj hr hp hf e
    subst this
    simp [hc]
  · simp [e]

theorem onFile_ok {A : ADsk} (h : A.Ok) (n : Nm) (g : Cont → Cont) (hg : ∀ p ∈ A.files, p.1 = n → (g p.2).len ≤ 1048576) : ({ A with files := ADsk.onFile n g A.files } : ADsk).Ok := by
  refine ⟨by simp [ADsk.onFile]; exact h.few, ?_, ?_, h.ar0, h.ar1, ?_, h.kp0, h.kp1⟩
  · intro p hp
    simp only [ADsk.onFile, List.mem_map] at hp
    obtain ⟨q, hq, rfl⟩ := hp
    by_cases e : q.1 = n
    · simpa [e] using hg q hq e
    · simpa [e] using h.small q hq
  · have := h.rising
    simp only [Rising, ADsk.onFile] at this ⊢
    rw [List.pairwise_map]
    refine this.imp ?_
    intro p q hpq
    split <;> split <;> simpa using hpq
  · intro p hp
    simp only [ADsk.onFile, List.mem_map] at hp
    obtain ⟨q, hq, rfl⟩ := hp
    have := h.names q hq
    split <;> simpa using this

/-- A file of which the safe row has been appended to, with nothing waiting: behind the two stores. -/
theorem FileAt.safed {w w1 : World} {f : Fil} (h : FileAt w f) {k : Nat} {v' : Value} (hk : k ≤ f.c.wait.length)
    (hown : w1.ownsRow 0 5 1 v' (f.c.safe.length + k) (bcells f.c.safe ++ (bcells f.c.wait).take k)) (hm : Mod (fun b => f.sv.ownBlock = some b) w w1)
    (hb : ∀ b, v'.ownBlock = some b → f.sv.ownBlock = some b ∨ b = w.heap.size) (hnd : f.blocks.Nodup) :
    let w2 := (w1.setCell ⟨f.blk, 0, none⟩ v').setCell ⟨f.blk, 1, none⟩ (.slice none 0 0)
    let f' : Fil := ⟨f.blk, v', .slice none 0 0, ⟨f.c.safe ++ f.c.wait.take k, []⟩⟩
    FileAt w2 f' ∧ Mod (fun k => k ∈ f.blocks) w w2 ∧ (∀ k ∈ f'.blocks, k ∈ f.blocks ∨ w.heap.size ≤ k) ∧ f'.blocks.Nodup := by
  intro w2 f'
  have hlt := lt_of_heap h.cells
  have hnb : f.sv.ownBlock ≠ some f.blk := fun e => by
    simp [Fil.blocks, e] at hnd
  have hvb : v'.ownBlock ≠ some f.blk := fun e => by
    rcases hb _ e with h1 | h1
    · exact hnb h1
    · omega
  have h1 : w1.heap[f.blk]? = some (.cells #[f.sv, f.wv] 78 (0, 0)) := hm.heap h.cells hnb
  have h2 : w2.heap[f.blk]? = some (.cells #[v', .slice none 0 0] 78 (0, 0)) := by
    have := heap_setCell_at (heap_setCell_at h1 0 v') 1 (.slice none 0 0)
    simpa using this
  have hne : ∀ b, v'.ownBlock = some b → w2.heap[b]? = w1.heap[b]? := fun b e => by
    have : b ≠ f.blk := fun e' => hvb (e' ▸ e)
    rw [heap_setCell_ne this, heap_setCell_ne this]
  refine ⟨⟨h2, ?_, ?_⟩, ?_, ?_, ?_⟩
  · have := ownsRow_kept hown hne
    have e1 : f'.c.safe.length = f.c.safe.length + k := by simp [f']; omega
    have e2 : bcells f'.c.safe = bcells f.c.safe ++ (bcells f.c.wait).take k := by simp [f', bcells, List.map_append, List.map_take]
    rw [e1, e2]; exact this
  · exact World.ownsRow_nil _ _ _ _
  · have hm1 : Mod (fun k => k ∈ f.blocks) w w1 := hm.mono (fun i _ hi => by simp [Fil.blocks, hi])
    exact (hm1.setCell v' (fun _ => by simp [Fil.blocks])).setCell _ (fun _ => by simp [Fil.blocks])
  · intro b hbk
    simp only [f', Fil.blocks, List.mem_cons, List.mem_append, Option.mem_toList, Value.ownBlock] at hbk
    rcases hbk with rfl | hbk | hbk
    · exact Or.inl (by simp [Fil.blocks])
    · rcases hb b hbk with h3 | h3
      · exact Or.inl (by simp [Fil.blocks, h3])
      · exact Or.inr (by omega)
    · cases hbk
  · show (f.blk :: (v'.ownBlock.toList ++ [])).Nodup
    cases hv : v'.ownBlock with
    | none => simp
    | some b =>
      have : f.blk ≠ b := fun e => hvb (by rw [hv, e])
      simp [this]

theorem file_nodup {d : Nat} {D : Dsk} (ha : (D.blocks d).Nodup) {p : Nm × Fil} (hp : p ∈ D.files) : p.2.blocks.Nodup := by
  have h1 : (fblocks D.files).Nodup := by
    simp only [Dsk.blocks, List.nodup_cons] at ha
    exact ha.2.2
  exact List.Nodup.sublist (List.sublist_flatten_of_mem (List.mem_map_of_mem (f := fun p : Nm × Fil => p.2.blocks) hp)) (by rw [fblocks, List.flatMap_def] at h1; exact h1)

def mix (left : Lit → Bool) (keep : Int) (F : List (Nm × Cont)) : List (Nm × Cont) := F.map (fun p => (p.1, if left (.string p.1) then p.2 else ADsk.lost keep p.2))
theorem mix_strike {left : Lit → Bool} {keep : Int} {n : Nm} (hl : left (.string n) = true) (F : List (Nm × Cont)) : ADsk.onFile n (ADsk.lost keep) (mix left keep F) = mix (strike left n) keep F := by
  unfold ADsk.onFile mix
  rw [List.map_map]
  refine List.map_congr_left (fun p hp => ?_)
  by_cases e : p.1 = n
  · simp [e, hl, strike, Lit.sameKey]
  · simp [e, strike, Lit.sameKey]
theorem mix_done {left : Lit → Bool} {keep : Int} (hl : ∀ kl, left kl = false) (F : List (Nm × Cont)) : mix left keep F = F.map (fun p => (p.1, ADsk.lost keep p.2)) := by
  unfold mix; simp [hl]
theorem mix_start {D : Dsk} {keep : Int} : mix (Maps.has (fdata D.files)) keep D.abs.files = D.abs.files := by
  unfold mix
  conv => rhs; rw [← List.map_id D.abs.files]
  refine List.map_congr_left (fun p hp => ?_)
  simp only [Dsk.abs] at hp
  obtain ⟨q, hq, rfl⟩ := List.mem_map.1 hp
  simp [has_fdata hq]
theorem lost_len (keep : Int) (c : Cont) : (ADsk.lost keep c).len ≤ c.len := by simp [ADsk.lost, Cont.len]; omega

/-- What the loop of Off carries. -/
def OffRel (w : World) (d : Nat) (D : Dsk) (keep : Int) (wr : World) : Prop :=
  ∃ left cnt Dk, wr.ranges Tryd.prog 9 ptrElem D.m w.heap.size 16 (fdata Dk.files) left cnt ∧ DiskAt wr d Dk ∧ Dk.abs = { D.abs with files := mix left keep D.abs.files } ∧ Dk.m = D.m ∧ Mod (fun k => k ∈ D.blocks d) w wr ∧ (∀ k ∈ Dk.blocks d, k ∈ D.blocks d ∨ w.heap.size < k) ∧ w.heap.size < wr.heap.size

theorem OffRel.start {w w0 : World} {d : Nat} {D : Dsk} (h : DiskAt w d D) (keep : Int) (hrg : w0.ranges Tryd.prog 9 ptrElem D.m w.heap.size 16 (fdata D.files) (Maps.has (fdata D.files)) (Maps.size (fdata D.files))) (hg : w.grownBy w0 none) (hs : w0.heap.size = w.heap.size + 1) : OffRel w d D keep w0 := by
  have hm : Mod (fun _ => False) w w0 := (Mod.refl _ _).grown hg (by simp)
  exact ⟨_, _, D, hrg, h.kept hm (fun _ _ h => h), by rw [mix_start], rfl, hm.mono (fun _ _ h => h.elim), fun k hk => Or.inl hk, by omega⟩

/-- The round's step: the file that came has lost what it loses. -/
theorem OffRel.step {w wr w1 w2 : World} {d : Nat} {D Dk : Dsk} {keep : Int} {left : Lit → Bool} {cnt1 : Nat} {m : Nm} {f : Fil} {v' : Value}
    (h : DiskAt wr d Dk) (hrg1 : w1.ranges Tryd.prog 9 ptrElem D.m w.heap.size 16 (fdata Dk.files) (strike left m) cnt1) (hl : left (.string m) = true) (hg : wr.grownBy w1 (some w.heap.size)) (hsz : w1.heap.size = wr.heap.size) (hlt : w.heap.size < wr.heap.size)
    (he : Dk.abs = { D.abs with files := mix left keep D.abs.files }) (hmm : Dk.m = D.m) (hmod : Mod (fun k => k ∈ D.blocks d) w wr) (hbl : ∀ k ∈ Dk.blocks d, k ∈ D.blocks d ∨ w.heap.size < k) (hlt0 : ∀ k ∈ D.blocks d, k < w.heap.size)
    (hp : (m, f) ∈ Dk.files) (hown : w2.ownsRow 0 5 1 v' (f.c.safe.length + min keep.toNat f.c.wait.length) (bcells f.c.safe ++ (bcells f.c.wait).take (min keep.toNat f.c.wait.length))) (hm2 : Mod (fun b => f.sv.ownBlock = some b) w1 w2)
    (hb : ∀ b, v'.ownBlock = some b → f.sv.ownBlock = some b ∨ b = w1.heap.size) :
    OffRel w d D keep ((w2.setCell ⟨f.blk, 0, none⟩ v').setCell ⟨f.blk, 1, none⟩ (.slice none 0 0)) ∧ ((w2.setCell ⟨f.blk, 0, none⟩ v').setCell ⟨f.blk, 1, none⟩ (.slice none 0 0)).rangeLeft D.m w.heap.size = cnt1 := by
  have hm1 : Mod (fun k => k = w.heap.size) wr w1 := (Mod.refl _ _).grown hg (fun k e _ => by cases e; rfl)
  have hnot : w.heap.size ∉ Dk.blocks d := fun hx => by
    rcases hbl _ hx with h1 | h1
    · have := hlt0 _ h1; omega
    · omega
  have h1 : DiskAt w1 d Dk := h.kept hm1 (fun k hk e => hnot (by rw [← e]; exact hk))
  have hf1 := h1.files (m, f) hp
  have hnd := file_nodup h1.apart hp
  obtain ⟨s1, s2, s3, s4⟩ := hf1.safed (k := min keep.toNat f.c.wait.length) (Nat.min_le_right _ _) hown hm2 hb hnd
  have hr := Dsk.rising h1.ok
  have habs : ({ Dk with files := repl m ⟨f.blk, v', .slice none 0 0, ⟨f.c.safe ++ f.c.wait.take (min keep.toNat f.c.wait.length), []⟩⟩ Dk.files } : Dsk).abs.files = ADsk.onFile m (ADsk.lost keep) Dk.abs.files :=
    repl_abs hr hp (ADsk.lost keep) (by simp [ADsk.lost, List.take_eq_take_iff])
  have hok := onFile_ok h1.ok m (ADsk.lost keep) (fun p hp _ => Nat.le_trans (lost_len keep p.2) (h1.ok.small p hp))
  have h2 := h1.onFile hp ⟨f.blk, v', .slice none 0 0, ⟨f.c.safe ++ f.c.wait.take (min keep.toNat f.c.wait.length), []⟩⟩ rfl s2 s1 s3 s4 (by
    have e : ({ Dk with files := repl m ⟨f.blk, v', .slice none 0 0, ⟨f.c.safe ++ f.c.wait.take (min keep.toNat f.c.wait.length), []⟩⟩ Dk.files } : Dsk).abs = { Dk.abs with files := ADsk.onFile m (ADsk.lost keep) Dk.abs.files } := by
      rw [← habs]; rfl
    rw [e]; exact hok)
  have hfb : ∀ k ∈ f.blocks, k ∈ Dk.blocks d := fun k hk => by
    simp only [Dsk.blocks, fblocks, List.mem_cons, List.mem_flatMap]; exact Or.inr (Or.inr ⟨(m, f), hp, hk⟩)
  have hnm := (h1.notFile (m, f) hp).2
  have hrg2 : ((w2.setCell ⟨f.blk, 0, none⟩ v').setCell ⟨f.blk, 1, none⟩ (.slice none 0 0)).ranges Tryd.prog 9 ptrElem D.m w.heap.size 16 (fdata Dk.files) (strike left m) cnt1 := by
    obtain ⟨es, clock, since, seen, c0, g1, g2, g3, g4, g5, g6⟩ := hrg1
    exact ⟨es, clock, since, seen, c0, s2.heap g1 (by rw [← hmm]; exact hnm), g2, g3, g4, s2.heap g5 (fun hx => hnot (hfb _ hx)), g6⟩
  refine ⟨⟨strike left m, cnt1, _, ?_, h2, ?_, hmm, ?_, ?_, ?_⟩, hrg2.left_eq⟩
  · show World.ranges _ _ _ _ _ _ _ (fdata (repl _ _ _)) _ _
    rw [fdata_repl (f := f) (f' := ⟨f.blk, v', .slice none 0 0, ⟨f.c.safe ++ f.c.wait.take (min keep.toNat f.c.wait.length), []⟩⟩) rfl hr hp]
    exact hrg2
  · have e : ({ Dk with files := repl m ⟨f.blk, v', .slice none 0 0, ⟨f.c.safe ++ f.c.wait.take (min keep.toNat f.c.wait.length), []⟩⟩ Dk.files } : Dsk).abs = { Dk.abs with files := ADsk.onFile m (ADsk.lost keep) Dk.abs.files } := by
      rw [← habs]; rfl
    rw [e, he]
    simp only [mix_strike hl]
  · have t1 : Mod (fun k => k ∈ D.blocks d) w w1 := hmod.trans hm1 (fun i hi e => by omega)
    exact t1.trans s2 (fun i hi hx => by
      rcases hbl i (hfb i hx) with h3 | h3
      · exact h3
      · omega)
  · intro k hk
    simp only [Dsk.blocks, List.mem_cons, fblocks, List.mem_flatMap] at hk
    rcases hk with rfl | rfl | ⟨p, hp2, hk⟩
    · exact hbl _ (by simp [Dsk.blocks])
    · exact hbl _ (by simp [Dsk.blocks])
    · rcases mem_repl hp2 with rfl | ⟨hp2, _⟩
      · rcases s3 k hk with h3 | h3
        · exact hbl k (hfb k h3)
        · exact Or.inr (by omega)
      · exact hbl k (by simp only [Dsk.blocks, fblocks, List.mem_cons, List.mem_flatMap]; exact Or.inr (Or.inr ⟨p, hp2, hk⟩))
  · exact Nat.lt_of_lt_of_le hlt (Nat.le_trans hm1.size s2.size)

end Go.Proofs.YtmpdmejlpicdlaaDoor
/- The loss of power, walked; what a raw write answers in which the power goes. -/
namespace Go.Proofs.YtmpdmejlpicdlaaDoor
open Go.RowKit Go.Bw Go.Maps
set_option linter.unusedVariables false
set_option linter.unusedSimpArgs false

theorem OffRel.finish {w wr : World} {d : Nat} {D Dk : Dsk} {keep : Int} {left : Lit → Bool} (h0 : DiskAt w d D) (hoff : D.off = false) (h : DiskAt wr d Dk) (habs : Dk.abs = { D.abs with files := mix left keep D.abs.files }) (hmod : Mod (fun k => k ∈ D.blocks d) w wr)
    (hbl : ∀ k ∈ Dk.blocks d, k ∈ D.blocks d ∨ w.heap.size < k) (hdone : ∀ kl, left kl = false) :
    DStep w d D ((wr.setCell ⟨d, 2, none⟩ (.bool true)).setCell ⟨d, 4, none⟩ (.int .i64 0)) (D.abs.goesOff keep) := by
  have hc := heap_setCell_at (heap_setCell_at h.cells 2 (.bool true)) 4 (.int .i64 0)
  have hm : Mod (fun k => k = d) wr ((wr.setCell ⟨d, 2, none⟩ (.bool true)).setCell ⟨d, 4, none⟩ (.int .i64 0)) := ((Mod.refl (fun k => k = d) wr).setCell _ (fun _ => rfl)).setCell _ (fun _ => rfl)
  have hok := h.ok
  rw [mix_done hdone] at habs
  have hd : DiskAt ((wr.setCell ⟨d, 2, none⟩ (.bool true)).setCell ⟨d, 4, none⟩ (.int .i64 0)) d { Dk with off := true, ar := 0 } :=
    h.own hm (by simpa using hc) rfl rfl ⟨hok.few, hok.small, hok.rising, by simp [Dsk.abs], by simp [Dsk.abs], hok.names, hok.kp0, hok.kp1⟩
  refine ⟨_, hd, ?_, ?_, ?_⟩
  · have e : ({ Dk with off := true, ar := 0 } : Dsk).abs = { Dk.abs with off := true, ar := 0 } := rfl
    rw [e, habs]
    simp [ADsk.goesOff, Dsk.abs, hoff]
  · exact hmod.trans hm (fun i hi e => by rw [e]; simp [Dsk.blocks])
  · intro k hk
    rcases hbl k hk with h1 | h1
    · exact Or.inl h1
    · exact Or.inr (by omega)

theorem bcells_one_take (xs : List Int) (k : Nat) : ∀ u ∈ (bcells xs).take k, u.oneCell' = true := by
  intro u hu
  obtain ⟨x, _, rfl⟩ := List.mem_map.1 (List.mem_of_mem_take hu)
  rfl

set_option maxRecDepth 100000 in
set_option maxHeartbeats 4000000 in
theorem off_on {w : World} {d : Nat} {D : Dsk} (h : DiskAt w d D) (keep : Int) (hoff : D.off = false) (hk0 : -9223372036854775808 ≤ keep) (hk1 : keep ≤ 9223372036854775807) :
    Calls Tryd.prog 24 #[.pointer (some ⟨d, 0, none⟩), .int .i64 keep] w fun e w' => e = .returned (.tuple #[]) ∧ DStep w d D w' (D.abs.goesOff keep) := by
  have c0 := h.c0
  have c2 := h.c2
  rw [hoff] at c2
  have H := Lib.hid h
  have hown := Lib.hid h.map
  have Hoff := Lib.hid hoff
  clear h hoff
  go_enter Tryd.func24, Tryd.ntmps24
  go_wp2_with (at_range; refine wpList_range_own _ rfl _ 68 rfl 9 76 (string_keyed Tryd.underlying9) Tryd.underlying68 _ D.m 16 _ rfl hown.out ?_; intro w0 hrg0 hg0 hs0)
  go_frame
  go_loopw [5] (fun v wr => OffRel w d D keep wr) (fun _ wr => wr.rangeLeft D.m w.heap.size)
  case atStart => exact OffRel.start H.out keep hrg0 hg0 hs0
  case round =>
    have hrel' : OffRel w d D keep wr := hrel
    clear hrel
    obtain ⟨left, cnt, Dk, hrg, hd, habs, hmm, hmod, hbl, hsz⟩ := hrel'
    have Hrg := Lib.hid hrg
    have Hd := Lib.hid hd
    have Habs := Lib.hid habs
    have Hmm := Lib.hid hmm
    have Hmod := Lib.hid hmod
    have Hbl := Lib.hid hbl
    clear hrg hd habs hmm hmod hbl hrg0 hg0
    go_wp2_with (at_next; refine wpList_next_disk _ rfl _ rfl D.m w.heap.size 16 _ left cnt rfl Hrg.out ?_ ?_)
    · intro hdone
      have c2' := Hd.out.c2
      have c4' := Hd.out.c4
      have fz := Hd.out.fz
      have Hfin := Lib.hid (OffRel.finish H.out Hoff.out Hd.out Habs.out Hmod.out Hbl.out hdone)
      clear hdone
      go_wp2
      go_end0
      exact ⟨rfl, Hfin.out⟩
    · intro x m f w1 cnt1 hp hx hl hrg1 hlt hg1 hs1 hen
      have hf := Hd.out.files (m, f) hp
      have hnotb : ∀ k ∈ f.blocks, k ≠ w.heap.size := fun k hk e => by
        have h1 : k ∈ Dk.blocks d := by
          simp only [Dsk.blocks, fblocks, List.mem_cons, List.mem_flatMap]; exact Or.inr (Or.inr ⟨(m, f), hp, hk⟩)
        rcases Hbl.out _ h1 with h2 | h2
        · have := H.out.lt _ h2; omega
        · omega
      have hnot := hnotb f.blk (by simp [Fil.blocks])
      obtain ⟨a1, k1, a2, k2, e1, e2, f1, f2⟩ := hf.shape
      have hm1 : Mod (fun k => k = w.heap.size) wr w1 := (Mod.refl _ _).grown hg1 (fun k e _ => by cases e; rfl)
      have g1 := hm1.cell f1 hnot
      have g2 := hm1.cell f2 hnot
      obtain ⟨i0, hi, hz0, hz1, hz2⟩ := info_parts TByte.info
      obtain ⟨K, hK⟩ : ∃ K, K = min keep.toNat f.c.wait.length := ⟨_, rfl⟩
      obtain ⟨L, hL⟩ : ∃ L, L = keep.toNat := ⟨_, rfl⟩
      have hmx : (if keep < 0 then 0 else keep) = (L : Int) := by subst hL; split <;> omega
      have hmn : (if f.c.wait.length < L then (f.c.wait.length : Int) else (L : Int)) = (K : Int) := by subst hL; split <;> omega
      have hKw : K ≤ f.c.wait.length := by omega
      have r1 : w1.drew.ownsRow 0 5 1 (.slice a1 f.c.safe.length k1) f.c.safe.length (bcells f.c.safe) := by
        rw [← e1]; exact ownsRow_kept hf.safe (fun k hk => hm1.block k (hf.safe.lt k hk).2 (fun e => hnotb k (by simp [Fil.blocks, hk]) e))
      have r2 : w1.drew.ownsRow 0 5 1 (.slice a2 f.c.wait.length k2) f.c.wait.length (bcells f.c.wait) := by
        rw [← e2]; exact ownsRow_kept hf.wait (fun k hk => hm1.block k (hf.wait.lt k hk).2 (fun e => hnotb k (by simp [Fil.blocks, hk]) e))
      have r3 := ownsRow_reads (ownsRow_take r2 K hKw)
      obtain ⟨v', w2, hrun, ho2, hm2, hb2, _⟩ := run_append_to (P := Tryd.prog) 22 22 5 i0 (.int .u8 0) 1 1 Tryd.underlying22 hi hz0 hz1 hz2 rfl (by decide) _ _ _ r1 _ _ _ r3 (bcells_one_take _ _) (by have := Hd.out.ok.small (m, f.c) (List.mem_map.2 ⟨(m, f), hp, rfl⟩); simp only [Cont.len] at this; unfold maxLen; omega) (by have := Hd.out.ok.small (m, f.c) (List.mem_map.2 ⟨(m, f), hp, rfl⟩); simp only [Cont.len] at this; omega)
      obtain ⟨a3, c3, rfl, _⟩ := ownsRow_slice ho2
      have hnd := file_nodup Hd.out.apart hp
      have hbf : Value.ownBlock (.slice a1 f.c.safe.length k1) ≠ some f.blk := fun e => by
        rw [← e1] at e; simp [Fil.blocks, e] at hnd
      have h1c : w1.heap[f.blk]? = some (.cells #[f.sv, f.wv] 78 (0, 0)) := hm1.heap hf.cells hnot
      have h2c : w2.heap[f.blk]? = some (.cells #[f.sv, f.wv] 78 (0, 0)) := hm2.heap (w := w1.drew) h1c hbf
      have fz : ∀ o, w2.frozen? ⟨f.blk, o, none⟩ = false := free_of_heap h2c
      have q1 : w2.cell? ⟨f.blk, 0, none⟩ = some (.slice a1 f.c.safe.length k1) := (cell_of_heap h2c 0).trans (by rw [← e1]; rfl)
      have q2 : w2.cell? ⟨f.blk, 1, none⟩ = some (.slice a2 f.c.wait.length k2) := (cell_of_heap h2c 1).trans (by rw [← e2]; rfl)
      have Hstep := Lib.hid (OffRel.step Hd.out hrg1 hl hg1 hs1 hsz Habs.out Hmm.out Hmod.out Hbl.out H.out.lt hp (v' := .slice a3 (f.c.safe.length + K) c3) (w2 := w2) (by rw [← hK]; exact ho2) ⟨hm2.os, hm2.tape, hm2.output, hm2.size, fun k hk hne => hm2.block k hk (fun e => hne (by rw [e1]; exact e))⟩ (fun b hb => by rw [e1]; exact hb2 b hb))
      have Hms := Lib.hid (show ((w2.setCell ⟨f.blk, 0, none⟩ (.slice a3 (f.c.safe.length + K) c3)).setCell ⟨f.blk, 1, none⟩ (.slice none 0 0)).rangeLeft D.m w.heap.size < wr.rangeLeft D.m w.heap.size by rw [Hstep.out.2, Hrg.out.left_eq]; exact hlt)
      clear h1c h2c hbf hnd hnotb
      have Hrun := Lib.hid hrun
      have hKk : K ≤ k2 := by obtain ⟨_, _, e, hx⟩ := ownsRow_slice r2; cases e; omega
      have HK := Lib.hid hK
      clear hK hL
      clear hrun r1 r2 r3 hb2 hm2 ho2 hm1 f1 f2 e1 e2 hf hx hl hrg1 hlt hg1 hs1 c0 hnot
      go_wp2
      refine wp_region_lex [19, 22, 25] [0, 1, 20, 21, 23, 24] (by kernel_rfl) (by kernel_rfl) ?_
      refine LexG_pure 2 (by kernel_rfl) ?_
      simp only [List.take_succ_cons, List.take_zero, List.drop_succ_cons, List.drop_zero, Nat.reduceAdd]
      repeat (go_big_quiet_step (fail))
      refine wpQuiet_nil ?_
      refine LexG_still 17 (by kernel_rfl) ?_
      simp only [List.take_succ_cons, List.take_zero, List.drop_succ_cons, List.drop_zero, Nat.reduceAdd]
      repeat (go_big_quiet_step (fail))
      refine wpQuiet_nil ?_
      refine LexG_eff (by kernel_rfl) rfl (fun K hK => ?_)
      refine wp_append_run (.tmp 28) (.tmp 41) 22 rfl rfl rfl Hrun.out ?_
      go_simp
      refine hK _ _ ?_
      clear hK
      refine LexG_pure 2 (by kernel_rfl) ?_
      simp only [List.take_succ_cons, List.take_zero, List.drop_succ_cons, List.drop_zero, Nat.reduceAdd]
      repeat (go_big_quiet_step (fail))
      refine wpQuiet_nil ?_
      refine LexG_eff (by kernel_rfl) rfl (fun K hK => ?_)
      go_simp
      refine hK _ _ ?_
      clear hK
      refine LexG_pure 2 (by kernel_rfl) ?_
      simp only [List.take_succ_cons, List.take_zero, List.drop_succ_cons, List.drop_zero, Nat.reduceAdd]
      repeat (go_big_quiet_step (fail))
      refine wpQuiet_nil ?_
      refine LexG_eff (by kernel_rfl) rfl (fun K hK => ?_)
      go_simp
      refine hK _ _ ?_
      clear hK
      refine LexG_nil ?_
      go_wp2
      go_roundw
      case rel => exact Hstep.out.1
      case measure => exact Hms.out

theorem DStep.refl {w : World} {d : Nat} {D : Dsk} (h : DiskAt w d D) : DStep w d D w D.abs := ⟨D, h, rfl, Mod.refl _ _, fun k hk => Or.inl hk⟩

theorem DStep.trans {w w1 w2 : World} {d : Nat} {D D1 : Dsk} {A : ADsk} (hm : Mod (fun k => k ∈ D.blocks d) w w1) (hb : ∀ k ∈ D1.blocks d, k ∈ D.blocks d ∨ w.heap.size ≤ k) (h : DStep w1 d D1 w2 A) : DStep w d D w2 A := by
  obtain ⟨D2, h1, h2, h3, h4⟩ := h
  refine ⟨D2, h1, h2, hm.trans h3 (fun i hi hx => ?_), fun k hk => ?_⟩
  · rcases hb i hx with h5 | h5
    · exact h5
    · omega
  · rcases h4 k hk with h5 | h5
    · exact hb k h5
    · exact Or.inr (Nat.le_trans hm.size h5)

set_option maxHeartbeats 400000 in
theorem off_off {w : World} {d : Nat} {D : Dsk} (h : DiskAt w d D) (keep : Int) (hoff : D.off = true) :
    Calls Tryd.prog 24 #[.pointer (some ⟨d, 0, none⟩), .int .i64 keep] w fun e w' => e = .returned (.tuple #[]) ∧ DStep w d D w' (D.abs.goesOff keep) := by
  have c2 := h.c2
  rw [hoff] at c2
  have e : D.abs.goesOff keep = D.abs := by simp [ADsk.goesOff, Dsk.abs, hoff]
  have H := Lib.hid (by rw [e]; exact DStep.refl h : DStep w d D w (D.abs.goesOff keep))
  clear h hoff e
  go_enter Tryd.func24, Tryd.ntmps24
  go_wp2
  refine bodyPost_ret (results_none rfl _ _ _) rfl ?_
  exact ⟨rfl, H.out⟩

theorem off_any {w : World} {d : Nat} {D : Dsk} (h : DiskAt w d D) (keep : Int) (hk0 : -9223372036854775808 ≤ keep) (hk1 : keep ≤ 9223372036854775807) :
    Calls Tryd.prog 24 #[.pointer (some ⟨d, 0, none⟩), .int .i64 keep] w fun e w' => e = .returned (.tuple #[]) ∧ DStep w d D w' (D.abs.goesOff keep) := by
  cases ho : D.off
  · exact off_on h keep ho hk0 hk1
  · exact off_off h keep ho

set_option maxHeartbeats 400000 in
theorem ends_any {w : World} {d : Nat} {D : Dsk} (h : DiskAt w d D) :
    Calls Tryd.prog 63 #[.pointer (some ⟨d, 0, none⟩)] w fun e w' => e = .returned (.int .i64 20) ∧ DStep w d D w' (D.abs.goesOff D.kp) := by
  have c5 := h.c5
  have R := Lib.hid (off_any h D.kp h.ok.kp0 h.ok.kp1)
  clear h
  go_enter Tryd.func63, Tryd.ntmps63
  go_wp2_with fail
  refine R.out.mono ?_
  rintro e w1 ⟨rfl, hs⟩
  have Hs := Lib.hid hs
  clear hs
  go_wp2
  go_ret
  exact ⟨rfl, Hs.out⟩
end Go.Proofs.YtmpdmejlpicdlaaDoor

/- How the program's disk lies in memory. -/
import Derived.Maps.OwnSet
import Derived.Maps.RangeWalk
import Derived.Maps.OwnOps
import Derived.Sort.KeysCollected
import Derived.Test.YtmpdmejlpicdlaaDoorProg
import Derived.Test.YtmpdmejlpicdlaaDoorMem
import Derived.Test.YtmpdmejlpicdlaaDoorDiskAbs
namespace Go.Proofs.YtmpdmejlpicdlaaDoor
open Go.RowKit Go.Bw Go.Maps
set_option linter.unusedVariables false
set_option linter.unusedSimpArgs false

/-- A file: its block, the values of its two fields, the bytes in them. -/
structure Fil where
  blk : Nat
  sv : Value
  wv : Value
  c : Cont

def Fil.blocks (f : Fil) : List Nat := f.blk :: (f.sv.ownBlock.toList ++ f.wv.ownBlock.toList)
def bcells (xs : List Int) : List Value := xs.map (Value.int .u8)

structure FileAt (w : World) (f : Fil) : Prop where
  cells : w.heap[f.blk]? = some (.cells #[f.sv, f.wv] 78 (0, 0))
  safe : w.ownsRow 0 5 1 f.sv f.c.safe.length (bcells f.c.safe)
  wait : w.ownsRow 0 5 1 f.wv f.c.wait.length (bcells f.c.wait)

def ptrElem (v : Value) : Option (DataW Unit × List MemPlace) :=
  match v with
  | .pointer (some ⟨b, 0, none⟩) => some (.lit (.int .i64 b), [])
  | .pointer none => some (.nil, [])
  | _ => none

theorem ptrElem_inv {v : Value} {b : Nat} {ps : List MemPlace} (h : ptrElem v = some (.lit (.int .i64 b), ps)) : v = .pointer (some ⟨b, 0, none⟩) := by
  unfold ptrElem at h
  split at h
  · simp at h; have := Int.ofNat.inj h.1; subst this; rfl
  · simp at h
  · simp at h
theorem ptrElem_nil {v : Value} {ps : List MemPlace} (h : ptrElem v = some (.nil, ps)) : v = .pointer none := by
  unfold ptrElem at h
  split at h
  · simp at h
  · rfl
  · simp at h


def fent (p : Nm × Fil) : Lit × DataW Unit := (.string p.1, .lit (.int .i64 p.2.blk))
def fdata (F : List (Nm × Fil)) : DataW Unit := .map (F.map fent)
theorem insert_fdata (x : Nm × Fil) : ∀ F : List (Nm × Fil), DataW.insert (fent x) (F.map fent) = (ins x F).map fent
  | [] => rfl
  | y :: r => by
    have e : DataW.insert (fent x) ((y :: r).map fent) = if bytesBefore x.1 y.1 = true then fent x :: fent y :: r.map fent else fent y :: DataW.insert (fent x) (r.map fent) := rfl
    have e' : ins x (y :: r) = if bytesBefore x.1 y.1 = true then x :: y :: r else y :: ins x r := rfl
    rw [e, e', insert_fdata x r]
    by_cases hb : bytesBefore x.1 y.1 = true
    · rw [if_pos hb, if_pos hb]; rfl
    · rw [if_neg hb, if_neg hb]; rfl
theorem filter_fdata (n : Nm) (F : List (Nm × Fil)) : (F.map fent).filter (ChangeMaps.notKey (.string n)) = (drop F n).map fent := by
  unfold drop; rw [List.filter_map]; rfl
theorem del_fdata (n : Nm) (F : List (Nm × Fil)) : (fdata F).del (.string n) = fdata (drop F n) := by
  show DataW.map ((F.map fent).filter (ChangeMaps.notKey (.string n))) = _
  rw [filter_fdata]; rfl
theorem put_fdata (n : Nm) (f : Fil) (F : List (Nm × Fil)) : (fdata F).put (.string n) (.lit (.int .i64 f.blk)) = fdata (put F n f) := by
  show DataW.map (DataW.insert (fent (n, f)) ((F.map fent).filter (ChangeMaps.notKey (.string n)))) = _
  rw [filter_fdata, insert_fdata]; rfl
theorem atKey_fdata (n : Nm) (F : List (Nm × Fil)) : (fdata F).atKey (.string n) .nil = match lookF F n with | some f => .lit (.int .i64 f.blk) | none => .nil := by
  have e2 : ((fun p : Lit × DataW Unit => p.1.sameKey (.string n)) ∘ fent) = fun p => p.1 == n := rfl
  have e3 : (F.map fent).find? (fun p => p.1.sameKey (.string n)) = (F.find? (fun p => p.1 == n)).map fent := by rw [List.find?_map, e2]
  unfold lookF fdata DataW.atKey
  dsimp only
  split
  · rename_i p hp
    have hp' := hp.symm.trans e3
    cases hf : F.find? (fun p => p.1 == n) with
    | none => rw [hf] at hp'; cases hp'
    | some q => rw [hf] at hp'; cases hp'; rfl
  · rename_i hp
    have hp' := hp.symm.trans e3
    cases hf : F.find? (fun p => p.1 == n) with
    | none => rfl
    | some q => rw [hf] at hp'; cases hp'
theorem size_fdata (F : List (Nm × Fil)) : Maps.size (fdata F) = F.length := by simp [fdata, Maps.size]
theorem strKeys_fdata (F : List (Nm × Fil)) : strKeys (fdata F) = F.map (·.1) := by
  show (F.map fent).map (fun p => strOf p.1) = _
  rw [List.map_map]; rfl

/-- What is known of a disk in memory: the map's block; its files; the numbers. -/
structure Dsk where
  m : Nat
  files : List (Nm × Fil)
  room : Int
  off : Bool
  wr : Int
  ar : Int
  kp : Int

def Dsk.abs (D : Dsk) : ADsk := ⟨D.files.map (fun p => (p.1, p.2.c)), D.room, D.off, D.wr, D.ar, D.kp⟩
def fblocks (F : List (Nm × Fil)) : List Nat := F.flatMap (fun p => p.2.blocks)
def Dsk.blocks (d : Nat) (D : Dsk) : List Nat := d :: D.m :: fblocks D.files

structure DiskAt (w : World) (d : Nat) (D : Dsk) : Prop where
  cells : w.heap[d]? = some (.cells #[.map (some D.m), .int .i64 D.room, .bool D.off, .int .i64 D.wr, .int .i64 D.ar, .int .i64 D.kp] 70 (0, 0))
  map : w.ownsMap Tryd.prog 9 ptrElem D.m 16 (fdata D.files)
  files : ∀ p ∈ D.files, FileAt w p.2
  apart : (D.blocks d).Nodup
  ok : D.abs.Ok

theorem DiskAt.kept {S : Nat → Prop} {w w' : World} {d : Nat} {D : Dsk} (h : DiskAt w d D) (hm : Mod S w w') (hS : ∀ k ∈ D.blocks d, ¬ S k) : DiskAt w' d D := by
  refine ⟨hm.heap h.cells (hS _ (by simp [Dsk.blocks])), ?_, ?_, h.apart, h.ok⟩
  · obtain ⟨es, clock, hb, F, hs, hD⟩ := h.map
    exact ⟨es, clock, hm.heap hb (hS _ (by simp [Dsk.blocks])), F, hs, hD⟩
  · intro p hp
    have hf := h.files p hp
    have hin : ∀ k ∈ p.2.blocks, ¬ S k := fun k hk => hS k (by
      simp only [Dsk.blocks, fblocks, List.mem_cons, List.mem_flatMap]; exact Or.inr (Or.inr ⟨p, hp, hk⟩))
    refine ⟨hm.heap hf.cells (hin _ (by simp [Fil.blocks])), ownsRow_kept hf.safe ?_, ownsRow_kept hf.wait ?_⟩
    · intro k hk
      exact hm.block k (hf.safe.lt k hk).2 (hin k (by simp [Fil.blocks, hk]))
    · intro k hk
      exact hm.block k (hf.wait.lt k hk).2 (hin k (by simp [Fil.blocks, hk]))

theorem DiskAt.lt {w : World} {d : Nat} {D : Dsk} (h : DiskAt w d D) : ∀ k ∈ D.blocks d, k < w.heap.size := by
  intro k hk
  simp only [Dsk.blocks, fblocks, List.mem_cons, List.mem_flatMap] at hk
  rcases hk with rfl | rfl | ⟨p, hp, hk⟩
  · exact lt_of_heap h.cells
  · exact h.map.lt
  · have hf := h.files p hp
    simp only [Fil.blocks, List.mem_cons, List.mem_append, Option.mem_toList] at hk
    rcases hk with rfl | hk | hk
    · exact lt_of_heap hf.cells
    · exact (hf.safe.lt k hk).2
    · exact (hf.wait.lt k hk).2

theorem DiskAt.look {w : World} {d : Nat} {D : Dsk} (h : DiskAt w d D) (s : ByteArray) (hs : s.size ≤ maxLen) :
    (Instr.lookup 68 (.map (some D.m)) (.string s) false).run Tryd.prog w = .ok (match lookF D.files s.data.toList with | some f => .pointer (some ⟨f.blk, 0, none⟩) | none => .pointer none) w := by
  have hz : (zeroValue 76).run Tryd.prog w = .ok (.pointer none) w := by kernel_rfl
  obtain ⟨v, ps, hrun, hv⟩ := h.map.lookup (string_keyed Tryd.underlying9) Tryd.underlying68 hz (zd := .nil) (zp := []) rfl (WideMaps.keyOf_string_mk Tryd.underlying9 hs)
  rw [atKey_fdata] at hv
  rw [hrun]
  cases hl : Bw.lookF D.files s.data.toList with
  | none => rw [hl] at hv; rw [ptrElem_nil hv]
  | some f => rw [hl] at hv; rw [ptrElem_inv hv]

theorem look_abs (D : Dsk) (n : Nm) : Bw.lookF D.abs.files n = (Bw.lookF D.files n).map (·.c) := look_map (fun f : Fil => f.c) D.files n

/-- A call's step from a disk that holds D to one of which A' is said. -/
def DStep (w : World) (d : Nat) (D : Dsk) (w' : World) (A' : ADsk) : Prop :=
  ∃ D', DiskAt w' d D' ∧ D'.abs = A' ∧ Mod (fun k => k ∈ D.blocks d) w w' ∧ ∀ k ∈ D'.blocks d, k ∈ D.blocks d ∨ w.heap.size ≤ k

end Go.Proofs.YtmpdmejlpicdlaaDoor

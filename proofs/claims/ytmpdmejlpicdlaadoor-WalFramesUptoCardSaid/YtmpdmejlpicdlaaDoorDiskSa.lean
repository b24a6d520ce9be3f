/- DiskSafe, walked. -/
import Derived.Test.YtmpdmejlpicdlaaDoorDiskJc
namespace Go.Proofs.YtmpdmejlpicdlaaDoor
open Go.RowKit Go.Bw Go.Maps
set_option linter.unusedVariables false
set_option linter.unusedSimpArgs false

/-- The first k parts, one behind the other. -/
def flat (P : Nat → List Int) : Nat → List Int
  | 0 => []
  | k + 1 => flat P k ++ P k
theorem flat_len (P : Nat → List Int) (k : Nat) : (flat P (k + 1)).length = (flat P k).length + (P k).length := by simp [flat]
theorem flat_mono (P : Nat → List Int) {j k : Nat} (h : j ≤ k) : (flat P j).length ≤ (flat P k).length := by
  induction k with
  | zero => have : j = 0 := by omega
            subst this; exact Nat.le_refl _
  | succ k ih =>
    rcases Nat.eq_or_lt_of_le h with rfl | h'
    · exact Nat.le_refl _
    · rw [flat_len]; have := ih (by omega); omega

/-- Rows of bytes that came in, in a row. -/
def RowsIn (w : World) (a : Option Addr) (n : Nat) (P : Nat → List Int) : Prop :=
  ∀ r, r < n → ∃ a' x c, a = some a' ∧ w.cell? (a'.add r) = some (.slice x (P r).length c) ∧ Reads w 1 (.slice x (P r).length c) (P r).length (bcells (P r)) ∧ (P r).length ≤ 140737488351232
/-- Flags that came in. -/
def FlagsIn (w : World) (b : Option Addr) (m : Nat) : Prop := ∀ j, j < m → ∃ b' x, b = some b' ∧ w.cell? (b'.add j) = some (.bool x)

/-- The disk behind k appends to one file. -/
def OneFile (k : Nat) (s t : List Int) (A : ADsk) : Prop := (k = 0 ∧ s = [] ∧ t = [] ∧ A = ADsk.new 1048576) ∨ (0 < k ∧ ∃ c, A = ⟨[([102], ⟨s, t⟩)], 1048576, false, c, 0, 0⟩)

theorem kp1' (xs : List Int) (h : xs.length ≤ 524288) : (ADsk.new 1048576).append [102] xs = (⟨[([102], ⟨[], xs⟩)], 1048576, false, 1, 0, 0⟩, 0) := by
  have e1 : ¬ (xs.length > 1048576) := by omega
  have e2 : ¬ (1048576 < (xs.length : Int)) := by omega
  simp [ADsk.append, ADsk.new, ADsk.ready, namedB, lookF, put, drop, ins, Cont.len, total, ADsk.armed, e1, e2]
  exact (show RowKit.wrap64 1 = 1 from by kernel_rfl)

theorem OneFile.append {k : Nat} {s t : List Int} {A : ADsk} (h : OneFile k s t A) (p : List Int) (hl : s.length + t.length + p.length ≤ 524288) : ∃ A', A.append [102] p = (A', 0) ∧ OneFile (k + 1) s (t ++ p) A' := by
  rcases h with ⟨rfl, rfl, rfl, rfl⟩ | ⟨h, c, rfl⟩
  · refine ⟨_, kp1' p (by simpa using hl), Or.inr ⟨by omega, 1, by simp⟩⟩
  · refine ⟨⟨[([102], ⟨s, t ++ p⟩)], 1048576, false, RowKit.wrap64 (c + 1), 0, 0⟩, ?_, Or.inr ⟨by omega, _, rfl⟩⟩
    have e1 : ¬ (s.length + t.length + p.length > 1048576) := by omega
    have e2 : ¬ (1048576 < (s.length : Int) + t.length + p.length) := by omega
    simp [ADsk.append, ADsk.new, ADsk.ready, namedB, lookF, put, drop, ins, Cont.len, total, ADsk.armed, e1, e2]

theorem OneFile.sync {k : Nat} {s t : List Int} {A : ADsk} (h : OneFile (k + 1) s t A) : ∃ A', A.sync [102] = (A', 0) ∧ OneFile (k + 1) (s ++ t) [] A' := by
  rcases h with ⟨h, _⟩ | ⟨h, c, rfl⟩
  · omega
  · refine ⟨⟨[([102], ⟨s ++ t, []⟩)], 1048576, false, RowKit.wrap64 (c + 1), 0, 0⟩, ?_, Or.inr ⟨h, _, rfl⟩⟩
    simp [ADsk.sync, ADsk.there, ADsk.ready, namedB, lookF, ADsk.does, ADsk.onFile, ADsk.armed]

theorem OneFile.off {k : Nat} {s t : List Int} {A : ADsk} (h : OneFile k s t A) (keep : Int) : (A.goesOff keep).off = true ∧ (A.goesOff keep).names = [] ∧
    (k = 0 → ({ A.goesOff keep with off := false } : ADsk).read [102] = ([], 21)) ∧ (0 < k → ({ A.goesOff keep with off := false } : ADsk).read [102] = (s ++ t.take keep.toNat, 0)) := by
  rcases h with ⟨rfl, rfl, rfl, rfl⟩ | ⟨h, c, rfl⟩
  · refine ⟨rfl, rfl, fun _ => rfl, fun h => by omega⟩
  · refine ⟨rfl, rfl, fun e => by omega, fun _ => ?_⟩
    simp [ADsk.goesOff, ADsk.lost, ADsk.read, ADsk.there, ADsk.ready, namedB, lookF]

/-- app_run, with where the row lies. -/
theorem app_run2 (wr : World) (B : Nat) (v x : Value) (cur new : List Int) (hor : wr.ownsRow B 5 1 v cur.length (bcells cur)) (hB : B ≤ wr.heap.size)
    (hR : Reads wr 1 x new.length (bcells new)) (hl : cur.length + new.length ≤ 140737488355328) :
    ∃ v' w3, (Builtin.append_ #[22, 22] 22 #[v, x]).run Tryd.prog wr = .ok v' w3 ∧ w3.ownsRow B 5 1 v' (cur ++ new).length (bcells (cur ++ new)) ∧
      Mod (fun k => v.ownBlock = some k) wr w3 ∧ ∀ k, v'.ownBlock = some k → v.ownBlock = some k ∨ wr.heap.size ≤ k := by
  obtain ⟨i0, h1, h2, h3, h4⟩ := info_parts TByte.info
  obtain ⟨v', w3, hrun, ho3, hm3, hb3, _⟩ := run_append_to (P := Tryd.prog) 22 22 5 i0 (.int .u8 0) 1 1 Tryd.underlying22 h1 h2 h3 h4 rfl (by decide) v _ _ (ownsRow_base hor (base' := 0) (fun _ _ => Nat.zero_le _)) _ _ _ hR (bcells_one _) (by unfold maxLen; omega) (by omega)
  refine ⟨v', w3, hrun, ?_, hm3, fun k hk => (hb3 k hk).imp id (fun e => by omega)⟩
  have eb : bcells (cur ++ new) = bcells cur ++ bcells new := by simp [bcells]
  rw [eb, List.length_append]
  exact ownsRow_base ho3 (fun j hj => by
    rcases hb3 j hj with h5 | h5
    · exact (hor.lt j h5).1
    · omega)

/-- How DiskSafe stands behind k parts: v is the row of all bytes. -/
structure SafeAt (w w1 : World) (B d : Nat) (P : Nat → List Int) (k : Nat) (s t : List Int) (v : Value) (wr : World) : Prop where
  both : s ++ t = flat P k
  row : wr.ownsRow B 5 1 v (flat P k).length (bcells (flat P k))
  disk : ∃ A O, OneFile k s t A ∧ Held O wr d A ∧ (∀ j, j < w1.heap.size → O j) ∧ (∀ j, v.ownBlock = some j → O j)
  below : Below w.heap.size w wr
  size : B ≤ wr.heap.size

end Go.Proofs.YtmpdmejlpicdlaaDoor

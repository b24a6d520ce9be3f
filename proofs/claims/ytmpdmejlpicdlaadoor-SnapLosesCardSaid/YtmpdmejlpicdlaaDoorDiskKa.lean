/- For DiskKeeps and its like: rows that came in, rows made by appending, the abstract disk with one file. -/
import Derived.Test.YtmpdmejlpicdlaaDoorDiskLc
namespace Go.Proofs.YtmpdmejlpicdlaaDoor
open Go.RowKit Go.Bw Go.Maps
set_option linter.unusedVariables false
set_option linter.unusedSimpArgs false

/-- A row of bytes grown by another one. -/
theorem app_run (wr : World) (B : Nat) (v x : Value) (cur new : List Int) (hor : wr.ownsRow B 5 1 v cur.length (bcells cur)) (hB : B ≤ wr.heap.size)
    (hR : Reads wr 1 x new.length (bcells new)) (hl : cur.length + new.length ≤ 140737488355328) :
    ∃ v' w3, (Builtin.append_ #[22, 22] 22 #[v, x]).run Tryd.prog wr = .ok v' w3 ∧ w3.ownsRow B 5 1 v' (cur ++ new).length (bcells (cur ++ new)) ∧
      Mod (fun k => v.ownBlock = some k) wr w3 := by
  obtain ⟨i0, h1, h2, h3, h4⟩ := info_parts TByte.info
  obtain ⟨v', w3, hrun, ho3, hm3, hb3, _⟩ := run_append_to (P := Tryd.prog) 22 22 5 i0 (.int .u8 0) 1 1 Tryd.underlying22 h1 h2 h3 h4 rfl (by decide) v _ _ (ownsRow_base hor (base' := 0) (fun _ _ => Nat.zero_le _)) _ _ _ hR (bcells_one _) (by unfold maxLen; omega) (by omega)
  refine ⟨v', w3, hrun, ?_, hm3⟩
  have eb : bcells (cur ++ new) = bcells cur ++ bcells new := by simp [bcells]
  rw [eb, List.length_append]
  exact ownsRow_base ho3 (fun j hj => by
    rcases hb3 j hj with h5 | h5
    · exact (hor.lt j h5).1
    · omega)

theorem row_empty (w : World) : (w.alloc (.cells #[] 5)).ownsRow w.heap.size 5 1 (.slice (some ⟨w.heap.size, 0, none⟩) 0 0) 0 (bcells []) := by
  refine ⟨rfl, Or.inr ⟨w.heap.size, 0, #[], rfl, Nat.le_refl _, ?_, Nat.le_refl _, by decide, rfl, rfl⟩⟩
  show (w.heap.push _)[w.heap.size]? = _
  simp

theorem kp1 (xs : List Int) (h : xs.length ≤ 65536) : (ADsk.new 1048576).append [102] xs = (⟨[([102], ⟨[], xs⟩)], 1048576, false, 1, 0, 0⟩, 0) := by
  have e1 : ¬ (xs.length > 1048576) := by omega
  have e2 : ¬ (1048576 < (xs.length : Int)) := by omega
  simp [ADsk.append, ADsk.new, ADsk.ready, namedB, lookF, put, drop, ins, Cont.len, total, ADsk.armed, e1, e2]
  first | exact (show RowKit.wrap64 1 = 1 from by kernel_rfl) | exact (show RowKit.wrap64 3 = 3 from by kernel_rfl)
theorem kp2 (xs : List Int) : (⟨[([102], ⟨[], xs⟩)], 1048576, false, 1, 0, 0⟩ : ADsk).sync [102] = (⟨[([102], ⟨xs, []⟩)], 1048576, false, 2, 0, 0⟩, 0) := by
  simp [ADsk.sync, ADsk.there, ADsk.ready, namedB, lookF, ADsk.does, ADsk.onFile, ADsk.armed]
  kernel_rfl
theorem kp3 (xs ys : List Int) (h : xs.length + ys.length ≤ 65536) : (⟨[([102], ⟨xs, []⟩)], 1048576, false, 2, 0, 0⟩ : ADsk).append [102] ys = (⟨[([102], ⟨xs, ys⟩)], 1048576, false, 3, 0, 0⟩, 0) := by
  have e1 : ¬ (xs.length + ys.length > 1048576) := by omega
  have e2 : ¬ (1048576 < (xs.length : Int) + ys.length) := by omega
  simp [ADsk.append, ADsk.new, ADsk.ready, namedB, lookF, put, drop, ins, Cont.len, total, ADsk.armed, e1, e2]
  first | exact (show RowKit.wrap64 1 = 1 from by kernel_rfl) | exact (show RowKit.wrap64 3 = 3 from by kernel_rfl)
theorem kp4 (xs ys : List Int) : (⟨[([102], ⟨xs, ys⟩)], 1048576, false, 3, 0, 0⟩ : ADsk).read [102] = (xs ++ ys, 0) := by
  simp [ADsk.read, ADsk.there, ADsk.ready, namedB, lookF]
theorem kp5 (xs ys : List Int) : (⟨[([102], ⟨xs, ys⟩)], 1048576, false, 3, 0, 0⟩ : ADsk).names = [[102]] := rfl
theorem kp6 : (ADsk.new 1048576).names = [] := rfl

/-- A cell of a row of bytes that is one's own is written: the row stays one's own. -/
theorem ownsRow_set {w : World} {B : Nat} {e : TypeId} {v : Value} {n : Nat} {xs : List Value} (h : w.ownsRow B e 1 v n xs) {g c : Nat} (hv : v = .slice (some ⟨g, 0, none⟩) n c) {k : Nat} (hk : k < n) (u : Value) :
    (w.setCell ⟨g, k, none⟩ u).ownsRow B e 1 v n (xs.set k u) := by
  obtain ⟨h1, h2⟩ := h
  rcases h2 with ⟨rfl, rfl⟩ | ⟨g', cap, cur, rfl, hb, hg, hn, hc, hs, ht⟩
  · cases hv
  · cases hv
    refine ⟨by rw [List.length_set]; exact h1, Or.inr ⟨g, c, cur.setIfInBounds k u, rfl, hb, heap_setCell_at hg k u, hn, hc, by simp [hs], ?_⟩⟩
    subst ht
    simp [List.take_set, Array.toList_setIfInBounds]

theorem ownsRow_cell {w : World} {B : Nat} {e : TypeId} {g c n : Nat} {xs : List Value} (h : w.ownsRow B e 1 (.slice (some ⟨g, 0, none⟩) n c) n xs) {k : Nat} (hk : k < n) :
    ∃ u, xs[k]? = some u ∧ w.cell? ⟨g, k, none⟩ = some u ∧ w.frozen? ⟨g, k, none⟩ = false := by
  obtain ⟨h1, h2⟩ := h
  rcases h2 with ⟨e, rfl⟩ | ⟨g', cap, cur, e, hb, hg, hn, hc, hs, ht⟩
  · cases e
  · cases e
    refine ⟨cur[k]'(by omega), ?_, ?_, free_of_heap hg k⟩
    · subst ht; rw [List.getElem?_take]; simp [hk]
    · rw [cell_of_heap hg]; simp

theorem reads_lt {w : World} {v : Value} {xs : List Int} (h : Reads w 1 v xs.length (bcells xs)) (hne : xs ≠ []) (k : Nat) (hk : v.ownBlock = some k) : k < w.heap.size := by
  obtain ⟨a, c, rfl⟩ := reads_form h
  cases a with
  | none => cases hk
  | some a =>
    cases hk
    have h0 := World.block_lt_of_cell? w _ (reads_at h (k := 0) (List.length_pos_iff.2 hne))
    have : (a.add 0).block = a.block := by unfold Addr.add; split <;> rfl
    rw [this] at h0; exact h0

theorem bcells_ne {xs : List Int} (h : bcells xs ≠ []) : xs ≠ [] := fun e => h (by rw [e]; rfl)

/-- The bytes that came in, later. -/
theorem reads_later {w w' : World} {v : Value} {xs : List Int} (h : Reads w 1 v xs.length (bcells xs)) {T : Nat → Prop} (hm : Mod T w w') (hT : ∀ k, k < w.heap.size → ¬ T k) : Reads w' 1 v xs.length (bcells xs) :=
  Reads.kept' h hm (fun hne k hk => hT k (reads_lt h (bcells_ne hne) k hk))

theorem reads_prefix {w : World} {B g c n : Nat} {xs ys : List Int} (h : w.ownsRow B 5 1 (.slice (some ⟨g, 0, none⟩) n c) n (bcells (xs ++ ys))) : Reads w 1 (.slice (some ⟨g, 0, none⟩) xs.length c) xs.length (bcells xs) := by
  refine ⟨by simp [bcells], Or.inr ⟨_, _, rfl, fun j u hj => ?_⟩⟩
  rcases (ownsRow_reads h).2 with ⟨c', e, h0⟩ | ⟨a', c', e, hc⟩
  · cases e
  · cases e
    refine hc j u ?_
    rw [show bcells (xs ++ ys) = bcells xs ++ bcells ys from by simp [bcells], List.getElem?_append_left]
    · exact hj
    · exact (List.getElem?_eq_some_iff.1 hj).1

end Go.Proofs.YtmpdmejlpicdlaaDoor

/- Joined: Exam, Reck, Marg, LedIn, Wakes, GridIn. -/
import Derived.Test.YtcjbhgnlmmeeeaaGreatDoorGg
import Derived.Test.YtcjbhgnlmmeeeaaGreatDoorGa
import Derived.Test.YtcjbhgnlmmeeeaaGreatDoorGe
import Derived.Defers
import Derived.Recover
import Derived.Laws.Pointers
import Derived.Shelf.Abstract
import Derived.Test.YtcjbhgnlmmeeeaaGreatDoorRows
import Derived.LaidMore
import Derived.Lib.LaidTab
import Derived.Stop.LaidErr
import Derived.Stop.Joined
/- ledger.First; the laws' example, walked. -/
namespace Go.Proofs.YtcjbhgnlmmeeeaaGreatDoor
open Go.RowKit Go.Bw Go.Maps Go.Shelf
set_option linter.unusedVariables false
set_option linter.unusedSimpArgs false

theorem bdAcct (n c : Nat) (a : Option Addr) (W : World) : (Instr.build 48 #[(0, .int .i64 (-1)), (1, .slice a n c)]).run Tryz.prog W = .ok (.agg #[.int .i64 (-1), .slice a n c, .bool false, .int .i64 0]) W := by kernel_rfl
theorem bdLed (a1 a4 : Option Addr) (n1 c1 n4 c4 : Nat) (W : World) : (Instr.build 31 #[(1, .slice a1 n1 c1), (4, .slice a4 n4 c4)]).run Tryz.prog W = .ok (.agg #[.int .i64 0, .slice a1 n1 c1, .slice none 0 0, .slice none 0 0, .slice a4 n4 c4, .slice none 0 0, .slice none 0 0, .slice none 0 0, .slice none 0 0]) W := by kernel_rfl
/-- The first ledger's blocks. -/
structure FirstAt (w w' : World) (H : Nat) : Prop where
  c1 : w'.heap[H + 1]? = some (.cells #[.int .i64 1000000, .int .i64 0] 69 (0, 0))
  c2 : w'.heap[H + 1 + 1]? = some (.cells #[.int .i64 0] 3 (0, 0))
  c3 : w'.heap[H + 1 + 1 + 1]? = some (.cells #[.int .i64 0] 3 (0, 0))
  c4 : w'.heap[H + 1 + 1 + 1 + 1]? = some (.cells #[.int .i64 (-1), .slice (some ⟨H + 1 + 1, 0, none⟩) 1 1, .bool false, .int .i64 0, .int .i64 (-1), .slice (some ⟨H + 1 + 1 + 1, 0, none⟩) 1 1, .bool false, .int .i64 0] 48 (0, 0))
  low : Below H w w'
  size : w'.heap.size = H + 5
theorem alloc_at (w : World) (o p : Obj) {n : Nat} {x : Obj} (h : w.heap[n]? = some x) : (w.alloc o).heap[n]? = some x := (Mod.refl (fun _ => False) w).alloc o |>.heap h (fun h => h)
theorem new_at (w : World) (o : Obj) {n : Nat} (h : n = w.heap.size) : (w.alloc o).heap[n]? = some o := by subst h; exact heap_alloc_new w o
set_option maxRecDepth 100000 in
set_option maxHeartbeats 4000000 in
theorem first_any (w : World) :
    Calls Tryz.prog 72 #[] w fun e w' => e = .returned (.agg #[.int .i64 0, .slice (some ⟨w.heap.size + 1, 0, none⟩) 1 1, .slice none 0 0, .slice none 0 0, .slice (some ⟨w.heap.size + 1 + 1 + 1 + 1, 0, none⟩) 2 2, .slice none 0 0, .slice none 0 0, .slice none 0 0, .slice none 0 0]) ∧ FirstAt w w' w.heap.size := by
  have b1 := fun n c a W => bdAcct n c a W
  have b2 := fun a1 a4 n1 c1 n4 c4 W => bdLed a1 a4 n1 c1 n4 c4 W
  go_enter Tryz.func72, Tryz.ntmps72
  go_wp2_with fail
  refine bodyPost_ret (v := .agg #[.int .i64 0, .slice (some ⟨w.heap.size + 1, 0, none⟩) 1 1, .slice none 0 0, .slice none 0 0, .slice (some ⟨w.heap.size + 1 + 1 + 1 + 1, 0, none⟩) 2 2, .slice none 0 0, .slice none 0 0, .slice none 0 0, .slice none 0 0]) (by simp [results, Tryz.results72, go_sem]) rfl ⟨rfl, ?_⟩
  refine ⟨?_, ?_, ?_, ?_, ?_, by simp⟩
  · exact alloc_at _ _ (.map #[] 0) (alloc_at _ _ (.map #[] 0) (alloc_at _ _ (.map #[] 0) (new_at _ _ (by simp))))
  · exact alloc_at _ _ (.map #[] 0) (alloc_at _ _ (.map #[] 0) (new_at _ _ (by simp)))
  · exact alloc_at _ _ (.map #[] 0) (new_at _ _ (by simp))
  · exact new_at _ _ (by simp)
  · exact (((((Below.refl _ _).alloc (Nat.le_refl _) _).alloc (by simp) _).alloc (by simp; omega) _).alloc (by simp; omega) _).alloc (by simp; omega) _
theorem bdUnd (s : ByteArray) (p : Int) (W : World) : (Instr.build 60 #[(0, .string s), (2, .int .i64 p)]).run Tryz.prog W = .ok (.agg #[.string s, .int .i64 0, .int .i64 p, .int .i64 0]) W := by kernel_rfl
theorem bdIns (W : World) : (Instr.build 54 #[(0, .int .i64 1), (2, .int .i64 1), (6, .int .i64 100)]).run Tryz.prog W = .ok (.agg #[.int .i64 1, .int .i64 0, .int .i64 1, .int .i64 0, .int .i64 0, .bool false, .int .i64 100]) W := by kernel_rfl
theorem bdAcct9 (n c : Nat) (a : Option Addr) (W : World) : (Instr.build 48 #[(0, .int .i64 (-1)), (1, .slice a n c), (3, .int .i64 9)]).run Tryz.prog W = .ok (.agg #[.int .i64 (-1), .slice a n c, .bool false, .int .i64 9]) W := by kernel_rfl
theorem infoAcct : (Tryz.prog.info? 48).map (fun i => (i.zero, i.size, i.bytes)) = some (some (.agg #[.int .i64 0, .slice none 0 0, .bool false, .int .i64 0]), 4, 48) := by kernel_rfl
/-- An account is appended to the two first ones. -/
theorem app_acct (w1 w2 : World) (g n k0 k1 k2 : Nat) (hg : w2.heap[g]? = some (.cells #[.int .i64 (-1), .slice (some ⟨k0, 0, none⟩) 1 1, .bool false, .int .i64 0, .int .i64 (-1), .slice (some ⟨k1, 0, none⟩) 1 1, .bool false, .int .i64 0] 48 (0, 0)))
    (hn : w2.heap[n]? = some (.cells #[.int .i64 (-1), .slice (some ⟨k2, 0, none⟩) 1 1, .bool false, .int .i64 9] 48 (0, 0))) :
    ∃ v' w3, (Builtin.append_ #[25, 25] 25 #[.slice (some ⟨g, 0, none⟩) 2 2, .slice (some ⟨n, 0, none⟩) 1 1]).run Tryz.prog w2 = .ok v' w3 ∧
      w3.ownsRow 0 48 4 v' 3 [.int .i64 (-1), .slice (some ⟨k0, 0, none⟩) 1 1, .bool false, .int .i64 0, .int .i64 (-1), .slice (some ⟨k1, 0, none⟩) 1 1, .bool false, .int .i64 0, .int .i64 (-1), .slice (some ⟨k2, 0, none⟩) 1 1, .bool false, .int .i64 9] ∧ Mod (fun k => k = g) w2 w3 ∧ ∀ k, v'.ownBlock = some k → k = g ∨ k = w2.heap.size := by
  obtain ⟨i0, h1, h2, h3, h4⟩ := info_parts infoAcct
  have ho : w2.ownsRow 0 48 4 (.slice (some ⟨g, 0, none⟩) 2 2) 2 [.int .i64 (-1), .slice (some ⟨k0, 0, none⟩) 1 1, .bool false, .int .i64 0, .int .i64 (-1), .slice (some ⟨k1, 0, none⟩) 1 1, .bool false, .int .i64 0] :=
    ⟨rfl, Or.inr ⟨g, 2, _, rfl, Nat.zero_le _, hg, Nat.le_refl _, by unfold maxLen; omega, rfl, rfl⟩⟩
  have hx : Reads w2 4 (.slice (some ⟨n, 0, none⟩) 1 1) 1 [.int .i64 (-1), .slice (some ⟨k2, 0, none⟩) 1 1, .bool false, .int .i64 9] :=
    ⟨rfl, Or.inr ⟨_, _, rfl, fun j u hj => by
      rw [add_plain, Nat.zero_add, cell_of_heap hn]
      simpa using hj⟩⟩
  obtain ⟨v', w3, hrun, ho3, hm3, hb3, _⟩ := run_append_to (P := Tryz.prog) 25 25 48 i0 _ 4 48 Tryz.underlying25 h1 h2 h3 h4 rfl (by decide) _ _ _ ho _ _ _ hx (by simp [Value.oneCell']) (by unfold maxLen; omega) (by omega)
  exact ⟨v', w3, hrun, ho3, hm3.mono (fun k _ h => by simpa [Value.ownBlock] using h.symm), fun k hk => (hb3 k hk).imp (fun h => by simpa [Value.ownBlock] using h.symm) id⟩
/-- The example's ledger. -/
def exL (os : List Ord) : Led := ⟨0, [⟨1000000, 0⟩], [⟨⟨#[65]⟩, 0, 100, 0⟩], [⟨1, 0, 1, 0, 0, false, 100⟩], [⟨-1, [0], false, 0⟩, ⟨-1, [0], false, 0⟩, ⟨-1, [1000], false, 9⟩], [⟨2, 0, 5⟩], os, [0], []⟩
/-- The ledger under way, in block T. -/
def exT (H T : Nat) (c4 c5 c6 c7 : Value) : Array Value := #[.int .i64 0, .slice (some ⟨H + 1 + 1, 0, none⟩) 1 1, .slice (some ⟨T + 1, 0, none⟩) 1 1, .slice (some ⟨T + 1 + 1, 0, none⟩) 1 1, c4, c5, c6, c7, .slice none 0 0]
structure ExAt (w : World) (H T : Nat) (c4 c5 c6 c7 : Value) : Prop where
  t : w.heap[T]? = some (.cells (exT H T c4 c5 c6 c7) 31 (0, 0))
  cu : w.heap[H + 1 + 1]? = some (.cells #[.int .i64 1000000, .int .i64 0] 69 (0, 0))
  k0 : w.heap[H + 1 + 1 + 1]? = some (.cells #[.int .i64 0] 3 (0, 0))
  k1 : w.heap[H + 1 + 1 + 1 + 1]? = some (.cells #[.int .i64 0] 3 (0, 0))
  un : w.heap[T + 1]? = some (.cells #[.string ⟨#[65]⟩, .int .i64 0, .int .i64 100, .int .i64 0] 60 (0, 0))
  ins : w.heap[T + 1 + 1]? = some (.cells #[.int .i64 1, .int .i64 0, .int .i64 1, .int .i64 0, .int .i64 0, .bool false, .int .i64 100] 54 (0, 0))
  ht : T = H + 6
theorem ExAt.mod {w w' : World} {H T : Nat} {c4 c5 c6 c7 : Value} {S : Nat → Prop} (h : ExAt w H T c4 c5 c6 c7) (hm : Mod S w w') (hS : ∀ k, S k → k = H + 1 + 1 + 1 + 1 + 1 ∨ T + 1 + 1 < k ∨ k = H) : ExAt w' H T c4 c5 c6 c7 := by
  have ht := h.ht
  have g : ∀ k, k ≠ H + 1 + 1 + 1 + 1 + 1 → k ≤ T + 1 + 1 ∧ H < k → ¬ S k := fun k h1 h2 h3 => by rcases hS k h3 with e | e | e <;> omega
  exact ⟨hm.heap h.t (g _ (by omega) (by omega)), hm.heap h.cu (g _ (by omega) (by omega)), hm.heap h.k0 (g _ (by omega) (by omega)), hm.heap h.k1 (g _ (by omega) (by omega)), hm.heap h.un (g _ (by omega) (by omega)), hm.heap h.ins (g _ (by omega) (by omega)), ht⟩
theorem ExAt.set {w : World} {H T : Nat} {c4 c5 c6 c7 : Value} (h : ExAt w H T c4 c5 c6 c7) (o : Nat) (v : Value) {d4 d5 d6 d7 : Value} (he : (exT H T c4 c5 c6 c7).setIfInBounds o v = exT H T d4 d5 d6 d7) : ExAt (w.setCell ⟨T, o, none⟩ v) H T d4 d5 d6 d7 := by
  have ht := h.ht
  have g : ∀ k, k ≠ T → (w.setCell ⟨T, o, none⟩ v).heap[k]? = w.heap[k]? := fun k hk => heap_setCell_ne hk
  refine ⟨?_, (g _ (by omega)).trans h.cu, (g _ (by omega)).trans h.k0, (g _ (by omega)).trans h.k1, (g _ (by omega)).trans h.un, (g _ (by omega)).trans h.ins, ht⟩
  rw [← he]; exact heap_setCell_at h.t o v
/-- The example's ledger, made. -/
def ExOut (w : World) (os : List Ord) (e : Ending) (w' : World) : Prop := ∃ V, e = .returned (V.val (exL os)) ∧ LedAt w' V (exL os) ∧ Below w.heap.size w w'
theorem row_one {α : Type} {w : World} {n : Nat} {f : α → List Value} {b : Nat} {cs : Array Value} {T : TypeId} {fr : Nat × Nat} {x : α} (h : w.heap[b]? = some (.cells cs T fr)) (hc : cs.toList = f x) : RowOf w n f (.slice (some ⟨b, 0, none⟩) 1 1) [x] := by
  refine ⟨_, 1, rfl, Nat.le_refl _, by unfold maxLen; omega, (fun h => by cases h), fun i y hi => ⟨b, 0, rfl, lt_of_heap h, fun j u hj => ?_⟩⟩
  have hi0 : i = 0 := by have := (List.getElem?_eq_some_iff.1 hi).1; simpa using this
  subst hi0
  cases hi
  rw [cell_of_heap h, show 0 + 0 * n + j = j by omega]
  rw [← hc] at hj
  simpa using hj
theorem row_nil {α : Type} {w : World} {n : Nat} {f : α → List Value} : RowOf w n f (.slice none 0 0) ([] : List α) := ⟨none, 0, rfl, Nat.le_refl _, Nat.zero_le _, fun _ => rfl, fun i x hi => by simp at hi⟩
theorem ex_end {w w' : World} {H T P A k2 : Nat} {ao : Option Addr} {no co : Nat} {v4 : Value} {os : List Ord} (hb : Below w.heap.size w w') (h : ExAt w' H T v4 (.slice (some ⟨P, 0, none⟩) 1 1) (.slice ao no co) (.slice (some ⟨A, 0, none⟩) 1 1))
    (hk2 : w'.heap[k2]? = some (.cells #[.int .i64 1000] 3 (0, 0))) (hp : w'.heap[P]? = some (.cells #[.int .i64 2, .int .i64 0, .int .i64 5] 43 (0, 0))) (ha : w'.heap[A]? = some (.cells #[.int .i64 0] 3 (0, 0)))
    (hacc : w'.ownsRow 0 48 4 v4 3 [.int .i64 (-1), .slice (some ⟨H + 1 + 1 + 1, 0, none⟩) 1 1, .bool false, .int .i64 0, .int .i64 (-1), .slice (some ⟨H + 1 + 1 + 1 + 1, 0, none⟩) 1 1, .bool false, .int .i64 0, .int .i64 (-1), .slice (some ⟨k2, 0, none⟩) 1 1, .bool false, .int .i64 9])
    (ho : RowOf w' 5 Ord.cells (.slice ao no co) os) :
    ExOut w os (.returned (.agg (exT H T v4 (.slice (some ⟨P, 0, none⟩) 1 1) (.slice ao no co) (.slice (some ⟨A, 0, none⟩) 1 1)))) w' := by
  have own : OwnOf w' 0 48 4 Acc.cells v4 [(⟨-1, [0], false, 0⟩, .slice (some ⟨H + 1 + 1 + 1, 0, none⟩) 1 1), (⟨-1, [0], false, 0⟩, .slice (some ⟨H + 1 + 1 + 1 + 1, 0, none⟩) 1 1), (⟨-1, [1000], false, 9⟩, .slice (some ⟨k2, 0, none⟩) 1 1)] := hacc
  refine ⟨⟨.slice (some ⟨H + 1 + 1, 0, none⟩) 1 1, .slice (some ⟨T + 1, 0, none⟩) 1 1, .slice (some ⟨T + 1 + 1, 0, none⟩) 1 1, v4, .slice (some ⟨P, 0, none⟩) 1 1, .slice ao no co, .slice (some ⟨A, 0, none⟩) 1 1, .slice none 0 0, [(⟨-1, [0], false, 0⟩, .slice (some ⟨H + 1 + 1 + 1, 0, none⟩) 1 1), (⟨-1, [0], false, 0⟩, .slice (some ⟨H + 1 + 1 + 1 + 1, 0, none⟩) 1 1), (⟨-1, [1000], false, 9⟩, .slice (some ⟨k2, 0, none⟩) 1 1)]⟩, rfl, ⟨row_one h.cu rfl, row_one h.un rfl, row_one h.ins rfl, rfl, own.row acccells_len (by decide), ?_, row_one hp rfl, ho, row_one ha rfl, row_nil, ?_, ?_⟩, hb⟩
  · intro p hp
    simp only [List.mem_cons, List.not_mem_nil, or_false] at hp
    rcases hp with rfl | rfl | rfl
    · exact row_one h.k0 rfl
    · exact row_one h.k1 rfl
    · exact row_one hk2 rfl
  · intro u hu
    simp only [exL, List.mem_cons, List.not_mem_nil, or_false] at hu
    subst hu
    show (1 : Nat) ≤ maxLen
    unfold maxLen; omega
  · intro a ha x hx
    simp only [exL, List.mem_cons, List.not_mem_nil, or_false] at ha
    rcases ha with rfl | rfl | rfl <;> simp only [List.mem_cons, List.not_mem_nil, or_false] at hx <;> subst hx <;> omega
set_option maxRecDepth 100000 in
set_option maxHeartbeats 4000000 in
theorem example_any (w : World) (ao : Option Addr) (no co : Nat) (os : List Ord) (hR : RowOf w 5 Ord.cells (.slice ao no co) os) :
    Calls Tryz.prog 29 #[.slice ao no co] w (ExOut w os) := by
  have b3 := fun s p W => bdUnd s p W
  have b4 := fun W => bdIns W
  have b5 := fun n c a W => bdAcct9 n c a W
  have HR := Lib.hid hR
  clear hR
  obtain ⟨W0, hW0⟩ : ∃ W0, W0 = w.alloc (.cells #[.int .i64 0, .slice none 0 0, .slice none 0 0, .slice none 0 0, .slice none 0 0, .slice none 0 0, .slice none 0 0, .slice none 0 0, .slice none 0 0] 31) := ⟨_, rfl⟩
  have Z0 := Lib.hid (show W0.heap[w.heap.size]? = some (.cells #[.int .i64 0, .slice none 0 0, .slice none 0 0, .slice none 0 0, .slice none 0 0, .slice none 0 0, .slice none 0 0, .slice none 0 0, .slice none 0 0] 31 (0, 0)) ∧ Below w.heap.size w W0 ∧ W0.heap.size = w.heap.size + 1 from by rw [hW0]; exact ⟨heap_alloc_new _ _, (Below.refl _ _).alloc (Nat.le_refl _) _, by simp⟩)
  go_enter Tryz.func29, Tryz.ntmps29
  go_wp2_with fail
  rw [← hW0]
  clear hW0
  refine (first_any W0).mono ?_
  rintro e w1 ⟨rfl, hf⟩
  rw [Z0.out.2.2] at hf ⊢
  have F1 := Lib.hid hf
  clear hf
  go_upto_region 4 with (fail)
  obtain ⟨W2, hW2⟩ : ∃ W2, W2 = ((w1.alloc (.cells #[.int .i64 0, .slice (some ⟨w.heap.size + 1 + 1, 0, none⟩) 1 1, .slice (some ⟨w1.heap.size + 1, 0, none⟩) 1 1, .slice (some ⟨w1.heap.size + 1 + 1, 0, none⟩) 1 1, .slice (some ⟨w.heap.size + 1 + 1 + 1 + 1 + 1, 0, none⟩) 2 2, .slice none 0 0, .slice none 0 0, .slice none 0 0, .slice none 0 0] 31)).alloc (.cells #[.string ⟨#[65]⟩, .int .i64 0, .int .i64 100, .int .i64 0] 60)).alloc (.cells #[.int .i64 1, .int .i64 0, .int .i64 1, .int .i64 0, .int .i64 0, .bool false, .int .i64 100] 54) := ⟨_, rfl⟩
  have M2 := Lib.hid (show Mod (fun _ => False) w1 W2 from by rw [hW2]; exact (((Mod.refl (fun _ => False) w1).alloc _).alloc _).alloc _)
  have X2 := Lib.hid (show ExAt W2 w.heap.size w1.heap.size (.slice (some ⟨w.heap.size + 1 + 1 + 1 + 1 + 1, 0, none⟩) 2 2) (.slice none 0 0) (.slice none 0 0) (.slice none 0 0) ∧ W2.heap[w.heap.size + 1 + 1 + 1 + 1 + 1]? = some (.cells #[.int .i64 (-1), .slice (some ⟨w.heap.size + 1 + 1 + 1, 0, none⟩) 1 1, .bool false, .int .i64 0, .int .i64 (-1), .slice (some ⟨w.heap.size + 1 + 1 + 1 + 1, 0, none⟩) 1 1, .bool false, .int .i64 0] 48 (0, 0)) ∧ Below w.heap.size w W2 ∧ W2.heap.size = w1.heap.size + 3 ∧ W2.heap[w.heap.size]? = some (.cells #[.int .i64 0, .slice none 0 0, .slice none 0 0, .slice none 0 0, .slice none 0 0, .slice none 0 0, .slice none 0 0, .slice none 0 0, .slice none 0 0] 31 (0, 0)) from by
    have f := F1.out
    have zz := (f.low).block w.heap.size (by omega)
    refine ⟨⟨?_, M2.out.heap f.c1 (fun h => h), M2.out.heap f.c2 (fun h => h), M2.out.heap f.c3 (fun h => h), ?_, ?_, f.size⟩, M2.out.heap f.c4 (fun h => h), Z0.out.2.1.trans ((show Below W0.heap.size W0 W2 from ((Mod.of_below (show Below W0.heap.size W0 w1 from by rw [Z0.out.2.2]; exact f.low)).trans M2.out (fun _ _ h => h)).toBelow).mono (by rw [Z0.out.2.2]; omega)), by rw [hW2]; simp, M2.out.heap (zz.trans Z0.out.1) (fun h => h)⟩
    · rw [hW2]; exact alloc_at _ _ (.map #[] 0) (alloc_at _ _ (.map #[] 0) (heap_alloc_new w1 _))
    · rw [hW2]; exact alloc_at _ _ (.map #[] 0) (new_at _ _ (by simp))
    · rw [hW2]; exact new_at _ _ (by simp))
  rw [← hW2]
  clear hW2 M2 F1 Z0
  obtain ⟨H, hH⟩ : ∃ H, H = w.heap.size := ⟨_, rfl⟩
  obtain ⟨T, hT⟩ : ∃ T, T = w1.heap.size := ⟨_, rfl⟩
  have BW := Lib.hid (show Below w.heap.size w W2 from X2.out.2.2.1)
  have HW := Lib.hid hH
  rw [← hH, ← hT] at X2 ⊢
  clear hH hT
  obtain ⟨W4, hW4⟩ : ∃ W4, W4 = (W2.alloc (.cells #[.int .i64 1000] 3)).alloc (.cells #[.int .i64 (-1), .slice (some ⟨W2.heap.size, 0, none⟩) 1 1, .bool false, .int .i64 9] 48) := ⟨_, rfl⟩
  have M4 := Lib.hid (show Mod (fun _ => False) W2 W4 from by rw [hW4]; exact ((Mod.refl (fun _ => False) W2).alloc _).alloc _)
  have N4 := Lib.hid (show W4.heap[W2.heap.size]? = some (.cells #[.int .i64 1000] 3 (0, 0)) ∧ W4.heap[W2.heap.size + 1]? = some (.cells #[.int .i64 (-1), .slice (some ⟨W2.heap.size, 0, none⟩) 1 1, .bool false, .int .i64 9] 48 (0, 0)) ∧ W4.heap.size = W2.heap.size + 2 from by
    rw [hW4]; exact ⟨alloc_at _ _ (.map #[] 0) (heap_alloc_new _ _), new_at _ _ (by simp), by simp⟩)
  obtain ⟨v4, w5, R5, O5, M5, D5⟩ := app_acct W2 W4 (H + 1 + 1 + 1 + 1 + 1) (W2.heap.size + 1) _ _ _ (M4.out.heap X2.out.2.1 (fun h => h)) N4.out.2.1
  obtain ⟨a4, c4, rfl, _⟩ := ownsRow_slice O5
  have OD := Lib.hid (show ∀ k, (Value.slice a4 3 c4).ownBlock = some k → ¬ (k = H ∨ k = T) from fun k hk => by
    have h1 := D5 k hk; have h2 := X2.out.1.ht; have h3 := X2.out.2.2.2.1; have h4 := N4.out.2.2; omega)
  rw [hW4] at R5
  have R5' := Lib.hid R5
  have O5' := Lib.hid O5
  have M5' := Lib.hid (show Mod (fun k => k = H + 1 + 1 + 1 + 1 + 1) W2 w5 from (M4.out.mono (fun _ _ h => h.elim)).trans M5 (fun _ _ h => h))
  have X5 := Lib.hid (X2.out.1.mod M5'.out (fun k h => Or.inl h))
  have K5 := Lib.hid (show w5.heap[W2.heap.size]? = some (.cells #[.int .i64 1000] 3 (0, 0)) ∧ W2.heap.size < w5.heap.size from ⟨M5.heap N4.out.1 (by have := X2.out.2.2.2.1; have := X2.out.1.ht; omega), by have := M5.size; have := N4.out.2.2; omega⟩)
  have d4 : W2.cell? ⟨T, 4, none⟩ = some (.slice (some ⟨H + 1 + 1 + 1 + 1 + 1, 0, none⟩) 2 2) := (cell_of_heap X2.out.1.t 4).trans rfl
  have e4 : w5.cell? ⟨T, 4, none⟩ = some (.slice (some ⟨H + 1 + 1 + 1 + 1 + 1, 0, none⟩) 2 2) := (cell_of_heap X5.out.t 4).trans rfl
  have f4 := free_of_heap X5.out.t 4
  clear R5 O5 M5 D5 hW4
  go_upto_region 5 with (at_builtin; refine wpList_append_run rfl (.tmp 12) (.tmp 15) 25 rfl rfl rfl R5'.out ?_)
  have HT := Lib.hid (show T = H + 6 ∧ T + 1 + 1 < W2.heap.size ∧ H = w.heap.size from ⟨X2.out.1.ht, by have := X2.out.2.2.2.1; omega, HW.out⟩)
  obtain ⟨W6, hW6⟩ : ∃ W6, W6 = w5.setCell ⟨T, 4, none⟩ (.slice a4 3 c4) := ⟨_, rfl⟩
  have M6 := Lib.hid (show Mod (fun k => k = T) w5 W6 from by rw [hW6]; exact (Mod.refl _ _).setCell _ (fun _ => rfl))
  have X6 := Lib.hid (show ExAt W6 H T (.slice a4 3 c4) (.slice none 0 0) (.slice none 0 0) (.slice none 0 0) from by rw [hW6]; exact X5.out.set 4 (.slice a4 3 c4) rfl)
  rw [← hW6]
  have ta6 := alloc_at W6 (.cells #[.int .i64 2, .int .i64 0, .int .i64 5] 43) (.map #[] 0) X6.out.t
  have g5 : (W6.alloc (.cells #[.int .i64 2, .int .i64 0, .int .i64 5] 43)).cell? ⟨T, 5, none⟩ = some (.slice none 0 0) := (cell_of_heap ta6 5).trans rfl
  have z5 := free_of_heap ta6 5
  clear ta6
  clear hW6 d4 e4 f4
  go_upto_region 6 with (fail)
  obtain ⟨W7, hW7⟩ : ∃ W7, W7 = (W6.alloc (.cells #[.int .i64 2, .int .i64 0, .int .i64 5] 43)).setCell ⟨T, 5, none⟩ (.slice (some ⟨W6.heap.size, 0, none⟩) 1 1) := ⟨_, rfl⟩
  have M7 := Lib.hid (show Mod (fun k => k = T) W6 W7 ∧ W7.heap[W6.heap.size]? = some (.cells #[.int .i64 2, .int .i64 0, .int .i64 5] 43 (0, 0)) ∧ T < W6.heap.size from by
    have tl := lt_of_heap X6.out.t
    rw [hW7]
    exact ⟨((Mod.refl (fun k => k = T) W6).alloc _).setCell _ (fun _ => rfl), (heap_setCell_ne (by show W6.heap.size ≠ T; omega)).trans (heap_alloc_new _ _), tl⟩)
  have X7 := Lib.hid (show ExAt W7 H T (.slice a4 3 c4) (.slice (some ⟨W6.heap.size, 0, none⟩) 1 1) (.slice none 0 0) (.slice none 0 0) from by rw [hW7]; exact (X6.out.mod ((Mod.refl (fun _ => False) W6).alloc _) (fun _ h => h.elim)).set 5 _ rfl)
  rw [← hW7]
  obtain ⟨P, hP⟩ : ∃ P, P = W6.heap.size := ⟨_, rfl⟩
  rw [← hP] at M7 X7 ⊢
  have g6 : W7.cell? ⟨T, 6, none⟩ = some (.slice none 0 0) := (cell_of_heap X7.out.t 6).trans rfl
  have z6 := free_of_heap X7.out.t 6
  have ta7 := alloc_at (W7.setCell ⟨T, 6, none⟩ (.slice ao no co)) (.cells #[.int .i64 0] 3) (.map #[] 0) (X7.out.set 6 (.slice ao no co) (d4 := .slice a4 3 c4) (d5 := .slice (some ⟨P, 0, none⟩) 1 1) (d6 := .slice ao no co) (d7 := .slice none 0 0) rfl).t
  have g7 : ((W7.setCell ⟨T, 6, none⟩ (.slice ao no co)).alloc (.cells #[.int .i64 0] 3)).cell? ⟨T, 7, none⟩ = some (.slice none 0 0) := (cell_of_heap ta7 7).trans rfl
  have z7 := free_of_heap ta7 7
  clear ta7
  clear hW7 hP g5 z5
  go_upto_region 8 with (fail)
  obtain ⟨W9, hW9⟩ : ∃ W9, W9 = ((W7.setCell ⟨T, 6, none⟩ (.slice ao no co)).alloc (.cells #[.int .i64 0] 3)).setCell ⟨T, 7, none⟩ (.slice (some ⟨W7.heap.size, 0, none⟩) 1 1) := ⟨_, rfl⟩
  have M9 := Lib.hid (show Mod (fun k => k = T) W7 W9 ∧ W9.heap[W7.heap.size]? = some (.cells #[.int .i64 0] 3 (0, 0)) ∧ T < W7.heap.size from by
    have tl := lt_of_heap X7.out.t
    rw [hW9]
    exact ⟨(((Mod.refl (fun k => k = T) W7).setCell _ (fun _ => rfl)).alloc _).setCell _ (fun _ => rfl), (heap_setCell_ne (by show W7.heap.size ≠ T; omega)).trans (new_at _ _ (by simp [World.setCell])), tl⟩)
  have X9 := Lib.hid (show ExAt W9 H T (.slice a4 3 c4) (.slice (some ⟨P, 0, none⟩) 1 1) (.slice ao no co) (.slice (some ⟨W7.heap.size, 0, none⟩) 1 1) from by rw [hW9]; exact ((X7.out.set 6 (.slice ao no co) rfl).mod ((Mod.refl (fun _ => False) _).alloc _) (fun _ h => h.elim)).set 7 _ rfl)
  rw [← hW9]
  obtain ⟨A, hA⟩ : ∃ A, A = W7.heap.size := ⟨_, rfl⟩
  rw [← hA] at M9 X9 ⊢
  have ZH := Lib.hid (show W9.heap[H]? = some (.cells #[.int .i64 0, .slice none 0 0, .slice none 0 0, .slice none 0 0, .slice none 0 0, .slice none 0 0, .slice none 0 0, .slice none 0 0, .slice none 0 0] 31 (0, 0)) from by
    have ht := HT.out
    have z := X2.out.2.2.2.2
    exact M9.out.1.heap (M7.out.1.heap (M6.out.heap (M5'.out.heap z (by omega)) (by omega)) (by omega)) (by omega))
  clear hW9 hA g6 z6 g7 z7
  have t0 : W9.cell? ⟨T, 0, none⟩ = some (.int .i64 0) := (cell_of_heap X9.out.t 0).trans rfl
  have t1 : W9.cell? ⟨T, 1, none⟩ = some (.slice (some ⟨H + 1 + 1, 0, none⟩) 1 1) := (cell_of_heap X9.out.t 1).trans rfl
  have t2 : W9.cell? ⟨T, 2, none⟩ = some (.slice (some ⟨T + 1, 0, none⟩) 1 1) := (cell_of_heap X9.out.t 2).trans rfl
  have t3 : W9.cell? ⟨T, 3, none⟩ = some (.slice (some ⟨T + 1 + 1, 0, none⟩) 1 1) := (cell_of_heap X9.out.t 3).trans rfl
  have t4 : W9.cell? ⟨T, 4, none⟩ = some (.slice a4 3 c4) := (cell_of_heap X9.out.t 4).trans rfl
  have t5 : W9.cell? ⟨T, 5, none⟩ = some (.slice (some ⟨P, 0, none⟩) 1 1) := (cell_of_heap X9.out.t 5).trans rfl
  have t6 : W9.cell? ⟨T, 6, none⟩ = some (.slice ao no co) := (cell_of_heap X9.out.t 6).trans rfl
  have t7 : W9.cell? ⟨T, 7, none⟩ = some (.slice (some ⟨A, 0, none⟩) 1 1) := (cell_of_heap X9.out.t 7).trans rfl
  have t8 : W9.cell? ⟨T, 8, none⟩ = some (.slice none 0 0) := (cell_of_heap X9.out.t 8).trans rfl
  have h0 : W9.cell? ⟨H, 0, none⟩ = some (.int .i64 0) := (cell_of_heap ZH.out 0).trans rfl
  have q0 := free_of_heap ZH.out 0
  have h1 : W9.cell? ⟨H, 1, none⟩ = some (.slice none 0 0) := (cell_of_heap ZH.out 1).trans rfl
  have q1 := free_of_heap ZH.out 1
  have h2 : W9.cell? ⟨H, 2, none⟩ = some (.slice none 0 0) := (cell_of_heap ZH.out 2).trans rfl
  have q2 := free_of_heap ZH.out 2
  have h3 : W9.cell? ⟨H, 3, none⟩ = some (.slice none 0 0) := (cell_of_heap ZH.out 3).trans rfl
  have q3 := free_of_heap ZH.out 3
  have h4 : W9.cell? ⟨H, 4, none⟩ = some (.slice none 0 0) := (cell_of_heap ZH.out 4).trans rfl
  have q4 := free_of_heap ZH.out 4
  have h5 : W9.cell? ⟨H, 5, none⟩ = some (.slice none 0 0) := (cell_of_heap ZH.out 5).trans rfl
  have q5 := free_of_heap ZH.out 5
  have h6 : W9.cell? ⟨H, 6, none⟩ = some (.slice none 0 0) := (cell_of_heap ZH.out 6).trans rfl
  have q6 := free_of_heap ZH.out 6
  have h7 : W9.cell? ⟨H, 7, none⟩ = some (.slice none 0 0) := (cell_of_heap ZH.out 7).trans rfl
  have q7 := free_of_heap ZH.out 7
  have h8 : W9.cell? ⟨H, 8, none⟩ = some (.slice none 0 0) := (cell_of_heap ZH.out 8).trans rfl
  have q8 := free_of_heap ZH.out 8
  go_wp2_with fail
  obtain ⟨WF, hWF⟩ : ∃ WF, WF = (((((((((W9.setCell ⟨H, 0, none⟩ (.int .i64 0)).setCell ⟨H, 1, none⟩ (.slice (some ⟨H + 1 + 1, 0, none⟩) 1 1)).setCell ⟨H, 2, none⟩ (.slice (some ⟨T + 1, 0, none⟩) 1 1)).setCell ⟨H, 3, none⟩ (.slice (some ⟨T + 1 + 1, 0, none⟩) 1 1)).setCell ⟨H, 4, none⟩ (.slice a4 3 c4)).setCell ⟨H, 5, none⟩ (.slice (some ⟨P, 0, none⟩) 1 1)).setCell ⟨H, 6, none⟩ (.slice ao no co)).setCell ⟨H, 7, none⟩ (.slice (some ⟨A, 0, none⟩) 1 1)).setCell ⟨H, 8, none⟩ (.slice none 0 0)) := ⟨_, rfl⟩
  have MF := Lib.hid (show Mod (fun k => k = H) W9 WF from by
    rw [hWF]
    exact ((((((((((Mod.refl (fun k => k = H) W9)).setCell _ (fun _ => rfl)).setCell _ (fun _ => rfl)).setCell _ (fun _ => rfl)).setCell _ (fun _ => rfl)).setCell _ (fun _ => rfl)).setCell _ (fun _ => rfl)).setCell _ (fun _ => rfl)).setCell _ (fun _ => rfl)).setCell _ (fun _ => rfl))
  have s0 := heap_setCell_at ZH.out 0 (.int .i64 0)
  have s1 := heap_setCell_at s0 1 (.slice (some ⟨H + 1 + 1, 0, none⟩) 1 1)
  have s2 := heap_setCell_at s1 2 (.slice (some ⟨T + 1, 0, none⟩) 1 1)
  have s3 := heap_setCell_at s2 3 (.slice (some ⟨T + 1 + 1, 0, none⟩) 1 1)
  have s4 := heap_setCell_at s3 4 (.slice a4 3 c4)
  have s5 := heap_setCell_at s4 5 (.slice (some ⟨P, 0, none⟩) 1 1)
  have s6 := heap_setCell_at s5 6 (.slice ao no co)
  have s7 := heap_setCell_at s6 7 (.slice (some ⟨A, 0, none⟩) 1 1)
  have s8 := heap_setCell_at s7 8 (.slice none 0 0)
  rw [← hWF] at s8 ⊢
  have SF := Lib.hid (show WF.heap[H]? = some (.cells (exT H T (.slice a4 3 c4) (.slice (some ⟨P, 0, none⟩) 1 1) (.slice ao no co) (.slice (some ⟨A, 0, none⟩) 1 1)) 31 (0, 0)) from s8)
  clear hWF s0 s1 s2 s3 s4 s5 s6 s7 s8
  refine bodyPost_ret (results_cell_row rfl _ _ H 31 _ (0, 0) _ rfl SF.out Tryz.underlying31 rfl (by kernel_rfl)) rfl ?_
  have MA := (((M6.out.mono (T := fun k => k = H ∨ k = T) (fun _ _ h => Or.inr h)).trans M7.out.1 (fun _ _ h => Or.inr h)).trans M9.out.1 (fun _ _ h => Or.inr h)).trans MF.out (fun _ _ h => Or.inl h)
  have ht := HT.out
  have k5 := K5.out
  have M79 := (M9.out.1.mono (T := fun k => k = H ∨ k = T) (fun _ _ h => Or.inr h)).trans MF.out (fun _ _ h => Or.inl h)
  have p6 := M6.out.size
  have p7 := M7.out.1.size
  have BF : Below w.heap.size w WF := ((Mod.of_below BW.out).trans (T := fun k => k = H + 1 + 1 + 1 + 1 + 1 ∨ k = H ∨ k = T) ((M5'.out.mono (fun _ _ h => Or.inl h)).trans MA (fun _ _ h => Or.inr h)) (fun k hk h => by omega)).toBelow
  refine ex_end (k2 := W2.heap.size) BF (X9.out.mod MF.out (fun k h => Or.inr (Or.inr h))) (MA.heap k5.1 (by omega)) (M79.heap M7.out.2.1 (by have := M7.out.2.2; omega)) (MF.out.heap M9.out.2.1 (by have := M9.out.2.2; omega)) ?_ ?_
  · refine ownsRow_kept O5'.out (fun k hk => MA.block k (World.ownsRow.lt O5'.out k hk).2 (fun h => ?_))
    rcases h with h | h
    · exact OD.out k hk (Or.inl h)
    · exact OD.out k hk (Or.inr h)
  · exact HR.out.below BF
end Go.Proofs.YtcjbhgnlmmeeeaaGreatDoor
/- margin.reckon: a sight is made and asked; what is given up is caught. -/
namespace Go.Proofs.YtcjbhgnlmmeeeaaGreatDoor
open Go.RowKit Go.Bw Go.Maps Go.Shelf Go.Bw.Fall
set_option linter.unusedVariables false
set_option linter.unusedSimpArgs false

set_option maxHeartbeats 1000000 in
theorem mcaught_nil (p : Value) (w : World) : Calls Tryz.prog 74 #[p, .nilIface] w fun e w' => e = .returned (.tuple #[]) ∧ w = w' := by
  go_enter Tryz.func74, Tryz.ntmps74
  go_wp2_with fail
  go_end0
  exact ⟨rfl, rfl⟩
theorem frozen_mod {S : Nat → Prop} {w w' : World} (h : Mod S w w') {b : Nat} {cs : Array Value} {t : TypeId} (hb : w.heap[b]? = some (.cells cs t (0, 0))) (hS : ¬ S b) (o : Nat) : w'.frozen? ⟨b, o, none⟩ = false := free_of_heap (h.heap hb hS) o
set_option maxRecDepth 100000 in
set_option maxHeartbeats 1000000 in
theorem mcaught_stop (p : Nat) (er x : Int) (T : TypeId) (w : World) (hp : w.heap[p]? = some (.cells #[.int .i64 x] T (0, 0))) :
    Calls Tryz.prog 74 #[.pointer (some ⟨p, 0, none⟩), .iface 82 (.agg #[.int .i64 er])] w fun e w' => e = .returned (.tuple #[]) ∧ w'.heap[p]? = some (.cells #[.int .i64 er] T (0, 0)) ∧ Mod (fun k => k = p) w w' := by
  have hta : ∀ (W : World) (v : Value), (Instr.typeAssert (.iface 82 v) 20 82 true).run Tryz.prog W = .ok (.tuple #[v, .bool true]) W := fun W v => by kernel_rfl
  have M0 := (Mod.refl (fun _ => False) w).alloc (.cells #[.int .i64 er] 82)
  have c1 := cell_of_heap (M0.heap hp (fun h => h)) 0
  have z1 := frozen_mod M0 hp (fun h => h) 0
  have HP := Lib.hid hp
  clear hp M0
  go_enter Tryz.func74, Tryz.ntmps74
  go_wp2_with fail
  go_end0
  refine ⟨rfl, ?_, (((Mod.refl (fun k => k = p) w).alloc _).setCell _ (fun _ => rfl))⟩
  have := heap_setCell_at (((Mod.refl (fun _ => False) w).alloc (.cells #[.int .i64 er] 82)).heap HP.out (fun h => h)) 0 (.int .i64 er)
  simpa using this
set_option maxHeartbeats 1000000 in
theorem reckoned_ok (pe px : Nat) (w : World) (he : w.cell? ⟨pe, 0, none⟩ = some (.int .i64 0)) :
    CallsD Tryz.prog 73 #[.pointer (some ⟨pe, 0, none⟩), .pointer (some ⟨px, 0, none⟩)] .returning w fun e u' w' => e = .returned (.tuple #[]) ∧ u' = .returning ∧ w' = w := by
  refine callsD_of_wpS Tryz.func73 rfl fun c₀ cs hu => ?_
  apply wpS_seq
  apply wpS_region
  simp [wpOpsS, go_sem, recoverD, hu, Tryz.ntmps73, Exit.thenS]
  refine (mcaught_nil _ w).mono ?_
  rintro e w' ⟨rfl, rfl⟩
  apply wpS_seq
  apply wpS_region
  simp [wpOpsS, go_sem, he, Exit.thenS]
  refine wpS_cond (t := false) (by simp [Act.eval]) ?_
  simp only [Bool.false_eq_true, if_false]
  refine wpS_of_wp (wp_skip ?_)
  cases c₀
  simp_all [bodyPostS, results, Tryz.results73]
/-- The two results' own variables. -/
structure Res (w : World) (px pe : Nat) (x e : Int) : Prop where
  a : w.heap[px]? = some (.cells #[.int .i64 x] 3 (0, 0))
  b : w.heap[pe]? = some (.cells #[.int .i64 e] 34 (0, 0))
theorem Res.mod {w w' : World} {px pe : Nat} {x e : Int} (h : Res w px pe x e) {S : Nat → Prop} (hm : Mod S w w') (h1 : ¬ S px) (h2 : ¬ S pe) : Res w' px pe x e := ⟨hm.heap h.a h1, hm.heap h.b h2⟩
theorem Res.set {w : World} {px pe : Nat} {x e : Int} (h : Res w px pe x e) (hn : pe = px + 1) (y f : Int) : Res ((w.setCell ⟨px, 0, none⟩ (.int .i64 y)).setCell ⟨pe, 0, none⟩ (.int .i64 f)) px pe y f := by
  subst hn
  have h1 := heap_setCell_at h.a 0 (.int .i64 y)
  have h2 : (w.setCell ⟨px, 0, none⟩ (.int .i64 y)).heap[px + 1]? = _ := (Below.heap_setCell w ⟨px, 0, none⟩ (.int .i64 y) (px + 1) (by simp)).trans h.b
  have h3 := heap_setCell_at h2 0 (.int .i64 f)
  exact ⟨(Below.heap_setCell _ ⟨px + 1, 0, none⟩ (.int .i64 f) px (by simp)).trans (by simpa using h1), by simpa using h3⟩
set_option maxRecDepth 100000 in
set_option maxHeartbeats 2000000 in
theorem reckoned_stop (px pe : Nat) (hn : pe = px + 1) (w : World) (er : Int) (her : er ≠ 0) (x y : Int) (h : Res w px pe x y) :
    CallsD Tryz.prog 73 #[.pointer (some ⟨pe, 0, none⟩), .pointer (some ⟨px, 0, none⟩)] (.panicking (stopWith er)) w fun e u' w' => e = .returned (.tuple #[]) ∧ u' = .panicking [{ v := .iface 82 (.agg #[.int .i64 er]), recovered := true }] ∧ Res w' px pe 0 er ∧ Mod (fun k => k = px ∨ k = pe) w w' := by
  subst hn
  unfold stopWith
  have her' : (er != 0) = true := by rw [bne_iff_ne]; exact her
  clear her
  refine callsD_of_wpS Tryz.func73 rfl fun c₀ cs hu => ?_
  apply wpS_seq
  apply wpS_region
  simp [wpOpsS, go_sem, recoverD, hu, Tryz.ntmps73, Exit.thenS]
  refine (mcaught_stop (px + 1) er y _ w h.b).mono ?_
  rintro e w2 ⟨rfl, he2, hm2⟩
  have a2 := hm2.heap h.a (by omega)
  have ce := cell_of_heap he2 0
  have c1 := cell_of_heap a2 0
  have z1 := free_of_heap a2 0
  apply wpS_seq
  apply wpS_region
  simp [wpOpsS, go_sem, ce, her', Exit.thenS]
  refine wpS_cond (t := true) (by simp [Act.eval]) ?_
  simp only [if_true]
  apply wpS_region
  simp [wpOpsS, go_sem, c1, z1, bodyPostS, results, Tryz.results73]
  refine ⟨⟨?_, ?_⟩, (hm2.mono (T := fun k => k = px ∨ k = px + 1) (fun k _ h => Or.inr h)).setCell _ (fun _ => Or.inl rfl)⟩
  · have := heap_setCell_at a2 0 (.int .i64 0)
    simpa using this
  · exact (Below.heap_setCell w2 ⟨px, 0, none⟩ (.int .i64 0) (px + 1) (by simp)).trans he2
/-- What a question of a sight answers: a number, or it is given up. -/
def AskO (r : Int × Int) (e : Ending) : Prop := (r.2 = 0 ∧ e = .returned (.int .i64 r.1)) ∨ (r.2 ≠ 0 ∧ r.1 = 0 ∧ e = .panicked (stopWith r.2))
theorem AskO.of {o : Option Int} {e : Ending} (h : OutO o e) : AskO (retA o) e := by
  rcases h with ⟨x, rfl, rfl⟩ | ⟨rfl, rfl⟩
  · exact Or.inl ⟨rfl, rfl⟩
  · exact Or.inr ⟨by decide, rfl, rfl⟩
/-- What is asked of a question that is handed over. -/
def Asks (w : World) (V : LedV) (L : Led) (a g : Nat) (lb : Array Value) (r : Int × Int) : Prop :=
  ∀ (W : World) (b mb : Nat) (bv : Value), Sight W b mb bv V L a → w.heap.size ≤ mb → Below w.heap.size w W → Calls Tryz.prog g (#[.pointer (some ⟨b, 0, none⟩)] ++ lb) W fun e w' => AskO r e ∧ Mod (fun k => k = mb) W w'
theorem res_new (w : World) (B : Nat) (o : Obj) (h : B = (w.alloc o).heap.size) : Res (((w.alloc o).alloc (.cells #[.int .i64 0] 3)).alloc (.cells #[.int .i64 0] 34)) B (B + 1) 0 0 := by
  subst h
  have h1 := heap_alloc_new (w.alloc o) (.cells #[.int .i64 0] 3)
  have h2 := heap_alloc_new ((w.alloc o).alloc (.cells #[.int .i64 0] 3)) (.cells #[.int .i64 0] 34)
  exact ⟨((Mod.refl (fun _ => False) _).alloc _).heap h1 (fun h => h), by simpa using h2⟩
set_option maxRecDepth 100000 in
set_option maxHeartbeats 4000000 in
theorem reckon_bad (w : World) (V : LedV) (L : Led) (h : LedAt w V L) (hL : L.accts.length ≤ 1024) (hng : ¬ L.Good) (acct : Int) (g : Nat) (lb : Array Value) :
    Calls Tryz.prog 30 #[V.val L, .int .i64 acct, .func (.func g) #[] lb] w fun e w' => e = .returned (.tuple #[.int .i64 0, .int .i64 43]) ∧ Below w.heap.size w w' := by
  have LK := Lib.hid (fun W (hb : Below w.heap.size w W) => look_bad W V L (h.below hb) hL hng acct)
  obtain ⟨a1, c1, a2, c2, a3, c3, a4, c4, a5, c5, a6, c6, a7, c7, a8, c8, e1, e2, e3, e4, e5, e6, e7, e8⟩ := LedAt.opened h
  unfold LedV.val LedV.cells at LK ⊢
  rw [e1, e2, e3, e4, e5, e6, e7, e8] at LK ⊢
  obtain ⟨n1, hn1⟩ : ∃ n, n = L.curs.length := ⟨_, rfl⟩
  obtain ⟨n2, hn2⟩ : ∃ n, n = L.unders.length := ⟨_, rfl⟩
  obtain ⟨n3, hn3⟩ : ∃ n, n = L.instrs.length := ⟨_, rfl⟩
  obtain ⟨n4, hn4⟩ : ∃ n, n = L.accts.length := ⟨_, rfl⟩
  obtain ⟨n5, hn5⟩ : ∃ n, n = L.poss.length := ⟨_, rfl⟩
  obtain ⟨n6, hn6⟩ : ∃ n, n = L.orders.length := ⟨_, rfl⟩
  obtain ⟨n7, hn7⟩ : ∃ n, n = L.avail.length := ⟨_, rfl⟩
  obtain ⟨n8, hn8⟩ : ∃ n, n = L.locs.length := ⟨_, rfl⟩
  rw [← hn1, ← hn2, ← hn3, ← hn4, ← hn5, ← hn6, ← hn7, ← hn8] at LK ⊢
  clear h hL hng e1 e2 e3 e4 e5 e6 e7 e8 hn1 hn2 hn3 hn4 hn5 hn6 hn7 hn8
  go_enter_defers Tryz.func30, Tryz.ntmps30
  go_wp2_with fail
  obtain ⟨W0, hW0⟩ : ∃ W0, W0 = (((w.alloc (.cells #[.int .i64 L.day, .slice a1 n1 c1, .slice a2 n2 c2, .slice a3 n3 c3, .slice a4 n4 c4, .slice a5 n5 c5, .slice a6 n6 c6, .slice a7 n7 c7, .slice a8 n8 c8] 31)).alloc (.cells #[.int .i64 0] 3)).alloc (.cells #[.int .i64 0] 34)) := ⟨_, rfl⟩
  have R0 := Lib.hid (show Res W0 (w.heap.size + 1) (w.heap.size + 1 + 1) 0 0 ∧ Below w.heap.size w W0 ∧ w.heap.size + 1 + 1 < W0.heap.size from by
    rw [hW0]
    exact ⟨res_new w _ _ (by simp), (((Below.refl _ _).alloc (Nat.le_refl _) _).alloc (by simp) _).alloc (by simp; omega) _, by simp⟩)
  rw [← hW0]
  obtain ⟨px, hpx⟩ : ∃ px, px = w.heap.size + 1 := ⟨_, rfl⟩
  rw [← hpx] at R0 ⊢
  have PX := Lib.hid (show w.heap.size < px from by omega)
  clear hW0 hpx
  refine (LK.out W0 R0.out.2.1).mono ?_
  rintro e w1 ⟨rfl, hb⟩
  have R1 := Lib.hid (show Res w1 px (px + 1) 0 0 ∧ Below w.heap.size w w1 from ⟨R0.out.1.mod (Mod.of_below hb) (fun h => h) (fun h => h), R0.out.2.1.trans (hb.mono R0.out.2.1.size)⟩)
  clear hb
  go_wp2_with fail
  refine leaves_cons (f := 73) (args := #[.pointer (some ⟨px + 1, 0, none⟩), .pointer (some ⟨px, 0, none⟩)]) (by simp) (by simp [go_sem]) ?_
  refine (reckoned_stop px (px + 1) rfl _ 43 (by first | decide | exact her) 0 0 R1.out.1).mono ?_
  rintro e u' w9 ⟨rfl, rfl, R9, m9⟩
  have j0 := cell_of_heap R9.a 0
  have j1 := cell_of_heap R9.b 0
  have B9 := Lib.hid (show Below w.heap.size w w9 from ((Mod.of_below R1.out.2).trans m9 (fun k hk h => by have := PX.out; omega)).toBelow)
  clear m9
  simp [Leaves, settle, results, Tryz.results30, go_sem, j0, j1]
  exact B9.out
set_option maxRecDepth 100000 in
set_option maxHeartbeats 4000000 in
theorem reckon_out (w : World) (V : LedV) (L : Led) (h : LedAt w V L) (hL : L.accts.length ≤ 1024) (hgd : L.Good) (acct : Int) (ho : acct < 0 ∨ (L.accts.length : Int) ≤ acct) (g : Nat) (lb : Array Value) :
    Calls Tryz.prog 30 #[V.val L, .int .i64 acct, .func (.func g) #[] lb] w fun e w' => e = .returned (.tuple #[.int .i64 0, .int .i64 33]) ∧ Below w.heap.size w w' := by
  have LK := Lib.hid (fun W (hb : Below w.heap.size w W) => look_out W V L (h.below hb) hL hgd acct ho)
  obtain ⟨a1, c1, a2, c2, a3, c3, a4, c4, a5, c5, a6, c6, a7, c7, a8, c8, e1, e2, e3, e4, e5, e6, e7, e8⟩ := LedAt.opened h
  unfold LedV.val LedV.cells at LK ⊢
  rw [e1, e2, e3, e4, e5, e6, e7, e8] at LK ⊢
  obtain ⟨n1, hn1⟩ : ∃ n, n = L.curs.length := ⟨_, rfl⟩
  obtain ⟨n2, hn2⟩ : ∃ n, n = L.unders.length := ⟨_, rfl⟩
  obtain ⟨n3, hn3⟩ : ∃ n, n = L.instrs.length := ⟨_, rfl⟩
  obtain ⟨n4, hn4⟩ : ∃ n, n = L.accts.length := ⟨_, rfl⟩
  obtain ⟨n5, hn5⟩ : ∃ n, n = L.poss.length := ⟨_, rfl⟩
  obtain ⟨n6, hn6⟩ : ∃ n, n = L.orders.length := ⟨_, rfl⟩
  obtain ⟨n7, hn7⟩ : ∃ n, n = L.avail.length := ⟨_, rfl⟩
  obtain ⟨n8, hn8⟩ : ∃ n, n = L.locs.length := ⟨_, rfl⟩
  rw [← hn1, ← hn2, ← hn3, ← hn4, ← hn5, ← hn6, ← hn7, ← hn8] at LK ⊢
  clear h hL hgd ho e1 e2 e3 e4 e5 e6 e7 e8 hn1 hn2 hn3 hn4 hn5 hn6 hn7 hn8
  go_enter_defers Tryz.func30, Tryz.ntmps30
  go_wp2_with fail
  obtain ⟨W0, hW0⟩ : ∃ W0, W0 = (((w.alloc (.cells #[.int .i64 L.day, .slice a1 n1 c1, .slice a2 n2 c2, .slice a3 n3 c3, .slice a4 n4 c4, .slice a5 n5 c5, .slice a6 n6 c6, .slice a7 n7 c7, .slice a8 n8 c8] 31)).alloc (.cells #[.int .i64 0] 3)).alloc (.cells #[.int .i64 0] 34)) := ⟨_, rfl⟩
  have R0 := Lib.hid (show Res W0 (w.heap.size + 1) (w.heap.size + 1 + 1) 0 0 ∧ Below w.heap.size w W0 ∧ w.heap.size + 1 + 1 < W0.heap.size from by
    rw [hW0]
    exact ⟨res_new w _ _ (by simp), (((Below.refl _ _).alloc (Nat.le_refl _) _).alloc (by simp) _).alloc (by simp; omega) _, by simp⟩)
  rw [← hW0]
  obtain ⟨px, hpx⟩ : ∃ px, px = w.heap.size + 1 := ⟨_, rfl⟩
  rw [← hpx] at R0 ⊢
  have PX := Lib.hid (show w.heap.size < px from by omega)
  clear hW0 hpx
  refine (LK.out W0 R0.out.2.1).mono ?_
  rintro e w1 ⟨rfl, hb⟩
  have R1 := Lib.hid (show Res w1 px (px + 1) 0 0 ∧ Below w.heap.size w w1 from ⟨R0.out.1.mod (Mod.of_below hb) (fun h => h) (fun h => h), R0.out.2.1.trans (hb.mono R0.out.2.1.size)⟩)
  clear hb
  go_wp2_with fail
  refine leaves_cons (f := 73) (args := #[.pointer (some ⟨px + 1, 0, none⟩), .pointer (some ⟨px, 0, none⟩)]) (by simp) (by simp [go_sem]) ?_
  refine (reckoned_stop px (px + 1) rfl _ 33 (by first | decide | exact her) 0 0 R1.out.1).mono ?_
  rintro e u' w9 ⟨rfl, rfl, R9, m9⟩
  have j0 := cell_of_heap R9.a 0
  have j1 := cell_of_heap R9.b 0
  have B9 := Lib.hid (show Below w.heap.size w w9 from ((Mod.of_below R1.out.2).trans m9 (fun k hk h => by have := PX.out; omega)).toBelow)
  clear m9
  simp [Leaves, settle, results, Tryz.results30, go_sem, j0, j1]
  exact B9.out
set_option maxRecDepth 100000 in
set_option maxHeartbeats 4000000 in
theorem reckon_ok (w : World) (V : LedV) (L : Led) (h : LedAt w V L) (hgd : L.Good) (hGr : Grd w) (a : Nat) (ha : a < L.accts.length) (g : Nat) (lb : Array Value) (hg : Enters Tryz.prog g) (r : Int × Int) (hr : Asks w V L a g lb r) :
    Calls Tryz.prog 30 #[V.val L, .int .i64 (a : Int), .func (.func g) #[] lb] w fun e w' => e = .returned (.tuple #[.int .i64 r.1, .int .i64 r.2]) ∧ Below w.heap.size w w' := by
  have LK := Lib.hid (fun W (hb : Below w.heap.size w W) => look_ok W V L (h.below hb) hgd (hGr.below hb) a ha)
  have EG := Lib.hid hg
  have HR := Lib.hid hr
  obtain ⟨a1, c1, a2, c2, a3, c3, a4, c4, a5, c5, a6, c6, a7, c7, a8, c8, e1, e2, e3, e4, e5, e6, e7, e8⟩ := LedAt.opened h
  unfold LedV.val LedV.cells at LK ⊢
  rw [e1, e2, e3, e4, e5, e6, e7, e8] at LK ⊢
  obtain ⟨n1, hn1⟩ : ∃ n, n = L.curs.length := ⟨_, rfl⟩
  obtain ⟨n2, hn2⟩ : ∃ n, n = L.unders.length := ⟨_, rfl⟩
  obtain ⟨n3, hn3⟩ : ∃ n, n = L.instrs.length := ⟨_, rfl⟩
  obtain ⟨n4, hn4⟩ : ∃ n, n = L.accts.length := ⟨_, rfl⟩
  obtain ⟨n5, hn5⟩ : ∃ n, n = L.poss.length := ⟨_, rfl⟩
  obtain ⟨n6, hn6⟩ : ∃ n, n = L.orders.length := ⟨_, rfl⟩
  obtain ⟨n7, hn7⟩ : ∃ n, n = L.avail.length := ⟨_, rfl⟩
  obtain ⟨n8, hn8⟩ : ∃ n, n = L.locs.length := ⟨_, rfl⟩
  rw [← hn1, ← hn2, ← hn3, ← hn4, ← hn5, ← hn6, ← hn7, ← hn8] at LK ⊢
  clear h hgd hGr ha e1 e2 e3 e4 e5 e6 e7 e8 hn1 hn2 hn3 hn4 hn5 hn6 hn7 hn8 hr hg
  go_enter_defers Tryz.func30, Tryz.ntmps30
  go_wp2_with fail
  obtain ⟨W0, hW0⟩ : ∃ W0, W0 = (((w.alloc (.cells #[.int .i64 L.day, .slice a1 n1 c1, .slice a2 n2 c2, .slice a3 n3 c3, .slice a4 n4 c4, .slice a5 n5 c5, .slice a6 n6 c6, .slice a7 n7 c7, .slice a8 n8 c8] 31)).alloc (.cells #[.int .i64 0] 3)).alloc (.cells #[.int .i64 0] 34)) := ⟨_, rfl⟩
  have R0 := Lib.hid (show Res W0 (w.heap.size + 1) (w.heap.size + 1 + 1) 0 0 ∧ Below w.heap.size w W0 ∧ w.heap.size + 1 + 1 < W0.heap.size from by
    rw [hW0]
    exact ⟨res_new w _ _ (by simp), (((Below.refl _ _).alloc (Nat.le_refl _) _).alloc (by simp) _).alloc (by simp; omega) _, by simp⟩)
  rw [← hW0]
  obtain ⟨px, hpx⟩ : ∃ px, px = w.heap.size + 1 := ⟨_, rfl⟩
  rw [← hpx] at R0 ⊢
  have PX := Lib.hid (show w.heap.size < px from by omega)
  clear hW0 hpx
  refine (LK.out W0 R0.out.2.1).mono ?_
  rintro e w1 ⟨b, mb, bv, rfl, hs, hb, hmb⟩
  have R1 := Lib.hid (show Res w1 px (px + 1) 0 0 ∧ Below w.heap.size w w1 from ⟨R0.out.1.mod (Mod.of_below hb) (fun h => h) (fun h => h), R0.out.2.1.trans (hb.mono R0.out.2.1.size)⟩)
  have NM := Lib.hid (show w.heap.size ≤ mb ∧ px + 1 < mb from ⟨Nat.le_trans R0.out.2.1.size hmb, Nat.lt_of_lt_of_le R0.out.2.2 hmb⟩)
  have CALL := Lib.hid (HR.out w1 b mb bv hs NM.out.1 R1.out.2)
  have eg : ∀ (args : Array Value) (w : World), (callFunc g args).run Tryz.prog w = .ok (.enter g args) w := EG.out
  clear hs hb hmb
  go_wp2_with fail
  refine CALL.out.mono ?_
  rintro e w2 ⟨ho, hm⟩
  have R2 := Lib.hid (show Res w2 px (px + 1) 0 0 ∧ Below w.heap.size w w2 from ⟨R1.out.1.mod hm (by have := NM.out; omega) (by have := NM.out; omega), ((Mod.of_below R1.out.2).trans hm (fun k hk h => by have := NM.out; omega)).toBelow⟩)
  clear hm eg
  rcases ho with ⟨hz, rfl⟩ | ⟨hz, hz1, rfl⟩
  · have HZ := Lib.hid hz
    clear hz
    have k0 := cell_of_heap R2.out.1.a 0
    have k1 := cell_of_heap R2.out.1.b 0
    have z0 := free_of_heap R2.out.1.a 0
    have z1 := free_of_heap R2.out.1.b 0
    go_wp2_with fail
    have RS := R2.out.1.set rfl r.1 0
    have BS := Lib.hid (show Below w.heap.size w ((w2.setCell ⟨px, 0, none⟩ (.int .i64 r.1)).setCell ⟨px + 1, 0, none⟩ (.int .i64 0)) from (R2.out.2.setCell (by have := PX.out; show w.heap.size ≤ px; omega) _).setCell (by have := PX.out; show w.heap.size ≤ px + 1; omega) _)
    obtain ⟨w3, hw3⟩ : ∃ w3, w3 = (w2.setCell ⟨px, 0, none⟩ (.int .i64 r.1)).setCell ⟨px + 1, 0, none⟩ (.int .i64 0) := ⟨_, rfl⟩
    rw [← hw3] at RS BS ⊢
    clear hw3 k0 k1 z0 z1
    have j0 := cell_of_heap RS.a 0
    have j1 := cell_of_heap RS.b 0
    have E2 := HZ.out
    refine leaves_cons (f := 73) (args := #[.pointer (some ⟨px + 1, 0, none⟩), .pointer (some ⟨px, 0, none⟩)]) (by simp) (by simp [go_sem]) ?_
    refine (reckoned_ok (px + 1) px w3 j1).mono ?_
    rintro e u' w9 ⟨rfl, rfl, rfl⟩
    simp [Leaves, settle, results, Tryz.results30, go_sem, j0, j1]
    exact ⟨E2.symm, BS.out⟩
  · have HZ := Lib.hid (And.intro hz hz1)
    clear hz hz1
    obtain ⟨er, her⟩ : ∃ er, er = r.2 := ⟨_, rfl⟩
    have ER := Lib.hid her
    rw [← her]
    clear her
    go_wp2_with fail
    refine leaves_cons (f := 73) (args := #[.pointer (some ⟨px + 1, 0, none⟩), .pointer (some ⟨px, 0, none⟩)]) (by simp) (by simp [go_sem]) ?_
    refine (reckoned_stop px (px + 1) rfl _ er (by first | decide | exact (by rw [ER.out]; exact HZ.out.1)) 0 0 R2.out.1).mono ?_
    rintro e u' w9 ⟨rfl, rfl, R9, m9⟩
    have j0 := cell_of_heap R9.a 0
    have j1 := cell_of_heap R9.b 0
    have B9 := Lib.hid (show Below w.heap.size w w9 from ((Mod.of_below R2.out.2).trans m9 (fun k hk h => by have := PX.out; omega)).toBelow)
    clear m9
    simp [Leaves, settle, results, Tryz.results30, go_sem, j0, j1]
    exact ⟨⟨HZ.out.2.symm, ER.out⟩, B9.out⟩
end Go.Proofs.YtcjbhgnlmmeeeaaGreatDoor
/- margin.Need, Have, Excess, Loss: what the document says, by its amounts. -/
namespace Go.Proofs.YtcjbhgnlmmeeeaaGreatDoor
open Go.RowKit Go.Bw Go.Maps Go.Shelf Go.Bw.Fall
set_option linter.unusedVariables false
set_option linter.unusedSimpArgs false

theorem asks_need (w : World) (V : LedV) (L : Led) (a : Nat) (hg : L.Good) : Asks w V L a 31 #[] (retA (needO L a)) := fun W b mb bv hS _ _ =>
  (need_any W b mb bv V L a hS hg).mono fun e w' h => ⟨AskO.of h.1, h.2.m⟩
theorem asks_have (w : World) (V : LedV) (L : Led) (a : Nat) (hg : L.Good) : Asks w V L a 32 #[] (retA (haveO L a)) := fun W b mb bv hS _ _ =>
  (have_any W b mb bv V L a hS hg).mono fun e w' h => ⟨AskO.of h.1, h.2.m⟩
theorem haveO_fits {L : Led} {a : Nat} {x : Int} (h : haveO L a = some x) : fitsA x = true := by
  have go : ∀ (cs : List Cur) (n : Nat) (x y : Int), fitsA x = true → haveGo L a n cs x = some y → fitsA y = true := by
    intro cs
    induction cs with
    | nil => intro n x y hx h; cases h; exact hx
    | cons c r ih =>
      intro n x y hx h
      unfold haveGo at h
      rw [Option.bind_eq_some_iff] at h
      obtain ⟨k, _, h⟩ := h
      rw [Option.bind_eq_some_iff] at h
      obtain ⟨b, _, h⟩ := h
      rw [Option.bind_eq_some_iff] at h
      obtain ⟨z, hz, h⟩ := h
      obtain ⟨rfl, _, _, hf⟩ := addO_some.1 hz
      exact ih (n + 1) _ y hf h
  exact go _ _ _ _ (by decide) h
theorem needO_fits {L : Led} {a : Nat} {x : Int} (h : needO L a = some x) : fitsA x = true := by
  have go : ∀ (cs : List Und) (n : Nat) (x y : Int), fitsA x = true → needGo L a n cs x = some y → fitsA y = true := by
    intro cs
    induction cs with
    | nil => intro n x y hx h; cases h; exact hx
    | cons c r ih =>
      intro n x y hx h
      unfold needGo at h
      rw [Option.bind_eq_some_iff] at h
      obtain ⟨k, _, h⟩ := h
      rw [Option.bind_eq_some_iff] at h
      obtain ⟨b, _, h⟩ := h
      rw [Option.bind_eq_some_iff] at h
      obtain ⟨z, hz, h⟩ := h
      obtain ⟨rfl, _, _, hf⟩ := addO_some.1 hz
      exact ih (n + 1) _ y hf h
  exact go _ _ _ _ (by decide) h
set_option maxRecDepth 100000 in
set_option maxHeartbeats 2000000 in
theorem excess1_any (w : World) (b mb : Nat) (bv : Value) (V : LedV) (L : Led) (a : Nat) (hS : Sight w b mb bv V L a) (hg : L.Good) :
    Calls Tryz.prog 33 #[.pointer (some ⟨b, 0, none⟩)] w (GainOut w b mb bv V L a (excessO L a)) := by
  have HV := Lib.hid (have_any w b mb bv V L a hS hg)
  have ND := Lib.hid (fun W (hW : Sight W b mb bv V L a) => need_any W b mb bv V L a hW hg)
  obtain ⟨R, hR⟩ : ∃ R, R = excessO L a := ⟨_, rfl⟩
  rw [← hR]
  have EQ := Lib.hid hR
  clear hS hg hR
  go_enter Tryz.func33, Tryz.ntmps33
  go_wp2_with fail
  refine HV.out.mono ?_
  rintro e w1 ⟨ho, ht⟩
  have T1 := Lib.hid ht
  clear ht
  rcases Or.symm ho with ⟨hx, rfl⟩ | ⟨x, hx, rfl⟩
  · have HX := Lib.hid hx
    clear hx
    go_wp2_with fail
    exact ⟨rfl, OutO.none_ (by rw [EQ.out]; unfold excessO; rw [HX.out]; rfl), T1.out⟩
  have HX := Lib.hid hx
  clear hx
  go_wp2_with fail
  refine (ND.out _ T1.out.s).mono ?_
  rintro e w2 ⟨ho, ht⟩
  have T2 := Lib.hid (T1.out.trans ht)
  clear ht
  rcases Or.symm ho with ⟨hy, rfl⟩ | ⟨y, hy, rfl⟩
  · have HY := Lib.hid hy
    clear hy
    go_wp2_with fail
    exact ⟨rfl, OutO.none_ (by rw [EQ.out]; unfold excessO; rw [HX.out]; show (needO L a).bind _ = none; rw [HY.out]; rfl), T2.out⟩
  have HY := Lib.hid hy
  clear hy
  have FS := Lib.hid (fun W => fsub_any x y (I64.of_fits (haveO_fits HX.out)) (I64.of_fits (needO_fits HY.out)) W)
  have SE := Lib.hid (subA_er x y)
  have SO := Lib.hid (show R = optA (subA x y) from by rw [EQ.out]; unfold excessO; rw [HX.out]; show (needO L a).bind _ = _; rw [HY.out]; rfl)
  obtain ⟨SR, hSR⟩ : ∃ r, r = subA x y := ⟨_, rfl⟩
  rw [← hSR] at FS SE SO
  clear hSR
  go_wp2_with fail
  refine (FS.out _).mono ?_
  rintro e w' ⟨rfl, rfl⟩
  go_wp2_with fail
  refine (mmust_any SR (er_or SE.out) _).mono ?_
  rintro e w' ⟨ho, rfl⟩
  rcases Or.symm ho with ⟨hz, rfl⟩ | ⟨z, hz, rfl⟩
  · have HZ := Lib.hid hz
    clear hz
    go_wp2_with fail
    exact ⟨rfl, OutO.none_ (SO.out.trans HZ.out), T2.out⟩
  have HZ := Lib.hid hz
  clear hz
  go_wp2_with fail
  go_ret
  exact ⟨OutO.some_ (SO.out.trans HZ.out), T2.out⟩
theorem asks_excess (w : World) (V : LedV) (L : Led) (a : Nat) (hg : L.Good) : Asks w V L a 33 #[] (retA (excessO L a)) := fun W b mb bv hS _ _ =>
  (excess1_any W b mb bv V L a hS hg).mono fun e w' h => ⟨AskO.of h.1, h.2.m⟩
/-- What a reckoning of an account answers. -/
noncomputable def ansA (L : Led) (acct : Int) (r : Int × Int) : Int × Int := by
  classical
  exact if L.Good then (if acct < 0 ∨ (L.accts.length : Int) ≤ acct then (0, 33) else r) else (0, 43)
theorem ansA_bad {L : Led} {acct : Int} {r : Int × Int} (h : ¬ L.Good) : ansA L acct r = (0, 43) := by unfold ansA; rw [if_neg h]
theorem ansA_out {L : Led} {acct : Int} {r : Int × Int} (h : L.Good) (ho : acct < 0 ∨ (L.accts.length : Int) ≤ acct) : ansA L acct r = (0, 33) := by unfold ansA; rw [if_pos h, if_pos ho]
theorem ansA_ok {L : Led} {acct : Int} {r : Int × Int} (h : L.Good) (ho : ¬ (acct < 0 ∨ (L.accts.length : Int) ≤ acct)) : ansA L acct r = r := by unfold ansA; rw [if_pos h, if_neg ho]
theorem reckon_any (w : World) (V : LedV) (L : Led) (h : LedAt w V L) (hL : L.accts.length ≤ 1024) (hGr : Grd w) (acct : Int) (g : Nat) (lb : Array Value) (hg : Enters Tryz.prog g) (r : Int × Int) (hr : L.Good → ∀ a : Nat, acct = a → a < L.accts.length → Asks w V L a g lb r) :
    Calls Tryz.prog 30 #[V.val L, .int .i64 acct, .func (.func g) #[] lb] w fun e w' => e = .returned (.tuple #[.int .i64 (ansA L acct r).1, .int .i64 (ansA L acct r).2]) ∧ Below w.heap.size w w' := by
  by_cases hgd : L.Good
  · by_cases ho : acct < 0 ∨ (L.accts.length : Int) ≤ acct
    · rw [ansA_out hgd ho]; exact reckon_out w V L h hL hgd acct ho g lb
    · rw [ansA_ok hgd ho]
      obtain ⟨a, rfl⟩ := Int.eq_ofNat_of_zero_le (show 0 ≤ acct by omega)
      exact reckon_ok w V L h hgd hGr a (by omega) g lb hg r (hr hgd a rfl (by omega))
  · rw [ansA_bad hgd]; exact reckon_bad w V L h hL hgd acct g lb
set_option maxRecDepth 100000 in
set_option maxHeartbeats 2000000 in
theorem mneed_any (w : World) (V : LedV) (L : Led) (h : LedAt w V L) (hL : L.accts.length ≤ 1024) (hGr : Grd w) (acct : Int) :
    Calls Tryz.prog 13 #[V.val L, .int .i64 acct] w fun e w' => e = .returned (.tuple #[.int .i64 (ansA L acct (retA (needO L acct.toNat))).1, .int .i64 (ansA L acct (retA (needO L acct.toNat))).2]) ∧ Below w.heap.size w w' := by
  have RK := Lib.hid (fun W (hb : Below w.heap.size w W) => reckon_any W V L (h.below hb) hL (hGr.below hb) acct 31 #[] (enters_of Tryz.func31 (by kernel_rfl) rfl) (retA (needO L acct.toNat)) (fun hg a ha _ => by subst ha; exact asks_need W V L a hg))
  obtain ⟨R, hR⟩ : ∃ R, R = ansA L acct (retA (needO L acct.toNat)) := ⟨_, rfl⟩
  rw [← hR] at RK ⊢
  obtain ⟨a1, c1, a2, c2, a3, c3, a4, c4, a5, c5, a6, c6, a7, c7, a8, c8, e1, e2, e3, e4, e5, e6, e7, e8⟩ := LedAt.opened h
  unfold LedV.val LedV.cells at RK ⊢
  rw [e1, e2, e3, e4, e5, e6, e7, e8] at RK ⊢
  obtain ⟨n1, hn1⟩ : ∃ n, n = L.curs.length := ⟨_, rfl⟩
  obtain ⟨n2, hn2⟩ : ∃ n, n = L.unders.length := ⟨_, rfl⟩
  obtain ⟨n3, hn3⟩ : ∃ n, n = L.instrs.length := ⟨_, rfl⟩
  obtain ⟨n4, hn4⟩ : ∃ n, n = L.accts.length := ⟨_, rfl⟩
  obtain ⟨n5, hn5⟩ : ∃ n, n = L.poss.length := ⟨_, rfl⟩
  obtain ⟨n6, hn6⟩ : ∃ n, n = L.orders.length := ⟨_, rfl⟩
  obtain ⟨n7, hn7⟩ : ∃ n, n = L.avail.length := ⟨_, rfl⟩
  obtain ⟨n8, hn8⟩ : ∃ n, n = L.locs.length := ⟨_, rfl⟩
  rw [← hn1, ← hn2, ← hn3, ← hn4, ← hn5, ← hn6, ← hn7, ← hn8] at RK ⊢
  have B0 := Lib.hid ((Below.refl w.heap.size w).alloc (Nat.le_refl _) (.cells #[.int .i64 L.day, .slice a1 n1 c1, .slice a2 n2 c2, .slice a3 n3 c3, .slice a4 n4 c4, .slice a5 n5 c5, .slice a6 n6 c6, .slice a7 n7 c7, .slice a8 n8 c8] 31))
  clear h hL hGr e1 e2 e3 e4 e5 e6 e7 e8 hn1 hn2 hn3 hn4 hn5 hn6 hn7 hn8 hR
  go_enter Tryz.func13, Tryz.ntmps13
  go_wp2_with fail
  refine (RK.out _ B0.out).mono ?_
  rintro e w1 ⟨rfl, hb⟩
  have B1 := Lib.hid (B0.out.trans (hb.mono (by simp)))
  clear hb
  go_wp2_with fail
  go_ret2
  exact ⟨rfl, B1.out⟩
set_option maxRecDepth 100000 in
set_option maxHeartbeats 2000000 in
theorem mhave_any (w : World) (V : LedV) (L : Led) (h : LedAt w V L) (hL : L.accts.length ≤ 1024) (hGr : Grd w) (acct : Int) :
    Calls Tryz.prog 14 #[V.val L, .int .i64 acct] w fun e w' => e = .returned (.tuple #[.int .i64 (ansA L acct (retA (haveO L acct.toNat))).1, .int .i64 (ansA L acct (retA (haveO L acct.toNat))).2]) ∧ Below w.heap.size w w' := by
  have RK := Lib.hid (fun W (hb : Below w.heap.size w W) => reckon_any W V L (h.below hb) hL (hGr.below hb) acct 32 #[] (enters_of Tryz.func32 (by kernel_rfl) rfl) (retA (haveO L acct.toNat)) (fun hg a ha _ => by subst ha; exact asks_have W V L a hg))
  obtain ⟨R, hR⟩ : ∃ R, R = ansA L acct (retA (haveO L acct.toNat)) := ⟨_, rfl⟩
  rw [← hR] at RK ⊢
  obtain ⟨a1, c1, a2, c2, a3, c3, a4, c4, a5, c5, a6, c6, a7, c7, a8, c8, e1, e2, e3, e4, e5, e6, e7, e8⟩ := LedAt.opened h
  unfold LedV.val LedV.cells at RK ⊢
  rw [e1, e2, e3, e4, e5, e6, e7, e8] at RK ⊢
  obtain ⟨n1, hn1⟩ : ∃ n, n = L.curs.length := ⟨_, rfl⟩
  obtain ⟨n2, hn2⟩ : ∃ n, n = L.unders.length := ⟨_, rfl⟩
  obtain ⟨n3, hn3⟩ : ∃ n, n = L.instrs.length := ⟨_, rfl⟩
  obtain ⟨n4, hn4⟩ : ∃ n, n = L.accts.length := ⟨_, rfl⟩
  obtain ⟨n5, hn5⟩ : ∃ n, n = L.poss.length := ⟨_, rfl⟩
  obtain ⟨n6, hn6⟩ : ∃ n, n = L.orders.length := ⟨_, rfl⟩
  obtain ⟨n7, hn7⟩ : ∃ n, n = L.avail.length := ⟨_, rfl⟩
  obtain ⟨n8, hn8⟩ : ∃ n, n = L.locs.length := ⟨_, rfl⟩
  rw [← hn1, ← hn2, ← hn3, ← hn4, ← hn5, ← hn6, ← hn7, ← hn8] at RK ⊢
  have B0 := Lib.hid ((Below.refl w.heap.size w).alloc (Nat.le_refl _) (.cells #[.int .i64 L.day, .slice a1 n1 c1, .slice a2 n2 c2, .slice a3 n3 c3, .slice a4 n4 c4, .slice a5 n5 c5, .slice a6 n6 c6, .slice a7 n7 c7, .slice a8 n8 c8] 31))
  clear h hL hGr e1 e2 e3 e4 e5 e6 e7 e8 hn1 hn2 hn3 hn4 hn5 hn6 hn7 hn8 hR
  go_enter Tryz.func14, Tryz.ntmps14
  go_wp2_with fail
  refine (RK.out _ B0.out).mono ?_
  rintro e w1 ⟨rfl, hb⟩
  have B1 := Lib.hid (B0.out.trans (hb.mono (by simp)))
  clear hb
  go_wp2_with fail
  go_ret2
  exact ⟨rfl, B1.out⟩
set_option maxRecDepth 100000 in
set_option maxHeartbeats 2000000 in
theorem mexcess_any (w : World) (V : LedV) (L : Led) (h : LedAt w V L) (hL : L.accts.length ≤ 1024) (hGr : Grd w) (acct : Int) :
    Calls Tryz.prog 15 #[V.val L, .int .i64 acct] w fun e w' => e = .returned (.tuple #[.int .i64 (ansA L acct (retA (excessO L acct.toNat))).1, .int .i64 (ansA L acct (retA (excessO L acct.toNat))).2]) ∧ Below w.heap.size w w' := by
  have RK := Lib.hid (fun W (hb : Below w.heap.size w W) => reckon_any W V L (h.below hb) hL (hGr.below hb) acct 33 #[] (enters_of Tryz.func33 (by kernel_rfl) rfl) (retA (excessO L acct.toNat)) (fun hg a ha _ => by subst ha; exact asks_excess W V L a hg))
  obtain ⟨R, hR⟩ : ∃ R, R = ansA L acct (retA (excessO L acct.toNat)) := ⟨_, rfl⟩
  rw [← hR] at RK ⊢
  obtain ⟨a1, c1, a2, c2, a3, c3, a4, c4, a5, c5, a6, c6, a7, c7, a8, c8, e1, e2, e3, e4, e5, e6, e7, e8⟩ := LedAt.opened h
  unfold LedV.val LedV.cells at RK ⊢
  rw [e1, e2, e3, e4, e5, e6, e7, e8] at RK ⊢
  obtain ⟨n1, hn1⟩ : ∃ n, n = L.curs.length := ⟨_, rfl⟩
  obtain ⟨n2, hn2⟩ : ∃ n, n = L.unders.length := ⟨_, rfl⟩
  obtain ⟨n3, hn3⟩ : ∃ n, n = L.instrs.length := ⟨_, rfl⟩
  obtain ⟨n4, hn4⟩ : ∃ n, n = L.accts.length := ⟨_, rfl⟩
  obtain ⟨n5, hn5⟩ : ∃ n, n = L.poss.length := ⟨_, rfl⟩
  obtain ⟨n6, hn6⟩ : ∃ n, n = L.orders.length := ⟨_, rfl⟩
  obtain ⟨n7, hn7⟩ : ∃ n, n = L.avail.length := ⟨_, rfl⟩
  obtain ⟨n8, hn8⟩ : ∃ n, n = L.locs.length := ⟨_, rfl⟩
  rw [← hn1, ← hn2, ← hn3, ← hn4, ← hn5, ← hn6, ← hn7, ← hn8] at RK ⊢
  have B0 := Lib.hid ((Below.refl w.heap.size w).alloc (Nat.le_refl _) (.cells #[.int .i64 L.day, .slice a1 n1 c1, .slice a2 n2 c2, .slice a3 n3 c3, .slice a4 n4 c4, .slice a5 n5 c5, .slice a6 n6 c6, .slice a7 n7 c7, .slice a8 n8 c8] 31))
  clear h hL hGr e1 e2 e3 e4 e5 e6 e7 e8 hn1 hn2 hn3 hn4 hn5 hn6 hn7 hn8 hR
  go_enter Tryz.func15, Tryz.ntmps15
  go_wp2_with fail
  refine (RK.out _ B0.out).mono ?_
  rintro e w1 ⟨rfl, hb⟩
  have B1 := Lib.hid (B0.out.trans (hb.mono (by simp)))
  clear hb
  go_wp2_with fail
  go_ret2
  exact ⟨rfl, B1.out⟩
/-- What Loss answers of an account. -/
def lossA (L : Led) (a : Nat) (under s : Int) : Int × Int :=
  if under < 0 ∨ (L.unders.length : Int) ≤ under then (0, 31) else if s < 0 ∨ 21 ≤ s then (0, 1) else retA (lossO L a under s.toNat)
def LossOut (w : World) (mb : Nat) (r : Int × Int) (e : Ending) (w' : World) : Prop := AskO r e ∧ Mod (fun k => k = mb) w w'
set_option maxRecDepth 100000 in
set_option maxHeartbeats 2000000 in
theorem loss1_any (w : World) (b mb : Nat) (bv : Value) (V : LedV) (L : Led) (a : Nat) (hS : Sight w b mb bv V L a) (hg : L.Good) (under s : Int) (pu pl ps : Nat) (hu : w.cell? ⟨pu, 0, none⟩ = some (.int .i64 under)) (hl : w.cell? ⟨pl, 2, none⟩ = some V.unders) (hs : w.cell? ⟨ps, 0, none⟩ = some (.int .i64 s)) :
    Calls Tryz.prog 50 #[.pointer (some ⟨b, 0, none⟩), .pointer (some ⟨pu, 0, none⟩), .pointer (some ⟨pl, 0, none⟩), .pointer (some ⟨ps, 0, none⟩)] w (LossOut w mb (lossA L a under s)) := by
  obtain ⟨a2, c2, e2⟩ := hS.led.unders.form
  have u6 : L.unders.length ≤ 6 := hg.things.u1
  have LS := Lib.hid (fun k hk => loss_any w b mb bv V L a hS hg under k hk)
  rw [e2] at hl
  obtain ⟨R, hR⟩ : ∃ R, R = lossA L a under s := ⟨_, rfl⟩
  rw [← hR]
  have EQ := Lib.hid hR
  have M0 := Lib.hid (Mod.refl (fun k => k = mb) w)
  obtain ⟨n2, hn2⟩ : ∃ n, n = L.unders.length := ⟨_, rfl⟩
  have LN := Lib.hid hn2
  rw [← hn2] at u6 hl
  clear hS hg e2 hR hn2
  by_cases g1 : under < 0
  · have FL := Lib.hid (show R = (0, 31) from by rw [EQ.out]; unfold lossA; rw [if_pos (Or.inl g1)])
    have dg : decide (under < 0) = true := decide_eq_true g1
    go_enter Tryz.func50, Tryz.ntmps50
    go_wp2_with fail
    exact ⟨rfl, by rw [FL.out]; exact Or.inr ⟨by decide, rfl, rfl⟩, M0.out⟩
  by_cases g2 : (n2 : Int) ≤ under
  · have FL := Lib.hid (show R = (0, 31) from by rw [EQ.out]; unfold lossA; rw [if_pos (Or.inr (by rw [← LN.out]; exact g2))])
    have dg : decide (under < 0) = false := decide_eq_false g1
    go_enter Tryz.func50, Tryz.ntmps50
    go_wp2_with fail
    exact ⟨rfl, by rw [FL.out]; exact Or.inr ⟨by decide, rfl, rfl⟩, M0.out⟩
  by_cases g3 : s < 0
  · have FL := Lib.hid (show R = (0, 1) from by rw [EQ.out]; unfold lossA; rw [if_neg (by rw [← LN.out]; omega), if_pos (Or.inl g3)])
    have dg : decide (under < 0) = false := decide_eq_false g1
    have dg3 : decide (s < 0) = true := decide_eq_true g3
    go_enter Tryz.func50, Tryz.ntmps50
    go_wp2_with fail
    exact ⟨rfl, by rw [FL.out]; exact Or.inr ⟨by decide, rfl, rfl⟩, M0.out⟩
  by_cases g4 : 21 ≤ s
  · have FL := Lib.hid (show R = (0, 1) from by rw [EQ.out]; unfold lossA; rw [if_neg (by rw [← LN.out]; omega), if_pos (Or.inr g4)])
    have dg : decide (under < 0) = false := decide_eq_false g1
    have dg3 : decide (s < 0) = false := decide_eq_false g3
    go_enter Tryz.func50, Tryz.ntmps50
    go_wp2_with fail
    exact ⟨rfl, by rw [FL.out]; exact Or.inr ⟨by decide, rfl, rfl⟩, M0.out⟩
  obtain ⟨k, rfl⟩ := Int.eq_ofNat_of_zero_le (show 0 ≤ s by omega)
  have FL := Lib.hid (show R = retA (lossO L a under k) from by rw [EQ.out]; unfold lossA; rw [if_neg (by rw [← LN.out]; omega), if_neg (by omega)]; rfl)
  have LC := Lib.hid (LS.out k (by omega))
  have dg : decide (under < 0) = false := decide_eq_false g1
  have dg3 : decide ((k : Int) < 0) = false := decide_eq_false g3
  go_enter Tryz.func50, Tryz.ntmps50
  go_wp2_with fail
  refine LC.out.mono ?_
  rintro e w1 ⟨ho, ht⟩
  have T1 := Lib.hid ht
  clear ht
  rcases Or.symm ho with ⟨hx, rfl⟩ | ⟨x, hx, rfl⟩
  · have HX := Lib.hid hx
    clear hx
    go_wp2_with fail
    exact ⟨rfl, by rw [FL.out, HX.out]; exact Or.inr ⟨by decide, rfl, rfl⟩, T1.out.m⟩
  have HX := Lib.hid hx
  clear hx
  go_wp2_with fail
  go_ret
  exact ⟨by rw [FL.out, HX.out]; exact Or.inl ⟨rfl, rfl⟩, T1.out.m⟩
set_option maxRecDepth 100000 in
set_option maxHeartbeats 2000000 in
theorem mloss_any (w : World) (V : LedV) (L : Led) (h : LedAt w V L) (hL : L.accts.length ≤ 1024) (hGr : Grd w) (acct under s : Int) :
    Calls Tryz.prog 20 #[V.val L, .int .i64 acct, .int .i64 under, .int .i64 s] w fun e w' => e = .returned (.tuple #[.int .i64 (ansA L acct (lossA L acct.toNat under s)).1, .int .i64 (ansA L acct (lossA L acct.toNat under s)).2]) ∧ Below w.heap.size w w' := by
  have RK := Lib.hid (show ∀ W pl pu ps, Below w.heap.size w W → W.cell? ⟨pu, 0, none⟩ = some (.int .i64 under) → W.cell? ⟨pl, 2, none⟩ = some V.unders → W.cell? ⟨ps, 0, none⟩ = some (.int .i64 s) → Calls Tryz.prog 30 #[V.val L, .int .i64 acct, .func (.func 50) #[] #[.pointer (some ⟨pu, 0, none⟩), .pointer (some ⟨pl, 0, none⟩), .pointer (some ⟨ps, 0, none⟩)]] W fun e w' => e = .returned (.tuple #[.int .i64 (ansA L acct (lossA L acct.toNat under s)).1, .int .i64 (ansA L acct (lossA L acct.toNat under s)).2]) ∧ Below W.heap.size W w' from
    fun W pl pu ps hb hu hl hs => reckon_any W V L (h.below hb) hL (hGr.below hb) acct 50 _ (enters_of Tryz.func50 (by kernel_rfl) rfl) _ (fun hg a ha _ W2 b mb bv hS _ hb2 => by
      subst ha
      exact loss1_any W2 b mb bv V L a hS hg under s pu pl ps ((Mod.of_below hb2).cell hu (fun h => h)) ((Mod.of_below hb2).cell hl (fun h => h)) ((Mod.of_below hb2).cell hs (fun h => h))))
  obtain ⟨R, hR⟩ : ∃ R, R = ansA L acct (lossA L acct.toNat under s) := ⟨_, rfl⟩
  rw [← hR] at RK ⊢
  obtain ⟨a1, c1, a2, c2, a3, c3, a4, c4, a5, c5, a6, c6, a7, c7, a8, c8, e1, e2, e3, e4, e5, e6, e7, e8⟩ := LedAt.opened h
  unfold LedV.val LedV.cells at RK ⊢
  rw [e1, e2, e3, e4, e5, e6, e7, e8] at RK ⊢
  obtain ⟨n1, hn1⟩ : ∃ n, n = L.curs.length := ⟨_, rfl⟩
  obtain ⟨n2, hn2⟩ : ∃ n, n = L.unders.length := ⟨_, rfl⟩
  obtain ⟨n3, hn3⟩ : ∃ n, n = L.instrs.length := ⟨_, rfl⟩
  obtain ⟨n4, hn4⟩ : ∃ n, n = L.accts.length := ⟨_, rfl⟩
  obtain ⟨n5, hn5⟩ : ∃ n, n = L.poss.length := ⟨_, rfl⟩
  obtain ⟨n6, hn6⟩ : ∃ n, n = L.orders.length := ⟨_, rfl⟩
  obtain ⟨n7, hn7⟩ : ∃ n, n = L.avail.length := ⟨_, rfl⟩
  obtain ⟨n8, hn8⟩ : ∃ n, n = L.locs.length := ⟨_, rfl⟩
  rw [← hn1, ← hn2, ← hn3, ← hn4, ← hn5, ← hn6, ← hn7, ← hn8] at RK ⊢
  have B0 := Lib.hid (show Below w.heap.size w (((w.alloc (.cells #[.int .i64 L.day, .slice a1 n1 c1, .slice a2 n2 c2, .slice a3 n3 c3, .slice a4 n4 c4, .slice a5 n5 c5, .slice a6 n6 c6, .slice a7 n7 c7, .slice a8 n8 c8] 31)).alloc (.cells #[.int .i64 under] 3)).alloc (.cells #[.int .i64 s] 3)) from (((Below.refl _ _).alloc (Nat.le_refl _) _).alloc (by simp) _).alloc (by simp; omega) _)
  have C0 := Lib.hid (show (((w.alloc (.cells #[.int .i64 L.day, .slice a1 n1 c1, .slice a2 n2 c2, .slice a3 n3 c3, .slice a4 n4 c4, .slice a5 n5 c5, .slice a6 n6 c6, .slice a7 n7 c7, .slice a8 n8 c8] 31)).alloc (.cells #[.int .i64 under] 3)).alloc (.cells #[.int .i64 s] 3)).cell? ⟨w.heap.size + 1, 0, none⟩ = some (.int .i64 under) ∧ (((w.alloc (.cells #[.int .i64 L.day, .slice a1 n1 c1, .slice a2 n2 c2, .slice a3 n3 c3, .slice a4 n4 c4, .slice a5 n5 c5, .slice a6 n6 c6, .slice a7 n7 c7, .slice a8 n8 c8] 31)).alloc (.cells #[.int .i64 under] 3)).alloc (.cells #[.int .i64 s] 3)).cell? ⟨w.heap.size, 2, none⟩ = some (.slice a2 n2 c2) ∧ (((w.alloc (.cells #[.int .i64 L.day, .slice a1 n1 c1, .slice a2 n2 c2, .slice a3 n3 c3, .slice a4 n4 c4, .slice a5 n5 c5, .slice a6 n6 c6, .slice a7 n7 c7, .slice a8 n8 c8] 31)).alloc (.cells #[.int .i64 under] 3)).alloc (.cells #[.int .i64 s] 3)).cell? ⟨w.heap.size + 1 + 1, 0, none⟩ = some (.int .i64 s) from by
    have x1 := BoxAt.new w #[.int .i64 L.day, .slice a1 n1 c1, .slice a2 n2 c2, .slice a3 n3 c3, .slice a4 n4 c4, .slice a5 n5 c5, .slice a6 n6 c6, .slice a7 n7 c7, .slice a8 n8 c8] 31
    have x2 := BoxAt.new (w.alloc (.cells #[.int .i64 L.day, .slice a1 n1 c1, .slice a2 n2 c2, .slice a3 n3 c3, .slice a4 n4 c4, .slice a5 n5 c5, .slice a6 n6 c6, .slice a7 n7 c7, .slice a8 n8 c8] 31)) #[.int .i64 under] 3
    have x3 := BoxAt.new ((w.alloc (.cells #[.int .i64 L.day, .slice a1 n1 c1, .slice a2 n2 c2, .slice a3 n3 c3, .slice a4 n4 c4, .slice a5 n5 c5, .slice a6 n6 c6, .slice a7 n7 c7, .slice a8 n8 c8] 31)).alloc (.cells #[.int .i64 under] 3)) #[.int .i64 s] 3
    have m2 := (Mod.refl (fun _ => False) (w.alloc (.cells #[.int .i64 L.day, .slice a1 n1 c1, .slice a2 n2 c2, .slice a3 n3 c3, .slice a4 n4 c4, .slice a5 n5 c5, .slice a6 n6 c6, .slice a7 n7 c7, .slice a8 n8 c8] 31))).alloc (.cells #[.int .i64 under] 3)
    have m3 := (Mod.refl (fun _ => False) ((w.alloc (.cells #[.int .i64 L.day, .slice a1 n1 c1, .slice a2 n2 c2, .slice a3 n3 c3, .slice a4 n4 c4, .slice a5 n5 c5, .slice a6 n6 c6, .slice a7 n7 c7, .slice a8 n8 c8] 31)).alloc (.cells #[.int .i64 under] 3))).alloc (.cells #[.int .i64 s] 3)
    have y2 := (x2.mod m3 (fun h => h)).at_ 0 _ rfl
    have y3 := x3.at_ 0 _ rfl
    simp at y2 y3
    exact ⟨y2, ((x1.mod m2 (fun h => h)).mod m3 (fun h => h)).at_ 2 _ rfl, y3⟩)
  clear h hL hGr e1 e2 e3 e4 e5 e6 e7 e8 hn1 hn2 hn3 hn4 hn5 hn6 hn7 hn8 hR
  go_enter Tryz.func20, Tryz.ntmps20
  go_wp2_with fail
  refine (RK.out _ _ _ _ B0.out C0.out.1 C0.out.2.1 C0.out.2.2).mono ?_
  rintro e w1 ⟨rfl, hb⟩
  have B1 := Lib.hid (B0.out.trans (hb.mono (by simp; omega)))
  clear hb
  go_wp2_with fail
  go_ret2
  exact ⟨rfl, B1.out⟩
end Go.Proofs.YtcjbhgnlmmeeeaaGreatDoor
/- A ledger that came in, opened. -/
namespace Go.Proofs.YtcjbhgnlmmeeeaaGreatDoor
open Go.RowKit Go.Bw Go.Maps Go.Shelf
set_option linter.unusedVariables false
set_option linter.unusedSimpArgs false

/-- How much a ledger holds. -/
def _root_.Go.Bw.Led.bulk (L : Led) : Nat := L.curs.length + L.unders.length + L.instrs.length + L.poss.length + L.orders.length + L.avail.length + L.locs.length + L.accts.length
structure _root_.Go.Bw.Led.Short (L : Led) : Prop where
  b1 : L.curs.length ≤ 140737488355328
  b2 : L.unders.length ≤ 140737488355328
  b3 : L.instrs.length ≤ 140737488355328
  b4 : L.accts.length ≤ 140737488355328
  b5 : L.poss.length ≤ 140737488355328
  b6 : L.orders.length ≤ 140737488355328
  b7 : L.avail.length ≤ 140737488355328
  b8 : L.locs.length ≤ 140737488355328
  cash : ∀ a ∈ L.accts, a.cash.length * 8 ≤ 140737488355328
theorem i64_in {w : World} {c : Value} (h : HasVal Tryz.prog w 3 [c]) : ∃ x : Int, c = .int .i64 x ∧ -9223372036854775808 ≤ x ∧ x ≤ 9223372036854775807 := by
  obtain ⟨n, h1, h2⟩ := h.int Tryz.underlying3
  simp at h1
  have m1 : IntKind.min .i64 = -9223372036854775808 := rfl
  have m2 : IntKind.max .i64 = 9223372036854775807 := rfl
  simp only [Lit.wf, Bool.and_eq_true, decide_eq_true_eq, m1, m2] at h2
  exact ⟨n, h1, h2⟩
theorem bool_in {w : World} {c : Value} (h : HasVal Tryz.prog w 4 [c]) : ∃ x : Bool, c = .bool x := by
  obtain ⟨n, h1⟩ := h.bool Tryz.underlying4
  simp at h1
  exact ⟨n, h1⟩
theorem str_in {w : World} {c : Value} (h : HasVal Tryz.prog w 9 [c]) : ∃ x : ByteArray, c = .string x ∧ x.size ≤ maxLen := by
  obtain ⟨n, h1, h2, h3⟩ := h.string Tryz.underlying9
  simp at h1
  exact ⟨n, h1, h3⟩
/-- A slice of things that came in. -/
theorem row_inb {α : Type} {w : World} {t e : TypeId} {n : Nat} {v : Value} (f : α → List Value) (Pr : α → Prop) (ht : Tryz.prog.underlying t = some (.slice e)) (hn : Tryz.prog.cellsOf e = n) (h0 : 0 < n)
    (hby : Nat.ble 1 (Tryz.prog.bytesOf e) = true) (hel : ∀ cs, cs.length = n → HasVal Tryz.prog w e cs → ∃ x : α, cs = f x ∧ Pr x) (h : HasVal Tryz.prog w t [v]) : ∃ l : List α, RowOf w n f v l ∧ (l.length ≤ 140737488355328 ∧ l.length * Tryz.prog.bytesOf e ≤ 140737488355328) ∧ ∀ x ∈ l, Pr x := by
  obtain ⟨a, len, cap, hv, hl, hm, hnil, hre, hrow⟩ := h.row ht hn h0
  have hlen : len ≤ 140737488355328 ∧ len * Tryz.prog.bytesOf e ≤ 140737488355328 := by
    have h1 : 0 < Tryz.prog.bytesOf e := Nat.le_of_ble_eq_true hby
    have h2 : cap * 1 ≤ cap * Tryz.prog.bytesOf e := Nat.mul_le_mul_left _ h1
    have h3 : len * Tryz.prog.bytesOf e ≤ cap * Tryz.prog.bytesOf e := Nat.mul_le_mul_right _ hl
    unfold reachBytes at hre
    omega
  cases hv
  have hI : ∀ i, i < len → ∃ x : α, Pr x ∧ ∃ b o, a = some ⟨b, o, none⟩ ∧ b < w.heap.size ∧ ∀ j u, (f x)[j]? = some u → w.cell? ⟨b, o + i * n + j, none⟩ = some u := fun i hi => by
    obtain ⟨b, o, cs, ha, hc, hcell, hval⟩ := hrow i (by omega)
    obtain ⟨x, rfl, hp⟩ := hel cs hc hval
    refine ⟨x, hp, b, o, ha, ?_, hcell⟩
    have := hcell 0 _ (List.getElem?_eq_getElem (by omega))
    exact World.block_lt_of_cell? w _ this
  by_cases hz : len = 0
  · subst hz
    exact ⟨[], ⟨a, cap, rfl, Nat.zero_le _, hm, hnil, fun i x hi => by simp at hi⟩, ⟨Nat.zero_le _, by simp⟩, fun x hx => by cases hx⟩
  · obtain ⟨x0, _⟩ := hI 0 (by omega)
    haveI hne : Inhabited α := ⟨x0⟩
    obtain ⟨g, hg⟩ := Deep.choose_lt hI
    refine ⟨(List.range len).map g, ⟨a, cap, by simp, by simpa using hl, hm, hnil, fun i x hi => ?_⟩, by simpa using hlen, fun x hx => ?_⟩
    · have hil : i < len := by have := (List.getElem?_eq_some_iff.1 hi).1; simpa using this
      simp [hil] at hi
      subst hi
      exact (hg i hil).2
    · obtain ⟨i, hi, rfl⟩ := List.mem_map.1 hx
      exact (hg i (List.mem_range.1 hi)).1
theorem row_in {α : Type} {w : World} {t e : TypeId} {n : Nat} {v : Value} (f : α → List Value) (Pr : α → Prop) (ht : Tryz.prog.underlying t = some (.slice e)) (hn : Tryz.prog.cellsOf e = n) (h0 : 0 < n)
    (hby : Nat.ble 1 (Tryz.prog.bytesOf e) = true) (hel : ∀ cs, cs.length = n → HasVal Tryz.prog w e cs → ∃ x : α, cs = f x ∧ Pr x) (h : HasVal Tryz.prog w t [v]) : ∃ l : List α, RowOf w n f v l ∧ l.length ≤ 140737488355328 ∧ ∀ x ∈ l, Pr x := by
  obtain ⟨l, h1, h2, h3⟩ := row_inb f Pr ht hn h0 hby hel h
  exact ⟨l, h1, h2.1, h3⟩
theorem int_bytes : Tryz.prog.bytesOf 3 = 8 := by kernel_rfl
theorem ints_inb {w : World} {v : Value} (h : HasVal Tryz.prog w 28 [v]) : ∃ l : List Int, RowOf w 1 icell v l ∧ l.length * 8 ≤ 140737488355328 ∧ ∀ x ∈ l, -9223372036854775808 ≤ x ∧ x ≤ 9223372036854775807 := by
  obtain ⟨l, h1, h2, h3⟩ := row_inb (w := w) (v := v) (n := 1) icell (fun x => -9223372036854775808 ≤ x ∧ x ≤ 9223372036854775807) Tryz.underlying28 (by kernel_rfl) (by decide) (by kernel_rfl) (fun cs hc hv => by
    match cs, hc with
    | [c], _ => obtain ⟨x, rfl, h1⟩ := i64_in hv; exact ⟨x, rfl, h1⟩) h
  rw [int_bytes] at h2
  exact ⟨l, h1, h2.2, h3⟩
theorem ints_in {w : World} {v : Value} (h : HasVal Tryz.prog w 28 [v]) : ∃ l : List Int, RowOf w 1 icell v l ∧ l.length ≤ 140737488355328 ∧ ∀ x ∈ l, -9223372036854775808 ≤ x ∧ x ≤ 9223372036854775807 :=
  row_in icell _ Tryz.underlying28 (by kernel_rfl) (by decide) (by kernel_rfl) (fun cs hc hv => by
    match cs, hc with
    | [c], _ => obtain ⟨x, rfl, h1⟩ := i64_in hv; exact ⟨x, rfl, h1⟩) h
theorem curs_in {w : World} {v : Value} (h : HasVal Tryz.prog w 22 [v]) : ∃ l : List Cur, RowOf w 2 Cur.cells v l ∧ l.length ≤ 140737488355328 ∧ ∀ x ∈ l, True :=
  row_in Cur.cells _ Tryz.underlying22 (by kernel_rfl) (by decide) (by kernel_rfl) (fun cs hc hv => by
    match cs, hc with
    | [c0, c1], _ =>
      have h0 := hv.field Tryz.underlying69 0 (u := 3) rfl (by kernel_rfl) (c := c0) rfl
      have h1 := hv.field Tryz.underlying69 1 (u := 3) rfl (by kernel_rfl) (c := c1) rfl
      obtain ⟨x0, rfl, _⟩ := i64_in h0
      obtain ⟨x1, rfl, _⟩ := i64_in h1
      exact ⟨⟨x0, x1⟩, rfl, trivial⟩) h
theorem unders_in {w : World} {v : Value} (h : HasVal Tryz.prog w 23 [v]) : ∃ l : List Und, RowOf w 4 Und.cells v l ∧ l.length ≤ 140737488355328 ∧ ∀ x ∈ l, x.name.size ≤ maxLen :=
  row_in Und.cells _ Tryz.underlying23 (by kernel_rfl) (by decide) (by kernel_rfl) (fun cs hc hv => by
    match cs, hc with
    | [c0, c1, c2, c3], _ =>
      have h0 := hv.field Tryz.underlying60 0 (u := 9) rfl (by kernel_rfl) (c := c0) rfl
      have h1 := hv.field Tryz.underlying60 1 (u := 3) rfl (by kernel_rfl) (c := c1) rfl
      have h2 := hv.field Tryz.underlying60 2 (u := 3) rfl (by kernel_rfl) (c := c2) rfl
      have h3 := hv.field Tryz.underlying60 3 (u := 3) rfl (by kernel_rfl) (c := c3) rfl
      obtain ⟨x0, rfl, hx⟩ := str_in h0
      obtain ⟨x1, rfl, _⟩ := i64_in h1
      obtain ⟨x2, rfl, _⟩ := i64_in h2
      obtain ⟨x3, rfl, _⟩ := i64_in h3
      exact ⟨⟨x0, x1, x2, x3⟩, rfl, hx⟩) h
theorem instrs_in {w : World} {v : Value} (h : HasVal Tryz.prog w 24 [v]) : ∃ l : List Ins, RowOf w 7 Ins.cells v l ∧ l.length ≤ 140737488355328 ∧ ∀ x ∈ l, True :=
  row_in Ins.cells _ Tryz.underlying24 (by kernel_rfl) (by decide) (by kernel_rfl) (fun cs hc hv => by
    match cs, hc with
    | [c0, c1, c2, c3, c4, c5, c6], _ =>
      have h0 := hv.field Tryz.underlying54 0 (u := 3) rfl (by kernel_rfl) (c := c0) rfl
      have h1 := hv.field Tryz.underlying54 1 (u := 3) rfl (by kernel_rfl) (c := c1) rfl
      have h2 := hv.field Tryz.underlying54 2 (u := 3) rfl (by kernel_rfl) (c := c2) rfl
      have h3 := hv.field Tryz.underlying54 3 (u := 3) rfl (by kernel_rfl) (c := c3) rfl
      have h4 := hv.field Tryz.underlying54 4 (u := 3) rfl (by kernel_rfl) (c := c4) rfl
      have h5 := hv.field Tryz.underlying54 5 (u := 4) rfl (by kernel_rfl) (c := c5) rfl
      have h6 := hv.field Tryz.underlying54 6 (u := 3) rfl (by kernel_rfl) (c := c6) rfl
      obtain ⟨x0, rfl, _⟩ := i64_in h0
      obtain ⟨x1, rfl, _⟩ := i64_in h1
      obtain ⟨x2, rfl, _⟩ := i64_in h2
      obtain ⟨x3, rfl, _⟩ := i64_in h3
      obtain ⟨x4, rfl, _⟩ := i64_in h4
      obtain ⟨x5, rfl⟩ := bool_in h5
      obtain ⟨x6, rfl, _⟩ := i64_in h6
      exact ⟨⟨x0, x1, x2, x3, x4, x5, x6⟩, rfl, trivial⟩) h
theorem accts_in {w : World} {v : Value} (h : HasVal Tryz.prog w 25 [v]) : ∃ l : List (Acc × Value), RowOf w 4 Acc.cells v l ∧ l.length ≤ 140737488355328 ∧ ∀ p ∈ l, RowOf w 1 icell p.2 p.1.cash ∧ (∀ x ∈ p.1.cash, -9223372036854775808 ≤ x ∧ x ≤ 9223372036854775807) ∧ p.1.cash.length * 8 ≤ 140737488355328 :=
  row_in Acc.cells _ Tryz.underlying25 (by kernel_rfl) (by decide) (by kernel_rfl) (fun cs hc hv => by
    match cs, hc with
    | [c0, c1, c2, c3], _ =>
      have h0 := hv.field Tryz.underlying48 0 (u := 3) rfl (by kernel_rfl) (c := c0) rfl
      have h1 := hv.field Tryz.underlying48 1 (u := 28) rfl (by kernel_rfl) (c := c1) rfl
      have h2 := hv.field Tryz.underlying48 2 (u := 4) rfl (by kernel_rfl) (c := c2) rfl
      have h3 := hv.field Tryz.underlying48 3 (u := 3) rfl (by kernel_rfl) (c := c3) rfl
      obtain ⟨x0, rfl, _⟩ := i64_in h0
      obtain ⟨cash, hr, hn, hb⟩ := ints_inb h1
      obtain ⟨x2, rfl⟩ := bool_in h2
      obtain ⟨x3, rfl, _⟩ := i64_in h3
      exact ⟨(⟨x0, cash, x2, x3⟩, c1), rfl, hr, hb, hn⟩) h
theorem poss_in {w : World} {v : Value} (h : HasVal Tryz.prog w 26 [v]) : ∃ l : List Pos, RowOf w 3 Pos.cells v l ∧ l.length ≤ 140737488355328 ∧ ∀ x ∈ l, True :=
  row_in Pos.cells _ Tryz.underlying26 (by kernel_rfl) (by decide) (by kernel_rfl) (fun cs hc hv => by
    match cs, hc with
    | [c0, c1, c2], _ =>
      have h0 := hv.field Tryz.underlying43 0 (u := 3) rfl (by kernel_rfl) (c := c0) rfl
      have h1 := hv.field Tryz.underlying43 1 (u := 3) rfl (by kernel_rfl) (c := c1) rfl
      have h2 := hv.field Tryz.underlying43 2 (u := 3) rfl (by kernel_rfl) (c := c2) rfl
      obtain ⟨x0, rfl, _⟩ := i64_in h0
      obtain ⟨x1, rfl, _⟩ := i64_in h1
      obtain ⟨x2, rfl, _⟩ := i64_in h2
      exact ⟨⟨x0, x1, x2⟩, rfl, trivial⟩) h
theorem locs_in {w : World} {v : Value} (h : HasVal Tryz.prog w 29 [v]) : ∃ l : List Pos, RowOf w 3 Pos.cells v l ∧ l.length ≤ 140737488355328 ∧ ∀ x ∈ l, True :=
  row_in Pos.cells _ Tryz.underlying29 (by kernel_rfl) (by decide) (by kernel_rfl) (fun cs hc hv => by
    match cs, hc with
    | [c0, c1, c2], _ =>
      have h0 := hv.field Tryz.underlying95 0 (u := 3) rfl (by kernel_rfl) (c := c0) rfl
      have h1 := hv.field Tryz.underlying95 1 (u := 3) rfl (by kernel_rfl) (c := c1) rfl
      have h2 := hv.field Tryz.underlying95 2 (u := 3) rfl (by kernel_rfl) (c := c2) rfl
      obtain ⟨x0, rfl, _⟩ := i64_in h0
      obtain ⟨x1, rfl, _⟩ := i64_in h1
      obtain ⟨x2, rfl, _⟩ := i64_in h2
      exact ⟨⟨x0, x1, x2⟩, rfl, trivial⟩) h
theorem orders_in {w : World} {v : Value} (h : HasVal Tryz.prog w 27 [v]) : ∃ l : List Ord, RowOf w 5 Ord.cells v l ∧ l.length ≤ 140737488355328 ∧ ∀ x ∈ l, True :=
  row_in Ord.cells _ Tryz.underlying27 (by kernel_rfl) (by decide) (by kernel_rfl) (fun cs hc hv => by
    match cs, hc with
    | [c0, c1, c2, c3, c4], _ =>
      have h0 := hv.field Tryz.underlying46 0 (u := 3) rfl (by kernel_rfl) (c := c0) rfl
      have h1 := hv.field Tryz.underlying46 1 (u := 3) rfl (by kernel_rfl) (c := c1) rfl
      have h2 := hv.field Tryz.underlying46 2 (u := 3) rfl (by kernel_rfl) (c := c2) rfl
      have h3 := hv.field Tryz.underlying46 3 (u := 3) rfl (by kernel_rfl) (c := c3) rfl
      have h4 := hv.field Tryz.underlying46 4 (u := 3) rfl (by kernel_rfl) (c := c4) rfl
      obtain ⟨x0, rfl, _⟩ := i64_in h0
      obtain ⟨x1, rfl, _⟩ := i64_in h1
      obtain ⟨x2, rfl, _⟩ := i64_in h2
      obtain ⟨x3, rfl, _⟩ := i64_in h3
      obtain ⟨x4, rfl, _⟩ := i64_in h4
      exact ⟨⟨x0, x1, x2, x3, x4⟩, rfl, trivial⟩) h
theorem led_cells : Tryz.prog.cellsOf 31 = 9 := by kernel_rfl
set_option maxRecDepth 100000 in
/-- A ledger that came in. -/
theorem led_in {w : World} {cs : Array Value} (h : HasVal Tryz.prog w 31 cs.toList) : ∃ V l, .agg cs = LedV.val V l ∧ LedAt w V l ∧ Led.Short l := by
  obtain ⟨hlen, _⟩ := h.struct Tryz.underlying31
  rw [led_cells] at hlen
  obtain ⟨cs⟩ := cs
  match cs, hlen with
  | [c0, c1, c2, c3, c4, c5, c6, c7, c8], _ =>
    have h0 := h.field Tryz.underlying31 0 (u := 3) rfl (by kernel_rfl) (c := c0) rfl
    have h1 := h.field Tryz.underlying31 1 (u := 22) rfl (by kernel_rfl) (c := c1) rfl
    have h2 := h.field Tryz.underlying31 2 (u := 23) rfl (by kernel_rfl) (c := c2) rfl
    have h3 := h.field Tryz.underlying31 3 (u := 24) rfl (by kernel_rfl) (c := c3) rfl
    have h4 := h.field Tryz.underlying31 4 (u := 25) rfl (by kernel_rfl) (c := c4) rfl
    have h5 := h.field Tryz.underlying31 5 (u := 26) rfl (by kernel_rfl) (c := c5) rfl
    have h6 := h.field Tryz.underlying31 6 (u := 27) rfl (by kernel_rfl) (c := c6) rfl
    have h7 := h.field Tryz.underlying31 7 (u := 28) rfl (by kernel_rfl) (c := c7) rfl
    have h8 := h.field Tryz.underlying31 8 (u := 29) rfl (by kernel_rfl) (c := c8) rfl
    obtain ⟨x0, rfl, _⟩ := i64_in h0
    obtain ⟨l1, r1, t1, _⟩ := curs_in h1
    obtain ⟨l2, r2, t2, s2⟩ := unders_in h2
    obtain ⟨l3, r3, t3, _⟩ := instrs_in h3
    obtain ⟨l4, r4, t4, s4⟩ := accts_in h4
    obtain ⟨l5, r5, t5, _⟩ := poss_in h5
    obtain ⟨l6, r6, t6, _⟩ := orders_in h6
    obtain ⟨l7, r7, t7, _⟩ := ints_in h7
    obtain ⟨l8, r8, t8, _⟩ := locs_in h8
    refine ⟨⟨c1, c2, c3, c4, c5, c6, c7, c8, l4⟩, ⟨x0, l1, l2, l3, l4.map (·.1), l5, l6, l7, l8⟩, rfl, ⟨r1, r2, r3, rfl, r4, fun p hp => (s4 p hp).1, r5, r6, r7, r8, s2, fun a ha => ?_⟩, ⟨t1, t2, t3, by simpa using t4, t5, t6, t7, t8, fun a ha => ?_⟩⟩
    · obtain ⟨p, hp, rfl⟩ := List.mem_map.1 ha
      exact (s4 p hp).2.1
    · obtain ⟨p, hp, rfl⟩ := List.mem_map.1 ha
      exact (s4 p hp).2.2
end Go.Proofs.YtcjbhgnlmmeeeaaGreatDoor
/- The laws' wakes, wide, walked. -/
namespace Go.Proofs.YtcjbhgnlmmeeeaaGreatDoor
open Go.RowKit Go.Bw Go.Maps Go.Shelf
set_option linter.unusedVariables false
set_option linter.unusedSimpArgs false

theorem rises_one {α : Type} {lt : α → α → Prop} {l : List α} (h : l.length ≤ 1) : Rises lt l := fun i a b ha hb => by
  have := (List.getElem?_eq_some_iff.1 hb).1; omega
theorem get_one {α : Type} {x : α} {n : Nat} {y : α} (h : [x][n]? = some y) : n = 0 ∧ y = x := by
  have h1 := (List.getElem?_eq_some_iff.1 h).1
  have : n = 0 := by simpa using h1
  subst this
  exact ⟨rfl, by simpa using h.symm⟩
theorem exL_good {os : List Ord} (h : OrdersOk os 3 1) (hi : ∀ o ∈ os, o.acct = 2 ∧ o.id ≤ 9) : (exL os).Good := by
  refine ⟨by simp [exL], by simp [exL], ⟨by simp [exL], by simp [exL], by simp [exL], by simp [exL], ?_, ?_, ?_, ?_⟩, ⟨⟨by simp [exL], by simp [exL], ?_⟩, ?_⟩, ⟨by simp [exL], ?_, rises_one (by simp [exL])⟩, h, ⟨by simp [exL], by simp [exL], ?_, ?_, rises_one (by simp [exL])⟩, ?_⟩
  · intro n c hc
    obtain ⟨rfl, rfl⟩ := get_one hc
    exact ⟨by decide, by decide, by decide, by decide, fun _ => rfl⟩
  · intro n c hc
    obtain ⟨rfl, rfl⟩ := get_one hc
    exact ⟨by decide, by decide, by simp [exL], by decide, by decide, by decide, by decide⟩
  · intro n k u v hk hu
    obtain ⟨rfl, rfl⟩ := get_one hu
    omega
  · intro i hi
    simp only [exL, List.mem_cons, List.not_mem_nil, or_false] at hi
    subst hi
    exact ⟨by decide, by simp [exL], by decide, by decide, by decide, by decide, Or.inl (by decide)⟩
  · intro v p hp
    left
    have := List.mem_of_getElem? hp
    simpa [exL] using this
  · intro v a ha
    match v, ha with
    | 0, ha => cases ha; exact ⟨rfl, by decide, by decide, fun _ => ⟨rfl, rfl⟩, by decide⟩
    | 1, ha => cases ha; exact ⟨rfl, by decide, by decide, fun _ => ⟨rfl, rfl⟩, by decide⟩
    | 2, ha => cases ha; exact ⟨rfl, by decide, by decide, fun h => by omega, by decide⟩
    | v + 3, ha => simp [exL] at ha
  · intro p hp
    simp only [exL, List.mem_cons, List.not_mem_nil, or_false] at hp
    subst hp
    exact ⟨by decide, by simp [exL], by decide, by simp [exL], by decide, by decide, by decide⟩
  · intro q hq
    simp only [exL, List.mem_cons, List.not_mem_nil, or_false] at hq
    subst hq
    decide
  · intro x hx; simp [exL] at hx
  · intro o ho a ha
    obtain ⟨h1, h2⟩ := hi o ho
    rw [h1] at ha
    cases ha
    exact h2
theorem good0 : (exL []).Good := exL_good ⟨by decide, by simp, rises_one (by decide)⟩ (by simp)
theorem good1 : (exL [⟨2, 1, 0, 3, 110⟩]).Good := exL_good ⟨by decide, fun o ho => by
  simp only [List.mem_cons, List.not_mem_nil, or_false] at ho
  subst ho
  exact ⟨by decide, by decide, by decide, by decide, by decide, by decide, by decide, by decide, by decide, by decide, by decide⟩, rises_one (by decide)⟩ (fun o ho => by
  simp only [List.mem_cons, List.not_mem_nil, or_false] at ho
  subst ho
  exact ⟨rfl, by decide⟩)
theorem good2 : (exL [⟨2, 1, 0, -5, 100⟩]).Good := exL_good ⟨by decide, fun o ho => by
  simp only [List.mem_cons, List.not_mem_nil, or_false] at ho
  subst ho
  exact ⟨by decide, by decide, by decide, by decide, by decide, by decide, by decide, by decide, by decide, by decide, by decide⟩, rises_one (by decide)⟩ (fun o ho => by
  simp only [List.mem_cons, List.not_mem_nil, or_false] at ho
  subst ho
  exact ⟨rfl, by decide⟩)
theorem ex_need0 : ansA (exL []) 2 (retA (needO (exL []) (2 : Int).toNat)) = (100, 0) := by rw [ansA_ok good0 (by decide)]; decide +kernel
theorem ex_need1 : ansA (exL [⟨2, 1, 0, 3, 110⟩]) 2 (retA (needO (exL [⟨2, 1, 0, 3, 110⟩]) (2 : Int).toNat)) = (190, 0) := by rw [ansA_ok good1 (by simp [exL])]; decide +kernel
theorem ex_need2 : ansA (exL [⟨2, 1, 0, -5, 100⟩]) 2 (retA (needO (exL [⟨2, 1, 0, -5, 100⟩]) (2 : Int).toNat)) = (100, 0) := by rw [ansA_ok good2 (by simp [exL])]; decide +kernel
theorem ex_exc : ansA (exL []) 2 (retA (excessO (exL []) (2 : Int).toNat)) = (900, 0) := by rw [ansA_ok good0 (by decide)]; decide +kernel
theorem bdOrd (q p : Int) (W : World) : (Instr.build 46 #[(0, .int .i64 2), (1, .int .i64 1), (3, .int .i64 q), (4, .int .i64 p)]).run Tryz.prog W = .ok (.agg #[.int .i64 2, .int .i64 1, .int .i64 0, .int .i64 q, .int .i64 p]) W := by kernel_rfl
set_option maxRecDepth 100000 in
set_option maxHeartbeats 4000000 in
theorem wakes_any (w : World) (hG : Grd w) : Calls Tryz.prog 11 #[] w fun e w' => e = .returned (.bool true) ∧ Below w.heap.size w w' := by
  have GR := Lib.hid hG
  have b1 := fun q p W => bdOrd q p W
  have E0 := Lib.hid (fun W => example_any W none 0 0 [] row_nil)
  have N := Lib.hid (fun (W : World) (V : LedV) (os : List Ord) (h : LedAt W V (exL os)) (hG : Grd W) => mneed_any W V (exL os) h (by show (3 : Nat) ≤ 1024; omega) hG 2)
  have X := Lib.hid (fun (W : World) (V : LedV) (os : List Ord) (h : LedAt W V (exL os)) (hG : Grd W) => mexcess_any W V (exL os) h (by show (3 : Nat) ≤ 1024; omega) hG 2)
  clear hG
  go_enter Tryz.func11, Tryz.ntmps11
  go_wp2_with fail
  refine (E0.out _).mono ?_
  rintro e w1 ⟨V1, rfl, hl, hb⟩
  have X1 := Lib.hid (And.intro hl hb)
  clear hl hb
  obtain ⟨LV1, hLV1⟩ : ∃ LV, LV = V1.val (exL []) := ⟨_, rfl⟩
  have C1 := Lib.hid (N.out w1 V1 [] X1.out.1 (GR.out.below X1.out.2))
  rw [ex_need0] at C1
  rw [← hLV1] at C1 ⊢
  clear hLV1
  go_wp2_with fail
  refine C1.out.mono ?_
  rintro e w2 ⟨rfl, hb⟩
  have B2 := Lib.hid (X1.out.2.trans (hb.mono X1.out.2.size))
  clear hb
  obtain ⟨W3, hW3⟩ : ∃ W3, W3 = w2.alloc (.cells #[.int .i64 2, .int .i64 1, .int .i64 0, .int .i64 3, .int .i64 110] 46) := ⟨_, rfl⟩
  have B3 := Lib.hid (show Below w.heap.size w W3 from by rw [hW3]; exact B2.out.alloc B2.out.size _)
  have E3 := Lib.hid (example_any W3 (some ⟨w2.heap.size, 0, none⟩) 1 1 [⟨2, 1, 0, 3, 110⟩] (by rw [hW3]; exact row_one (heap_alloc_new _ _) rfl))
  go_wp2_with fail
  rw [← hW3]
  clear hW3
  refine E3.out.mono ?_
  rintro e w4 ⟨V4, rfl, hl, hb⟩
  have X4 := Lib.hid (And.intro hl (B3.out.trans (hb.mono B3.out.size)))
  clear hl hb
  obtain ⟨LV4, hLV4⟩ : ∃ LV, LV = V4.val (exL [⟨2, 1, 0, 3, 110⟩]) := ⟨_, rfl⟩
  have C4 := Lib.hid (N.out w4 V4 [⟨2, 1, 0, 3, 110⟩] X4.out.1 (GR.out.below X4.out.2))
  rw [ex_need1] at C4
  rw [← hLV4] at C4 ⊢
  clear hLV4
  go_wp2_with fail
  refine C4.out.mono ?_
  rintro e w5 ⟨rfl, hb⟩
  have B5 := Lib.hid (X4.out.2.trans (hb.mono X4.out.2.size))
  clear hb
  obtain ⟨W6, hW6⟩ : ∃ W6, W6 = w5.alloc (.cells #[.int .i64 2, .int .i64 1, .int .i64 0, .int .i64 (-5), .int .i64 100] 46) := ⟨_, rfl⟩
  have B6 := Lib.hid (show Below w.heap.size w W6 from by rw [hW6]; exact B5.out.alloc B5.out.size _)
  have E6 := Lib.hid (example_any W6 (some ⟨w5.heap.size, 0, none⟩) 1 1 [⟨2, 1, 0, -5, 100⟩] (by rw [hW6]; exact row_one (heap_alloc_new _ _) rfl))
  go_wp2_with fail
  rw [← hW6]
  clear hW6
  refine E6.out.mono ?_
  rintro e w7 ⟨V7, rfl, hl, hb⟩
  have X7 := Lib.hid (And.intro hl (B6.out.trans (hb.mono B6.out.size)))
  clear hl hb
  obtain ⟨LV7, hLV7⟩ : ∃ LV, LV = V7.val (exL [⟨2, 1, 0, -5, 100⟩]) := ⟨_, rfl⟩
  have C7 := Lib.hid (N.out w7 V7 [⟨2, 1, 0, -5, 100⟩] X7.out.1 (GR.out.below X7.out.2))
  rw [ex_need2] at C7
  rw [← hLV7] at C7 ⊢
  clear hLV7
  go_wp2_with fail
  refine C7.out.mono ?_
  rintro e w8 ⟨rfl, hb⟩
  have B8 := Lib.hid (X7.out.2.trans (hb.mono X7.out.2.size))
  clear hb
  go_wp2_with fail
  refine (E0.out _).mono ?_
  rintro e w9 ⟨V9, rfl, hl, hb⟩
  have X9 := Lib.hid (And.intro hl (B8.out.trans (hb.mono B8.out.size)))
  clear hl hb
  obtain ⟨LV9, hLV9⟩ : ∃ LV, LV = V9.val (exL []) := ⟨_, rfl⟩
  have C9 := Lib.hid (X.out w9 V9 [] X9.out.1 (GR.out.below X9.out.2))
  rw [ex_exc] at C9
  rw [← hLV9] at C9 ⊢
  clear hLV9
  go_wp2_with fail
  refine C9.out.mono ?_
  rintro e w10 ⟨rfl, hb⟩
  have B10 := Lib.hid (X9.out.2.trans (hb.mono X9.out.2.size))
  clear hb
  go_wp2_with fail
  go_ret
  exact ⟨rfl, B10.out⟩
set_option maxRecDepth 100000 in
set_option maxHeartbeats 4000000 in
theorem wide_any (w : World) (V : LedV) (L : Led) (h : LedAt w V L) (hb : L.Short) :
    Calls Tryz.prog 12 #[V.val L] w fun e w' => e = .returned (.bool (decide (1024 < L.bulk))) ∧ Below w.heap.size w w' := by
  obtain ⟨b1, b2, b3, b4, b5, b6, b7, b8⟩ := hb
  obtain ⟨a1, c1, a2, c2, a3, c3, a4, c4, a5, c5, a6, c6, a7, c7, a8, c8, e1, e2, e3, e4, e5, e6, e7, e8⟩ := LedAt.opened h
  have R := Lib.hid (show decide (1024 < L.bulk) = decide ((1024 : Int) < (((((((L.curs.length : Int) + L.unders.length) + L.instrs.length) + L.poss.length) + L.orders.length) + L.avail.length) + L.locs.length) + L.accts.length) from by
    unfold Led.bulk; rw [Bool.eq_iff_iff]; simp only [decide_eq_true_eq]; omega)
  rw [R.out]
  unfold LedV.val LedV.cells
  rw [e1, e2, e3, e4, e5, e6, e7, e8]
  obtain ⟨n1, hn1⟩ : ∃ n, n = L.curs.length := ⟨_, rfl⟩
  obtain ⟨n2, hn2⟩ : ∃ n, n = L.unders.length := ⟨_, rfl⟩
  obtain ⟨n3, hn3⟩ : ∃ n, n = L.instrs.length := ⟨_, rfl⟩
  obtain ⟨n4, hn4⟩ : ∃ n, n = L.accts.length := ⟨_, rfl⟩
  obtain ⟨n5, hn5⟩ : ∃ n, n = L.poss.length := ⟨_, rfl⟩
  obtain ⟨n6, hn6⟩ : ∃ n, n = L.orders.length := ⟨_, rfl⟩
  obtain ⟨n7, hn7⟩ : ∃ n, n = L.avail.length := ⟨_, rfl⟩
  obtain ⟨n8, hn8⟩ : ∃ n, n = L.locs.length := ⟨_, rfl⟩
  rw [← hn1] at b1
  rw [← hn2] at b2
  rw [← hn3] at b3
  rw [← hn4] at b4
  rw [← hn5] at b5
  rw [← hn6] at b6
  rw [← hn7] at b7
  rw [← hn8] at b8
  rw [← hn1, ← hn2, ← hn3, ← hn4, ← hn5, ← hn6, ← hn7, ← hn8]
  clear h e1 e2 e3 e4 e5 e6 e7 e8 hn1 hn2 hn3 hn4 hn5 hn6 hn7 hn8 R
  go_enter Tryz.func12, Tryz.ntmps12
  go_wp2_with fail
  go_ret
  exact ⟨rfl, (Below.refl _ _).alloc (Nat.le_refl _) _⟩
end Go.Proofs.YtcjbhgnlmmeeeaaGreatDoor
/- From the rows' list of variables to what the walks ask of them. -/
namespace Go.Proofs.YtcjbhgnlmmeeeaaGreatDoor
open Go.RowKit Go.Bw Go.Maps
set_option linter.unusedVariables false

/-- The list that all rows of this seat bear. -/
def laidList : List (String × DataW Unit) := Rows.marginNeedsRow.laid
theorem var_block {w : World} {name : String} {cs : Array Value} {g : Nat} (hg : Tryz.prog.globalNamed name = some g) (h : w.var? Tryz.prog name = some cs) : ∃ t f, w.heap[g]? = some (.cells cs t f) := by
  unfold World.var? at h
  rw [hg] at h
  simp only [Option.bind_some] at h
  split at h
  · rename_i cs' t f hh
    cases h
    exact ⟨t, f, hh⟩
  · cases h
theorem laid_in {W : World} (hL : laidMetH Tryz.prog laidList W) : Grd W := by
  rw [MakeChecks.laidMetH_plain _ _ _ (by kernel_rfl)] at hL
  have h1 : laidMet Tryz.prog (("bulwark/grid.shifts", Lib.tabData .i64 [-2000, -1000, -500, 0, 500, 1000, 2000]) :: laidList.drop 2) W := hL.tail
  have h2 : laidMet Tryz.prog (("bulwark/grid.vols", Lib.tabData .i64 [-2500, 0, 2500]) :: laidList.drop 3) W := hL.tail.tail
  have g1 : Tryz.prog.globalNamed "bulwark/grid.shifts" = some 2 := by kernel_rfl
  have g2 : Tryz.prog.globalNamed "bulwark/grid.vols" = some 3 := by kernel_rfl
  have t1 := Lib.tabIs_of_head g1 (by kernel_rfl) Tryz.underlying175 Tryz.underlying3 (by kernel_rfl) (by kernel_rfl) h1
  have t2 := Lib.tabIs_of_head g2 (by kernel_rfl) Tryz.underlying38 Tryz.underlying3 (by kernel_rfl) (by kernel_rfl) h2
  obtain ⟨x1, y1, e1⟩ := var_block g1 t1
  obtain ⟨x2, y2, e2⟩ := var_block g2 t2
  exact ⟨⟨x1, y1, e1⟩, ⟨x2, y2, e2⟩⟩
end Go.Proofs.YtcjbhgnlmmeeeaaGreatDoor

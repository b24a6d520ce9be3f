/- ledger.First; the laws' example, walked. -/
import Derived.Test.YtcjbhgnlmmeeeaaGreatDoorLook
import Derived.Test.YtcjbhgnlmmeeeaaGreatDoorMgA
import Derived.Test.YtcjbhgnlmmeeeaaGreatDoorLedO
namespace Go.Proofs.YtcjbhgnlmmeeeaaGreatDoor
open Go.RowKit Go.Bw Go.Maps Go.Shelf
set_option linter.unusedVariables false
set_option linter.unusedSimpArgs false

theorem bdAcct (n c : Nat) (a : Option Addr) (W : World) : (Instr.build 48 #[(0, .int .i64 (-1)), (1, .slice a n c)]).run Tryz.prog W = .ok (.agg #[.int .i64 (-1), .slice a n c, .bool false, .int .i64 0]) W := by kernel_rfl
theorem bdLed (a1 a4 : Option Addr) (n1 c1 n4 c4 : Nat) (W : World) : (Instr.build 31 #[(1, .slice a1 n1 c1), (4, .slice a4 n4 c4)]).run Tryz.prog W = .ok (.agg #[.int .i64 0, .slice a1 n1 c1, .slice none 0 0, .slice none 0 0, .slice a4 n4 c4, .slice none 0 0, .slice none 0 0, .slice none 0 0, .slice none 0 0]) W := by kernel_rfl
/-- The first ledger's blocks. -/
structure FirstAt (w w' : World) (H : Nat) : Prop where
  c1 : w'.heap[H + 1]? = some (.cells #[.int .i64 1000000, .int .i64 0] 69 (0, 0))
  c2 : w'.heap[H + 1 + 1]? = some (.cells #[.int .i64 0] 3 (0, 0))
  c3 : w'.heap[H + 1 + 1 + 1]? = some (.cells #[.int .i64 0] 3 (0, 0))
  c4 : w'.heap[H + 1 + 1 + 1 + 1]? = some (.cells #[.int .i64 (-1), .slice (some ⟨H + 1 + 1, 0, none⟩) 1 1, .bool false, .int .i64 0, .int .i64 (-1), .slice (some ⟨H + 1 + 1 + 1, 0, none⟩) 1 1, .bool false, .int .i64 0] 48 (0, 0))
  low : Below H w w'
  size : w'.heap.size = H + 5
theorem alloc_at (w : World) (o p : Obj) {n : Nat} {x : Obj} (h : w.heap[n]? = some x) : (w.alloc o).heap[n]? = some x := (Mod.refl (fun _ => False) w).alloc o |>.heap h (fun h => h)
theorem new_at (w : World) (o : Obj) {n : Nat} (h : n = w.heap.size) : (w.alloc o).heap[n]? = some o := by subst h; exact heap_alloc_new w o
set_option maxRecDepth 100000 in
set_option maxHeartbeats 4000000 in
theorem first_any (w : World) :
    Calls Tryz.prog 72 #[] w fun e w' => e = .returned (.agg #[.int .i64 0, .slice (some ⟨w.heap.size + 1, 0, none⟩) 1 1, .slice none 0 0, .slice none 0 0, .slice (some ⟨w.heap.size + 1 + 1 + 1 + 1, 0, none⟩) 2 2, .slice none 0 0, .slice none 0 0, .slice none 0 0, .slice none 0 0]) ∧ FirstAt w w' w.heap.size := by
  have b1 := fun n c a W => bdAcct n c a W
  have b2 := fun a1 a4 n1 c1 n4 c4 W => bdLed a1 a4 n1 c1 n4 c4 W
  go_enter Tryz.func72, Tryz.ntmps72
  go_wp2_with fail
  refine bodyPost_ret (v := .agg #[.int .i64 0, .slice (some ⟨w.heap.size + 1, 0, none⟩) 1 1, .slice none 0 0, .slice none 0 0, .slice (some ⟨w.heap.size + 1 + 1 + 1 + 1, 0, none⟩) 2 2, .slice none 0 0, .slice none 0 0, .slice none 0 0, .slice none 0 0]) (by simp [results, Tryz.results72, go_sem]) rfl ⟨rfl, ?_⟩
  refine ⟨?_, ?_, ?_, ?_, ?_, by simp⟩
  · exact alloc_at _ _ (.map #[] 0) (alloc_at _ _ (.map #[] 0) (alloc_at _ _ (.map #[] 0) (new_at _ _ (by simp))))
  · exact alloc_at _ _ (.map #[] 0) (alloc_at _ _ (.map #[] 0) (new_at _ _ (by simp)))
  · exact alloc_at _ _ (.map #[] 0) (new_at _ _ (by simp))
  · exact new_at _ _ (by simp)
  · exact (((((Below.refl _ _).alloc (Nat.le_refl _) _).alloc (by simp) _).alloc (by simp; omega) _).alloc (by simp; omega) _).alloc (by simp; omega) _
theorem bdUnd (s : ByteArray) (p : Int) (W : World) : (Instr.build 60 #[(0, .string s), (2, .int .i64 p)]).run Tryz.prog W = .ok (.agg #[.string s, .int .i64 0, .int .i64 p, .int .i64 0]) W := by kernel_rfl
theorem bdIns (W : World) : (Instr.build 54 #[(0, .int .i64 1), (2, .int .i64 1), (6, .int .i64 100)]).run Tryz.prog W = .ok (.agg #[.int .i64 1, .int .i64 0, .int .i64 1, .int .i64 0, .int .i64 0, .bool false, .int .i64 100]) W := by kernel_rfl
theorem bdAcct9 (n c : Nat) (a : Option Addr) (W : World) : (Instr.build 48 #[(0, .int .i64 (-1)), (1, .slice a n c), (3, .int .i64 9)]).run Tryz.prog W = .ok (.agg #[.int .i64 (-1), .slice a n c, .bool false, .int .i64 9]) W := by kernel_rfl
theorem infoAcct : (Tryz.prog.info? 48).map (fun i => (i.zero, i.size, i.bytes)) = some (some (.agg #[.int .i64 0, .slice none 0 0, .bool false, .int .i64 0]), 4, 48) := by kernel_rfl
/-- An account is appended to the two first ones. -/
theorem app_acct (w1 w2 : World) (g n k0 k1 k2 : Nat) (hg : w2.heap[g]? = some (.cells #[.int .i64 (-1), .slice (some ⟨k0, 0, none⟩) 1 1, .bool false, .int .i64 0, .int .i64 (-1), .slice (some ⟨k1, 0, none⟩) 1 1, .bool false, .int .i64 0] 48 (0, 0)))
    (hn : w2.heap[n]? = some (.cells #[.int .i64 (-1), .slice (some ⟨k2, 0, none⟩) 1 1, .bool false, .int .i64 9] 48 (0, 0))) :
    ∃ v' w3, (Builtin.append_ #[25, 25] 25 #[.slice (some ⟨g, 0, none⟩) 2 2, .slice (some ⟨n, 0, none⟩) 1 1]).run Tryz.prog w2 = .ok v' w3 ∧
      w3.ownsRow 0 48 4 v' 3 [.int .i64 (-1), .slice (some ⟨k0, 0, none⟩) 1 1, .bool false, .int .i64 0, .int .i64 (-1), .slice (some ⟨k1, 0, none⟩) 1 1, .bool false, .int .i64 0, .int .i64 (-1), .slice (some ⟨k2, 0, none⟩) 1 1, .bool false, .int .i64 9] ∧ Mod (fun k => k = g) w2 w3 ∧ ∀ k, v'.ownBlock = some k → k = g ∨ k = w2.heap.size := by
  obtain ⟨i0, h1, h2, h3, h4⟩ := info_parts infoAcct
  have ho : w2.ownsRow 0 48 4 (.slice (some ⟨g, 0, none⟩) 2 2) 2 [.int .i64 (-1), .slice (some ⟨k0, 0, none⟩) 1 1, .bool false, .int .i64 0, .int .i64 (-1), .slice (some ⟨k1, 0, none⟩) 1 1, .bool false, .int .i64 0] :=
    ⟨rfl, Or.inr ⟨g, 2, _, rfl, Nat.zero_le _, hg, Nat.le_refl _, by unfold maxLen; omega, rfl, rfl⟩⟩
  have hx : Reads w2 4 (.slice (some ⟨n, 0, none⟩) 1 1) 1 [.int .i64 (-1), .slice (some ⟨k2, 0, none⟩) 1 1, .bool false, .int .i64 9] :=
    ⟨rfl, Or.inr ⟨_, _, rfl, fun j u hj => by
      rw [add_plain, Nat.zero_add, cell_of_heap hn]
      simpa using hj⟩⟩
  obtain ⟨v', w3, hrun, ho3, hm3, hb3, _⟩ := run_append_to (P := Tryz.prog) 25 25 48 i0 _ 4 48 Tryz.underlying25 h1 h2 h3 h4 rfl (by decide) _ _ _ ho _ _ _ hx (by simp [Value.oneCell']) (by unfold maxLen; omega) (by omega)
  exact ⟨v', w3, hrun, ho3, hm3.mono (fun k _ h => by simpa [Value.ownBlock] using h.symm), fun k hk => (hb3 k hk).imp (fun h => by simpa [Value.ownBlock] using h.symm) id⟩
/-- The example's ledger. -/
def exL (os : List Ord) : Led := ⟨0, [⟨1000000, 0⟩], [⟨⟨#[65]⟩, 0, 100, 0⟩], [⟨1, 0, 1, 0, 0, false, 100⟩], [⟨-1, [0], false, 0⟩, ⟨-1, [0], false, 0⟩, ⟨-1, [1000], false, 9⟩], [⟨2, 0, 5⟩], os, [0], []⟩
/-- The ledger under way, in block T. -/
def exT (H T : Nat) (c4 c5 c6 c7 : Value) : Array Value := #[.int .i64 0, .slice (some ⟨H + 1 + 1, 0, none⟩) 1 1, .slice (some ⟨T + 1, 0, none⟩) 1 1, .slice (some ⟨T + 1 + 1, 0, none⟩) 1 1, c4, c5, c6, c7, .slice none 0 0]
structure ExAt (w : World) (H T : Nat) (c4 c5 c6 c7 : Value) : Prop where
  t : w.heap[T]? = some (.cells (exT H T c4 c5 c6 c7) 31 (0, 0))
  cu : w.heap[H + 1 + 1]? = some (.cells #[.int .i64 1000000, .int .i64 0] 69 (0, 0))
  k0 : w.heap[H + 1 + 1 + 1]? = some (.cells #[.int .i64 0] 3 (0, 0))
  k1 : w.heap[H + 1 + 1 + 1 + 1]? = some (.cells #[.int .i64 0] 3 (0, 0))
  un : w.heap[T + 1]? = some (.cells #[.string ⟨#[65]⟩, .int .i64 0, .int .i64 100, .int .i64 0] 60 (0, 0))
  ins : w.heap[T + 1 + 1]? = some (.cells #[.int .i64 1, .int .i64 0, .int .i64 1, .int .i64 0, .int .i64 0, .bool false, .int .i64 100] 54 (0, 0))
  ht : T = H + 6
theorem ExAt.mod {w w' : World} {H T : Nat} {c4 c5 c6 c7 : Value} {S : Nat → Prop} (h : ExAt w H T c4 c5 c6 c7) (hm : Mod S w w') (hS : ∀ k, S k → k = H + 1 + 1 + 1 + 1 + 1 ∨ T + 1 + 1 < k ∨ k = H) : ExAt w' H T c4 c5 c6 c7 := by
  have ht := h.ht
  have g : ∀ k, k ≠ H + 1 + 1 + 1 + 1 + 1 → k ≤ T + 1 + 1 ∧ H < k → ¬ S k := fun k h1 h2 h3 => by rcases hS k h3 with e | e | e <;> omega
  exact ⟨hm.heap h.t (g _ (by omega) (by omega)), hm.heap h.cu (g _ (by omega) (by omega)), hm.heap h.k0 (g _ (by omega) (by omega)), hm.heap h.k1 (g _ (by omega) (by omega)), hm.heap h.un (g _ (by omega) (by omega)), hm.heap h.ins (g _ (by omega) (by omega)), ht⟩
theorem ExAt.set {w : World} {H T : Nat} {c4 c5 c6 c7 : Value} (h : ExAt w H T c4 c5 c6 c7) (o : Nat) (v : Value) {d4 d5 d6 d7 : Value} (he : (exT H T c4 c5 c6 c7).setIfInBounds o v = exT H T d4 d5 d6 d7) : ExAt (w.setCell ⟨T, o, none⟩ v) H T d4 d5 d6 d7 := by
  have ht := h.ht
  have g : ∀ k, k ≠ T → (w.setCell ⟨T, o, none⟩ v).heap[k]? = w.heap[k]? := fun k hk => heap_setCell_ne hk
  refine ⟨?_, (g _ (by omega)).trans h.cu, (g _ (by omega)).trans h.k0, (g _ (by omega)).trans h.k1, (g _ (by omega)).trans h.un, (g _ (by omega)).trans h.ins, ht⟩
  rw [← he]; exact heap_setCell_at h.t o v
/-- The example's ledger, made. -/
def ExOut (w : World) (os : List Ord) (e : Ending) (w' : World) : Prop := ∃ V, e = .returned (V.val (exL os)) ∧ LedAt w' V (exL os) ∧ Below w.heap.size w w'
theorem row_one {α : Type} {w : World} {n : Nat} {f : α → List Value} {b : Nat} {cs : Array Value} {T : TypeId} {fr : Nat × Nat} {x : α} (h : w.heap[b]? = some (.cells cs T fr)) (hc : cs.toList = f x) : RowOf w n f (.slice (some ⟨b, 0, none⟩) 1 1) [x] := by
  refine ⟨_, 1, rfl, Nat.le_refl _, by unfold maxLen; omega, (fun h => by cases h), fun i y hi => ⟨b, 0, rfl, lt_of_heap h, fun j u hj => ?_⟩⟩
  have hi0 : i = 0 := by have := (List.getElem?_eq_some_iff.1 hi).1; simpa using this
  subst hi0
  cases hi
  rw [cell_of_heap h, show 0 + 0 * n + j = j by omega]
  rw [← hc] at hj
  simpa using hj
theorem row_nil {α : Type} {w : World} {n : Nat} {f : α → List Value} : RowOf w n f (.slice none 0 0) ([] : List α) := ⟨none, 0, rfl, Nat.le_refl _, Nat.zero_le _, fun _ => rfl, fun i x hi => by simp at hi⟩
theorem ex_end {w w' : World} {H T P A k2 : Nat} {ao : Option Addr} {no co : Nat} {v4 : Value} {os : List Ord} (hb : Below w.heap.size w w') (h : ExAt w' H T v4 (.slice (some ⟨P, 0, none⟩) 1 1) (.slice ao no co) (.slice (some ⟨A, 0, none⟩) 1 1))
    (hk2 : w'.heap[k2]? = some (.cells #[.int .i64 1000] 3 (0, 0))) (hp : w'.heap[P]? = some (.cells #[.int .i64 2, .int .i64 0, .int .i64 5] 43 (0, 0))) (ha : w'.heap[A]? = some (.cells #[.int .i64 0] 3 (0, 0)))
    (hacc : w'.ownsRow 0 48 4 v4 3 [.int .i64 (-1), .slice (some ⟨H + 1 + 1 + 1, 0, none⟩) 1 1, .bool false, .int .i64 0, .int .i64 (-1), .slice (some ⟨H + 1 + 1 + 1 + 1, 0, none⟩) 1 1, .bool false, .int .i64 0, .int .i64 (-1), .slice (some ⟨k2, 0, none⟩) 1 1, .bool false, .int .i64 9])
    (ho : RowOf w' 5 Ord.cells (.slice ao no co) os) :
    ExOut w os (.returned (.agg (exT H T v4 (.slice (some ⟨P, 0, none⟩) 1 1) (.slice ao no co) (.slice (some ⟨A, 0, none⟩) 1 1)))) w' := by
  have own : OwnOf w' 0 48 4 Acc.cells v4 [(⟨-1, [0], false, 0⟩, .slice (some ⟨H + 1 + 1 + 1, 0, none⟩) 1 1), (⟨-1, [0], false, 0⟩, .slice (some ⟨H + 1 + 1 + 1 + 1, 0, none⟩) 1 1), (⟨-1, [1000], false, 9⟩, .slice (some ⟨k2, 0, none⟩) 1 1)] := hacc
  refine ⟨⟨.slice (some ⟨H + 1 + 1, 0, none⟩) 1 1, .slice (some ⟨T + 1, 0, none⟩) 1 1, .slice (some ⟨T + 1 + 1, 0, none⟩) 1 1, v4, .slice (some ⟨P, 0, none⟩) 1 1, .slice ao no co, .slice (some ⟨A, 0, none⟩) 1 1, .slice none 0 0, [(⟨-1, [0], false, 0⟩, .slice (some ⟨H + 1 + 1 + 1, 0, none⟩) 1 1), (⟨-1, [0], false, 0⟩, .slice (some ⟨H + 1 + 1 + 1 + 1, 0, none⟩) 1 1), (⟨-1, [1000], false, 9⟩, .slice (some ⟨k2, 0, none⟩) 1 1)]⟩, rfl, ⟨row_one h.cu rfl, row_one h.un rfl, row_one h.ins rfl, rfl, own.row acccells_len (by decide), ?_, row_one hp rfl, ho, row_one ha rfl, row_nil, ?_, ?_⟩, hb⟩
  · intro p hp
    simp only [List.mem_cons, List.not_mem_nil, or_false] at hp
    rcases hp with rfl | rfl | rfl
    · exact row_one h.k0 rfl
    · exact row_one h.k1 rfl
    · exact row_one hk2 rfl
  · intro u hu
    simp only [exL, List.mem_cons, List.not_mem_nil, or_false] at hu
    subst hu
    show (1 : Nat) ≤ maxLen
    unfold maxLen; omega
  · intro a ha x hx
    simp only [exL, List.mem_cons, List.not_mem_nil, or_false] at ha
    rcases ha with rfl | rfl | rfl <;> simp only [List.mem_cons, List.not_mem_nil, or_false] at hx <;> subst hx <;> omega
set_option maxRecDepth 100000 in
set_option maxHeartbeats 4000000 in
theorem example_any (w : World) (ao : Option Addr) (no co : Nat) (os : List Ord) (hR : RowOf w 5 Ord.cells (.slice ao no co) os) :
    Calls Tryz.prog 29 #[.slice ao no co] w (ExOut w os) := by
  have b3 := fun s p W => bdUnd s p W
  have b4 := fun W => bdIns W
  have b5 := fun n c a W => bdAcct9 n c a W
  have HR := Lib.hid hR
  clear hR
  obtain ⟨W0, hW0⟩ : ∃ W0, W0 = w.alloc (.cells #[.int .i64 0, .slice none 0 0, .slice none 0 0, .slice none 0 0, .slice none 0 0, .slice none 0 0, .slice none 0 0, .slice none 0 0, .slice none 0 0] 31) := ⟨_, rfl⟩
  have Z0 := Lib.hid (show W0.heap[w.heap.size]? = some (.cells #[.int .i64 0, .slice none 0 0, .slice none 0 0, .slice none 0 0, .slice none 0 0, .slice none 0 0, .slice none 0 0, .slice none 0 0, .slice none 0 0] 31 (0, 0)) ∧ Below w.heap.size w W0 ∧ W0.heap.size = w.heap.size + 1 from by rw [hW0]; exact ⟨heap_alloc_new _ _, (Below.refl _ _).alloc (Nat.le_refl _) _, by simp⟩)
  go_enter Tryz.func29, Tryz.ntmps29
  go_wp2_with fail
  rw [← hW0]
  clear hW0
  refine (first_any W0).mono ?_
  rintro e w1 ⟨rfl, hf⟩
  rw [Z0.out.2.2] at hf ⊢
  have F1 := Lib.hid hf
  clear hf
  go_upto_region 4 with (fail)
  obtain ⟨W2, hW2⟩ : ∃ W2, W2 = ((w1.alloc (.cells #[.int .i64 0, .slice (some ⟨w.heap.size + 1 + 1, 0, none⟩) 1 1, .slice (some ⟨w1.heap.size + 1, 0, none⟩) 1 1, .slice (some ⟨w1.heap.size + 1 + 1, 0, none⟩) 1 1, .slice (some ⟨w.heap.size + 1 + 1 + 1 + 1 + 1, 0, none⟩) 2 2, .slice none 0 0, .slice none 0 0, .slice none 0 0, .slice none 0 0] 31)).alloc (.cells #[.string ⟨#[65]⟩, .int .i64 0, .int .i64 100, .int .i64 0] 60)).alloc (.cells #[.int .i64 1, .int .i64 0, .int .i64 1, .int .i64 0, .int .i64 0, .bool false, .int .i64 100] 54) := ⟨_, rfl⟩
  have M2 := Lib.hid (show Mod (fun _ => False) w1 W2 from by rw [hW2]; exact (((Mod.refl (fun _ => False) w1).alloc _).alloc _).alloc _)
  have X2 := Lib.hid (show ExAt W2 w.heap.size w1.heap.size (.slice (some ⟨w.heap.size + 1 + 1 + 1 + 1 + 1, 0, none⟩) 2 2) (.slice none 0 0) (.slice none 0 0) (.slice none 0 0) ∧ W2.heap[w.heap.size + 1 + 1 + 1 + 1 + 1]? = some (.cells #[.int .i64 (-1), .slice (some ⟨w.heap.size + 1 + 1 + 1, 0, none⟩) 1 1, .bool false, .int .i64 0, .int .i64 (-1), .slice (some ⟨w.heap.size + 1 + 1 + 1 + 1, 0, none⟩) 1 1, .bool false, .int .i64 0] 48 (0, 0)) ∧ Below w.heap.size w W2 ∧ W2.heap.size = w1.heap.size + 3 ∧ W2.heap[w.heap.size]? = some (.cells #[.int .i64 0, .slice none 0 0, .slice none 0 0, .slice none 0 0, .slice none 0 0, .slice none 0 0, .slice none 0 0, .slice none 0 0, .slice none 0 0] 31 (0, 0)) from by
    have f := F1.out
    have zz := (f.low).block w.heap.size (by omega)
    refine ⟨⟨?_, M2.out.heap f.c1 (fun h => h), M2.out.heap f.c2 (fun h => h), M2.out.heap f.c3 (fun h => h), ?_, ?_, f.size⟩, M2.out.heap f.c4 (fun h => h), Z0.out.2.1.trans ((show Below W0.heap.size W0 W2 from ((Mod.of_below (show Below W0.heap.size W0 w1 from by rw [Z0.out.2.2]; exact f.low)).trans M2.out (fun _ _ h => h)).toBelow).mono (by rw [Z0.out.2.2]; omega)), by rw [hW2]; simp, M2.out.heap (zz.trans Z0.out.1) (fun h => h)⟩
    · rw [hW2]; exact alloc_at _ _ (.map #[] 0) (alloc_at _ _ (.map #[] 0) (heap_alloc_new w1 _))
    · rw [hW2]; exact alloc_at _ _ (.map #[] 0) (new_at _ _ (by simp))
    · rw [hW2]; exact new_at _ _ (by simp))
  rw [← hW2]
  clear hW2 M2 F1 Z0
  obtain ⟨H, hH⟩ : ∃ H, H = w.heap.size := ⟨_, rfl⟩
  obtain ⟨T, hT⟩ : ∃ T, T = w1.heap.size := ⟨_, rfl⟩
  have BW := Lib.hid (show Below w.heap.size w W2 from X2.out.2.2.1)
  have HW := Lib.hid hH
  rw [← hH, ← hT] at X2 ⊢
  clear hH hT
  obtain ⟨W4, hW4⟩ : ∃ W4, W4 = (W2.alloc (.cells #[.int .i64 1000] 3)).alloc (.cells #[.int .i64 (-1), .slice (some ⟨W2.heap.size, 0, none⟩) 1 1, .bool false, .int .i64 9] 48) := ⟨_, rfl⟩
  have M4 := Lib.hid (show Mod (fun _ => False) W2 W4 from by rw [hW4]; exact ((Mod.refl (fun _ => False) W2).alloc _).alloc _)
  have N4 := Lib.hid (show W4.heap[W2.heap.size]? = some (.cells #[.int .i64 1000] 3 (0, 0)) ∧ W4.heap[W2.heap.size + 1]? = some (.cells #[.int .i64 (-1), .slice (some ⟨W2.heap.size, 0, none⟩) 1 1, .bool false, .int .i64 9] 48 (0, 0)) ∧ W4.heap.size = W2.heap.size + 2 from by
    rw [hW4]; exact ⟨alloc_at _ _ (.map #[] 0) (heap_alloc_new _ _), new_at _ _ (by simp), by simp⟩)
  obtain ⟨v4, w5, R5, O5, M5, D5⟩ := app_acct W2 W4 (H + 1 + 1 + 1 + 1 + 1) (W2.heap.size + 1) _ _ _ (M4.out.heap X2.out.2.1 (fun h => h)) N4.out.2.1
  obtain ⟨a4, c4, rfl, _⟩ := ownsRow_slice O5
  have OD := Lib.hid (show ∀ k, (Value.slice a4 3 c4).ownBlock = some k → ¬ (k = H ∨ k = T) from fun k hk => by
    have h1 := D5 k hk; have h2 := X2.out.1.ht; have h3 := X2.out.2.2.2.1; have h4 := N4.out.2.2; omega)
  rw [hW4] at R5
  have R5' := Lib.hid R5
  have O5' := Lib.hid O5
  have M5' := Lib.hid (show Mod (fun k => k = H + 1 + 1 + 1 + 1 + 1) W2 w5 from (M4.out.mono (fun _ _ h => h.elim)).trans M5 (fun _ _ h => h))
  have X5 := Lib.hid (X2.out.1.mod M5'.out (fun k h => Or.inl h))
  have K5 := Lib.hid (show w5.heap[W2.heap.size]? = some (.cells #[.int .i64 1000] 3 (0, 0)) ∧ W2.heap.size < w5.heap.size from ⟨M5.heap N4.out.1 (by have := X2.out.2.2.2.1; have := X2.out.1.ht; omega), by have := M5.size; have := N4.out.2.2; omega⟩)
  have d4 : W2.cell? ⟨T, 4, none⟩ = some (.slice (some ⟨H + 1 + 1 + 1 + 1 + 1, 0, none⟩) 2 2) := (cell_of_heap X2.out.1.t 4).trans rfl
  have e4 : w5.cell? ⟨T, 4, none⟩ = some (.slice (some ⟨H + 1 + 1 + 1 + 1 + 1, 0, none⟩) 2 2) := (cell_of_heap X5.out.t 4).trans rfl
  have f4 := free_of_heap X5.out.t 4
  clear R5 O5 M5 D5 hW4
  go_upto_region 5 with (at_builtin; refine wpList_append_run rfl (.tmp 12) (.tmp 15) 25 rfl rfl rfl R5'.out ?_)
  have HT := Lib.hid (show T = H + 6 ∧ T + 1 + 1 < W2.heap.size ∧ H = w.heap.size from ⟨X2.out.1.ht, by have := X2.out.2.2.2.1; omega, HW.out⟩)
  obtain ⟨W6, hW6⟩ : ∃ W6, W6 = w5.setCell ⟨T, 4, none⟩ (.slice a4 3 c4) := ⟨_, rfl⟩
  have M6 := Lib.hid (show Mod (fun k => k = T) w5 W6 from by rw [hW6]; exact (Mod.refl _ _).setCell _ (fun _ => rfl))
  have X6 := Lib.hid (show ExAt W6 H T (.slice a4 3 c4) (.slice none 0 0) (.slice none 0 0) (.slice none 0 0) from by rw [hW6]; exact X5.out.set 4 (.slice a4 3 c4) rfl)
  rw [← hW6]
  have ta6 := alloc_at W6 (.cells #[.int .i64 2, .int .i64 0, .int .i64 5] 43) (.map #[] 0) X6.out.t
  have g5 : (W6.alloc (.cells #[.int .i64 2, .int .i64 0, .int .i64 5] 43)).cell? ⟨T, 5, none⟩ = some (.slice none 0 0) := (cell_of_heap ta6 5).trans rfl
  have z5 := free_of_heap ta6 5
  clear ta6
  clear hW6 d4 e4 f4
  go_upto_region 6 with (fail)
  obtain ⟨W7, hW7⟩ : ∃ W7, W7 = (W6.alloc (.cells #[.int .i64 2, .int .i64 0, .int .i64 5] 43)).setCell ⟨T, 5, none⟩ (.slice (some ⟨W6.heap.size, 0, none⟩) 1 1) := ⟨_, rfl⟩
  have M7 := Lib.hid (show Mod (fun k => k = T) W6 W7 ∧ W7.heap[W6.heap.size]? = some (.cells #[.int .i64 2, .int .i64 0, .int .i64 5] 43 (0, 0)) ∧ T < W6.heap.size from by
    have tl := lt_of_heap X6.out.t
    rw [hW7]
    exact ⟨((Mod.refl (fun k => k = T) W6).alloc _).setCell _ (fun _ => rfl), (heap_setCell_ne (by show W6.heap.size ≠ T; omega)).trans (heap_alloc_new _ _), tl⟩)
  have X7 := Lib.hid (show ExAt W7 H T (.slice a4 3 c4) (.slice (some ⟨W6.heap.size, 0, none⟩) 1 1) (.slice none 0 0) (.slice none 0 0) from by rw [hW7]; exact (X6.out.mod ((Mod.refl (fun _ => False) W6).alloc _) (fun _ h => h.elim)).set 5 _ rfl)
  rw [← hW7]
  obtain ⟨P, hP⟩ : ∃ P, P = W6.heap.size := ⟨_, rfl⟩
  rw [← hP] at M7 X7 ⊢
  have g6 : W7.cell? ⟨T, 6, none⟩ = some (.slice none 0 0) := (cell_of_heap X7.out.t 6).trans rfl
  have z6 := free_of_heap X7.out.t 6
  have ta7 := alloc_at (W7.setCell ⟨T, 6, none⟩ (.slice ao no co)) (.cells #[.int .i64 0] 3) (.map #[] 0) (X7.out.set 6 (.slice ao no co) (d4 := .slice a4 3 c4) (d5 := .slice (some ⟨P, 0, none⟩) 1 1) (d6 := .slice ao no co) (d7 := .slice none 0 0) rfl).t
  have g7 : ((W7.setCell ⟨T, 6, none⟩ (.slice ao no co)).alloc (.cells #[.int .i64 0] 3)).cell? ⟨T, 7, none⟩ = some (.slice none 0 0) := (cell_of_heap ta7 7).trans rfl
  have z7 := free_of_heap ta7 7
  clear ta7
  clear hW7 hP g5 z5
  go_upto_region 8 with (fail)
  obtain ⟨W9, hW9⟩ : ∃ W9, W9 = ((W7.setCell ⟨T, 6, none⟩ (.slice ao no co)).alloc (.cells #[.int .i64 0] 3)).setCell ⟨T, 7, none⟩ (.slice (some ⟨W7.heap.size, 0, none⟩) 1 1) := ⟨_, rfl⟩
  have M9 := Lib.hid (show Mod (fun k => k = T) W7 W9 ∧ W9.heap[W7.heap.size]? = some (.cells #[.int .i64 0] 3 (0, 0)) ∧ T < W7.heap.size from by
    have tl := lt_of_heap X7.out.t
    rw [hW9]
    exact ⟨(((Mod.refl (fun k => k = T) W7).setCell _ (fun _ => rfl)).alloc _).setCell _ (fun _ => rfl), (heap_setCell_ne (by show W7.heap.size ≠ T; omega)).trans (new_at _ _ (by simp [World.setCell])), tl⟩)
  have X9 := Lib.hid (show ExAt W9 H T (.slice a4 3 c4) (.slice (some ⟨P, 0, none⟩) 1 1) (.slice ao no co) (.slice (some ⟨W7.heap.size, 0, none⟩) 1 1) from by rw [hW9]; exact ((X7.out.set 6 (.slice ao no co) rfl).mod ((Mod.refl (fun _ => False) _).alloc _) (fun _ h => h.elim)).set 7 _ rfl)
  rw [← hW9]
  obtain ⟨A, hA⟩ : ∃ A, A = W7.heap.size := ⟨_, rfl⟩
  rw [← hA] at M9 X9 ⊢
  have ZH := Lib.hid (show W9.heap[H]? = some (.cells #[.int .i64 0, .slice none 0 0, .slice none 0 0, .slice none 0 0, .slice none 0 0, .slice none 0 0, .slice none 0 0, .slice none 0 0, .slice none 0 0] 31 (0, 0)) from by
    have ht := HT.out
    have z := X2.out.2.2.2.2
    exact M9.out.1.heap (M7.out.1.heap (M6.out.heap (M5'.out.heap z (by omega)) (by omega)) (by omega)) (by omega))
  clear hW9 hA g6 z6 g7 z7
  have t0 : W9.cell? ⟨T, 0, none⟩ = some (.int .i64 0) := (cell_of_heap X9.out.t 0).trans rfl
  have t1 : W9.cell? ⟨T, 1, none⟩ = some (.slice (some ⟨H + 1 + 1, 0, none⟩) 1 1) := (cell_of_heap X9.out.t 1).trans rfl
  have t2 : W9.cell? ⟨T, 2, none⟩ = some (.slice (some ⟨T + 1, 0, none⟩) 1 1) := (cell_of_heap X9.out.t 2).trans rfl
  have t3 : W9.cell? ⟨T, 3, none⟩ = some (.slice (some ⟨T + 1 + 1, 0, none⟩) 1 1) := (cell_of_heap X9.out.t 3).trans rfl
  have t4 : W9.cell? ⟨T, 4, none⟩ = some (.slice a4 3 c4) := (cell_of_heap X9.out.t 4).trans rfl
  have t5 : W9.cell? ⟨T, 5, none⟩ = some (.slice (some ⟨P, 0, none⟩) 1 1) := (cell_of_heap X9.out.t 5).trans rfl
  have t6 : W9.cell? ⟨T, 6, none⟩ = some (.slice ao no co) := (cell_of_heap X9.out.t 6).trans rfl
  have t7 : W9.cell? ⟨T, 7, none⟩ = some (.slice (some ⟨A, 0, none⟩) 1 1) := (cell_of_heap X9.out.t 7).trans rfl
  have t8 : W9.cell? ⟨T, 8, none⟩ = some (.slice none 0 0) := (cell_of_heap X9.out.t 8).trans rfl
  have h0 : W9.cell? ⟨H, 0, none⟩ = some (.int .i64 0) := (cell_of_heap ZH.out 0).trans rfl
  have q0 := free_of_heap ZH.out 0
  have h1 : W9.cell? ⟨H, 1, none⟩ = some (.slice none 0 0) := (cell_of_heap ZH.out 1).trans rfl
  have q1 := free_of_heap ZH.out 1
  have h2 : W9.cell? ⟨H, 2, none⟩ = some (.slice none 0 0) := (cell_of_heap ZH.out 2).trans rfl
  have q2 := free_of_heap ZH.out 2
  have h3 : W9.cell? ⟨H, 3, none⟩ = some (.slice none 0 0) := (cell_of_heap ZH.out 3).trans rfl
  have q3 := free_of_heap ZH.out 3
  have h4 : W9.cell? ⟨H, 4, none⟩ = some (.slice none 0 0) := (cell_of_heap ZH.out 4).trans rfl
  have q4 := free_of_heap ZH.out 4
  have h5 : W9.cell? ⟨H, 5, none⟩ = some (.slice none 0 0) := (cell_of_heap ZH.out 5).trans rfl
  have q5 := free_of_heap ZH.out 5
  have h6 : W9.cell? ⟨H, 6, none⟩ = some (.slice none 0 0) := (cell_of_heap ZH.out 6).trans rfl
  have q6 := free_of_heap ZH.out 6
  have h7 : W9.cell? ⟨H, 7, none⟩ = some (.slice none 0 0) := (cell_of_heap ZH.out 7).trans rfl
  have q7 := free_of_heap ZH.out 7
  have h8 : W9.cell? ⟨H, 8, none⟩ = some (.slice none 0 0) := (cell_of_heap ZH.out 8).trans rfl
  have q8 := free_of_heap ZH.out 8
  go_wp2_with fail
  obtain ⟨WF, hWF⟩ : ∃ WF, WF = (((((((((W9.setCell ⟨H, 0, none⟩ (.int .i64 0)).setCell ⟨H, 1, none⟩ (.slice (some ⟨H + 1 + 1, 0, none⟩) 1 1)).setCell ⟨H, 2, none⟩ (.slice (some ⟨T + 1, 0, none⟩) 1 1)).setCell ⟨H, 3, none⟩ (.slice (some ⟨T + 1 + 1, 0, none⟩) 1 1)).setCell ⟨H, 4, none⟩ (.slice a4 3 c4)).setCell ⟨H, 5, none⟩ (.slice (some ⟨P, 0, none⟩) 1 1)).setCell ⟨H, 6, none⟩ (.slice ao no co)).setCell ⟨H, 7, none⟩ (.slice (some ⟨A, 0, none⟩) 1 1)).setCell ⟨H, 8, none⟩ (.slice none 0 0)) := ⟨_, rfl⟩
  have MF := Lib.hid (show Mod (fun k => k = H) W9 WF from by
    rw [hWF]
    exact ((((((((((Mod.refl (fun k => k = H) W9)).setCell _ (fun _ => rfl)).setCell _ (fun _ => rfl)).setCell _ (fun _ => rfl)).setCell _ (fun _ => rfl)).setCell _ (fun _ => rfl)).setCell _ (fun _ => rfl)).setCell _ (fun _ => rfl)).setCell _ (fun _ => rfl)).setCell _ (fun _ => rfl))
  have s0 := heap_setCell_at ZH.out 0 (.int .i64 0)
  have s1 := heap_setCell_at s0 1 (.slice (some ⟨H + 1 + 1, 0, none⟩) 1 1)
  have s2 := heap_setCell_at s1 2 (.slice (some ⟨T + 1, 0, none⟩) 1 1)
  have s3 := heap_setCell_at s2 3 (.slice (some ⟨T + 1 + 1, 0, none⟩) 1 1)
  have s4 := heap_setCell_at s3 4 (.slice a4 3 c4)
  have s5 := heap_setCell_at s4 5 (.slice (some ⟨P, 0, none⟩) 1 1)
  have s6 := heap_setCell_at s5 6 (.slice ao no co)
  have s7 := heap_setCell_at s6 7 (.slice (some ⟨A, 0, none⟩) 1 1)
  have s8 := heap_setCell_at s7 8 (.slice none 0 0)
  rw [← hWF] at s8 ⊢
  have SF := Lib.hid (show WF.heap[H]? = some (.cells (exT H T (.slice a4 3 c4) (.slice (some ⟨P, 0, none⟩) 1 1) (.slice ao no co) (.slice (some ⟨A, 0, none⟩) 1 1)) 31 (0, 0)) from s8)
  clear hWF s0 s1 s2 s3 s4 s5 s6 s7 s8
  refine bodyPost_ret (results_cell_row rfl _ _ H 31 _ (0, 0) _ rfl SF.out Tryz.underlying31 rfl (by kernel_rfl)) rfl ?_
  have MA := (((M6.out.mono (T := fun k => k = H ∨ k = T) (fun _ _ h => Or.inr h)).trans M7.out.1 (fun _ _ h => Or.inr h)).trans M9.out.1 (fun _ _ h => Or.inr h)).trans MF.out (fun _ _ h => Or.inl h)
  have ht := HT.out
  have k5 := K5.out
  have M79 := (M9.out.1.mono (T := fun k => k = H ∨ k = T) (fun _ _ h => Or.inr h)).trans MF.out (fun _ _ h => Or.inl h)
  have p6 := M6.out.size
  have p7 := M7.out.1.size
  have BF : Below w.heap.size w WF := ((Mod.of_below BW.out).trans (T := fun k => k = H + 1 + 1 + 1 + 1 + 1 ∨ k = H ∨ k = T) ((M5'.out.mono (fun _ _ h => Or.inl h)).trans MA (fun _ _ h => Or.inr h)) (fun k hk h => by omega)).toBelow
  refine ex_end (k2 := W2.heap.size) BF (X9.out.mod MF.out (fun k h => Or.inr (Or.inr h))) (MA.heap k5.1 (by omega)) (M79.heap M7.out.2.1 (by have := M7.out.2.2; omega)) (MF.out.heap M9.out.2.1 (by have := M9.out.2.2; omega)) ?_ ?_
  · refine ownsRow_kept O5'.out (fun k hk => MA.block k (World.ownsRow.lt O5'.out k hk).2 (fun h => ?_))
    rcases h with h | h
    · exact OD.out k hk (Or.inl h)
    · exact OD.out k hk (Or.inr h)
  · exact HR.out.below BF
end Go.Proofs.YtcjbhgnlmmeeeaaGreatDoor

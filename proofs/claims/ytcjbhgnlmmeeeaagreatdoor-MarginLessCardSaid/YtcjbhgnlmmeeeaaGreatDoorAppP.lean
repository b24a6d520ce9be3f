/- append onto a row of one's own, at the ledger's types: many, or one (printed by tools/gen_appo.py). -/
import Derived.Test.YtcjbhgnlmmeeeaaGreatDoorGk
namespace Go.Proofs.YtcjbhgnlmmeeeaaGreatDoor
open Go.RowKit Go.Bw Go.Maps Go.Shelf
set_option linter.unusedVariables false
set_option linter.unusedSimpArgs false
theorem appr_cur (w : World) (B : Nat) (v : Value) (l : List Cur) (ho : OwnOf w B 69 2 Cur.cells v l) (hB : B ≤ w.heap.size) (xv : Value) (xs : List Cur) (hx : Reads w 2 xv xs.length (xs.flatMap Cur.cells)) (hl : (l.length + xs.length) * 16 ≤ 140737488355328) :
    ∃ v' w', (Builtin.append_ #[22, 22] 22 #[v, xv]).run Tryz.prog w = .ok v' w' ∧ OwnOf w' B 69 2 Cur.cells v' (l ++ xs) ∧ Mod (fun k => v.ownBlock = some k) w w' ∧ ∀ k, v'.ownBlock = some k → v.ownBlock = some k ∨ k = w.heap.size := by
  obtain ⟨i0, g1, g2, g3, g4⟩ := info_parts clone_cur_info
  exact app_own 22 69 i0 _ 2 16 Tryz.underlying22 g1 g2 g3 g4 rfl (by decide) (by decide) Cur.cells w B v l ho hB xv xs hx (fun x hx => one_cur x) hl
theorem app1_cur (w : World) (B : Nat) (v : Value) (l : List Cur) (ho : OwnOf w B 69 2 Cur.cells v l) (hB : B ≤ w.heap.size) (x : Cur) (cs : Array Value) (hcs : cs.toList = Cur.cells x) (hl : (l.length + 1) * 16 ≤ 140737488355328) :
    ∃ v' w', (Builtin.append_ #[22, 22] 22 #[v, .slice (some ⟨w.heap.size, 0, none⟩) 1 1]).run Tryz.prog (w.alloc (.cells cs 69)) = .ok v' w' ∧ OwnOf w' B 69 2 Cur.cells v' (l ++ [x]) ∧ Mod (fun k => v.ownBlock = some k) w w' ∧ ∀ k, v'.ownBlock = some k → v.ownBlock = some k ∨ w.heap.size ≤ k := by
  obtain ⟨i0, g1, g2, g3, g4⟩ := info_parts clone_cur_info
  exact app_one 22 69 i0 _ 2 16 Tryz.underlying22 g1 g2 g3 g4 rfl (by decide) (by decide) Cur.cells curcells_len w B v l ho hB x cs hcs (one_cur x) hl
theorem appr_under (w : World) (B : Nat) (v : Value) (l : List Und) (ho : OwnOf w B 60 4 Und.cells v l) (hB : B ≤ w.heap.size) (xv : Value) (xs : List Und) (hx : Reads w 4 xv xs.length (xs.flatMap Und.cells)) (hl : (l.length + xs.length) * 40 ≤ 140737488355328) :
    ∃ v' w', (Builtin.append_ #[23, 23] 23 #[v, xv]).run Tryz.prog w = .ok v' w' ∧ OwnOf w' B 60 4 Und.cells v' (l ++ xs) ∧ Mod (fun k => v.ownBlock = some k) w w' ∧ ∀ k, v'.ownBlock = some k → v.ownBlock = some k ∨ k = w.heap.size := by
  obtain ⟨i0, g1, g2, g3, g4⟩ := info_parts clone_under_info
  exact app_own 23 60 i0 _ 4 40 Tryz.underlying23 g1 g2 g3 g4 rfl (by decide) (by decide) Und.cells w B v l ho hB xv xs hx (fun x hx => one_under x) hl
theorem app1_under (w : World) (B : Nat) (v : Value) (l : List Und) (ho : OwnOf w B 60 4 Und.cells v l) (hB : B ≤ w.heap.size) (x : Und) (cs : Array Value) (hcs : cs.toList = Und.cells x) (hl : (l.length + 1) * 40 ≤ 140737488355328) :
    ∃ v' w', (Builtin.append_ #[23, 23] 23 #[v, .slice (some ⟨w.heap.size, 0, none⟩) 1 1]).run Tryz.prog (w.alloc (.cells cs 60)) = .ok v' w' ∧ OwnOf w' B 60 4 Und.cells v' (l ++ [x]) ∧ Mod (fun k => v.ownBlock = some k) w w' ∧ ∀ k, v'.ownBlock = some k → v.ownBlock = some k ∨ w.heap.size ≤ k := by
  obtain ⟨i0, g1, g2, g3, g4⟩ := info_parts clone_under_info
  exact app_one 23 60 i0 _ 4 40 Tryz.underlying23 g1 g2 g3 g4 rfl (by decide) (by decide) Und.cells undcells_len w B v l ho hB x cs hcs (one_under x) hl
theorem appr_instr (w : World) (B : Nat) (v : Value) (l : List Ins) (ho : OwnOf w B 54 7 Ins.cells v l) (hB : B ≤ w.heap.size) (xv : Value) (xs : List Ins) (hx : Reads w 7 xv xs.length (xs.flatMap Ins.cells)) (hl : (l.length + xs.length) * 56 ≤ 140737488355328) :
    ∃ v' w', (Builtin.append_ #[24, 24] 24 #[v, xv]).run Tryz.prog w = .ok v' w' ∧ OwnOf w' B 54 7 Ins.cells v' (l ++ xs) ∧ Mod (fun k => v.ownBlock = some k) w w' ∧ ∀ k, v'.ownBlock = some k → v.ownBlock = some k ∨ k = w.heap.size := by
  obtain ⟨i0, g1, g2, g3, g4⟩ := info_parts clone_instr_info
  exact app_own 24 54 i0 _ 7 56 Tryz.underlying24 g1 g2 g3 g4 rfl (by decide) (by decide) Ins.cells w B v l ho hB xv xs hx (fun x hx => one_instr x) hl
theorem app1_instr (w : World) (B : Nat) (v : Value) (l : List Ins) (ho : OwnOf w B 54 7 Ins.cells v l) (hB : B ≤ w.heap.size) (x : Ins) (cs : Array Value) (hcs : cs.toList = Ins.cells x) (hl : (l.length + 1) * 56 ≤ 140737488355328) :
    ∃ v' w', (Builtin.append_ #[24, 24] 24 #[v, .slice (some ⟨w.heap.size, 0, none⟩) 1 1]).run Tryz.prog (w.alloc (.cells cs 54)) = .ok v' w' ∧ OwnOf w' B 54 7 Ins.cells v' (l ++ [x]) ∧ Mod (fun k => v.ownBlock = some k) w w' ∧ ∀ k, v'.ownBlock = some k → v.ownBlock = some k ∨ w.heap.size ≤ k := by
  obtain ⟨i0, g1, g2, g3, g4⟩ := info_parts clone_instr_info
  exact app_one 24 54 i0 _ 7 56 Tryz.underlying24 g1 g2 g3 g4 rfl (by decide) (by decide) Ins.cells inscells_len w B v l ho hB x cs hcs (one_instr x) hl
theorem appr_acct (w : World) (B : Nat) (v : Value) (l : List (Acc × Value)) (ho : OwnOf w B 48 4 Acc.cells v l) (hB : B ≤ w.heap.size) (xv : Value) (xs : List (Acc × Value)) (hx : Reads w 4 xv xs.length (xs.flatMap Acc.cells)) (h1 : ∀ p ∈ xs, p.2.oneCell' = true) (hl : (l.length + xs.length) * 48 ≤ 140737488355328) :
    ∃ v' w', (Builtin.append_ #[25, 25] 25 #[v, xv]).run Tryz.prog w = .ok v' w' ∧ OwnOf w' B 48 4 Acc.cells v' (l ++ xs) ∧ Mod (fun k => v.ownBlock = some k) w w' ∧ ∀ k, v'.ownBlock = some k → v.ownBlock = some k ∨ k = w.heap.size := by
  obtain ⟨i0, g1, g2, g3, g4⟩ := info_parts clone_acct_info
  exact app_own 25 48 i0 _ 4 48 Tryz.underlying25 g1 g2 g3 g4 rfl (by decide) (by decide) Acc.cells w B v l ho hB xv xs hx (fun x hx => one_acct (h1 x hx)) hl
theorem appr_pos (w : World) (B : Nat) (v : Value) (l : List Pos) (ho : OwnOf w B 43 3 Pos.cells v l) (hB : B ≤ w.heap.size) (xv : Value) (xs : List Pos) (hx : Reads w 3 xv xs.length (xs.flatMap Pos.cells)) (hl : (l.length + xs.length) * 24 ≤ 140737488355328) :
    ∃ v' w', (Builtin.append_ #[26, 26] 26 #[v, xv]).run Tryz.prog w = .ok v' w' ∧ OwnOf w' B 43 3 Pos.cells v' (l ++ xs) ∧ Mod (fun k => v.ownBlock = some k) w w' ∧ ∀ k, v'.ownBlock = some k → v.ownBlock = some k ∨ k = w.heap.size := by
  obtain ⟨i0, g1, g2, g3, g4⟩ := info_parts clone_pos_info
  exact app_own 26 43 i0 _ 3 24 Tryz.underlying26 g1 g2 g3 g4 rfl (by decide) (by decide) Pos.cells w B v l ho hB xv xs hx (fun x hx => one_pos x) hl
theorem app1_pos (w : World) (B : Nat) (v : Value) (l : List Pos) (ho : OwnOf w B 43 3 Pos.cells v l) (hB : B ≤ w.heap.size) (x : Pos) (cs : Array Value) (hcs : cs.toList = Pos.cells x) (hl : (l.length + 1) * 24 ≤ 140737488355328) :
    ∃ v' w', (Builtin.append_ #[26, 26] 26 #[v, .slice (some ⟨w.heap.size, 0, none⟩) 1 1]).run Tryz.prog (w.alloc (.cells cs 43)) = .ok v' w' ∧ OwnOf w' B 43 3 Pos.cells v' (l ++ [x]) ∧ Mod (fun k => v.ownBlock = some k) w w' ∧ ∀ k, v'.ownBlock = some k → v.ownBlock = some k ∨ w.heap.size ≤ k := by
  obtain ⟨i0, g1, g2, g3, g4⟩ := info_parts clone_pos_info
  exact app_one 26 43 i0 _ 3 24 Tryz.underlying26 g1 g2 g3 g4 rfl (by decide) (by decide) Pos.cells poscells_len w B v l ho hB x cs hcs (one_pos x) hl
theorem appr_order (w : World) (B : Nat) (v : Value) (l : List Ord) (ho : OwnOf w B 46 5 Ord.cells v l) (hB : B ≤ w.heap.size) (xv : Value) (xs : List Ord) (hx : Reads w 5 xv xs.length (xs.flatMap Ord.cells)) (hl : (l.length + xs.length) * 40 ≤ 140737488355328) :
    ∃ v' w', (Builtin.append_ #[27, 27] 27 #[v, xv]).run Tryz.prog w = .ok v' w' ∧ OwnOf w' B 46 5 Ord.cells v' (l ++ xs) ∧ Mod (fun k => v.ownBlock = some k) w w' ∧ ∀ k, v'.ownBlock = some k → v.ownBlock = some k ∨ k = w.heap.size := by
  obtain ⟨i0, g1, g2, g3, g4⟩ := info_parts clone_order_info
  exact app_own 27 46 i0 _ 5 40 Tryz.underlying27 g1 g2 g3 g4 rfl (by decide) (by decide) Ord.cells w B v l ho hB xv xs hx (fun x hx => one_order x) hl
theorem app1_order (w : World) (B : Nat) (v : Value) (l : List Ord) (ho : OwnOf w B 46 5 Ord.cells v l) (hB : B ≤ w.heap.size) (x : Ord) (cs : Array Value) (hcs : cs.toList = Ord.cells x) (hl : (l.length + 1) * 40 ≤ 140737488355328) :
    ∃ v' w', (Builtin.append_ #[27, 27] 27 #[v, .slice (some ⟨w.heap.size, 0, none⟩) 1 1]).run Tryz.prog (w.alloc (.cells cs 46)) = .ok v' w' ∧ OwnOf w' B 46 5 Ord.cells v' (l ++ [x]) ∧ Mod (fun k => v.ownBlock = some k) w w' ∧ ∀ k, v'.ownBlock = some k → v.ownBlock = some k ∨ w.heap.size ≤ k := by
  obtain ⟨i0, g1, g2, g3, g4⟩ := info_parts clone_order_info
  exact app_one 27 46 i0 _ 5 40 Tryz.underlying27 g1 g2 g3 g4 rfl (by decide) (by decide) Ord.cells ordcells_len w B v l ho hB x cs hcs (one_order x) hl
theorem appr_int (w : World) (B : Nat) (v : Value) (l : List Int) (ho : OwnOf w B 3 1 icell v l) (hB : B ≤ w.heap.size) (xv : Value) (xs : List Int) (hx : Reads w 1 xv xs.length (xs.flatMap icell)) (hl : (l.length + xs.length) * 8 ≤ 140737488355328) :
    ∃ v' w', (Builtin.append_ #[28, 28] 28 #[v, xv]).run Tryz.prog w = .ok v' w' ∧ OwnOf w' B 3 1 icell v' (l ++ xs) ∧ Mod (fun k => v.ownBlock = some k) w w' ∧ ∀ k, v'.ownBlock = some k → v.ownBlock = some k ∨ k = w.heap.size := by
  obtain ⟨i0, g1, g2, g3, g4⟩ := info_parts clone_int_info
  exact app_own 28 3 i0 _ 1 8 Tryz.underlying28 g1 g2 g3 g4 rfl (by decide) (by decide) icell w B v l ho hB xv xs hx (fun x hx => one_int x) hl
theorem app1_int (w : World) (B : Nat) (v : Value) (l : List Int) (ho : OwnOf w B 3 1 icell v l) (hB : B ≤ w.heap.size) (x : Int) (cs : Array Value) (hcs : cs.toList = icell x) (hl : (l.length + 1) * 8 ≤ 140737488355328) :
    ∃ v' w', (Builtin.append_ #[28, 28] 28 #[v, .slice (some ⟨w.heap.size, 0, none⟩) 1 1]).run Tryz.prog (w.alloc (.cells cs 3)) = .ok v' w' ∧ OwnOf w' B 3 1 icell v' (l ++ [x]) ∧ Mod (fun k => v.ownBlock = some k) w w' ∧ ∀ k, v'.ownBlock = some k → v.ownBlock = some k ∨ w.heap.size ≤ k := by
  obtain ⟨i0, g1, g2, g3, g4⟩ := info_parts clone_int_info
  exact app_one 28 3 i0 _ 1 8 Tryz.underlying28 g1 g2 g3 g4 rfl (by decide) (by decide) icell icell_len w B v l ho hB x cs hcs (one_int x) hl
theorem appr_loc (w : World) (B : Nat) (v : Value) (l : List Pos) (ho : OwnOf w B 95 3 Pos.cells v l) (hB : B ≤ w.heap.size) (xv : Value) (xs : List Pos) (hx : Reads w 3 xv xs.length (xs.flatMap Pos.cells)) (hl : (l.length + xs.length) * 24 ≤ 140737488355328) :
    ∃ v' w', (Builtin.append_ #[29, 29] 29 #[v, xv]).run Tryz.prog w = .ok v' w' ∧ OwnOf w' B 95 3 Pos.cells v' (l ++ xs) ∧ Mod (fun k => v.ownBlock = some k) w w' ∧ ∀ k, v'.ownBlock = some k → v.ownBlock = some k ∨ k = w.heap.size := by
  obtain ⟨i0, g1, g2, g3, g4⟩ := info_parts clone_loc_info
  exact app_own 29 95 i0 _ 3 24 Tryz.underlying29 g1 g2 g3 g4 rfl (by decide) (by decide) Pos.cells w B v l ho hB xv xs hx (fun x hx => one_loc x) hl
theorem app1_loc (w : World) (B : Nat) (v : Value) (l : List Pos) (ho : OwnOf w B 95 3 Pos.cells v l) (hB : B ≤ w.heap.size) (x : Pos) (cs : Array Value) (hcs : cs.toList = Pos.cells x) (hl : (l.length + 1) * 24 ≤ 140737488355328) :
    ∃ v' w', (Builtin.append_ #[29, 29] 29 #[v, .slice (some ⟨w.heap.size, 0, none⟩) 1 1]).run Tryz.prog (w.alloc (.cells cs 95)) = .ok v' w' ∧ OwnOf w' B 95 3 Pos.cells v' (l ++ [x]) ∧ Mod (fun k => v.ownBlock = some k) w w' ∧ ∀ k, v'.ownBlock = some k → v.ownBlock = some k ∨ w.heap.size ≤ k := by
  obtain ⟨i0, g1, g2, g3, g4⟩ := info_parts clone_loc_info
  exact app_one 29 95 i0 _ 3 24 Tryz.underlying29 g1 g2 g3 g4 rfl (by decide) (by decide) Pos.cells poscells_len w B v l ho hB x cs hcs (one_loc x) hl
end Go.Proofs.YtcjbhgnlmmeeeaaGreatDoor

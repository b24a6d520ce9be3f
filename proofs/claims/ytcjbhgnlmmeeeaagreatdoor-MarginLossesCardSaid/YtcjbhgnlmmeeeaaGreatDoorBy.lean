/- book.byPos, byOrder, locate.by, book.rise, walked (printed by tools/gen_by.py). -/
import Derived.Test.YtcjbhgnlmmeeeaaGreatDoorGen
import Derived.Test.YtcjbhgnlmmeeeaaGreatDoorMgA
namespace Go.Proofs.YtcjbhgnlmmeeeaaGreatDoor
open Go.RowKit Go.Bw Go.Maps Go.Shelf
set_option linter.unusedVariables false
set_option linter.unusedSimpArgs false

/-- The order of two pairs of numbers, as a number. -/
def byI (a b c d : Int) : Int := if cmpI a b ≠ 0 then cmpI a b else cmpI c d
theorem byI_lt (a b c d : Int) : byI a b c d < 0 ↔ a < b ∨ a = b ∧ c < d := by
  unfold byI cmpI
  split <;> split <;> (try split) <;> omega
theorem byI_ge (a b c d : Int) : 0 ≤ byI a b c d ↔ ¬ (a < b ∨ a = b ∧ c < d) := by
  have := byI_lt a b c d
  omega

set_option maxRecDepth 100000 in
set_option maxHeartbeats 1000000 in
theorem byPos_any (w : World) (p q : Pos) : Calls Tryz.prog 107 #[.agg #[.int .i64 p.acct, .int .i64 p.instr, .int .i64 p.qty], .agg #[.int .i64 q.acct, .int .i64 q.instr, .int .i64 q.qty]] w fun e w' => e = .returned (.int .i64 (byI p.acct q.acct p.instr q.instr)) ∧ Below w.heap.size w w' := by
  have BX := Lib.hid (show ∃ W, W = (w.alloc (.cells #[.int .i64 p.acct, .int .i64 p.instr, .int .i64 p.qty] 43)).alloc (.cells #[.int .i64 q.acct, .int .i64 q.instr, .int .i64 q.qty] 43) ∧ Below w.heap.size w W ∧ W.heap[w.heap.size]? = some (.cells #[.int .i64 p.acct, .int .i64 p.instr, .int .i64 p.qty] 43 (0, 0)) ∧ W.heap[w.heap.size + 1]? = some (.cells #[.int .i64 q.acct, .int .i64 q.instr, .int .i64 q.qty] 43 (0, 0)) from
    ⟨_, rfl, ((Below.refl _ _).alloc (Nat.le_refl _) _).alloc (by simp) _, (Below.heap_alloc _ _ _ (by simp)).trans (heap_alloc_new w _), by have := heap_alloc_new (w.alloc (.cells #[.int .i64 p.acct, .int .i64 p.instr, .int .i64 p.qty] 43)) (.cells #[.int .i64 q.acct, .int .i64 q.instr, .int .i64 q.qty] 43); simpa using this⟩)
  obtain ⟨c1, hc1⟩ : ∃ c, c = cmpI p.acct q.acct := ⟨_, rfl⟩
  obtain ⟨c2, hc2⟩ : ∃ c, c = cmpI p.instr q.instr := ⟨_, rfl⟩
  obtain ⟨r, hr⟩ : ∃ r, r = byI p.acct q.acct p.instr q.instr := ⟨_, rfl⟩
  have RR := Lib.hid (show r = (if c1 ≠ 0 then c1 else c2) from by rw [hr]; unfold byI; rw [← hc1, ← hc2])
  have C12 := Lib.hid (And.intro hc1 hc2)
  rw [← hr]
  clear hr hc1 hc2
  go_enter Tryz.func107, Tryz.ntmps107
  go_wp2_with fail
  obtain ⟨W, hW, hb, h1, h2⟩ := BX.out
  rw [← hW]
  have BW := Lib.hid hb
  clear hW hb BX
  have p0 := Lib.hid (show ∀ x : Cls (Below W.heap.size W), x.w.cell? ⟨w.heap.size, 0, none⟩ = some (.int .i64 p.acct) from fun x => cell_of_heap ((Mod.of_below x.ok).heap h1 (fun h => h)) 0)
  have p1 := Lib.hid (show ∀ x : Cls (Below W.heap.size W), x.w.cell? ⟨w.heap.size, 1, none⟩ = some (.int .i64 p.instr) from fun x => cell_of_heap ((Mod.of_below x.ok).heap h1 (fun h => h)) 1)
  have q0 := Lib.hid (show ∀ x : Cls (Below W.heap.size W), x.w.cell? ⟨w.heap.size + 1, 0, none⟩ = some (.int .i64 q.acct) from fun x => cell_of_heap ((Mod.of_below x.ok).heap h2 (fun h => h)) 0)
  have q1 := Lib.hid (show ∀ x : Cls (Below W.heap.size W), x.w.cell? ⟨w.heap.size + 1, 1, none⟩ = some (.int .i64 q.instr) from fun x => cell_of_heap ((Mod.of_below x.ok).heap h2 (fun h => h)) 1)
  have QC := Lib.hid (show ∀ (a b : Int) (x : Cls (Below W.heap.size W)), Calls Tryz.prog 140 #[.int .i64 a, .int .i64 b] x.w fun e w' => e = .returned (.int .i64 (cmpI a b)) ∧ ∃ y : Cls (Below W.heap.size W), w' = y.w from fun a b x =>
    (cmp_any a b x.w).mono fun e w' h => ⟨h.1, x, h.2.symm⟩)
  clear h1 h2
  refine wp_region_quiet_tail (C := Below W.heap.size W) 10 (by kernel_rfl) (by kernel_rfl) ⟨rfl, rfl, rfl, Nat.le_refl _, fun _ _ => rfl⟩ (fun _ => ?_)
  simp only [List.take_succ_cons, List.take_zero, List.drop_succ_cons, List.drop_zero]
  have fp0 := p0.out
  have fp1 := p1.out
  have fq0 := q0.out
  have fq1 := q1.out
  repeat (go_big_quiet_step (exact QC.out _ _ _))
  refine wpQuiet_nil ?_
  intro x
  clear fp0 fp1 fq0 fq1
  have BXX := Lib.hid (BW.out.trans (x.ok.mono BW.out.size))
  rw [← C12.out.1, ← C12.out.2]
  have OR := Lib.hid (cmpor_any (x.w.alloc (.cells #[.int .i64 c1, .int .i64 c2] 3)) x.w.heap.size c1 c2 (by have := cell_of_heap (heap_alloc_new x.w (.cells #[.int .i64 c1, .int .i64 c2] 3)) 0; exact this) (by have := cell_of_heap (heap_alloc_new x.w (.cells #[.int .i64 c1, .int .i64 c2] 3)) 1; exact this))
  rw [← RR.out] at OR
  go_wp2_with (go_at_call 139; refine OR.out.mono ?_; rintro e w' ⟨rfl, rfl⟩)
  go_ret
  exact ⟨rfl, BXX.out.alloc BXX.out.size _⟩

set_option maxRecDepth 100000 in
set_option maxHeartbeats 1000000 in
theorem byOrder_any (w : World) (p q : Ord) : Calls Tryz.prog 111 #[.agg #[.int .i64 p.acct, .int .i64 p.id, .int .i64 p.instr, .int .i64 p.qty, .int .i64 p.price], .agg #[.int .i64 q.acct, .int .i64 q.id, .int .i64 q.instr, .int .i64 q.qty, .int .i64 q.price]] w fun e w' => e = .returned (.int .i64 (byI p.acct q.acct p.id q.id)) ∧ Below w.heap.size w w' := by
  have BX := Lib.hid (show ∃ W, W = (w.alloc (.cells #[.int .i64 p.acct, .int .i64 p.id, .int .i64 p.instr, .int .i64 p.qty, .int .i64 p.price] 46)).alloc (.cells #[.int .i64 q.acct, .int .i64 q.id, .int .i64 q.instr, .int .i64 q.qty, .int .i64 q.price] 46) ∧ Below w.heap.size w W ∧ W.heap[w.heap.size]? = some (.cells #[.int .i64 p.acct, .int .i64 p.id, .int .i64 p.instr, .int .i64 p.qty, .int .i64 p.price] 46 (0, 0)) ∧ W.heap[w.heap.size + 1]? = some (.cells #[.int .i64 q.acct, .int .i64 q.id, .int .i64 q.instr, .int .i64 q.qty, .int .i64 q.price] 46 (0, 0)) from
    ⟨_, rfl, ((Below.refl _ _).alloc (Nat.le_refl _) _).alloc (by simp) _, (Below.heap_alloc _ _ _ (by simp)).trans (heap_alloc_new w _), by have := heap_alloc_new (w.alloc (.cells #[.int .i64 p.acct, .int .i64 p.id, .int .i64 p.instr, .int .i64 p.qty, .int .i64 p.price] 46)) (.cells #[.int .i64 q.acct, .int .i64 q.id, .int .i64 q.instr, .int .i64 q.qty, .int .i64 q.price] 46); simpa using this⟩)
  obtain ⟨c1, hc1⟩ : ∃ c, c = cmpI p.acct q.acct := ⟨_, rfl⟩
  obtain ⟨c2, hc2⟩ : ∃ c, c = cmpI p.id q.id := ⟨_, rfl⟩
  obtain ⟨r, hr⟩ : ∃ r, r = byI p.acct q.acct p.id q.id := ⟨_, rfl⟩
  have RR := Lib.hid (show r = (if c1 ≠ 0 then c1 else c2) from by rw [hr]; unfold byI; rw [← hc1, ← hc2])
  have C12 := Lib.hid (And.intro hc1 hc2)
  rw [← hr]
  clear hr hc1 hc2
  go_enter Tryz.func111, Tryz.ntmps111
  go_wp2_with fail
  obtain ⟨W, hW, hb, h1, h2⟩ := BX.out
  rw [← hW]
  have BW := Lib.hid hb
  clear hW hb BX
  have p0 := Lib.hid (show ∀ x : Cls (Below W.heap.size W), x.w.cell? ⟨w.heap.size, 0, none⟩ = some (.int .i64 p.acct) from fun x => cell_of_heap ((Mod.of_below x.ok).heap h1 (fun h => h)) 0)
  have p1 := Lib.hid (show ∀ x : Cls (Below W.heap.size W), x.w.cell? ⟨w.heap.size, 1, none⟩ = some (.int .i64 p.id) from fun x => cell_of_heap ((Mod.of_below x.ok).heap h1 (fun h => h)) 1)
  have q0 := Lib.hid (show ∀ x : Cls (Below W.heap.size W), x.w.cell? ⟨w.heap.size + 1, 0, none⟩ = some (.int .i64 q.acct) from fun x => cell_of_heap ((Mod.of_below x.ok).heap h2 (fun h => h)) 0)
  have q1 := Lib.hid (show ∀ x : Cls (Below W.heap.size W), x.w.cell? ⟨w.heap.size + 1, 1, none⟩ = some (.int .i64 q.id) from fun x => cell_of_heap ((Mod.of_below x.ok).heap h2 (fun h => h)) 1)
  have QC := Lib.hid (show ∀ (a b : Int) (x : Cls (Below W.heap.size W)), Calls Tryz.prog 140 #[.int .i64 a, .int .i64 b] x.w fun e w' => e = .returned (.int .i64 (cmpI a b)) ∧ ∃ y : Cls (Below W.heap.size W), w' = y.w from fun a b x =>
    (cmp_any a b x.w).mono fun e w' h => ⟨h.1, x, h.2.symm⟩)
  clear h1 h2
  refine wp_region_quiet_tail (C := Below W.heap.size W) 10 (by kernel_rfl) (by kernel_rfl) ⟨rfl, rfl, rfl, Nat.le_refl _, fun _ _ => rfl⟩ (fun _ => ?_)
  simp only [List.take_succ_cons, List.take_zero, List.drop_succ_cons, List.drop_zero]
  have fp0 := p0.out
  have fp1 := p1.out
  have fq0 := q0.out
  have fq1 := q1.out
  repeat (go_big_quiet_step (exact QC.out _ _ _))
  refine wpQuiet_nil ?_
  intro x
  clear fp0 fp1 fq0 fq1
  have BXX := Lib.hid (BW.out.trans (x.ok.mono BW.out.size))
  rw [← C12.out.1, ← C12.out.2]
  have OR := Lib.hid (cmpor_any (x.w.alloc (.cells #[.int .i64 c1, .int .i64 c2] 3)) x.w.heap.size c1 c2 (by have := cell_of_heap (heap_alloc_new x.w (.cells #[.int .i64 c1, .int .i64 c2] 3)) 0; exact this) (by have := cell_of_heap (heap_alloc_new x.w (.cells #[.int .i64 c1, .int .i64 c2] 3)) 1; exact this))
  rw [← RR.out] at OR
  go_wp2_with (go_at_call 139; refine OR.out.mono ?_; rintro e w' ⟨rfl, rfl⟩)
  go_ret
  exact ⟨rfl, BXX.out.alloc BXX.out.size _⟩

set_option maxRecDepth 100000 in
set_option maxHeartbeats 1000000 in
theorem byLoc_any (w : World) (p q : Pos) : Calls Tryz.prog 113 #[.agg #[.int .i64 p.acct, .int .i64 p.instr, .int .i64 p.qty], .agg #[.int .i64 q.acct, .int .i64 q.instr, .int .i64 q.qty]] w fun e w' => e = .returned (.int .i64 (byI p.acct q.acct p.instr q.instr)) ∧ Below w.heap.size w w' := by
  have BX := Lib.hid (show ∃ W, W = (w.alloc (.cells #[.int .i64 p.acct, .int .i64 p.instr, .int .i64 p.qty] 95)).alloc (.cells #[.int .i64 q.acct, .int .i64 q.instr, .int .i64 q.qty] 95) ∧ Below w.heap.size w W ∧ W.heap[w.heap.size]? = some (.cells #[.int .i64 p.acct, .int .i64 p.instr, .int .i64 p.qty] 95 (0, 0)) ∧ W.heap[w.heap.size + 1]? = some (.cells #[.int .i64 q.acct, .int .i64 q.instr, .int .i64 q.qty] 95 (0, 0)) from
    ⟨_, rfl, ((Below.refl _ _).alloc (Nat.le_refl _) _).alloc (by simp) _, (Below.heap_alloc _ _ _ (by simp)).trans (heap_alloc_new w _), by have := heap_alloc_new (w.alloc (.cells #[.int .i64 p.acct, .int .i64 p.instr, .int .i64 p.qty] 95)) (.cells #[.int .i64 q.acct, .int .i64 q.instr, .int .i64 q.qty] 95); simpa using this⟩)
  obtain ⟨c1, hc1⟩ : ∃ c, c = cmpI p.acct q.acct := ⟨_, rfl⟩
  obtain ⟨c2, hc2⟩ : ∃ c, c = cmpI p.instr q.instr := ⟨_, rfl⟩
  obtain ⟨r, hr⟩ : ∃ r, r = byI p.acct q.acct p.instr q.instr := ⟨_, rfl⟩
  have RR := Lib.hid (show r = (if c1 ≠ 0 then c1 else c2) from by rw [hr]; unfold byI; rw [← hc1, ← hc2])
  have C12 := Lib.hid (And.intro hc1 hc2)
  rw [← hr]
  clear hr hc1 hc2
  go_enter Tryz.func113, Tryz.ntmps113
  go_wp2_with fail
  obtain ⟨W, hW, hb, h1, h2⟩ := BX.out
  rw [← hW]
  have BW := Lib.hid hb
  clear hW hb BX
  have p0 := Lib.hid (show ∀ x : Cls (Below W.heap.size W), x.w.cell? ⟨w.heap.size, 0, none⟩ = some (.int .i64 p.acct) from fun x => cell_of_heap ((Mod.of_below x.ok).heap h1 (fun h => h)) 0)
  have p1 := Lib.hid (show ∀ x : Cls (Below W.heap.size W), x.w.cell? ⟨w.heap.size, 1, none⟩ = some (.int .i64 p.instr) from fun x => cell_of_heap ((Mod.of_below x.ok).heap h1 (fun h => h)) 1)
  have q0 := Lib.hid (show ∀ x : Cls (Below W.heap.size W), x.w.cell? ⟨w.heap.size + 1, 0, none⟩ = some (.int .i64 q.acct) from fun x => cell_of_heap ((Mod.of_below x.ok).heap h2 (fun h => h)) 0)
  have q1 := Lib.hid (show ∀ x : Cls (Below W.heap.size W), x.w.cell? ⟨w.heap.size + 1, 1, none⟩ = some (.int .i64 q.instr) from fun x => cell_of_heap ((Mod.of_below x.ok).heap h2 (fun h => h)) 1)
  have QC := Lib.hid (show ∀ (a b : Int) (x : Cls (Below W.heap.size W)), Calls Tryz.prog 140 #[.int .i64 a, .int .i64 b] x.w fun e w' => e = .returned (.int .i64 (cmpI a b)) ∧ ∃ y : Cls (Below W.heap.size W), w' = y.w from fun a b x =>
    (cmp_any a b x.w).mono fun e w' h => ⟨h.1, x, h.2.symm⟩)
  clear h1 h2
  refine wp_region_quiet_tail (C := Below W.heap.size W) 10 (by kernel_rfl) (by kernel_rfl) ⟨rfl, rfl, rfl, Nat.le_refl _, fun _ _ => rfl⟩ (fun _ => ?_)
  simp only [List.take_succ_cons, List.take_zero, List.drop_succ_cons, List.drop_zero]
  have fp0 := p0.out
  have fp1 := p1.out
  have fq0 := q0.out
  have fq1 := q1.out
  repeat (go_big_quiet_step (exact QC.out _ _ _))
  refine wpQuiet_nil ?_
  intro x
  clear fp0 fp1 fq0 fq1
  have BXX := Lib.hid (BW.out.trans (x.ok.mono BW.out.size))
  rw [← C12.out.1, ← C12.out.2]
  have OR := Lib.hid (cmpor_any (x.w.alloc (.cells #[.int .i64 c1, .int .i64 c2] 3)) x.w.heap.size c1 c2 (by have := cell_of_heap (heap_alloc_new x.w (.cells #[.int .i64 c1, .int .i64 c2] 3)) 0; exact this) (by have := cell_of_heap (heap_alloc_new x.w (.cells #[.int .i64 c1, .int .i64 c2] 3)) 1; exact this))
  rw [← RR.out] at OR
  go_wp2_with (go_at_call 139; refine OR.out.mono ?_; rintro e w' ⟨rfl, rfl⟩)
  go_ret
  exact ⟨rfl, BXX.out.alloc BXX.out.size _⟩

theorem risePos_iff (l : List Pos) : Rises Pos.Lt l ↔ ∀ (i : Nat) (a b : Pos), l[i]? = some a → l[i + 1]? = some b → byI a.acct b.acct a.instr b.instr < 0 :=
  ⟨fun h i a b ha hb => (byI_lt _ _ _ _).2 (h i a b ha hb), fun h i a b ha hb => (byI_lt _ _ _ _).1 (h i a b ha hb)⟩
open Classical in
set_option maxRecDepth 100000 in
set_option maxHeartbeats 1000000 in
theorem risePos_any (w : World) (v : Value) (l : List Pos) (hR : RowOf w 3 Pos.cells v l) :
    Calls Tryz.prog 106 #[v, .func (.func 107) #[] #[]] w fun e w' => e = .returned (.bool (decide (Rises Pos.Lt l))) ∧ Below w.heap.size w w' := by
  obtain ⟨a, c, rfl⟩ := hR.form
  have hl : l.length ≤ 9223372036854775807 := by have := hR.caps; unfold maxLen at this; omega
  obtain ⟨R, hRr⟩ : ∃ R, R = decide (Rises Pos.Lt l) := ⟨_, rfl⟩
  rw [← hRr]
  have EQ := Lib.hid hRr
  have HR := Lib.hid hR
  have eg : Enters Tryz.prog 107 := enters_of Tryz.func107 (by kernel_rfl) rfl
  have EG := Lib.hid eg
  clear hR hRr eg
  go_enter Tryz.func106, Tryz.ntmps106
  go_wp2_with fail
  go_loopw [5] (fun i wr => ∃ k : Nat, 1 ≤ k ∧ i = .int .i64 k ∧ Hid (∀ (j : Nat) x y, j + 1 < k → l[j]? = some x → l[j + 1]? = some y → byI x.acct y.acct x.instr y.instr < 0) ∧ Below w.heap.size w wr) (fun i _ => l.length + 1 - (intOf i).toNat)
  case atStart => exact ⟨1, Nat.le_refl _, rfl, Lib.hid (fun j x y hj => by omega), Below.refl _ _⟩
  case round =>
    obtain ⟨k, hk, rfl, INV, hb⟩ := hrel
    have BW := Lib.hid hb
    clear hb
    by_cases hlt : k < l.length
    · obtain ⟨k, rfl⟩ : ∃ j, k = j + 1 := ⟨k - 1, by omega⟩
      obtain ⟨x, hx⟩ : ∃ x, l[k]? = some x := ⟨_, List.getElem?_eq_getElem (by omega)⟩
      obtain ⟨y, hy⟩ : ∃ x, l[k + 1]? = some x := ⟨_, List.getElem?_eq_getElem hlt⟩
      obtain ⟨b, o, rfl, _, hxc⟩ := (HR.out.below BW.out).at_ hx
      obtain ⟨b', o', e', _, hyc⟩ := (HR.out.below BW.out).at_ hy
      cases e'
      have xc0 := hxc 0 (.int .i64 x.acct) rfl
      have xc1 := hxc 1 (.int .i64 x.instr) rfl
      have xc2 := hxc 2 (.int .i64 x.qty) rfl
      rw [Nat.add_zero] at xc0
      have yc0 := hyc 0 (.int .i64 y.acct) rfl
      have yc1 := hyc 1 (.int .i64 y.instr) rfl
      have yc2 := hyc 2 (.int .i64 y.qty) rfl
      rw [Nat.add_zero] at yc0
      have hlt' : (((k + 1 : Nat) : Nat) : Int) < (l.length : Int) := by omega
      have i1 : (0 : Int) ≤ (k : Int) := by omega
      have i2 : (k : Int) < (l.length : Int) := by omega
      have i3 : (0 : Int) ≤ ((k + 1 : Nat) : Int) := by omega
      have w1 : IntKind.i64.wrap (((k + 1 : Nat) : Int) - 1) = (k : Int) := by rw [show ((k + 1 : Nat) : Int) - 1 = (k : Int) from by omega]; exact IntWalk.i64_in _ (by omega)
      have HX := Lib.hid (And.intro hx hy)
      have SUMX := Lib.hid hlt
      have xq0 := Lib.hid (show ∀ z : Cls (Below wr.heap.size wr), z.w.cell? _ = some _ from fun z => (Mod.of_below z.ok).cell xc0 (fun h => h))
      have xq1 := Lib.hid (show ∀ z : Cls (Below wr.heap.size wr), z.w.cell? _ = some _ from fun z => (Mod.of_below z.ok).cell xc1 (fun h => h))
      have xq2 := Lib.hid (show ∀ z : Cls (Below wr.heap.size wr), z.w.cell? _ = some _ from fun z => (Mod.of_below z.ok).cell xc2 (fun h => h))
      have yq0 := Lib.hid (show ∀ z : Cls (Below wr.heap.size wr), z.w.cell? _ = some _ from fun z => (Mod.of_below z.ok).cell yc0 (fun h => h))
      have yq1 := Lib.hid (show ∀ z : Cls (Below wr.heap.size wr), z.w.cell? _ = some _ from fun z => (Mod.of_below z.ok).cell yc1 (fun h => h))
      have yq2 := Lib.hid (show ∀ z : Cls (Below wr.heap.size wr), z.w.cell? _ = some _ from fun z => (Mod.of_below z.ok).cell yc2 (fun h => h))
      have CALL := Lib.hid (show ∀ z : Cls (Below wr.heap.size wr), Calls Tryz.prog 107 #[.agg #[.int .i64 x.acct, .int .i64 x.instr, .int .i64 x.qty], .agg #[.int .i64 y.acct, .int .i64 y.instr, .int .i64 y.qty]] z.w fun e w' => e = .returned (.int .i64 (byI x.acct y.acct x.instr y.instr)) ∧ ∃ u : Cls (Below wr.heap.size wr), w' = u.w from fun z =>
        (byPos_any z.w x y).mono fun e w' h => ⟨h.1, ⟨w', z.ok.trans (h.2.mono z.ok.size)⟩, rfl⟩)
      obtain ⟨r, hr⟩ : ∃ r, r = byI x.acct y.acct x.instr y.instr := ⟨_, rfl⟩
      rw [← hr] at CALL
      have HRr := Lib.hid hr
      clear hx hy hxc hyc hr xc0 xc1 xc2 yc0 yc1 yc2
      have two : r < 0 ∨ 0 ≤ r := by omega
      rcases two with hneg | hneg
      · have hge : ¬ (0 : Int) ≤ r := by omega
        go_wp2_with fail
        refine wp_region_cls (C := Below wr.heap.size wr) (by kernel_rfl) (by kernel_rfl) ⟨rfl, rfl, rfl, Nat.le_refl _, fun _ _ => rfl⟩ (fun _ => ?_)
        have eg : ∀ (args : Array Value) (w : World), (callFunc 107 args).run Tryz.prog w = .ok (.enter 107 args) w := EG.out
        have gx0 := xq0.out
        have gx1 := xq1.out
        have gx2 := xq2.out
        have gy0 := yq0.out
        have gy1 := yq1.out
        have gy2 := yq2.out
        repeat (go_big_quiet_step (exact CALL.out _))
        refine wpQuiet_nil ?_
        intro w2 hC
        clear eg gx0 gx1 gx2 gy0 gy1 gy2
        have B2 := Lib.hid (BW.out.trans (hC.mono BW.out.size))
        clear hC
        go_wp2_with fail
        go_roundw
        case rel => exact ⟨k + 1 + 1, by omega, by go_num, Lib.hid (fun j x' y' hj hx' hy' => by
          by_cases e : j = k
          · subst e
            have h1 := HX.out.1
            have h2 := HX.out.2
            rw [hx'] at h1; rw [hy'] at h2
            cases h1; cases h2
            rw [← HRr.out]; exact hneg
          · exact INV.out j x' y' (by omega) hx' hy'), B2.out⟩
        case measure => have := SUMX.out; simp [intOf]; omega
      · have FL := Lib.hid (EQ.out.trans (decide_eq_false (fun h => by
          have h1 := (risePos_iff l).1 h k x y HX.out.1 HX.out.2
          rw [← HRr.out] at h1; omega)))
        go_wp2_with fail
        refine wp_region_cls (C := Below wr.heap.size wr) (by kernel_rfl) (by kernel_rfl) ⟨rfl, rfl, rfl, Nat.le_refl _, fun _ _ => rfl⟩ (fun _ => ?_)
        have eg : ∀ (args : Array Value) (w : World), (callFunc 107 args).run Tryz.prog w = .ok (.enter 107 args) w := EG.out
        have gx0 := xq0.out
        have gx1 := xq1.out
        have gx2 := xq2.out
        have gy0 := yq0.out
        have gy1 := yq1.out
        have gy2 := yq2.out
        repeat (go_big_quiet_step (exact CALL.out _))
        refine wpQuiet_nil ?_
        intro w2 hC
        clear eg gx0 gx1 gx2 gy0 gy1 gy2
        have B2 := Lib.hid (BW.out.trans (hC.mono BW.out.size))
        clear hC
        go_wp2_with fail
        go_ret
        exact ⟨ret_bool FL.out.symm, B2.out⟩
    · have hlt' : ¬ (k : Int) < (l.length : Int) := by omega
      have FL := Lib.hid (EQ.out.trans (decide_eq_true ((risePos_iff l).2 (fun j x' y' hx' hy' => INV.out j x' y' (by have := (List.getElem?_eq_some_iff.1 hy').1; omega) hx' hy'))))
      go_wp2_with fail
      go_ret
      exact ⟨ret_bool FL.out.symm, BW.out⟩

theorem riseOrd_iff (l : List Ord) : Rises Ord.Lt l ↔ ∀ (i : Nat) (a b : Ord), l[i]? = some a → l[i + 1]? = some b → byI a.acct b.acct a.id b.id < 0 :=
  ⟨fun h i a b ha hb => (byI_lt _ _ _ _).2 (h i a b ha hb), fun h i a b ha hb => (byI_lt _ _ _ _).1 (h i a b ha hb)⟩
open Classical in
set_option maxRecDepth 100000 in
set_option maxHeartbeats 1000000 in
theorem riseOrd_any (w : World) (v : Value) (l : List Ord) (hR : RowOf w 5 Ord.cells v l) :
    Calls Tryz.prog 110 #[v, .func (.func 111) #[] #[]] w fun e w' => e = .returned (.bool (decide (Rises Ord.Lt l))) ∧ Below w.heap.size w w' := by
  obtain ⟨a, c, rfl⟩ := hR.form
  have hl : l.length ≤ 9223372036854775807 := by have := hR.caps; unfold maxLen at this; omega
  obtain ⟨R, hRr⟩ : ∃ R, R = decide (Rises Ord.Lt l) := ⟨_, rfl⟩
  rw [← hRr]
  have EQ := Lib.hid hRr
  have HR := Lib.hid hR
  have eg : Enters Tryz.prog 111 := enters_of Tryz.func111 (by kernel_rfl) rfl
  have EG := Lib.hid eg
  clear hR hRr eg
  go_enter Tryz.func110, Tryz.ntmps110
  go_wp2_with fail
  go_loopw [5] (fun i wr => ∃ k : Nat, 1 ≤ k ∧ i = .int .i64 k ∧ Hid (∀ (j : Nat) x y, j + 1 < k → l[j]? = some x → l[j + 1]? = some y → byI x.acct y.acct x.id y.id < 0) ∧ Below w.heap.size w wr) (fun i _ => l.length + 1 - (intOf i).toNat)
  case atStart => exact ⟨1, Nat.le_refl _, rfl, Lib.hid (fun j x y hj => by omega), Below.refl _ _⟩
  case round =>
    obtain ⟨k, hk, rfl, INV, hb⟩ := hrel
    have BW := Lib.hid hb
    clear hb
    by_cases hlt : k < l.length
    · obtain ⟨k, rfl⟩ : ∃ j, k = j + 1 := ⟨k - 1, by omega⟩
      obtain ⟨x, hx⟩ : ∃ x, l[k]? = some x := ⟨_, List.getElem?_eq_getElem (by omega)⟩
      obtain ⟨y, hy⟩ : ∃ x, l[k + 1]? = some x := ⟨_, List.getElem?_eq_getElem hlt⟩
      obtain ⟨b, o, rfl, _, hxc⟩ := (HR.out.below BW.out).at_ hx
      obtain ⟨b', o', e', _, hyc⟩ := (HR.out.below BW.out).at_ hy
      cases e'
      have xc0 := hxc 0 (.int .i64 x.acct) rfl
      have xc1 := hxc 1 (.int .i64 x.id) rfl
      have xc2 := hxc 2 (.int .i64 x.instr) rfl
      have xc3 := hxc 3 (.int .i64 x.qty) rfl
      have xc4 := hxc 4 (.int .i64 x.price) rfl
      rw [Nat.add_zero] at xc0
      have yc0 := hyc 0 (.int .i64 y.acct) rfl
      have yc1 := hyc 1 (.int .i64 y.id) rfl
      have yc2 := hyc 2 (.int .i64 y.instr) rfl
      have yc3 := hyc 3 (.int .i64 y.qty) rfl
      have yc4 := hyc 4 (.int .i64 y.price) rfl
      rw [Nat.add_zero] at yc0
      have hlt' : (((k + 1 : Nat) : Nat) : Int) < (l.length : Int) := by omega
      have i1 : (0 : Int) ≤ (k : Int) := by omega
      have i2 : (k : Int) < (l.length : Int) := by omega
      have i3 : (0 : Int) ≤ ((k + 1 : Nat) : Int) := by omega
      have w1 : IntKind.i64.wrap (((k + 1 : Nat) : Int) - 1) = (k : Int) := by rw [show ((k + 1 : Nat) : Int) - 1 = (k : Int) from by omega]; exact IntWalk.i64_in _ (by omega)
      have HX := Lib.hid (And.intro hx hy)
      have SUMX := Lib.hid hlt
      have xq0 := Lib.hid (show ∀ z : Cls (Below wr.heap.size wr), z.w.cell? _ = some _ from fun z => (Mod.of_below z.ok).cell xc0 (fun h => h))
      have xq1 := Lib.hid (show ∀ z : Cls (Below wr.heap.size wr), z.w.cell? _ = some _ from fun z => (Mod.of_below z.ok).cell xc1 (fun h => h))
      have xq2 := Lib.hid (show ∀ z : Cls (Below wr.heap.size wr), z.w.cell? _ = some _ from fun z => (Mod.of_below z.ok).cell xc2 (fun h => h))
      have xq3 := Lib.hid (show ∀ z : Cls (Below wr.heap.size wr), z.w.cell? _ = some _ from fun z => (Mod.of_below z.ok).cell xc3 (fun h => h))
      have xq4 := Lib.hid (show ∀ z : Cls (Below wr.heap.size wr), z.w.cell? _ = some _ from fun z => (Mod.of_below z.ok).cell xc4 (fun h => h))
      have yq0 := Lib.hid (show ∀ z : Cls (Below wr.heap.size wr), z.w.cell? _ = some _ from fun z => (Mod.of_below z.ok).cell yc0 (fun h => h))
      have yq1 := Lib.hid (show ∀ z : Cls (Below wr.heap.size wr), z.w.cell? _ = some _ from fun z => (Mod.of_below z.ok).cell yc1 (fun h => h))
      have yq2 := Lib.hid (show ∀ z : Cls (Below wr.heap.size wr), z.w.cell? _ = some _ from fun z => (Mod.of_below z.ok).cell yc2 (fun h => h))
      have yq3 := Lib.hid (show ∀ z : Cls (Below wr.heap.size wr), z.w.cell? _ = some _ from fun z => (Mod.of_below z.ok).cell yc3 (fun h => h))
      have yq4 := Lib.hid (show ∀ z : Cls (Below wr.heap.size wr), z.w.cell? _ = some _ from fun z => (Mod.of_below z.ok).cell yc4 (fun h => h))
      have CALL := Lib.hid (show ∀ z : Cls (Below wr.heap.size wr), Calls Tryz.prog 111 #[.agg #[.int .i64 x.acct, .int .i64 x.id, .int .i64 x.instr, .int .i64 x.qty, .int .i64 x.price], .agg #[.int .i64 y.acct, .int .i64 y.id, .int .i64 y.instr, .int .i64 y.qty, .int .i64 y.price]] z.w fun e w' => e = .returned (.int .i64 (byI x.acct y.acct x.id y.id)) ∧ ∃ u : Cls (Below wr.heap.size wr), w' = u.w from fun z =>
        (byOrder_any z.w x y).mono fun e w' h => ⟨h.1, ⟨w', z.ok.trans (h.2.mono z.ok.size)⟩, rfl⟩)
      obtain ⟨r, hr⟩ : ∃ r, r = byI x.acct y.acct x.id y.id := ⟨_, rfl⟩
      rw [← hr] at CALL
      have HRr := Lib.hid hr
      clear hx hy hxc hyc hr xc0 xc1 xc2 xc3 xc4 yc0 yc1 yc2 yc3 yc4
      have two : r < 0 ∨ 0 ≤ r := by omega
      rcases two with hneg | hneg
      · have hge : ¬ (0 : Int) ≤ r := by omega
        go_wp2_with fail
        refine wp_region_cls (C := Below wr.heap.size wr) (by kernel_rfl) (by kernel_rfl) ⟨rfl, rfl, rfl, Nat.le_refl _, fun _ _ => rfl⟩ (fun _ => ?_)
        have eg : ∀ (args : Array Value) (w : World), (callFunc 111 args).run Tryz.prog w = .ok (.enter 111 args) w := EG.out
        have gx0 := xq0.out
        have gx1 := xq1.out
        have gx2 := xq2.out
        have gx3 := xq3.out
        have gx4 := xq4.out
        have gy0 := yq0.out
        have gy1 := yq1.out
        have gy2 := yq2.out
        have gy3 := yq3.out
        have gy4 := yq4.out
        repeat (go_big_quiet_step (exact CALL.out _))
        refine wpQuiet_nil ?_
        intro w2 hC
        clear eg gx0 gx1 gx2 gx3 gx4 gy0 gy1 gy2 gy3 gy4
        have B2 := Lib.hid (BW.out.trans (hC.mono BW.out.size))
        clear hC
        go_wp2_with fail
        go_roundw
        case rel => exact ⟨k + 1 + 1, by omega, by go_num, Lib.hid (fun j x' y' hj hx' hy' => by
          by_cases e : j = k
          · subst e
            have h1 := HX.out.1
            have h2 := HX.out.2
            rw [hx'] at h1; rw [hy'] at h2
            cases h1; cases h2
            rw [← HRr.out]; exact hneg
          · exact INV.out j x' y' (by omega) hx' hy'), B2.out⟩
        case measure => have := SUMX.out; simp [intOf]; omega
      · have FL := Lib.hid (EQ.out.trans (decide_eq_false (fun h => by
          have h1 := (riseOrd_iff l).1 h k x y HX.out.1 HX.out.2
          rw [← HRr.out] at h1; omega)))
        go_wp2_with fail
        refine wp_region_cls (C := Below wr.heap.size wr) (by kernel_rfl) (by kernel_rfl) ⟨rfl, rfl, rfl, Nat.le_refl _, fun _ _ => rfl⟩ (fun _ => ?_)
        have eg : ∀ (args : Array Value) (w : World), (callFunc 111 args).run Tryz.prog w = .ok (.enter 111 args) w := EG.out
        have gx0 := xq0.out
        have gx1 := xq1.out
        have gx2 := xq2.out
        have gx3 := xq3.out
        have gx4 := xq4.out
        have gy0 := yq0.out
        have gy1 := yq1.out
        have gy2 := yq2.out
        have gy3 := yq3.out
        have gy4 := yq4.out
        repeat (go_big_quiet_step (exact CALL.out _))
        refine wpQuiet_nil ?_
        intro w2 hC
        clear eg gx0 gx1 gx2 gx3 gx4 gy0 gy1 gy2 gy3 gy4
        have B2 := Lib.hid (BW.out.trans (hC.mono BW.out.size))
        clear hC
        go_wp2_with fail
        go_ret
        exact ⟨ret_bool FL.out.symm, B2.out⟩
    · have hlt' : ¬ (k : Int) < (l.length : Int) := by omega
      have FL := Lib.hid (EQ.out.trans (decide_eq_true ((riseOrd_iff l).2 (fun j x' y' hx' hy' => INV.out j x' y' (by have := (List.getElem?_eq_some_iff.1 hy').1; omega) hx' hy'))))
      go_wp2_with fail
      go_ret
      exact ⟨ret_bool FL.out.symm, BW.out⟩
end Go.Proofs.YtcjbhgnlmmeeeaaGreatDoor

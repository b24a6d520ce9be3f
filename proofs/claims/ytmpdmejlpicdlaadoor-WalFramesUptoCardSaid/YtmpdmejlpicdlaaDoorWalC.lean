/- wal.caught; what Open defers. -/
import Derived.Test.YtmpdmejlpicdlaaDoorWalS
import Derived.Defers
import Derived.Recover
import Derived.Laws.Pointers
namespace Go.Proofs.YtmpdmejlpicdlaaDoor
open Go.RowKit Go.Bw Go.Maps
set_option linter.unusedVariables false
set_option linter.unusedSimpArgs false

set_option maxHeartbeats 1000000 in
theorem caught_nil (p : Value) (w : World) : Calls Tryd.prog 55 #[p, .nilIface] w fun e w' => e = .returned (.tuple #[]) ∧ w = w' := by
  go_enter Tryd.func55, Tryd.ntmps55
  go_wp2_with fail
  go_end0
  exact ⟨rfl, rfl⟩

theorem frozen_mod {S : Nat → Prop} {w w' : World} (h : Mod S w w') {b : Nat} {cs : Array Value} {t : TypeId} (hb : w.heap[b]? = some (.cells cs t (0, 0))) (hS : ¬ S b) (o : Nat) : w'.frozen? ⟨b, o, none⟩ = false := free_of_heap (h.heap hb hS) o

set_option maxRecDepth 100000 in
set_option maxHeartbeats 1000000 in
theorem caught_stop (p : Nat) (er x : Int) (T : TypeId) (w : World) (hp : w.heap[p]? = some (.cells #[.int .i64 x] T (0, 0))) :
    Calls Tryd.prog 55 #[.pointer (some ⟨p, 0, none⟩), .iface 102 (.agg #[.int .i64 er])] w fun e w' => e = .returned (.tuple #[]) ∧ w'.heap[p]? = some (.cells #[.int .i64 er] T (0, 0)) ∧ Mod (fun k => k = p) w w' := by
  have hta : ∀ (W : World) (v : Value), (Instr.typeAssert (.iface 102 v) 20 102 true).run Tryd.prog W = .ok (.tuple #[v, .bool true]) W := fun W v => by kernel_rfl
  have M0 := (Mod.refl (fun _ => False) w).alloc (.cells #[.int .i64 er] 102)
  have c1 := cell_of_heap (M0.heap hp (fun h => h)) 0
  have z1 := frozen_mod M0 hp (fun h => h) 0
  have HP := Lib.hid hp
  clear hp M0
  go_enter Tryd.func55, Tryd.ntmps55
  go_wp2_with fail
  go_end0
  refine ⟨rfl, ?_, (((Mod.refl (fun k => k = p) w).alloc _).setCell _ (fun _ => rfl))⟩
  have := heap_setCell_at (((Mod.refl (fun _ => False) w).alloc (.cells #[.int .i64 er] 102)).heap HP.out (fun h => h)) 0 (.int .i64 er)
  simpa using this

set_option maxHeartbeats 1000000 in
theorem opened_ok (pe pw pr pf : Nat) (w : World) (he : w.cell? ⟨pe, 0, none⟩ = some (.int .i64 0)) :
    CallsD Tryd.prog 54 #[.pointer (some ⟨pe, 0, none⟩), .pointer (some ⟨pw, 0, none⟩), .pointer (some ⟨pr, 0, none⟩), .pointer (some ⟨pf, 0, none⟩)] .returning w fun e u' w' => e = .returned (.tuple #[]) ∧ u' = .returning ∧ w' = w := by
  refine callsD_of_wpS Tryd.func54 rfl fun c₀ cs hu => ?_
  apply wpS_seq
  apply wpS_region
  simp [wpOpsS, go_sem, recoverD, hu, Tryd.ntmps54, Exit.thenS]
  refine (caught_nil _ w).mono ?_
  rintro e w' ⟨rfl, rfl⟩
  apply wpS_seq
  apply wpS_region
  simp [wpOpsS, go_sem, he, Exit.thenS]
  refine wpS_cond (t := false) (by simp [Act.eval]) ?_
  simp only [Bool.false_eq_true, if_false]
  refine wpS_of_wp (wp_skip ?_)
  cases c₀
  simp_all [bodyPostS, results, Tryd.results54]

/-- The four results' own variables. -/
structure Res4 (w : World) (n0 n1 n2 n3 : Nat) (vw vr : Value) (f e : Int) : Prop where
  w0 : w.heap[n0]? = some (.cells #[vw] 50 (0, 0))
  r1 : w.heap[n1]? = some (.cells #[vr] 37 (0, 0))
  f2 : w.heap[n2]? = some (.cells #[.int .i64 f] 3 (0, 0))
  e3 : w.heap[n3]? = some (.cells #[.int .i64 e] 24 (0, 0))
theorem Res4.mod {w w' : World} {n0 n1 n2 n3 : Nat} {vw vr : Value} {f e : Int} (h : Res4 w n0 n1 n2 n3 vw vr f e) {S : Nat → Prop} (hm : Mod S w w') (hS : ∀ k, S k → k ≠ n0 ∧ k ≠ n1 ∧ k ≠ n2 ∧ k ≠ n3) : Res4 w' n0 n1 n2 n3 vw vr f e :=
  ⟨hm.heap h.w0 (fun h => (hS _ h).1 rfl), hm.heap h.r1 (fun h => (hS _ h).2.1 rfl), hm.heap h.f2 (fun h => (hS _ h).2.2.1 rfl), hm.heap h.e3 (fun h => (hS _ h).2.2.2 rfl)⟩

set_option maxRecDepth 100000 in
set_option maxHeartbeats 2000000 in
theorem opened_stop (N n0 n1 n2 n3 : Nat) (ha : n0 = N ∧ n1 = N + 1 ∧ n2 = N + 2 ∧ n3 = N + 3) (w : World) (er : Int) (her : er ≠ 0) (vw vr : Value) (f x : Int) (h : Res4 w n0 n1 n2 n3 vw vr f x) :
    CallsD Tryd.prog 54 #[.pointer (some ⟨n3, 0, none⟩), .pointer (some ⟨n0, 0, none⟩), .pointer (some ⟨n1, 0, none⟩), .pointer (some ⟨n2, 0, none⟩)] (.panicking (stopWith er)) w fun e u' w' => e = .returned (.tuple #[]) ∧ u' = .panicking [{ v := .iface 102 (.agg #[.int .i64 er]), recovered := true }] ∧ Res4 w' n0 n1 n2 n3 (.pointer none) (.slice none 0 0) 0 er ∧ Mod (fun k => N ≤ k ∧ k < N + 4) w w' := by
  obtain ⟨rfl, rfl, rfl, rfl⟩ := ha
  unfold stopWith
  have her' : (er != 0) = true := by rw [bne_iff_ne]; exact her
  clear her
  refine callsD_of_wpS Tryd.func54 rfl fun c₀ cs hu => ?_
  apply wpS_seq
  apply wpS_region
  simp [wpOpsS, go_sem, recoverD, hu, Tryd.ntmps54, Exit.thenS]
  refine (caught_stop (n0 + 3) er x _ w h.e3).mono ?_
  rintro e w2 ⟨rfl, he2, hm2⟩
  have w02 := hm2.heap h.w0 (by omega)
  have r12 := hm2.heap h.r1 (by omega)
  have f22 := hm2.heap h.f2 (by omega)
  have ce := cell_of_heap he2 0
  have c1 := cell_of_heap w02 0
  have z1 := free_of_heap w02 0
  have m1 := (Mod.refl (fun k => k = n0) w2).setCell (p := ⟨n0, 0, none⟩) (.pointer none) (fun _ => rfl)
  have c2 := cell_of_heap (m1.heap r12 (by omega)) 0
  have z2 := frozen_mod m1 r12 (by omega) 0
  have m2 := (Mod.refl (fun k => k = n0 ∨ k = n0 + 1) w2).setCell (p := ⟨n0, 0, none⟩) (.pointer none) (fun _ => Or.inl rfl) |>.setCell (p := ⟨n0 + 1, 0, none⟩) (.slice none 0 0) (fun _ => Or.inr rfl)
  have c3 := cell_of_heap (m2.heap f22 (by omega)) 0
  have z3 := frozen_mod m2 f22 (by omega) 0
  apply wpS_seq
  apply wpS_region
  simp [wpOpsS, go_sem, ce, her', Exit.thenS]
  refine wpS_cond (t := true) (by simp [Act.eval]) ?_
  simp only [if_true]
  apply wpS_region
  simp [wpOpsS, go_sem, c1, z1, c2, z2, c3, z3, bodyPostS, results, Tryd.results54]
  have a0 : (((w2.setCell ⟨n0, 0, none⟩ (.pointer none)).setCell ⟨n0 + 1, 0, none⟩ (.slice none 0 0)).setCell ⟨n0 + 2, 0, none⟩ (.int .i64 0)).heap[n0]? = some (.cells #[.pointer none] 50 (0, 0)) := by
    rw [heap_setCell_ne (by simp), heap_setCell_ne (by simp), heap_setCell_at w02 0]; rfl
  have a1 : (((w2.setCell ⟨n0, 0, none⟩ (.pointer none)).setCell ⟨n0 + 1, 0, none⟩ (.slice none 0 0)).setCell ⟨n0 + 2, 0, none⟩ (.int .i64 0)).heap[n0 + 1]? = some (.cells #[.slice none 0 0] 37 (0, 0)) := by
    rw [heap_setCell_ne (by simp), heap_setCell_at (m1.heap r12 (by omega)) 0]; rfl
  have a2 : (((w2.setCell ⟨n0, 0, none⟩ (.pointer none)).setCell ⟨n0 + 1, 0, none⟩ (.slice none 0 0)).setCell ⟨n0 + 2, 0, none⟩ (.int .i64 0)).heap[n0 + 2]? = some (.cells #[.int .i64 0] 3 (0, 0)) := by
    rw [heap_setCell_at (m2.heap f22 (by omega)) 0]; rfl
  have a3 : (((w2.setCell ⟨n0, 0, none⟩ (.pointer none)).setCell ⟨n0 + 1, 0, none⟩ (.slice none 0 0)).setCell ⟨n0 + 2, 0, none⟩ (.int .i64 0)).heap[n0 + 3]? = some (.cells #[.int .i64 er] 24 (0, 0)) := by
    rw [heap_setCell_ne (by simp), heap_setCell_ne (by simp), heap_setCell_ne (by simp)]; exact he2
  exact ⟨⟨a0, a1, a2, a3⟩, (((hm2.mono (T := fun k => n0 ≤ k ∧ k < n0 + 4) (fun k _ h => by omega)).setCell (p := ⟨n0, 0, none⟩) (.pointer none) (fun _ => ⟨Nat.le_refl _, by show n0 < n0 + 4; omega⟩)).setCell (p := ⟨n0 + 1, 0, none⟩) (.slice none 0 0) (fun _ => ⟨by show n0 ≤ n0 + 1; omega, by show n0 + 1 < n0 + 4; omega⟩)).setCell (p := ⟨n0 + 2, 0, none⟩) (.int .i64 0) (fun _ => ⟨by show n0 ≤ n0 + 2; omega, by show n0 + 2 < n0 + 4; omega⟩)⟩
end Go.Proofs.YtmpdmejlpicdlaaDoor

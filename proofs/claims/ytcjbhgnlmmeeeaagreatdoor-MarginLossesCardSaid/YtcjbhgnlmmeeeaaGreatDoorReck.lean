/- margin.reckon: a sight is made and asked; what is given up is caught. -/
import Derived.Test.YtcjbhgnlmmeeeaaGreatDoorLook
import Derived.Defers
import Derived.Recover
import Derived.Laws.Pointers
import Derived.Shelf.Abstract
namespace Go.Proofs.YtcjbhgnlmmeeeaaGreatDoor
open Go.RowKit Go.Bw Go.Maps Go.Shelf Go.Bw.Fall
set_option linter.unusedVariables false
set_option linter.unusedSimpArgs false

set_option maxHeartbeats 1000000 in
theorem mcaught_nil (p : Value) (w : World) : Calls Tryz.prog 74 #[p, .nilIface] w fun e w' => e = .returned (.tuple #[]) ∧ w = w' := by
  go_enter Tryz.func74, Tryz.ntmps74
  go_wp2_with fail
  go_end0
  exact ⟨rfl, rfl⟩
theorem frozen_mod {S : Nat → Prop} {w w' : World} (h : Mod S w w') {b : Nat} {cs : Array Value} {t : TypeId} (hb : w.heap[b]? = some (.cells cs t (0, 0))) (hS : ¬ S b) (o : Nat) : w'.frozen? ⟨b, o, none⟩ = false := free_of_heap (h.heap hb hS) o
set_option maxRecDepth 100000 in
set_option maxHeartbeats 1000000 in
theorem mcaught_stop (p : Nat) (er x : Int) (T : TypeId) (w : World) (hp : w.heap[p]? = some (.cells #[.int .i64 x] T (0, 0))) :
    Calls Tryz.prog 74 #[.pointer (some ⟨p, 0, none⟩), .iface 82 (.agg #[.int .i64 er])] w fun e w' => e = .returned (.tuple #[]) ∧ w'.heap[p]? = some (.cells #[.int .i64 er] T (0, 0)) ∧ Mod (fun k => k = p) w w' := by
  have hta : ∀ (W : World) (v : Value), (Instr.typeAssert (.iface 82 v) 20 82 true).run Tryz.prog W = .ok (.tuple #[v, .bool true]) W := fun W v => by kernel_rfl
  have M0 := (Mod.refl (fun _ => False) w).alloc (.cells #[.int .i64 er] 82)
  have c1 := cell_of_heap (M0.heap hp (fun h => h)) 0
  have z1 := frozen_mod M0 hp (fun h => h) 0
  have HP := Lib.hid hp
  clear hp M0
  go_enter Tryz.func74, Tryz.ntmps74
  go_wp2_with fail
  go_end0
  refine ⟨rfl, ?_, (((Mod.refl (fun k => k = p) w).alloc _).setCell _ (fun _ => rfl))⟩
  have := heap_setCell_at (((Mod.refl (fun _ => False) w).alloc (.cells #[.int .i64 er] 82)).heap HP.out (fun h => h)) 0 (.int .i64 er)
  simpa using this
set_option maxHeartbeats 1000000 in
theorem reckoned_ok (pe px : Nat) (w : World) (he : w.cell? ⟨pe, 0, none⟩ = some (.int .i64 0)) :
    CallsD Tryz.prog 73 #[.pointer (some ⟨pe, 0, none⟩), .pointer (some ⟨px, 0, none⟩)] .returning w fun e u' w' => e = .returned (.tuple #[]) ∧ u' = .returning ∧ w' = w := by
  refine callsD_of_wpS Tryz.func73 rfl fun c₀ cs hu => ?_
  apply wpS_seq
  apply wpS_region
  simp [wpOpsS, go_sem, recoverD, hu, Tryz.ntmps73, Exit.thenS]
  refine (mcaught_nil _ w).mono ?_
  rintro e w' ⟨rfl, rfl⟩
  apply wpS_seq
  apply wpS_region
  simp [wpOpsS, go_sem, he, Exit.thenS]
  refine wpS_cond (t := false) (by simp [Act.eval]) ?_
  simp only [Bool.false_eq_true, if_false]
  refine wpS_of_wp (wp_skip ?_)
  cases c₀
  simp_all [bodyPostS, results, Tryz.results73]
/-- The two results' own variables. -/
structure Res (w : World) (px pe : Nat) (x e : Int) : Prop where
  a : w.heap[px]? = some (.cells #[.int .i64 x] 3 (0, 0))
  b : w.heap[pe]? = some (.cells #[.int .i64 e] 34 (0, 0))
theorem Res.mod {w w' : World} {px pe : Nat} {x e : Int} (h : Res w px pe x e) {S : Nat → Prop} (hm : Mod S w w') (h1 : ¬ S px) (h2 : ¬ S pe) : Res w' px pe x e := ⟨hm.heap h.a h1, hm.heap h.b h2⟩
theorem Res.set {w : World} {px pe : Nat} {x e : Int} (h : Res w px pe x e) (hn : pe = px + 1) (y f : Int) : Res ((w.setCell ⟨px, 0, none⟩ (.int .i64 y)).setCell ⟨pe, 0, none⟩ (.int .i64 f)) px pe y f := by
  subst hn
  have h1 := heap_setCell_at h.a 0 (.int .i64 y)
  have h2 : (w.setCell ⟨px, 0, none⟩ (.int .i64 y)).heap[px + 1]? = _ := (Below.heap_setCell w ⟨px, 0, none⟩ (.int .i64 y) (px + 1) (by simp)).trans h.b
  have h3 := heap_setCell_at h2 0 (.int .i64 f)
  exact ⟨(Below.heap_setCell _ ⟨px + 1, 0, none⟩ (.int .i64 f) px (by simp)).trans (by simpa using h1), by simpa using h3⟩
set_option maxRecDepth 100000 in
set_option maxHeartbeats 2000000 in
theorem reckoned_stop (px pe : Nat) (hn : pe = px + 1) (w : World) (er : Int) (her : er ≠ 0) (x y : Int) (h : Res w px pe x y) :
    CallsD Tryz.prog 73 #[.pointer (some ⟨pe, 0, none⟩), .pointer (some ⟨px, 0, none⟩)] (.panicking (stopWith er)) w fun e u' w' => e = .returned (.tuple #[]) ∧ u' = .panicking [{ v := .iface 82 (.agg #[.int .i64 er]), recovered := true }] ∧ Res w' px pe 0 er ∧ Mod (fun k => k = px ∨ k = pe) w w' := by
  subst hn
  unfold stopWith
  have her' : (er != 0) = true := by rw [bne_iff_ne]; exact her
  clear her
  refine callsD_of_wpS Tryz.func73 rfl fun c₀ cs hu => ?_
  apply wpS_seq
  apply wpS_region
  simp [wpOpsS, go_sem, recoverD, hu, Tryz.ntmps73, Exit.thenS]
  refine (mcaught_stop (px + 1) er y _ w h.b).mono ?_
  rintro e w2 ⟨rfl, he2, hm2⟩
  have a2 := hm2.heap h.a (by omega)
  have ce := cell_of_heap he2 0
  have c1 := cell_of_heap a2 0
  have z1 := free_of_heap a2 0
  apply wpS_seq
  apply wpS_region
  simp [wpOpsS, go_sem, ce, her', Exit.thenS]
  refine wpS_cond (t := true) (by simp [Act.eval]) ?_
  simp only [if_true]
  apply wpS_region
  simp [wpOpsS, go_sem, c1, z1, bodyPostS, results, Tryz.results73]
  refine ⟨⟨?_, ?_⟩, (hm2.mono (T := fun k => k = px ∨ k = px + 1) (fun k _ h => Or.inr h)).setCell _ (fun _ => Or.inl rfl)⟩
  · have := heap_setCell_at a2 0 (.int .i64 0)
    simpa using this
  · exact (Below.heap_setCell w2 ⟨px, 0, none⟩ (.int .i64 0) (px + 1) (by simp)).trans he2
/-- What a question of a sight answers: a number, or it is given up. -/
def AskO (r : Int × Int) (e : Ending) : Prop := (r.2 = 0 ∧ e = .returned (.int .i64 r.1)) ∨ (r.2 ≠ 0 ∧ r.1 = 0 ∧ e = .panicked (stopWith r.2))
theorem AskO.of {o : Option Int} {e : Ending} (h : OutO o e) : AskO (retA o) e := by
  rcases h with ⟨x, rfl, rfl⟩ | ⟨rfl, rfl⟩
  · exact Or.inl ⟨rfl, rfl⟩
  · exact Or.inr ⟨by decide, rfl, rfl⟩
/-- What is asked of a question that is handed over. -/
def Asks (w : World) (V : LedV) (L : Led) (a g : Nat) (lb : Array Value) (r : Int × Int) : Prop :=
  ∀ (W : World) (b mb : Nat) (bv : Value), Sight W b mb bv V L a → w.heap.size ≤ mb → Below w.heap.size w W → Calls Tryz.prog g (#[.pointer (some ⟨b, 0, none⟩)] ++ lb) W fun e w' => AskO r e ∧ Mod (fun k => k = mb) W w'
theorem res_new (w : World) (B : Nat) (o : Obj) (h : B = (w.alloc o).heap.size) : Res (((w.alloc o).alloc (.cells #[.int .i64 0] 3)).alloc (.cells #[.int .i64 0] 34)) B (B + 1) 0 0 := by
  subst h
  have h1 := heap_alloc_new (w.alloc o) (.cells #[.int .i64 0] 3)
  have h2 := heap_alloc_new ((w.alloc o).alloc (.cells #[.int .i64 0] 3)) (.cells #[.int .i64 0] 34)
  exact ⟨((Mod.refl (fun _ => False) _).alloc _).heap h1 (fun h => h), by simpa using h2⟩
set_option maxRecDepth 100000 in
set_option maxHeartbeats 4000000 in
theorem reckon_bad (w : World) (V : LedV) (L : Led) (h : LedAt w V L) (hL : L.accts.length ≤ 1024) (hng : ¬ L.Good) (acct : Int) (g : Nat) (lb : Array Value) :
    Calls Tryz.prog 30 #[V.val L, .int .i64 acct, .func (.func g) #[] lb] w fun e w' => e = .returned (.tuple #[.int .i64 0, .int .i64 43]) ∧ Below w.heap.size w w' := by
  have LK := Lib.hid (fun W (hb : Below w.heap.size w W) => look_bad W V L (h.below hb) hL hng acct)
  obtain ⟨a1, c1, a2, c2, a3, c3, a4, c4, a5, c5, a6, c6, a7, c7, a8, c8, e1, e2, e3, e4, e5, e6, e7, e8⟩ := LedAt.opened h
  unfold LedV.val LedV.cells at LK ⊢
  rw [e1, e2, e3, e4, e5, e6, e7, e8] at LK ⊢
  obtain ⟨n1, hn1⟩ : ∃ n, n = L.curs.length := ⟨_, rfl⟩
  obtain ⟨n2, hn2⟩ : ∃ n, n = L.unders.length := ⟨_, rfl⟩
  obtain ⟨n3, hn3⟩ : ∃ n, n = L.instrs.length := ⟨_, rfl⟩
  obtain ⟨n4, hn4⟩ : ∃ n, n = L.accts.length := ⟨_, rfl⟩
  obtain ⟨n5, hn5⟩ : ∃ n, n = L.poss.length := ⟨_, rfl⟩
  obtain ⟨n6, hn6⟩ : ∃ n, n = L.orders.length := ⟨_, rfl⟩
  obtain ⟨n7, hn7⟩ : ∃ n, n = L.avail.length := ⟨_, rfl⟩
  obtain ⟨n8, hn8⟩ : ∃ n, n = L.locs.length := ⟨_, rfl⟩
  rw [← hn1, ← hn2, ← hn3, ← hn4, ← hn5, ← hn6, ← hn7, ← hn8] at LK ⊢
  clear h hL hng e1 e2 e3 e4 e5 e6 e7 e8 hn1 hn2 hn3 hn4 hn5 hn6 hn7 hn8
  go_enter_defers Tryz.func30, Tryz.ntmps30
  go_wp2_with fail
  obtain ⟨W0, hW0⟩ : ∃ W0, W0 = (((w.alloc (.cells #[.int .i64 L.day, .slice a1 n1 c1, .slice a2 n2 c2, .slice a3 n3 c3, .slice a4 n4 c4, .slice a5 n5 c5, .slice a6 n6 c6, .slice a7 n7 c7, .slice a8 n8 c8] 31)).alloc (.cells #[.int .i64 0] 3)).alloc (.cells #[.int .i64 0] 34)) := ⟨_, rfl⟩
  have R0 := Lib.hid (show Res W0 (w.heap.size + 1) (w.heap.size + 1 + 1) 0 0 ∧ Below w.heap.size w W0 ∧ w.heap.size + 1 + 1 < W0.heap.size from by
    rw [hW0]
    exact ⟨res_new w _ _ (by simp), (((Below.refl _ _).alloc (Nat.le_refl _) _).alloc (by simp) _).alloc (by simp; omega) _, by simp⟩)
  rw [← hW0]
  obtain ⟨px, hpx⟩ : ∃ px, px = w.heap.size + 1 := ⟨_, rfl⟩
  rw [← hpx] at R0 ⊢
  have PX := Lib.hid (show w.heap.size < px from by omega)
  clear hW0 hpx
  refine (LK.out W0 R0.out.2.1).mono ?_
  rintro e w1 ⟨rfl, hb⟩
  have R1 := Lib.hid (show Res w1 px (px + 1) 0 0 ∧ Below w.heap.size w w1 from ⟨R0.out.1.mod (Mod.of_below hb) (fun h => h) (fun h => h), R0.out.2.1.trans (hb.mono R0.out.2.1.size)⟩)
  clear hb
  go_wp2_with fail
  refine leaves_cons (f := 73) (args := #[.pointer (some ⟨px + 1, 0, none⟩), .pointer (some ⟨px, 0, none⟩)]) (by simp) (by simp [go_sem]) ?_
  refine (reckoned_stop px (px + 1) rfl _ 43 (by first | decide | exact her) 0 0 R1.out.1).mono ?_
  rintro e u' w9 ⟨rfl, rfl, R9, m9⟩
  have j0 := cell_of_heap R9.a 0
  have j1 := cell_of_heap R9.b 0
  have B9 := Lib.hid (show Below w.heap.size w w9 from ((Mod.of_below R1.out.2).trans m9 (fun k hk h => by have := PX.out; omega)).toBelow)
  clear m9
  simp [Leaves, settle, results, Tryz.results30, go_sem, j0, j1]
  exact B9.out
set_option maxRecDepth 100000 in
set_option maxHeartbeats 4000000 in
theorem reckon_out (w : World) (V : LedV) (L : Led) (h : LedAt w V L) (hL : L.accts.length ≤ 1024) (hgd : L.Good) (acct : Int) (ho : acct < 0 ∨ (L.accts.length : Int) ≤ acct) (g : Nat) (lb : Array Value) :
    Calls Tryz.prog 30 #[V.val L, .int .i64 acct, .func (.func g) #[] lb] w fun e w' => e = .returned (.tuple #[.int .i64 0, .int .i64 33]) ∧ Below w.heap.size w w' := by
  have LK := Lib.hid (fun W (hb : Below w.heap.size w W) => look_out W V L (h.below hb) hL hgd acct ho)
  obtain ⟨a1, c1, a2, c2, a3, c3, a4, c4, a5, c5, a6, c6, a7, c7, a8, c8, e1, e2, e3, e4, e5, e6, e7, e8⟩ := LedAt.opened h
  unfold LedV.val LedV.cells at LK ⊢
  rw [e1, e2, e3, e4, e5, e6, e7, e8] at LK ⊢
  obtain ⟨n1, hn1⟩ : ∃ n, n = L.curs.length := ⟨_, rfl⟩
  obtain ⟨n2, hn2⟩ : ∃ n, n = L.unders.length := ⟨_, rfl⟩
  obtain ⟨n3, hn3⟩ : ∃ n, n = L.instrs.length := ⟨_, rfl⟩
  obtain ⟨n4, hn4⟩ : ∃ n, n = L.accts.length := ⟨_, rfl⟩
  obtain ⟨n5, hn5⟩ : ∃ n, n = L.poss.length := ⟨_, rfl⟩
  obtain ⟨n6, hn6⟩ : ∃ n, n = L.orders.length := ⟨_, rfl⟩
  obtain ⟨n7, hn7⟩ : ∃ n, n = L.avail.length := ⟨_, rfl⟩
  obtain ⟨n8, hn8⟩ : ∃ n, n = L.locs.length := ⟨_, rfl⟩
  rw [← hn1, ← hn2, ← hn3, ← hn4, ← hn5, ← hn6, ← hn7, ← hn8] at LK ⊢
  clear h hL hgd ho e1 e2 e3 e4 e5 e6 e7 e8 hn1 hn2 hn3 hn4 hn5 hn6 hn7 hn8
  go_enter_defers Tryz.func30, Tryz.ntmps30
  go_wp2_with fail
  obtain ⟨W0, hW0⟩ : ∃ W0, W0 = (((w.alloc (.cells #[.int .i64 L.day, .slice a1 n1 c1, .slice a2 n2 c2, .slice a3 n3 c3, .slice a4 n4 c4, .slice a5 n5 c5, .slice a6 n6 c6, .slice a7 n7 c7, .slice a8 n8 c8] 31)).alloc (.cells #[.int .i64 0] 3)).alloc (.cells #[.int .i64 0] 34)) := ⟨_, rfl⟩
  have R0 := Lib.hid (show Res W0 (w.heap.size + 1) (w.heap.size + 1 + 1) 0 0 ∧ Below w.heap.size w W0 ∧ w.heap.size + 1 + 1 < W0.heap.size from by
    rw [hW0]
    exact ⟨res_new w _ _ (by simp), (((Below.refl _ _).alloc (Nat.le_refl _) _).alloc (by simp) _).alloc (by simp; omega) _, by simp⟩)
  rw [← hW0]
  obtain ⟨px, hpx⟩ : ∃ px, px = w.heap.size + 1 := ⟨_, rfl⟩
  rw [← hpx] at R0 ⊢
  have PX := Lib.hid (show w.heap.size < px from by omega)
  clear hW0 hpx
  refine (LK.out W0 R0.out.2.1).mono ?_
  rintro e w1 ⟨rfl, hb⟩
  have R1 := Lib.hid (show Res w1 px (px + 1) 0 0 ∧ Below w.heap.size w w1 from ⟨R0.out.1.mod (Mod.of_below hb) (fun h => h) (fun h => h), R0.out.2.1.trans (hb.mono R0.out.2.1.size)⟩)
  clear hb
  go_wp2_with fail
  refine leaves_cons (f := 73) (args := #[.pointer (some ⟨px + 1, 0, none⟩), .pointer (some ⟨px, 0, none⟩)]) (by simp) (by simp [go_sem]) ?_
  refine (reckoned_stop px (px + 1) rfl _ 33 (by first | decide | exact her) 0 0 R1.out.1).mono ?_
  rintro e u' w9 ⟨rfl, rfl, R9, m9⟩
  have j0 := cell_of_heap R9.a 0
  have j1 := cell_of_heap R9.b 0
  have B9 := Lib.hid (show Below w.heap.size w w9 from ((Mod.of_below R1.out.2).trans m9 (fun k hk h => by have := PX.out; omega)).toBelow)
  clear m9
  simp [Leaves, settle, results, Tryz.results30, go_sem, j0, j1]
  exact B9.out
set_option maxRecDepth 100000 in
set_option maxHeartbeats 4000000 in
theorem reckon_ok (w : World) (V : LedV) (L : Led) (h : LedAt w V L) (hgd : L.Good) (hGr : Grd w) (a : Nat) (ha : a < L.accts.length) (g : Nat) (lb : Array Value) (hg : Enters Tryz.prog g) (r : Int × Int) (hr : Asks w V L a g lb r) :
    Calls Tryz.prog 30 #[V.val L, .int .i64 (a : Int), .func (.func g) #[] lb] w fun e w' => e = .returned (.tuple #[.int .i64 r.1, .int .i64 r.2]) ∧ Below w.heap.size w w' := by
  have LK := Lib.hid (fun W (hb : Below w.heap.size w W) => look_ok W V L (h.below hb) hgd (hGr.below hb) a ha)
  have EG := Lib.hid hg
  have HR := Lib.hid hr
  obtain ⟨a1, c1, a2, c2, a3, c3, a4, c4, a5, c5, a6, c6, a7, c7, a8, c8, e1, e2, e3, e4, e5, e6, e7, e8⟩ := LedAt.opened h
  unfold LedV.val LedV.cells at LK ⊢
  rw [e1, e2, e3, e4, e5, e6, e7, e8] at LK ⊢
  obtain ⟨n1, hn1⟩ : ∃ n, n = L.curs.length := ⟨_, rfl⟩
  obtain ⟨n2, hn2⟩ : ∃ n, n = L.unders.length := ⟨_, rfl⟩
  obtain ⟨n3, hn3⟩ : ∃ n, n = L.instrs.length := ⟨_, rfl⟩
  obtain ⟨n4, hn4⟩ : ∃ n, n = L.accts.length := ⟨_, rfl⟩
  obtain ⟨n5, hn5⟩ : ∃ n, n = L.poss.length := ⟨_, rfl⟩
  obtain ⟨n6, hn6⟩ : ∃ n, n = L.orders.length := ⟨_, rfl⟩
  obtain ⟨n7, hn7⟩ : ∃ n, n = L.avail.length := ⟨_, rfl⟩
  obtain ⟨n8, hn8⟩ : ∃ n, n = L.locs.length := ⟨_, rfl⟩
  rw [← hn1, ← hn2, ← hn3, ← hn4, ← hn5, ← hn6, ← hn7, ← hn8] at LK ⊢
  clear h hgd hGr ha e1 e2 e3 e4 e5 e6 e7 e8 hn1 hn2 hn3 hn4 hn5 hn6 hn7 hn8 hr hg
  go_enter_defers Tryz.func30, Tryz.ntmps30
  go_wp2_with fail
  obtain ⟨W0, hW0⟩ : ∃ W0, W0 = (((w.alloc (.cells #[.int .i64 L.day, .slice a1 n1 c1, .slice a2 n2 c2, .slice a3 n3 c3, .slice a4 n4 c4, .slice a5 n5 c5, .slice a6 n6 c6, .slice a7 n7 c7, .slice a8 n8 c8] 31)).alloc (.cells #[.int .i64 0] 3)).alloc (.cells #[.int .i64 0] 34)) := ⟨_, rfl⟩
  have R0 := Lib.hid (show Res W0 (w.heap.size + 1) (w.heap.size + 1 + 1) 0 0 ∧ Below w.heap.size w W0 ∧ w.heap.size + 1 + 1 < W0.heap.size from by
    rw [hW0]
    exact ⟨res_new w _ _ (by simp), (((Below.refl _ _).alloc (Nat.le_refl _) _).alloc (by simp) _).alloc (by simp; omega) _, by simp⟩)
  rw [← hW0]
  obtain ⟨px, hpx⟩ : ∃ px, px = w.heap.size + 1 := ⟨_, rfl⟩
  rw [← hpx] at R0 ⊢
  have PX := Lib.hid (show w.heap.size < px from by omega)
  clear hW0 hpx
  refine (LK.out W0 R0.out.2.1).mono ?_
  rintro e w1 ⟨b, mb, bv, rfl, hs, hb, hmb⟩
  have R1 := Lib.hid (show Res w1 px (px + 1) 0 0 ∧ Below w.heap.size w w1 from ⟨R0.out.1.mod (Mod.of_below hb) (fun h => h) (fun h => h), R0.out.2.1.trans (hb.mono R0.out.2.1.size)⟩)
  have NM := Lib.hid (show w.heap.size ≤ mb ∧ px + 1 < mb from ⟨Nat.le_trans R0.out.2.1.size hmb, Nat.lt_of_lt_of_le R0.out.2.2 hmb⟩)
  have CALL := Lib.hid (HR.out w1 b mb bv hs NM.out.1 R1.out.2)
  have eg : ∀ (args : Array Value) (w : World), (callFunc g args).run Tryz.prog w = .ok (.enter g args) w := EG.out
  clear hs hb hmb
  go_wp2_with fail
  refine CALL.out.mono ?_
  rintro e w2 ⟨ho, hm⟩
  have R2 := Lib.hid (show Res w2 px (px + 1) 0 0 ∧ Below w.heap.size w w2 from ⟨R1.out.1.mod hm (by have := NM.out; omega) (by have := NM.out; omega), ((Mod.of_below R1.out.2).trans hm (fun k hk h => by have := NM.out; omega)).toBelow⟩)
  clear hm eg
  rcases ho with ⟨hz, rfl⟩ | ⟨hz, hz1, rfl⟩
  · have HZ := Lib.hid hz
    clear hz
    have k0 := cell_of_heap R2.out.1.a 0
    have k1 := cell_of_heap R2.out.1.b 0
    have z0 := free_of_heap R2.out.1.a 0
    have z1 := free_of_heap R2.out.1.b 0
    go_wp2_with fail
    have RS := R2.out.1.set rfl r.1 0
    have BS := Lib.hid (show Below w.heap.size w ((w2.setCell ⟨px, 0, none⟩ (.int .i64 r.1)).setCell ⟨px + 1, 0, none⟩ (.int .i64 0)) from (R2.out.2.setCell (by have := PX.out; show w.heap.size ≤ px; omega) _).setCell (by have := PX.out; show w.heap.size ≤ px + 1; omega) _)
    obtain ⟨w3, hw3⟩ : ∃ w3, w3 = (w2.setCell ⟨px, 0, none⟩ (.int .i64 r.1)).setCell ⟨px + 1, 0, none⟩ (.int .i64 0) := ⟨_, rfl⟩
    rw [← hw3] at RS BS ⊢
    clear hw3 k0 k1 z0 z1
    have j0 := cell_of_heap RS.a 0
    have j1 := cell_of_heap RS.b 0
    have E2 := HZ.out
    refine leaves_cons (f := 73) (args := #[.pointer (some ⟨px + 1, 0, none⟩), .pointer (some ⟨px, 0, none⟩)]) (by simp) (by simp [go_sem]) ?_
    refine (reckoned_ok (px + 1) px w3 j1).mono ?_
    rintro e u' w9 ⟨rfl, rfl, rfl⟩
    simp [Leaves, settle, results, Tryz.results30, go_sem, j0, j1]
    exact ⟨E2.symm, BS.out⟩
  · have HZ := Lib.hid (And.intro hz hz1)
    clear hz hz1
    obtain ⟨er, her⟩ : ∃ er, er = r.2 := ⟨_, rfl⟩
    have ER := Lib.hid her
    rw [← her]
    clear her
    go_wp2_with fail
    refine leaves_cons (f := 73) (args := #[.pointer (some ⟨px + 1, 0, none⟩), .pointer (some ⟨px, 0, none⟩)]) (by simp) (by simp [go_sem]) ?_
    refine (reckoned_stop px (px + 1) rfl _ er (by first | decide | exact (by rw [ER.out]; exact HZ.out.1)) 0 0 R2.out.1).mono ?_
    rintro e u' w9 ⟨rfl, rfl, R9, m9⟩
    have j0 := cell_of_heap R9.a 0
    have j1 := cell_of_heap R9.b 0
    have B9 := Lib.hid (show Below w.heap.size w w9 from ((Mod.of_below R2.out.2).trans m9 (fun k hk h => by have := PX.out; omega)).toBelow)
    clear m9
    simp [Leaves, settle, results, Tryz.results30, go_sem, j0, j1]
    exact ⟨⟨HZ.out.2.symm, ER.out⟩, B9.out⟩
end Go.Proofs.YtcjbhgnlmmeeeaaGreatDoor

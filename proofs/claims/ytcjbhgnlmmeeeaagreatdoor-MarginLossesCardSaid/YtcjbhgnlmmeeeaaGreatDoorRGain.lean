/- bulwarkref16.Gain, walked (printed by tools/gen_rgain.py). -/
import Derived.Test.YtcjbhgnlmmeeeaaGreatDoorRf12
import Derived.Test.YtcjbhgnlmmeeeaaGreatDoorMgF
import Derived.Test.YtcjbhgnlmmeeeaaGreatDoorMgG
import Derived.Test.YtcjbhgnlmmeeeaaGreatDoorLook
namespace Go.Proofs.YtcjbhgnlmmeeeaaGreatDoor
open Go.RowKit Go.Bw Go.Maps Go.Shelf Go.Bw.Fall
set_option linter.unusedVariables false
set_option linter.unusedSimpArgs false

theorem retA_opt {r : Int × Int} (h : r.2 = 0 ∧ fitsA r.1 = true ∨ r = (0, 4)) : retA (optA r) = r := by
  rcases h with h | h
  · unfold optA; rw [if_pos h.1]; show (r.1, (0 : Int)) = r; rw [← h.1]
  · rw [h]; rfl
set_option maxRecDepth 100000 in
set_option maxHeartbeats 8000000 in
theorem rgain_any (w : World) (V : LedV) (L : Led) (h : LedAt w V L) (hg : L.Good) (j : Nat) (hj : j < L.instrs.length) (s : Nat) (hs : s < 21) (qty frm : Int)
    (q0 : -1000000000 ≤ qty) (q1 : qty ≤ 1000000000) (f0 : 0 ≤ frm) (f1 : frm ≤ 100000000000000) :
    Calls Tryz.prog 52 #[V.val L, .int .i64 (j : Int), .int .i64 qty, .int .i64 (s : Int), .int .i64 frm] w fun e w' => e = .returned (.tuple #[.int .i64 (retA (gainO L j qty s frm)).1, .int .i64 (retA (gainO L j qty s frm)).2]) ∧ Below w.heap.size w w' := by
  have HL := Lib.hid h
  have HG := Lib.hid hg
  have HJ := Lib.hid hj
  have S21 := Lib.hid hs
  obtain ⟨x, hx⟩ : ∃ x, L.instrs[j]? = some x := ⟨_, List.getElem?_eq_getElem hj⟩
  have EX := Lib.hid (show L.ins (j : Int) = x from by unfold Led.ins; simp [hx])
  have hok := hg.things.instrs x (List.mem_of_getElem? hx)
  obtain ⟨u, hu⟩ : ∃ u : Nat, x.under = u := ⟨x.under.toNat, by have := hok.1; omega⟩
  have hul : u < L.unders.length := by have := hok.2.1; omega
  obtain ⟨y, hy⟩ : ∃ y, L.unders[u]? = some y := ⟨_, List.getElem?_eq_getElem hul⟩
  have EY := Lib.hid (show L.und (u : Int) = y from by unfold Led.und; simp [hy])
  have uk := (hg.unit_ok (n := (j : Int)) (by omega) (by omega) s).2
  obtain ⟨U, hU⟩ : ∃ U, U = L.unit j s := ⟨_, rfl⟩
  rw [← hU] at uk
  have GO := Lib.hid (show gainO L j qty s frm = optA (mulA (qty * x.mult) (U - frm)) from by unfold gainO mulO; rw [EX.out, hU])
  rw [GO.out]
  have m0 := hok.2.2.1
  have m1 := hok.2.2.2.1
  have qm : -1000000000000000 ≤ qty * x.mult ∧ qty * x.mult ≤ 1000000000000000 := by
    constructor
    · have := Int.mul_le_mul_of_nonneg_right q0 (show 0 ≤ x.mult by omega)
      have := Int.mul_le_mul_of_nonneg_left m1 (show (0 : Int) ≤ 1000000000 by omega)
      omega
    · have := Int.mul_le_mul_of_nonneg_right q1 (show 0 ≤ x.mult by omega)
      omega
  have SU := Lib.hid (show ∀ W, Calls Tryz.prog 49 #[.int .i64 U, .int .i64 frm] W fun e w' => e = .returned (.tuple #[.int .i64 (U - frm), .int .i64 0]) ∧ W = w' from fun W => by
    have h := rsub_any U frm W
    rw [show subA U frm = (U - frm, 0) from by unfold subA; rw [if_pos ⟨fitsA_true.2 (by omega), fitsA_true.2 (by omega), fitsA_true.2 (by omega)⟩]] at h
    exact h)
  have QM := Lib.hid (show ∀ W, Calls Tryz.prog 92 #[.int .i64 qty, .int .i64 x.mult] W fun e w' => e = .returned (.tuple #[.int .i64 (qty * x.mult), .int .i64 0]) ∧ Below W.heap.size W w' from fun W => by
    have h := rmul_any qty x.mult W
    rw [show mulA qty x.mult = (qty * x.mult, 0) from by rw [mulA_eq, if_pos ⟨fitsA_true.2 (by omega), fitsA_true.2 (by omega), fitsA_true.2 (by omega)⟩]] at h
    exact h)
  obtain ⟨D, hD⟩ : ∃ D, D = U - frm := ⟨_, rfl⟩
  obtain ⟨Q, hQ⟩ : ∃ Q, Q = qty * x.mult := ⟨_, rfl⟩
  rw [← hD] at SU ⊢
  rw [← hQ] at QM ⊢
  rw [retA_opt (mulA_er Q D)]
  have MM := Lib.hid (fun W => rmul_any Q D W)
  obtain ⟨MR, hMR⟩ : ∃ r, r = mulA Q D := ⟨_, rfl⟩
  rw [← hMR] at MM ⊢
  obtain ⟨f, hf⟩ : ∃ f : Nat → Int, f = fun s => L.unit j s := ⟨_, rfl⟩
  have UF := Lib.hid (show f s = U from by rw [hf, hU])
  have UC := Lib.hid (show ∀ W : World, Calls Tryz.prog 91 #[.agg #[.int .i64 x.kind, .int .i64 (u : Int), .int .i64 x.mult, .int .i64 x.strike, .int .i64 x.expiry, .bool x.call, .int .i64 x.mark], .agg #[.string y.name, .int .i64 y.cur, .int .i64 y.price, .int .i64 y.vol], .int .i64 L.day] W fun e w' => e = .returned (.tuple #[.agg (unitsV f), .int .i64 0]) ∧ Below W.heap.size W w' from by
    intro W
    have h1 := HG.out.things.instrs x (List.mem_of_getElem? hx)
    have h2 := HG.out.things.unders u y hy
    have := runits_any x y _ _ h1 h2 L.day HG.out.d0 HG.out.d1 W
    rw [hu] at this
    rw [hf]
    have e : (fun s => L.unit (j : Int) s) = (fun s => (unitAt x y L.day s).1) := by
      funext s; unfold Led.unit; rw [EX.out, hu, EY.out]
    rw [e]
    exact this)
  obtain ⟨a1, c1, a2, c2, a3, c3, a4, c4, a5, c5, a6, c6, a7, c7, a8, c8, e1, e2, e3, e4, e5, e6, e7, e8⟩ := LedAt.opened h
  have r3 := h.instrs
  have r2 := h.unders
  rw [e3] at r3
  rw [e2] at r2
  obtain ⟨ib, io, rfl, ibl, ic⟩ := r3.at_ hx
  obtain ⟨ub, uo, rfl, ubl, uc⟩ := r2.at_ hy
  unfold LedV.val LedV.cells
  rw [e1, e2, e3, e4, e5, e6, e7, e8]
  obtain ⟨n1, hn1⟩ : ∃ n, n = L.curs.length := ⟨_, rfl⟩
  obtain ⟨n2, hn2⟩ : ∃ n, n = L.unders.length := ⟨_, rfl⟩
  obtain ⟨n3, hn3⟩ : ∃ n, n = L.instrs.length := ⟨_, rfl⟩
  obtain ⟨n4, hn4⟩ : ∃ n, n = L.accts.length := ⟨_, rfl⟩
  obtain ⟨n5, hn5⟩ : ∃ n, n = L.poss.length := ⟨_, rfl⟩
  obtain ⟨n6, hn6⟩ : ∃ n, n = L.orders.length := ⟨_, rfl⟩
  obtain ⟨n7, hn7⟩ : ∃ n, n = L.avail.length := ⟨_, rfl⟩
  obtain ⟨n8, hn8⟩ : ∃ n, n = L.locs.length := ⟨_, rfl⟩
  rw [← hn1, ← hn2, ← hn3, ← hn4, ← hn5, ← hn6, ← hn7, ← hn8]
  have jn : (j : Int) < n3 := by omega
  have un : (u : Int) < n2 := by omega
  have j0 : (0 : Int) ≤ (j : Int) := by omega
  have u0 : (0 : Int) ≤ (u : Int) := by omega
  have s0 : (0 : Int) ≤ (s : Int) := by omega
  have s1 : (s : Int) < 21 := by omega
  obtain ⟨LB, hLB⟩ : ∃ LB : Array Value, LB = #[.int .i64 L.day, .slice a1 n1 c1, .slice (some ⟨ub, uo, none⟩) n2 c2, .slice (some ⟨ib, io, none⟩) n3 c3, .slice a4 n4 c4, .slice a5 n5 c5, .slice a6 n6 c6, .slice a7 n7 c7, .slice a8 n8 c8] := ⟨_, rfl⟩
  have ELB := Lib.hid hLB
  obtain ⟨W1, hW1⟩ : ∃ W1, W1 = w.alloc (.cells #[.int .i64 L.day, .slice a1 n1 c1, .slice (some ⟨ub, uo, none⟩) n2 c2, .slice (some ⟨ib, io, none⟩) n3 c3, .slice a4 n4 c4, .slice a5 n5 c5, .slice a6 n6 c6, .slice a7 n7 c7, .slice a8 n8 c8] 31) := ⟨_, rfl⟩
  have X1 := Lib.hid (show Below w.heap.size w W1 ∧ BoxAt W1 w.heap.size LB from by rw [hW1, hLB]; exact ⟨(Below.refl _ _).alloc (Nat.le_refl _) _, BoxAt.new _ _ _⟩)
  have IC := Lib.hid (show ∀ W, Below w.heap.size w W → W.cell? ⟨ib, io + j * 7, none⟩ = some (.int .i64 x.kind) ∧ W.cell? ⟨ib, io + j * 7 + 1, none⟩ = some (.int .i64 (u : Int)) ∧ W.cell? ⟨ib, io + j * 7 + 2, none⟩ = some (.int .i64 x.mult) ∧ W.cell? ⟨ib, io + j * 7 + 3, none⟩ = some (.int .i64 x.strike) ∧ W.cell? ⟨ib, io + j * 7 + 4, none⟩ = some (.int .i64 x.expiry) ∧ W.cell? ⟨ib, io + j * 7 + 5, none⟩ = some (.bool x.call) ∧ W.cell? ⟨ib, io + j * 7 + 6, none⟩ = some (.int .i64 x.mark) from fun W hb => by
    have g := fun j u hu => (Mod.of_below hb).cell (ic j u hu) (fun h => h)
    exact ⟨g 0 _ rfl, by rw [← hu]; exact g 1 _ rfl, g 2 _ rfl, g 3 _ rfl, g 4 _ rfl, g 5 _ rfl, g 6 _ rfl⟩)
  have UCC := Lib.hid (show ∀ W, Below w.heap.size w W → W.cell? ⟨ub, uo + u * 4, none⟩ = some (.string y.name) ∧ W.cell? ⟨ub, uo + u * 4 + 1, none⟩ = some (.int .i64 y.cur) ∧ W.cell? ⟨ub, uo + u * 4 + 2, none⟩ = some (.int .i64 y.price) ∧ W.cell? ⟨ub, uo + u * 4 + 3, none⟩ = some (.int .i64 y.vol) from fun W hb => by
    have g := fun j u hu => (Mod.of_below hb).cell (uc j u hu) (fun h => h)
    exact ⟨g 0 _ rfl, g 1 _ rfl, g 2 _ rfl, g 3 _ rfl⟩)
  obtain ⟨i0, i1, i2, i3, i4, i5, i6⟩ := IC.out W1 X1.out.1
  have d3 : W1.cell? ⟨w.heap.size, 3, none⟩ = some (.slice (some ⟨ib, io, none⟩) n3 c3) := X1.out.2.at_ 3 _ (by rw [hLB]; rfl)
  clear h hg hj hs hx hok hu hul hy uk hU m0 m1 qm q0 q1 f0 f1 hD hQ hMR hf e1 e2 e3 e4 e5 e6 e7 e8 r3 r2 ic uc ibl ubl hn1 hn2 hn3 hn4 hn5 hn6 hn7 hn8 hLB
  go_enter Tryz.func52, Tryz.ntmps52
  go_upto_region 1 with (fail)
  rw [← hW1]
  obtain ⟨hb, hhb⟩ : ∃ n, n = w.heap.size := ⟨_, rfl⟩
  rw [← hhb] at d3 ⊢
  have XB := Lib.hid (show BoxAt W1 hb LB from by rw [hhb]; exact X1.out.2)
  clear hW1 hhb
  go_upto_region 2 with (fail)
  clear i0 i1 i2 i3 i4 i5 i6 d3
  obtain ⟨W2, hW2⟩ : ∃ W2, W2 = W1.alloc (.cells #[.int .i64 x.kind, .int .i64 (u : Int), .int .i64 x.mult, .int .i64 x.strike, .int .i64 x.expiry, .bool x.call, .int .i64 x.mark] 54) := ⟨_, rfl⟩
  obtain ⟨b12, hb12⟩ : ∃ n, n = W1.heap.size := ⟨_, rfl⟩
  have X2 := Lib.hid (show Below w.heap.size w W2 ∧ BoxAt W2 hb LB ∧ BoxAt W2 b12 #[.int .i64 x.kind, .int .i64 (u : Int), .int .i64 x.mult, .int .i64 x.strike, .int .i64 x.expiry, .bool x.call, .int .i64 x.mark] from by
    rw [hW2, hb12]
    have b := (Below.refl W1.heap.size W1).alloc (Nat.le_refl _) (.cells #[.int .i64 x.kind, .int .i64 (u : Int), .int .i64 x.mult, .int .i64 x.strike, .int .i64 x.expiry, .bool x.call, .int .i64 x.mark] 54)
    exact ⟨X1.out.1.trans (b.mono X1.out.1.size), XB.out.below b, BoxAt.new _ _ _⟩)
  rw [← hW2, ← hb12]
  clear hW2 hb12 X1 XB
  have CL := Lib.hid (show ∀ z : Cls (fun W => Below W2.heap.size W2 W), Below w.heap.size w z.w ∧ BoxAt z.w hb LB ∧ BoxAt z.w b12 #[.int .i64 x.kind, .int .i64 (u : Int), .int .i64 x.mult, .int .i64 x.strike, .int .i64 x.expiry, .bool x.call, .int .i64 x.mark] from fun z => ⟨X2.out.1.trans (z.ok.mono X2.out.1.size), X2.out.2.1.below z.ok, X2.out.2.2.below z.ok⟩)
  have d0 : ∀ z : Cls (fun W => Below W2.heap.size W2 W), z.w.cell? ⟨hb, 0, none⟩ = some (.int .i64 L.day) := fun z => (CL.out z).2.1.at_ 0 _ (by rw [ELB.out]; rfl)
  have d2 : ∀ z : Cls (fun W => Below W2.heap.size W2 W), z.w.cell? ⟨hb, 2, none⟩ = some (.slice (some ⟨ub, uo, none⟩) n2 c2) := fun z => (CL.out z).2.1.at_ 2 _ (by rw [ELB.out]; rfl)
  have q0 : ∀ z : Cls (fun W => Below W2.heap.size W2 W), z.w.cell? ⟨ub, uo + u * 4, none⟩ = some (.string y.name) := fun z => (UCC.out z.w (CL.out z).1).1
  have q1 : ∀ z : Cls (fun W => Below W2.heap.size W2 W), z.w.cell? ⟨ub, uo + u * 4 + 1, none⟩ = some (.int .i64 y.cur) := fun z => (UCC.out z.w (CL.out z).1).2.1
  have q2 : ∀ z : Cls (fun W => Below W2.heap.size W2 W), z.w.cell? ⟨ub, uo + u * 4 + 2, none⟩ = some (.int .i64 y.price) := fun z => (UCC.out z.w (CL.out z).1).2.2.1
  have q3 : ∀ z : Cls (fun W => Below W2.heap.size W2 W), z.w.cell? ⟨ub, uo + u * 4 + 3, none⟩ = some (.int .i64 y.vol) := fun z => (UCC.out z.w (CL.out z).1).2.2.2
  have r0 : ∀ z : Cls (fun W => Below W2.heap.size W2 W), z.w.cell? ⟨b12, 0, none⟩ = some (.int .i64 x.kind) := fun z => (CL.out z).2.2.at_ 0 _ rfl
  have r1 : ∀ z : Cls (fun W => Below W2.heap.size W2 W), z.w.cell? ⟨b12, 1, none⟩ = some (.int .i64 (u : Int)) := fun z => (CL.out z).2.2.at_ 1 _ rfl
  have r2 : ∀ z : Cls (fun W => Below W2.heap.size W2 W), z.w.cell? ⟨b12, 2, none⟩ = some (.int .i64 x.mult) := fun z => (CL.out z).2.2.at_ 2 _ rfl
  have r3 : ∀ z : Cls (fun W => Below W2.heap.size W2 W), z.w.cell? ⟨b12, 3, none⟩ = some (.int .i64 x.strike) := fun z => (CL.out z).2.2.at_ 3 _ rfl
  have r4 : ∀ z : Cls (fun W => Below W2.heap.size W2 W), z.w.cell? ⟨b12, 4, none⟩ = some (.int .i64 x.expiry) := fun z => (CL.out z).2.2.at_ 4 _ rfl
  have r5 : ∀ z : Cls (fun W => Below W2.heap.size W2 W), z.w.cell? ⟨b12, 5, none⟩ = some (.bool x.call) := fun z => (CL.out z).2.2.at_ 5 _ rfl
  have r6 : ∀ z : Cls (fun W => Below W2.heap.size W2 W), z.w.cell? ⟨b12, 6, none⟩ = some (.int .i64 x.mark) := fun z => (CL.out z).2.2.at_ 6 _ rfl
  refine wp_region_tree (C := fun w' => ∃ z : Cls (fun W => Below W2.heap.size W2 W), w' = z.w) [9, 13, 14] [0, 1, 2, 3, 4, 5, 6, 7, 8, 10, 11, 12] (.step 0 (.step 1 (.step 2 (.step 3 (.step 4 (.step 5 (.step 6 (.step 7 (.step 8 (.fork 9 (.step 10 (.step 11 (.step 12 (.step 13 (.step 14 (.step 15 .leaf)))))) 13 (.step 9 (.step 10 (.step 11 (.step 12 (.step 14 (.step 15 .leaf)))))))))))))))) (fun _ _ _ => False) (by kernel_rfl) (fun _ _ _ h => h.elim) (by kernel_rfl) ⟨⟨W2.drew, ((Mod.refl (fun _ => False) W2).drew).toBelow⟩, rfl⟩ ?_
  haveI ne : Nonempty (Cls (fun W => Below W2.heap.size W2 W)) := ⟨⟨W2, Below.refl _ _⟩⟩
  refine tree_pure [0, 1, 2, 3, 4, 5, 6, 7, 8] (by kernel_rfl) ?_
  simp only [pickL, nth]
  repeat (go_big_quiet_step (fail))
  refine wpQuiet_nil ?_
  clear d0 d2 q0 q1 q2 q3 r0 r1 r2 r3 r4 r5 r6
  refine tree_fork ?_ ?_
  · refine tree_eff (by kernel_rfl) rfl (fun K hK => ?_)
    simp only [pickL, nth]
    refine wpOne_one ?_
    go_simp
    refine (UC.out _).mono ?_
    rintro e w3 ⟨rfl, hb3⟩
    have B3 := Lib.hid (show Below W2.heap.size W2 w3 from ((Mod.refl (fun _ => False) W2).drew.trans (T := fun _ => False) (Mod.of_below hb3) (fun _ _ h => h.elim)).toBelow)
    clear hb3
    go_simp
    refine hK _ _ ⟨⟨w3, B3.out⟩, rfl⟩ ?_
    clear hK
    refine tree_pure [10, 11, 12] (by kernel_rfl) ?_
    simp only [pickL, nth]
    repeat (go_big_quiet_step (fail))
    refine wpQuiet_nil ?_
    refine tree_eff (by kernel_rfl) rfl (fun K hK => ?_)
    simp only [pickL, nth]
    refine wpOne_one ?_
    go_simp
    refine hK _ _ ⟨⟨_, B3.out.alloc B3.out.size _⟩, rfl⟩ ?_
    clear hK
    refine tree_eff (by kernel_rfl) rfl (fun K hK => ?_)
    simp only [pickL, nth]
    refine wpOne_one ?_
    refine wp_store_row 118 (.tmp 13) (.tmp 33) rfl w3.heap.size (unitsV f) rfl rfl 118 _ (heap_alloc_last _ _) (sTen f).out (by rw [unitsV_size]; rfl) (unitsV_cells f) ?_
    rw [World.setRow_alloc_new]
    go_simp
    refine hK _ _ ⟨⟨_, B3.out.alloc B3.out.size _⟩, rfl⟩ ?_
    clear hK
    refine tree_still [15] (by kernel_rfl) ?_
    simp only [pickL, nth]
    repeat (go_big_quiet_step (fail))
    refine wpQuiet_nil ?_
    refine tree_nil ?_
    obtain ⟨W3, hW3⟩ : ∃ W3, W3 = w3.alloc (.cells (unitsV f) 118) := ⟨_, rfl⟩
    obtain ⟨b13, hb13⟩ : ∃ n, n = w3.heap.size := ⟨_, rfl⟩
    have T3 := Lib.hid (show Below W2.heap.size W2 W3 ∧ W3.heap[b13]? = some (.cells (unitsV f) 118 (0, 0)) from by
      rw [hW3, hb13]
      exact ⟨B3.out.alloc B3.out.size _, heap_alloc_last _ _⟩)
    rw [← hW3, ← hb13]
    clear hW3 hb13 B3
    have X3 := Lib.hid (show Below w.heap.size w W3 ∧ BoxAt W3 b12 #[.int .i64 x.kind, .int .i64 (u : Int), .int .i64 x.mult, .int .i64 x.strike, .int .i64 x.expiry, .bool x.call, .int .i64 x.mark] from ⟨X2.out.1.trans (T3.out.1.mono X2.out.1.size), X2.out.2.2.below T3.out.1⟩)
    have g13 : W3.cell? ⟨b13, s, none⟩ = some (.int .i64 U) := by rw [cell_of_heap T3.out.2, unitsV_at f S21.out, UF.out]
    have g12 : W3.cell? ⟨b12, 2, none⟩ = some (.int .i64 x.mult) := X3.out.2.at_ 2 _ rfl
    go_wp2_with fail
    refine (SU.out _).mono ?_
    rintro e w' ⟨rfl, rfl⟩
    go_wp2_with fail
    refine (QM.out _).mono ?_
    rintro e w4 ⟨rfl, hb4⟩
    have B4 := Lib.hid (X3.out.1.trans (hb4.mono X3.out.1.size))
    clear hb4 g13 g12
    go_wp2_with fail
    refine (MM.out _).mono ?_
    rintro e w5 ⟨rfl, hb5⟩
    have B5 := Lib.hid (B4.out.trans (hb5.mono B4.out.size))
    clear hb5
    go_wp2_with fail
    go_ret2
    exact ⟨rfl, B5.out⟩
  · refine tree_eff (by kernel_rfl) rfl (fun K hK => ?_)
    simp only [pickL, nth]
    refine wpOne_one ?_
    go_simp
    refine hK _ _ ⟨⟨_, (((Mod.refl (fun _ => False) W2).alloc _).drew).toBelow⟩, rfl⟩ ?_
    clear hK
    obtain ⟨WA, hWA⟩ : ∃ WA, WA = (W2.alloc (.cells (Array.replicate 21 (.int .i64 0)) 118)).drew := ⟨_, rfl⟩
    have BA := Lib.hid (show Below W2.heap.size W2 WA ∧ WA.heap[W2.heap.size]? = some (.cells (Array.replicate 21 (.int .i64 0)) 118 (0, 0)) ∧ W2.heap.size < WA.heap.size from by rw [hWA]; exact ⟨(((Mod.refl (fun _ => False) W2).alloc _).drew).toBelow, heap_alloc_last W2 _, by show W2.heap.size < (W2.heap.push _).size; simp⟩)
    simp only [show Array.replicate 21 (Value.int .i64 0) = #[.int .i64 0, .int .i64 0, .int .i64 0, .int .i64 0, .int .i64 0, .int .i64 0, .int .i64 0, .int .i64 0, .int .i64 0, .int .i64 0, .int .i64 0, .int .i64 0, .int .i64 0, .int .i64 0, .int .i64 0, .int .i64 0, .int .i64 0, .int .i64 0, .int .i64 0, .int .i64 0, .int .i64 0] from rfl] at hWA
    rw [← hWA]
    clear hWA
    refine tree_eff (by kernel_rfl) rfl (fun K hK => ?_)
    simp only [pickL, nth]
    refine wpOne_one ?_
    go_simp
    refine (UC.out _).mono ?_
    rintro e w3 ⟨rfl, hb3⟩
    have B3 := Lib.hid (show Below W2.heap.size W2 w3 ∧ w3.heap[W2.heap.size]? = some (.cells (Array.replicate 21 (.int .i64 0)) 118 (0, 0)) from ⟨BA.out.1.trans (hb3.mono (by have := BA.out.2.2; omega)), (Mod.of_below hb3).heap BA.out.2.1 (fun h => h)⟩)
    clear hb3
    go_simp
    refine hK _ _ ⟨⟨w3, B3.out.1⟩, rfl⟩ ?_
    clear hK
    refine tree_pure [10, 11, 12] (by kernel_rfl) ?_
    simp only [pickL, nth]
    repeat (go_big_quiet_step (fail))
    refine wpQuiet_nil ?_
    refine tree_eff (by kernel_rfl) rfl (fun K hK => ?_)
    simp only [pickL, nth]
    refine wpOne_one ?_
    refine wp_store_row 118 (.tmp 13) (.tmp 33) rfl W2.heap.size (unitsV f) rfl rfl 118 _ B3.out.2 (sTen f).out (by rw [unitsV_size]; simp) (unitsV_cells f) ?_
    go_simp
    refine hK _ _ ⟨⟨_, below_setRow B3.out.1 (Nat.le_refl _) _⟩, rfl⟩ ?_
    clear hK
    refine tree_still [15] (by kernel_rfl) ?_
    simp only [pickL, nth]
    repeat (go_big_quiet_step (fail))
    refine wpQuiet_nil ?_
    refine tree_nil ?_
    obtain ⟨W3, hW3⟩ : ∃ W3, W3 = w3.setRow W2.heap.size (unitsV f) := ⟨_, rfl⟩
    obtain ⟨b13, hb13⟩ : ∃ n, n = W2.heap.size := ⟨_, rfl⟩
    have T3 := Lib.hid (show Below W2.heap.size W2 W3 ∧ W3.heap[b13]? = some (.cells (unitsV f) 118 (0, 0)) from by
      rw [hW3, hb13]
      exact ⟨below_setRow B3.out.1 (Nat.le_refl _) _, setRow_heap _ _ _ _ _ _ B3.out.2⟩)
    rw [← hW3, ← hb13]
    clear hW3 hb13 B3 BA
    have X3 := Lib.hid (show Below w.heap.size w W3 ∧ BoxAt W3 b12 #[.int .i64 x.kind, .int .i64 (u : Int), .int .i64 x.mult, .int .i64 x.strike, .int .i64 x.expiry, .bool x.call, .int .i64 x.mark] from ⟨X2.out.1.trans (T3.out.1.mono X2.out.1.size), X2.out.2.2.below T3.out.1⟩)
    have g13 : W3.cell? ⟨b13, s, none⟩ = some (.int .i64 U) := by rw [cell_of_heap T3.out.2, unitsV_at f S21.out, UF.out]
    have g12 : W3.cell? ⟨b12, 2, none⟩ = some (.int .i64 x.mult) := X3.out.2.at_ 2 _ rfl
    go_wp2_with fail
    refine (SU.out _).mono ?_
    rintro e w' ⟨rfl, rfl⟩
    go_wp2_with fail
    refine (QM.out _).mono ?_
    rintro e w4 ⟨rfl, hb4⟩
    have B4 := Lib.hid (X3.out.1.trans (hb4.mono X3.out.1.size))
    clear hb4 g13 g12
    go_wp2_with fail
    refine (MM.out _).mono ?_
    rintro e w5 ⟨rfl, hb5⟩
    have B5 := Lib.hid (B4.out.trans (hb5.mono B4.out.size))
    clear hb5
    go_wp2_with fail
    go_ret2
    exact ⟨rfl, B5.out⟩
end Go.Proofs.YtcjbhgnlmmeeeaaGreatDoor

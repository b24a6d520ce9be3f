/- margin.look, walked (printed by tools/gen_look.py). -/
import Derived.Test.YtcjbhgnlmmeeeaaGreatDoorMgG
import Derived.Test.YtcjbhgnlmmeeeaaGreatDoorGood
namespace Go.Proofs.YtcjbhgnlmmeeeaaGreatDoor
open Go.RowKit Go.Bw Go.Maps Go.Shelf Go.Bw.Fall
set_option linter.unusedVariables false
set_option linter.unusedSimpArgs false

/-- A sight has been made. -/
def LookOut (w : World) (V : LedV) (L : Led) (a : Nat) (e : Ending) (w' : World) : Prop := ∃ b mb bv, e = .returned (.pointer (some ⟨b, 0, none⟩)) ∧ Sight w' b mb bv V L a ∧ Below w.heap.size w w' ∧ w.heap.size ≤ mb
open Classical in
theorem good_to {w : World} {V : LedV} {L : Led} (h : LedAt w V L) (hL : L.accts.length ≤ 1024) {B : Bool} (hB : decide L.Good = B) :
    Calls Tryz.prog 22 #[.agg #[.int .i64 L.day, V.curs, V.unders, V.instrs, V.accts, V.poss, V.orders, V.avail, V.locs]] w fun e w' => e = .returned (.bool B) ∧ Below w.heap.size w w' := by
  have := good_any w V L h hL
  rw [hB] at this
  exact this
theorem LedAt.opened {w : World} {V : LedV} {L : Led} (h : LedAt w V L) : ∃ a1 c1 a2 c2 a3 c3 a4 c4 a5 c5 a6 c6 a7 c7 a8 c8, V.curs = .slice a1 L.curs.length c1 ∧ V.unders = .slice a2 L.unders.length c2 ∧ V.instrs = .slice a3 L.instrs.length c3 ∧ V.accts = .slice a4 L.accts.length c4 ∧ V.poss = .slice a5 L.poss.length c5 ∧ V.orders = .slice a6 L.orders.length c6 ∧ V.avail = .slice a7 L.avail.length c7 ∧ V.locs = .slice a8 L.locs.length c8 := by
  obtain ⟨a1, c1, h1⟩ := h.curs.form
  obtain ⟨a2, c2, h2⟩ := h.unders.form
  obtain ⟨a3, c3, h3⟩ := h.instrs.form
  obtain ⟨a4, c4, h4⟩ := h.accts.form
  obtain ⟨a5, c5, h5⟩ := h.poss.form
  obtain ⟨a6, c6, h6⟩ := h.orders.form
  obtain ⟨a7, c7, h7⟩ := h.avail.form
  obtain ⟨a8, c8, h8⟩ := h.locs.form
  refine ⟨a1, c1, a2, c2, a3, c3, a4, c4, a5, c5, a6, c6, a7, c7, a8, c8, h1, h2, h3, ?_, h5, h6, h7, h8⟩
  rw [h4]
  congr 1
  have := h.same
  rw [this, List.length_map]
theorem look_end {w w0 w4 : World} {V : LedV} {L : Led} {a mb : Nat} {bv : Value} {a1 a2 a3 a4 a5 a6 a7 a8 : Option Addr} {n1 n2 n3 n4 n5 n6 n7 n8 c1 c2 c3 c4 c5 c6 c7 c8 : Nat} (hl : LedAt w V L) (hg : Grd w) (hb : Below w.heap.size w w0) (hb4 : Below w0.heap.size w0 w4) (hr : RowOf w4 1 icell bv (ints (belowL L.parents a))) (hm : MapAt w4 Tryz.prog 3 mb L.instrs.length (unitsOf L)) (hmb : w.heap.size ≤ mb)
    (hv : V.curs = .slice a1 n1 c1 ∧ V.unders = .slice a2 n2 c2 ∧ V.instrs = .slice a3 n3 c3 ∧ V.accts = .slice a4 n4 c4 ∧ V.poss = .slice a5 n5 c5 ∧ V.orders = .slice a6 n6 c6 ∧ V.avail = .slice a7 n7 c7 ∧ V.locs = .slice a8 n8 c8) :
    LookOut w V L a (.returned (.pointer (some ⟨w4.heap.size, 0, none⟩))) (w4.alloc (.cells #[.int .i64 L.day, .slice a1 n1 c1, .slice a2 n2 c2, .slice a3 n3 c3, .slice a4 n4 c4, .slice a5 n5 c5, .slice a6 n6 c6, .slice a7 n7 c7, .slice a8 n8 c8, bv, .map (some mb)] 106)) := by
  obtain ⟨v1, v2, v3, v4, v5, v6, v7, v8⟩ := hv
  have b4 := hb.trans (hb4.mono hb.size)
  have bN : Below w4.heap.size w4 (w4.alloc (.cells #[.int .i64 L.day, .slice a1 n1 c1, .slice a2 n2 c2, .slice a3 n3 c3, .slice a4 n4 c4, .slice a5 n5 c5, .slice a6 n6 c6, .slice a7 n7 c7, .slice a8 n8 c8, bv, .map (some mb)] 106)) := (Below.refl _ _).alloc (Nat.le_refl _) _
  have bT := b4.trans (bN.mono b4.size)
  refine ⟨_, mb, bv, rfl, ⟨?_, hl.below bT, hr.below bN, hm.mod (Mod.of_below bN) (fun h => h), hg.below bT⟩, bT, hmb⟩
  rw [v1, v2, v3, v4, v5, v6, v7, v8]
  exact BoxAt.new _ _ _
set_option maxRecDepth 100000 in
set_option maxHeartbeats 4000000 in
theorem look_bad (w : World) (V : LedV) (L : Led) (h : LedAt w V L) (hL : L.accts.length ≤ 1024) (hng : ¬ L.Good) (acct : Int) :
    Calls Tryz.prog 75 #[V.val L, .int .i64 acct] w fun e w' => e = .panicked (stopWith 43) ∧ Below w.heap.size w w' := by
  classical
  have hG : decide L.Good = false := decide_eq_false hng
  obtain ⟨a1, c1, a2, c2, a3, c3, a4, c4, a5, c5, a6, c6, a7, c7, a8, c8, e1, e2, e3, e4, e5, e6, e7, e8⟩ := LedAt.opened h
  have EV := Lib.hid (And.intro e1 (And.intro e2 (And.intro e3 (And.intro e4 (And.intro e5 (And.intro e6 (And.intro e7 e8)))))))
  have GD := Lib.hid (show ∀ W, Below w.heap.size w W → Calls Tryz.prog 22 #[.agg #[.int .i64 L.day, .slice a1 L.curs.length c1, .slice a2 L.unders.length c2, .slice a3 L.instrs.length c3, .slice a4 L.accts.length c4, .slice a5 L.poss.length c5, .slice a6 L.orders.length c6, .slice a7 L.avail.length c7, .slice a8 L.locs.length c8]] W fun e w' => e = .returned (.bool false) ∧ Below W.heap.size W w' from fun W hb => by
    have := good_to (h.below hb) hL hG
    rw [e1, e2, e3, e4, e5, e6, e7, e8] at this
    exact this)
  unfold LedV.val LedV.cells
  rw [e1, e2, e3, e4, e5, e6, e7, e8]
  obtain ⟨n1, hn1⟩ : ∃ n, n = L.curs.length := ⟨_, rfl⟩
  obtain ⟨n2, hn2⟩ : ∃ n, n = L.unders.length := ⟨_, rfl⟩
  obtain ⟨n3, hn3⟩ : ∃ n, n = L.instrs.length := ⟨_, rfl⟩
  obtain ⟨n4, hn4⟩ : ∃ n, n = L.accts.length := ⟨_, rfl⟩
  obtain ⟨n5, hn5⟩ : ∃ n, n = L.poss.length := ⟨_, rfl⟩
  obtain ⟨n6, hn6⟩ : ∃ n, n = L.orders.length := ⟨_, rfl⟩
  obtain ⟨n7, hn7⟩ : ∃ n, n = L.avail.length := ⟨_, rfl⟩
  obtain ⟨n8, hn8⟩ : ∃ n, n = L.locs.length := ⟨_, rfl⟩
  have LN := Lib.hid hn4
  rw [← hn1, ← hn2, ← hn3, ← hn4, ← hn5, ← hn6, ← hn7, ← hn8] at GD EV ⊢
  obtain ⟨CS, hCS⟩ : ∃ CS : Array Value, CS = #[.int .i64 L.day, .slice a1 n1 c1, .slice a2 n2 c2, .slice a3 n3 c3, .slice a4 n4 c4, .slice a5 n5 c5, .slice a6 n6 c6, .slice a7 n7 c7, .slice a8 n8 c8] := ⟨_, rfl⟩
  have ECS := Lib.hid hCS
  have BX := Lib.hid (show Below w.heap.size w (w.alloc (.cells #[.int .i64 L.day, .slice a1 n1 c1, .slice a2 n2 c2, .slice a3 n3 c3, .slice a4 n4 c4, .slice a5 n5 c5, .slice a6 n6 c6, .slice a7 n7 c7, .slice a8 n8 c8] 31)) ∧ BoxAt (w.alloc (.cells #[.int .i64 L.day, .slice a1 n1 c1, .slice a2 n2 c2, .slice a3 n3 c3, .slice a4 n4 c4, .slice a5 n5 c5, .slice a6 n6 c6, .slice a7 n7 c7, .slice a8 n8 c8] 31)) w.heap.size CS from
    ⟨(Below.refl _ _).alloc (Nat.le_refl _) _, by rw [hCS]; exact BoxAt.new w _ _⟩)
  clear h hL hng hG e1 e2 e3 e4 e5 e6 e7 e8 hn1 hn2 hn3 hn4 hn5 hn6 hn7 hn8 hCS
  go_enter Tryz.func75, Tryz.ntmps75
  go_wp2_with fail
  refine (GD.out _ BX.out.1).mono ?_
  rintro e w1 ⟨rfl, hb⟩
  have B1 := Lib.hid (BX.out.1.trans (hb.mono BX.out.1.size))
  clear hb
  go_wp2_with fail
  exact ⟨rfl, rfl, B1.out⟩
set_option maxRecDepth 100000 in
set_option maxHeartbeats 4000000 in
theorem look_out (w : World) (V : LedV) (L : Led) (h : LedAt w V L) (hL : L.accts.length ≤ 1024) (hgd : L.Good) (acct : Int) (ho : acct < 0 ∨ (L.accts.length : Int) ≤ acct) :
    Calls Tryz.prog 75 #[V.val L, .int .i64 acct] w fun e w' => e = .panicked (stopWith 33) ∧ Below w.heap.size w w' := by
  classical
  have hG : decide L.Good = true := decide_eq_true hgd
  have al : L.accts.length ≤ 1024 := hL
  obtain ⟨a1, c1, a2, c2, a3, c3, a4, c4, a5, c5, a6, c6, a7, c7, a8, c8, e1, e2, e3, e4, e5, e6, e7, e8⟩ := LedAt.opened h
  have EV := Lib.hid (And.intro e1 (And.intro e2 (And.intro e3 (And.intro e4 (And.intro e5 (And.intro e6 (And.intro e7 e8)))))))
  have GD := Lib.hid (show ∀ W, Below w.heap.size w W → Calls Tryz.prog 22 #[.agg #[.int .i64 L.day, .slice a1 L.curs.length c1, .slice a2 L.unders.length c2, .slice a3 L.instrs.length c3, .slice a4 L.accts.length c4, .slice a5 L.poss.length c5, .slice a6 L.orders.length c6, .slice a7 L.avail.length c7, .slice a8 L.locs.length c8]] W fun e w' => e = .returned (.bool true) ∧ Below W.heap.size W w' from fun W hb => by
    have := good_to (h.below hb) hL hG
    rw [e1, e2, e3, e4, e5, e6, e7, e8] at this
    exact this)
  unfold LedV.val LedV.cells
  rw [e1, e2, e3, e4, e5, e6, e7, e8]
  obtain ⟨n1, hn1⟩ : ∃ n, n = L.curs.length := ⟨_, rfl⟩
  obtain ⟨n2, hn2⟩ : ∃ n, n = L.unders.length := ⟨_, rfl⟩
  obtain ⟨n3, hn3⟩ : ∃ n, n = L.instrs.length := ⟨_, rfl⟩
  obtain ⟨n4, hn4⟩ : ∃ n, n = L.accts.length := ⟨_, rfl⟩
  obtain ⟨n5, hn5⟩ : ∃ n, n = L.poss.length := ⟨_, rfl⟩
  obtain ⟨n6, hn6⟩ : ∃ n, n = L.orders.length := ⟨_, rfl⟩
  obtain ⟨n7, hn7⟩ : ∃ n, n = L.avail.length := ⟨_, rfl⟩
  obtain ⟨n8, hn8⟩ : ∃ n, n = L.locs.length := ⟨_, rfl⟩
  have LN := Lib.hid hn4
  rw [← hn1, ← hn2, ← hn3, ← hn4, ← hn5, ← hn6, ← hn7, ← hn8] at GD EV ⊢
  obtain ⟨CS, hCS⟩ : ∃ CS : Array Value, CS = #[.int .i64 L.day, .slice a1 n1 c1, .slice a2 n2 c2, .slice a3 n3 c3, .slice a4 n4 c4, .slice a5 n5 c5, .slice a6 n6 c6, .slice a7 n7 c7, .slice a8 n8 c8] := ⟨_, rfl⟩
  have ECS := Lib.hid hCS
  have BX := Lib.hid (show Below w.heap.size w (w.alloc (.cells #[.int .i64 L.day, .slice a1 n1 c1, .slice a2 n2 c2, .slice a3 n3 c3, .slice a4 n4 c4, .slice a5 n5 c5, .slice a6 n6 c6, .slice a7 n7 c7, .slice a8 n8 c8] 31)) ∧ BoxAt (w.alloc (.cells #[.int .i64 L.day, .slice a1 n1 c1, .slice a2 n2 c2, .slice a3 n3 c3, .slice a4 n4 c4, .slice a5 n5 c5, .slice a6 n6 c6, .slice a7 n7 c7, .slice a8 n8 c8] 31)) w.heap.size CS from
    ⟨(Below.refl _ _).alloc (Nat.le_refl _) _, by rw [hCS]; exact BoxAt.new w _ _⟩)
  rw [← hn4] at ho al
  clear h hL hgd hG e1 e2 e3 e4 e5 e6 e7 e8 hn1 hn2 hn3 hn4 hn5 hn6 hn7 hn8 hCS
  go_enter Tryz.func75, Tryz.ntmps75
  go_wp2_with fail
  refine (GD.out _ BX.out.1).mono ?_
  rintro e w1 ⟨rfl, hb⟩
  have B1 := Lib.hid (BX.out.1.trans (hb.mono BX.out.1.size))
  have X1 := Lib.hid (BX.out.2.below hb)
  clear hb
  have x4 : w1.cell? ⟨w.heap.size, 4, none⟩ = some (.slice a4 n4 c4) := X1.out.at_ 4 _ (by rw [ECS.out]; rfl)
  by_cases hneg : acct < 0
  · clear ho
    go_wp2_with fail
    exact ⟨rfl, rfl, B1.out⟩
  · have hge : (n4 : Int) ≤ acct := by rcases ho with h | h; exact absurd h hneg; exact h
    have hge' : ¬ acct < (n4 : Int) := by omega
    clear ho
    go_wp2_with fail
    exact ⟨rfl, rfl, B1.out⟩
set_option maxRecDepth 100000 in
set_option maxHeartbeats 8000000 in
theorem look_ok (w : World) (V : LedV) (L : Led) (h : LedAt w V L) (hgd : L.Good) (hGr : Grd w) (a : Nat) (ha : a < L.accts.length) :
    Calls Tryz.prog 75 #[V.val L, .int .i64 (a : Int)] w (LookOut w V L a) := by
  classical
  have hG : decide L.Good = true := decide_eq_true hgd
  have hL : L.accts.length ≤ 1024 := by have := hgd.accounts.tree.hi; simp only [List.length_map] at this; omega
  have al : L.accts.length ≤ 1024 := hL
  have HL := Lib.hid h
  have HG := Lib.hid hgd
  have GR := Lib.hid hGr
  have HA := Lib.hid ha
  have SM := Lib.hid (show V.ac.map (fun p => p.1.parent) = L.parents from by unfold Led.parents; rw [h.same, List.map_map]; rfl)
  have AL := Lib.hid (show V.ac.length ≤ 1024 from by have := h.same; have h2 := congrArg List.length this; rw [List.length_map] at h2; omega)
  obtain ⟨a1, c1, a2, c2, a3, c3, a4, c4, a5, c5, a6, c6, a7, c7, a8, c8, e1, e2, e3, e4, e5, e6, e7, e8⟩ := LedAt.opened h
  have EV := Lib.hid (And.intro e1 (And.intro e2 (And.intro e3 (And.intro e4 (And.intro e5 (And.intro e6 (And.intro e7 e8)))))))
  have GD := Lib.hid (show ∀ W, Below w.heap.size w W → Calls Tryz.prog 22 #[.agg #[.int .i64 L.day, .slice a1 L.curs.length c1, .slice a2 L.unders.length c2, .slice a3 L.instrs.length c3, .slice a4 L.accts.length c4, .slice a5 L.poss.length c5, .slice a6 L.orders.length c6, .slice a7 L.avail.length c7, .slice a8 L.locs.length c8]] W fun e w' => e = .returned (.bool true) ∧ Below W.heap.size W w' from fun W hb => by
    have := good_to (h.below hb) hL hG
    rw [e1, e2, e3, e4, e5, e6, e7, e8] at this
    exact this)
  unfold LedV.val LedV.cells
  rw [e1, e2, e3, e4, e5, e6, e7, e8]
  obtain ⟨n1, hn1⟩ : ∃ n, n = L.curs.length := ⟨_, rfl⟩
  obtain ⟨n2, hn2⟩ : ∃ n, n = L.unders.length := ⟨_, rfl⟩
  obtain ⟨n3, hn3⟩ : ∃ n, n = L.instrs.length := ⟨_, rfl⟩
  obtain ⟨n4, hn4⟩ : ∃ n, n = L.accts.length := ⟨_, rfl⟩
  obtain ⟨n5, hn5⟩ : ∃ n, n = L.poss.length := ⟨_, rfl⟩
  obtain ⟨n6, hn6⟩ : ∃ n, n = L.orders.length := ⟨_, rfl⟩
  obtain ⟨n7, hn7⟩ : ∃ n, n = L.avail.length := ⟨_, rfl⟩
  obtain ⟨n8, hn8⟩ : ∃ n, n = L.locs.length := ⟨_, rfl⟩
  have LN := Lib.hid hn4
  rw [← hn1, ← hn2, ← hn3, ← hn4, ← hn5, ← hn6, ← hn7, ← hn8] at GD EV ⊢
  obtain ⟨CS, hCS⟩ : ∃ CS : Array Value, CS = #[.int .i64 L.day, .slice a1 n1 c1, .slice a2 n2 c2, .slice a3 n3 c3, .slice a4 n4 c4, .slice a5 n5 c5, .slice a6 n6 c6, .slice a7 n7 c7, .slice a8 n8 c8] := ⟨_, rfl⟩
  have ECS := Lib.hid hCS
  have BX := Lib.hid (show Below w.heap.size w (w.alloc (.cells #[.int .i64 L.day, .slice a1 n1 c1, .slice a2 n2 c2, .slice a3 n3 c3, .slice a4 n4 c4, .slice a5 n5 c5, .slice a6 n6 c6, .slice a7 n7 c7, .slice a8 n8 c8] 31)) ∧ BoxAt (w.alloc (.cells #[.int .i64 L.day, .slice a1 n1 c1, .slice a2 n2 c2, .slice a3 n3 c3, .slice a4 n4 c4, .slice a5 n5 c5, .slice a6 n6 c6, .slice a7 n7 c7, .slice a8 n8 c8] 31)) w.heap.size CS from
    ⟨(Below.refl _ _).alloc (Nat.le_refl _) _, by rw [hCS]; exact BoxAt.new w _ _⟩)
  have a1' : (a : Int) < (n4 : Int) := by omega
  have a0' : (0 : Int) ≤ (a : Int) := by omega
  rw [← hn4] at al
  clear h hL hgd hG e1 e2 e3 e4 e5 e6 e7 e8 hn1 hn2 hn3 hn4 hn5 hn6 hn7 hn8 hCS hGr ha
  go_enter Tryz.func75, Tryz.ntmps75
  go_wp2_with fail
  refine (GD.out _ BX.out.1).mono ?_
  rintro e w0 ⟨rfl, hb⟩
  have B0 := Lib.hid (BX.out.1.trans (hb.mono BX.out.1.size))
  have X0 := Lib.hid (BX.out.2.below hb)
  clear hb BX
  have x4 : w0.cell? ⟨w.heap.size, 4, none⟩ = some (.slice a4 n4 c4) := X0.out.at_ 4 _ (by rw [ECS.out]; rfl)
  go_wp2_with fail
  obtain ⟨hb2, hhb2⟩ : ∃ n, n = w.heap.size := ⟨_, rfl⟩
  rw [← hhb2] at X0 x4 ⊢
  clear hhb2 x4
  have PC := Lib.hid (show ∀ W, Below w0.heap.size w0 W → Calls Tryz.prog 100 #[.slice a4 n4 c4] W (RowOut W L.parents) from fun W hb => by
    have hl := HL.out.below (B0.out.trans (hb.mono B0.out.size))
    have := parents_any W V.accts V.ac hl.accts AL.out hl.cashes
    rw [SM.out, EV.out.2.2.2.1] at this
    exact this)
  have BC := Lib.hid (show ∀ W pv, RowOf W 1 icell pv L.parents → Calls Tryz.prog 115 #[pv, .int .i64 (a : Int)] W (RowOut W (ints (belowL L.parents a))) from fun W pv hr => below_any W pv L.parents a hr HG.out.accounts.tree (by unfold Led.parents; rw [List.length_map]; exact HA.out))
  have y0 : ∀ z : Cls (fun W => Below w0.heap.size w0 W), z.w.cell? ⟨hb2, 0, none⟩ = some (.int .i64 L.day) := fun z => (X0.out.below z.ok).at_ 0 _ (by rw [ECS.out]; rfl)
  have y1 : ∀ z : Cls (fun W => Below w0.heap.size w0 W), z.w.cell? ⟨hb2, 1, none⟩ = some (.slice a1 n1 c1) := fun z => (X0.out.below z.ok).at_ 1 _ (by rw [ECS.out]; rfl)
  have y2 : ∀ z : Cls (fun W => Below w0.heap.size w0 W), z.w.cell? ⟨hb2, 2, none⟩ = some (.slice a2 n2 c2) := fun z => (X0.out.below z.ok).at_ 2 _ (by rw [ECS.out]; rfl)
  have y3 : ∀ z : Cls (fun W => Below w0.heap.size w0 W), z.w.cell? ⟨hb2, 3, none⟩ = some (.slice a3 n3 c3) := fun z => (X0.out.below z.ok).at_ 3 _ (by rw [ECS.out]; rfl)
  have y4 : ∀ z : Cls (fun W => Below w0.heap.size w0 W), z.w.cell? ⟨hb2, 4, none⟩ = some (.slice a4 n4 c4) := fun z => (X0.out.below z.ok).at_ 4 _ (by rw [ECS.out]; rfl)
  have y5 : ∀ z : Cls (fun W => Below w0.heap.size w0 W), z.w.cell? ⟨hb2, 5, none⟩ = some (.slice a5 n5 c5) := fun z => (X0.out.below z.ok).at_ 5 _ (by rw [ECS.out]; rfl)
  have y6 : ∀ z : Cls (fun W => Below w0.heap.size w0 W), z.w.cell? ⟨hb2, 6, none⟩ = some (.slice a6 n6 c6) := fun z => (X0.out.below z.ok).at_ 6 _ (by rw [ECS.out]; rfl)
  have y7 : ∀ z : Cls (fun W => Below w0.heap.size w0 W), z.w.cell? ⟨hb2, 7, none⟩ = some (.slice a7 n7 c7) := fun z => (X0.out.below z.ok).at_ 7 _ (by rw [ECS.out]; rfl)
  have y8 : ∀ z : Cls (fun W => Below w0.heap.size w0 W), z.w.cell? ⟨hb2, 8, none⟩ = some (.slice a8 n8 c8) := fun z => (X0.out.below z.ok).at_ 8 _ (by rw [ECS.out]; rfl)
  refine wp_region_tree (C := fun w' => ∃ z : Cls (fun W => Below w0.heap.size w0 W), w' = z.w) [3, 5, 6, 8] [0, 1, 2, 4] (.step 0 (.step 1 (.step 2 (.step 4 (.fork 3 (.fork 5 (.step 6 (.step 7 (.step 8 (.step 9 .leaf)))) 6 (.step 5 (.step 7 (.step 8 (.step 9 .leaf))))) 6 (.step 3 (.step 5 (.step 7 (.step 8 (.step 9 .leaf)))))))))) (fun _ _ _ => False) (by kernel_rfl) (fun _ _ _ h => h.elim) (by kernel_rfl) ⟨⟨w0.drew, ((Mod.refl (fun _ => False) w0).drew).toBelow⟩, rfl⟩ ?_
  haveI ne : Nonempty (Cls (fun W => Below w0.heap.size w0 W)) := ⟨⟨w0, Below.refl _ _⟩⟩
  refine tree_pure [0, 1, 2, 4] (by kernel_rfl) ?_
  simp only [pickL, nth]
  repeat (go_big_quiet_step (fail))
  refine wpQuiet_nil ?_
  clear y0 y1 y2 y3 y4 y5 y6 y7 y8 ne
  have D0 := Lib.hid (show Below w0.heap.size w0 w0.drew from ((Mod.refl (fun _ => False) w0).drew).toBelow)
  refine tree_fork ?_ ?_
  · -- the parents first
    refine tree_eff (by kernel_rfl) rfl (fun K hK => ?_)
    simp only [pickL, nth]
    refine wpOne_one ?_
    go_simp
    refine (PC.out _ D0.out).mono ?_
    rintro e wp ⟨pv, rfl, hpo, hpb⟩
    have BP := Lib.hid (show Below w0.heap.size w0 wp from D0.out.trans (hpb.mono D0.out.size))
    have PR := Lib.hid (row_of_owns hpo)
    clear hpo hpb
    go_simp
    refine hK _ _ ⟨⟨wp, BP.out⟩, rfl⟩ ?_
    clear hK
    refine tree_fork ?_ ?_
    · -- then those below
      refine tree_eff (by kernel_rfl) rfl (fun K hK => ?_)
      simp only [pickL, nth]
      refine wpOne_one ?_
      go_simp
      refine (BC.out _ pv PR.out).mono ?_
      rintro e wb ⟨bv, rfl, hbo, hbb⟩
      have BB := Lib.hid (show Below w0.heap.size w0 wb from BP.out.trans (hbb.mono BP.out.size))
      have RB := Lib.hid (row_of_owns hbo)
      clear hbo hbb
      go_simp
      refine hK _ _ ⟨⟨wb, BB.out⟩, rfl⟩ ?_
      clear hK
      refine tree_eff (by kernel_rfl) rfl (fun K hK => ?_)
      simp only [pickL, nth]
      refine wpOne_one ?_
      have hmm := @run_makeMap Tryz.prog
      go_simp
      clear hmm
      obtain ⟨wm, hwm⟩ : ∃ wm, wm = wb.alloc (.map #[] 0) := ⟨_, rfl⟩
      have bm : Below wb.heap.size wb wm := by rw [hwm]; exact (Below.refl _ _).alloc (Nat.le_refl _) _
      have BM := Lib.hid (show Below w0.heap.size w0 wm from BB.out.trans (bm.mono BB.out.size))
      have MM := Lib.hid (show MapAt wm Tryz.prog 3 wb.heap.size L.instrs.length (unitsOf L) from by rw [hwm]; exact MapAt.new _ _ _ _ _)
      have RM := Lib.hid (RB.out.below bm)
      rw [← hwm]
      obtain ⟨mb, hmb⟩ : ∃ n, n = wb.heap.size := ⟨_, rfl⟩
      rw [← hmb] at MM
      have NM := Lib.hid (show w.heap.size ≤ mb from by rw [hmb]; exact Nat.le_trans B0.out.size BB.out.size)
      clear bm
      refine hK _ _ ⟨⟨wm, BM.out⟩, rfl⟩ ?_
      clear hK
      rw [← hmb]
      clear hmb hwm
      obtain ⟨vb, cb, eb⟩ := RM.out.form
      obtain ⟨nb, hnb⟩ : ∃ n, n = (ints (belowL L.parents a)).length := ⟨_, rfl⟩
      rw [← hnb] at eb
      subst eb
      clear hnb
      have bd : ∀ W : World, (Instr.build 106 #[(0, .agg #[.int .i64 L.day, .slice a1 n1 c1, .slice a2 n2 c2, .slice a3 n3 c3, .slice a4 n4 c4, .slice a5 n5 c5, .slice a6 n6 c6, .slice a7 n7 c7, .slice a8 n8 c8]), (1, .slice vb nb cb), (2, .map (some mb))]).run Tryz.prog W = .ok (.agg #[.int .i64 L.day, .slice a1 n1 c1, .slice a2 n2 c2, .slice a3 n3 c3, .slice a4 n4 c4, .slice a5 n5 c5, .slice a6 n6 c6, .slice a7 n7 c7, .slice a8 n8 c8, .slice vb nb cb, .map (some mb)]) W := fun W => by kernel_rfl
      refine tree_still [7] (by kernel_rfl) ?_
      simp only [pickL, nth]
      repeat (go_big_quiet_step (fail))
      clear bd
      refine wpQuiet_nil ?_
      refine tree_eff (by kernel_rfl) rfl (fun K hK => ?_)
      simp only [pickL, nth]
      refine wpOne_one ?_
      go_simp
      refine hK _ _ ⟨⟨_, BM.out.alloc BM.out.size _⟩, rfl⟩ ?_
      clear hK
      refine tree_still [9] (by kernel_rfl) ?_
      simp only [pickL, nth]
      repeat (go_big_quiet_step (fail))
      refine wpQuiet_nil ?_
      refine tree_nil ?_
      go_wp2_with fail
      go_ret
      exact look_end HL.out GR.out B0.out BM.out RM.out MM.out NM.out EV.out
    · -- then the map
      refine tree_eff (by kernel_rfl) rfl (fun K hK => ?_)
      simp only [pickL, nth]
      refine wpOne_one ?_
      have hmm := @run_makeMap Tryz.prog
      go_simp
      clear hmm
      obtain ⟨wm, hwm⟩ : ∃ wm, wm = wp.alloc (.map #[] 0) := ⟨_, rfl⟩
      have bm : Below wp.heap.size wp wm := by rw [hwm]; exact (Below.refl _ _).alloc (Nat.le_refl _) _
      have BM := Lib.hid (show Below w0.heap.size w0 wm from BP.out.trans (bm.mono BP.out.size))
      have MM := Lib.hid (show MapAt wm Tryz.prog 3 wp.heap.size L.instrs.length (unitsOf L) from by rw [hwm]; exact MapAt.new _ _ _ _ _)
      have PM := Lib.hid (PR.out.below bm)
      rw [← hwm]
      obtain ⟨mb, hmb⟩ : ∃ n, n = wp.heap.size := ⟨_, rfl⟩
      rw [← hmb] at MM
      have NM := Lib.hid (show w.heap.size ≤ mb from by rw [hmb]; exact Nat.le_trans B0.out.size BP.out.size)
      clear bm
      refine hK _ _ ⟨⟨wm, BM.out⟩, rfl⟩ ?_
      clear hK
      rw [← hmb]
      clear hmb hwm
      refine tree_eff (by kernel_rfl) rfl (fun K hK => ?_)
      simp only [pickL, nth]
      refine wpOne_one ?_
      go_simp
      refine (BC.out _ pv PM.out).mono ?_
      rintro e wb ⟨bv, rfl, hbo, hbb⟩
      have BB := Lib.hid (show Below w0.heap.size w0 wb from BM.out.trans (hbb.mono BM.out.size))
      have RB := Lib.hid (row_of_owns hbo)
      have MB := Lib.hid (MM.out.mod (Mod.of_below hbb) (fun h => h))
      clear hbo hbb
      go_simp
      refine hK _ _ ⟨⟨wb, BB.out⟩, rfl⟩ ?_
      clear hK
      obtain ⟨vb, cb, eb⟩ := RB.out.form
      obtain ⟨nb, hnb⟩ : ∃ n, n = (ints (belowL L.parents a)).length := ⟨_, rfl⟩
      rw [← hnb] at eb
      subst eb
      clear hnb
      have bd : ∀ W : World, (Instr.build 106 #[(0, .agg #[.int .i64 L.day, .slice a1 n1 c1, .slice a2 n2 c2, .slice a3 n3 c3, .slice a4 n4 c4, .slice a5 n5 c5, .slice a6 n6 c6, .slice a7 n7 c7, .slice a8 n8 c8]), (1, .slice vb nb cb), (2, .map (some mb))]).run Tryz.prog W = .ok (.agg #[.int .i64 L.day, .slice a1 n1 c1, .slice a2 n2 c2, .slice a3 n3 c3, .slice a4 n4 c4, .slice a5 n5 c5, .slice a6 n6 c6, .slice a7 n7 c7, .slice a8 n8 c8, .slice vb nb cb, .map (some mb)]) W := fun W => by kernel_rfl
      refine tree_still [7] (by kernel_rfl) ?_
      simp only [pickL, nth]
      repeat (go_big_quiet_step (fail))
      clear bd
      refine wpQuiet_nil ?_
      refine tree_eff (by kernel_rfl) rfl (fun K hK => ?_)
      simp only [pickL, nth]
      refine wpOne_one ?_
      go_simp
      refine hK _ _ ⟨⟨_, BB.out.alloc BB.out.size _⟩, rfl⟩ ?_
      clear hK
      refine tree_still [9] (by kernel_rfl) ?_
      simp only [pickL, nth]
      repeat (go_big_quiet_step (fail))
      refine wpQuiet_nil ?_
      refine tree_nil ?_
      go_wp2_with fail
      go_ret
      exact look_end HL.out GR.out B0.out BB.out RB.out MB.out NM.out EV.out
  · -- the map first
    refine tree_eff (by kernel_rfl) rfl (fun K hK => ?_)
    simp only [pickL, nth]
    refine wpOne_one ?_
    have hmm := @run_makeMap Tryz.prog
    go_simp
    clear hmm
    obtain ⟨wm, hwm⟩ : ∃ wm, wm = (w0.alloc (.map #[] 0)).drew := ⟨_, rfl⟩
    have BM := Lib.hid (show Below w0.heap.size w0 wm from by rw [hwm]; exact (((Mod.refl (fun _ => False) w0).alloc _).drew).toBelow)
    have MM := Lib.hid (show MapAt wm Tryz.prog 3 w0.heap.size L.instrs.length (unitsOf L) from by rw [hwm]; exact (MapAt.new w0 _ _ _ _).mod ((Mod.refl (fun _ => False) _).drew) (fun h => h))
    rw [← hwm]
    have NM := Lib.hid (show w.heap.size ≤ w0.heap.size from B0.out.size)
    refine hK _ _ ⟨⟨wm, BM.out⟩, rfl⟩ ?_
    clear hK
    clear hwm
    refine tree_eff (by kernel_rfl) rfl (fun K hK => ?_)
    simp only [pickL, nth]
    refine wpOne_one ?_
    go_simp
    refine (PC.out _ BM.out).mono ?_
    rintro e wp ⟨pv, rfl, hpo, hpb⟩
    have BP := Lib.hid (show Below w0.heap.size w0 wp from BM.out.trans (hpb.mono BM.out.size))
    have PR := Lib.hid (row_of_owns hpo)
    have MP := Lib.hid (MM.out.mod (Mod.of_below hpb) (fun h => h))
    clear hpo hpb
    go_simp
    refine hK _ _ ⟨⟨wp, BP.out⟩, rfl⟩ ?_
    clear hK
    refine tree_eff (by kernel_rfl) rfl (fun K hK => ?_)
    simp only [pickL, nth]
    refine wpOne_one ?_
    go_simp
    refine (BC.out _ pv PR.out).mono ?_
    rintro e wb ⟨bv, rfl, hbo, hbb⟩
    have BB := Lib.hid (show Below w0.heap.size w0 wb from BP.out.trans (hbb.mono BP.out.size))
    have RB := Lib.hid (row_of_owns hbo)
    have MB := Lib.hid (MP.out.mod (Mod.of_below hbb) (fun h => h))
    clear hbo hbb
    go_simp
    refine hK _ _ ⟨⟨wb, BB.out⟩, rfl⟩ ?_
    clear hK
    obtain ⟨vb, cb, eb⟩ := RB.out.form
    obtain ⟨nb, hnb⟩ : ∃ n, n = (ints (belowL L.parents a)).length := ⟨_, rfl⟩
    rw [← hnb] at eb
    subst eb
    clear hnb
    have bd : ∀ W : World, (Instr.build 106 #[(0, .agg #[.int .i64 L.day, .slice a1 n1 c1, .slice a2 n2 c2, .slice a3 n3 c3, .slice a4 n4 c4, .slice a5 n5 c5, .slice a6 n6 c6, .slice a7 n7 c7, .slice a8 n8 c8]), (1, .slice vb nb cb), (2, .map (some w0.heap.size))]).run Tryz.prog W = .ok (.agg #[.int .i64 L.day, .slice a1 n1 c1, .slice a2 n2 c2, .slice a3 n3 c3, .slice a4 n4 c4, .slice a5 n5 c5, .slice a6 n6 c6, .slice a7 n7 c7, .slice a8 n8 c8, .slice vb nb cb, .map (some w0.heap.size)]) W := fun W => by kernel_rfl
    refine tree_still [7] (by kernel_rfl) ?_
    simp only [pickL, nth]
    repeat (go_big_quiet_step (fail))
    clear bd
    refine wpQuiet_nil ?_
    refine tree_eff (by kernel_rfl) rfl (fun K hK => ?_)
    simp only [pickL, nth]
    refine wpOne_one ?_
    go_simp
    refine hK _ _ ⟨⟨_, BB.out.alloc BB.out.size _⟩, rfl⟩ ?_
    clear hK
    refine tree_still [9] (by kernel_rfl) ?_
    simp only [pickL, nth]
    repeat (go_big_quiet_step (fail))
    refine wpQuiet_nil ?_
    refine tree_nil ?_
    go_wp2_with fail
    go_ret
    exact look_end HL.out GR.out B0.out BB.out RB.out MB.out NM.out EV.out
end Go.Proofs.YtcjbhgnlmmeeeaaGreatDoor

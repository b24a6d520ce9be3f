/- The laws' wakes, wide, walked. -/
import Derived.Test.YtcjbhgnlmmeeeaaGreatDoorExam
import Derived.Test.YtcjbhgnlmmeeeaaGreatDoorMarg
import Derived.Test.YtcjbhgnlmmeeeaaGreatDoorLedIn
namespace Go.Proofs.YtcjbhgnlmmeeeaaGreatDoor
open Go.RowKit Go.Bw Go.Maps Go.Shelf
set_option linter.unusedVariables false
set_option linter.unusedSimpArgs false

theorem rises_one {α : Type} {lt : α → α → Prop} {l : List α} (h : l.length ≤ 1) : Rises lt l := fun i a b ha hb => by
  have := (List.getElem?_eq_some_iff.1 hb).1; omega
theorem get_one {α : Type} {x : α} {n : Nat} {y : α} (h : [x][n]? = some y) : n = 0 ∧ y = x := by
  have h1 := (List.getElem?_eq_some_iff.1 h).1
  have : n = 0 := by simpa using h1
  subst this
  exact ⟨rfl, by simpa using h.symm⟩
theorem exL_good {os : List Ord} (h : OrdersOk os 3 1) (hi : ∀ o ∈ os, o.acct = 2 ∧ o.id ≤ 9) : (exL os).Good := by
  refine ⟨by simp [exL], by simp [exL], ⟨by simp [exL], by simp [exL], by simp [exL], by simp [exL], ?_, ?_, ?_, ?_⟩, ⟨⟨by simp [exL], by simp [exL], ?_⟩, ?_⟩, ⟨by simp [exL], ?_, rises_one (by simp [exL])⟩, h, ⟨by simp [exL], by simp [exL], ?_, ?_, rises_one (by simp [exL])⟩, ?_⟩
  · intro n c hc
    obtain ⟨rfl, rfl⟩ := get_one hc
    exact ⟨by decide, by decide, by decide, by decide, fun _ => rfl⟩
  · intro n c hc
    obtain ⟨rfl, rfl⟩ := get_one hc
    exact ⟨by decide, by decide, by simp [exL], by decide, by decide, by decide, by decide⟩
  · intro n k u v hk hu
    obtain ⟨rfl, rfl⟩ := get_one hu
    omega
  · intro i hi
    simp only [exL, List.mem_cons, List.not_mem_nil, or_false] at hi
    subst hi
    exact ⟨by decide, by simp [exL], by decide, by decide, by decide, by decide, Or.inl (by decide)⟩
  · intro v p hp
    left
    have := List.mem_of_getElem? hp
    simpa [exL] using this
  · intro v a ha
    match v, ha with
    | 0, ha => cases ha; exact ⟨rfl, by decide, by decide, fun _ => ⟨rfl, rfl⟩, by decide⟩
    | 1, ha => cases ha; exact ⟨rfl, by decide, by decide, fun _ => ⟨rfl, rfl⟩, by decide⟩
    | 2, ha => cases ha; exact ⟨rfl, by decide, by decide, fun h => by omega, by decide⟩
    | v + 3, ha => simp [exL] at ha
  · intro p hp
    simp only [exL, List.mem_cons, List.not_mem_nil, or_false] at hp
    subst hp
    exact ⟨by decide, by simp [exL], by decide, by simp [exL], by decide, by decide, by decide⟩
  · intro q hq
    simp only [exL, List.mem_cons, List.not_mem_nil, or_false] at hq
    subst hq
    decide
  · intro x hx; simp [exL] at hx
  · intro o ho a ha
    obtain ⟨h1, h2⟩ := hi o ho
    rw [h1] at ha
    cases ha
    exact h2
theorem good0 : (exL []).Good := exL_good ⟨by decide, by simp, rises_one (by decide)⟩ (by simp)
theorem good1 : (exL [⟨2, 1, 0, 3, 110⟩]).Good := exL_good ⟨by decide, fun o ho => by
  simp only [List.mem_cons, List.not_mem_nil, or_false] at ho
  subst ho
  exact ⟨by decide, by decide, by decide, by decide, by decide, by decide, by decide, by decide, by decide, by decide, by decide⟩, rises_one (by decide)⟩ (fun o ho => by
  simp only [List.mem_cons, List.not_mem_nil, or_false] at ho
  subst ho
  exact ⟨rfl, by decide⟩)
theorem good2 : (exL [⟨2, 1, 0, -5, 100⟩]).Good := exL_good ⟨by decide, fun o ho => by
  simp only [List.mem_cons, List.not_mem_nil, or_false] at ho
  subst ho
  exact ⟨by decide, by decide, by decide, by decide, by decide, by decide, by decide, by decide, by decide, by decide, by decide⟩, rises_one (by decide)⟩ (fun o ho => by
  simp only [List.mem_cons, List.not_mem_nil, or_false] at ho
  subst ho
  exact ⟨rfl, by decide⟩)
theorem ex_need0 : ansA (exL []) 2 (retA (needO (exL []) (2 : Int).toNat)) = (100, 0) := by rw [ansA_ok good0 (by decide)]; decide +kernel
theorem ex_need1 : ansA (exL [⟨2, 1, 0, 3, 110⟩]) 2 (retA (needO (exL [⟨2, 1, 0, 3, 110⟩]) (2 : Int).toNat)) = (190, 0) := by rw [ansA_ok good1 (by simp [exL])]; decide +kernel
theorem ex_need2 : ansA (exL [⟨2, 1, 0, -5, 100⟩]) 2 (retA (needO (exL [⟨2, 1, 0, -5, 100⟩]) (2 : Int).toNat)) = (100, 0) := by rw [ansA_ok good2 (by simp [exL])]; decide +kernel
theorem ex_exc : ansA (exL []) 2 (retA (excessO (exL []) (2 : Int).toNat)) = (900, 0) := by rw [ansA_ok good0 (by decide)]; decide +kernel
theorem bdOrd (q p : Int) (W : World) : (Instr.build 46 #[(0, .int .i64 2), (1, .int .i64 1), (3, .int .i64 q), (4, .int .i64 p)]).run Tryz.prog W = .ok (.agg #[.int .i64 2, .int .i64 1, .int .i64 0, .int .i64 q, .int .i64 p]) W := by kernel_rfl
set_option maxRecDepth 100000 in
set_option maxHeartbeats 4000000 in
theorem wakes_any (w : World) (hG : Grd w) : Calls Tryz.prog 11 #[] w fun e w' => e = .returned (.bool true) ∧ Below w.heap.size w w' := by
  have GR := Lib.hid hG
  have b1 := fun q p W => bdOrd q p W
  have E0 := Lib.hid (fun W => example_any W none 0 0 [] row_nil)
  have N := Lib.hid (fun (W : World) (V : LedV) (os : List Ord) (h : LedAt W V (exL os)) (hG : Grd W) => mneed_any W V (exL os) h (by show (3 : Nat) ≤ 1024; omega) hG 2)
  have X := Lib.hid (fun (W : World) (V : LedV) (os : List Ord) (h : LedAt W V (exL os)) (hG : Grd W) => mexcess_any W V (exL os) h (by show (3 : Nat) ≤ 1024; omega) hG 2)
  clear hG
  go_enter Tryz.func11, Tryz.ntmps11
  go_wp2_with fail
  refine (E0.out _).mono ?_
  rintro e w1 ⟨V1, rfl, hl, hb⟩
  have X1 := Lib.hid (And.intro hl hb)
  clear hl hb
  obtain ⟨LV1, hLV1⟩ : ∃ LV, LV = V1.val (exL []) := ⟨_, rfl⟩
  have C1 := Lib.hid (N.out w1 V1 [] X1.out.1 (GR.out.below X1.out.2))
  rw [ex_need0] at C1
  rw [← hLV1] at C1 ⊢
  clear hLV1
  go_wp2_with fail
  refine C1.out.mono ?_
  rintro e w2 ⟨rfl, hb⟩
  have B2 := Lib.hid (X1.out.2.trans (hb.mono X1.out.2.size))
  clear hb
  obtain ⟨W3, hW3⟩ : ∃ W3, W3 = w2.alloc (.cells #[.int .i64 2, .int .i64 1, .int .i64 0, .int .i64 3, .int .i64 110] 46) := ⟨_, rfl⟩
  have B3 := Lib.hid (show Below w.heap.size w W3 from by rw [hW3]; exact B2.out.alloc B2.out.size _)
  have E3 := Lib.hid (example_any W3 (some ⟨w2.heap.size, 0, none⟩) 1 1 [⟨2, 1, 0, 3, 110⟩] (by rw [hW3]; exact row_one (heap_alloc_new _ _) rfl))
  go_wp2_with fail
  rw [← hW3]
  clear hW3
  refine E3.out.mono ?_
  rintro e w4 ⟨V4, rfl, hl, hb⟩
  have X4 := Lib.hid (And.intro hl (B3.out.trans (hb.mono B3.out.size)))
  clear hl hb
  obtain ⟨LV4, hLV4⟩ : ∃ LV, LV = V4.val (exL [⟨2, 1, 0, 3, 110⟩]) := ⟨_, rfl⟩
  have C4 := Lib.hid (N.out w4 V4 [⟨2, 1, 0, 3, 110⟩] X4.out.1 (GR.out.below X4.out.2))
  rw [ex_need1] at C4
  rw [← hLV4] at C4 ⊢
  clear hLV4
  go_wp2_with fail
  refine C4.out.mono ?_
  rintro e w5 ⟨rfl, hb⟩
  have B5 := Lib.hid (X4.out.2.trans (hb.mono X4.out.2.size))
  clear hb
  obtain ⟨W6, hW6⟩ : ∃ W6, W6 = w5.alloc (.cells #[.int .i64 2, .int .i64 1, .int .i64 0, .int .i64 (-5), .int .i64 100] 46) := ⟨_, rfl⟩
  have B6 := Lib.hid (show Below w.heap.size w W6 from by rw [hW6]; exact B5.out.alloc B5.out.size _)
  have E6 := Lib.hid (example_any W6 (some ⟨w5.heap.size, 0, none⟩) 1 1 [⟨2, 1, 0, -5, 100⟩] (by rw [hW6]; exact row_one (heap_alloc_new _ _) rfl))
  go_wp2_with fail
  rw [← hW6]
  clear hW6
  refine E6.out.mono ?_
  rintro e w7 ⟨V7, rfl, hl, hb⟩
  have X7 := Lib.hid (And.intro hl (B6.out.trans (hb.mono B6.out.size)))
  clear hl hb
  obtain ⟨LV7, hLV7⟩ : ∃ LV, LV = V7.val (exL [⟨2, 1, 0, -5, 100⟩]) := ⟨_, rfl⟩
  have C7 := Lib.hid (N.out w7 V7 [⟨2, 1, 0, -5, 100⟩] X7.out.1 (GR.out.below X7.out.2))
  rw [ex_need2] at C7
  rw [← hLV7] at C7 ⊢
  clear hLV7
  go_wp2_with fail
  refine C7.out.mono ?_
  rintro e w8 ⟨rfl, hb⟩
  have B8 := Lib.hid (X7.out.2.trans (hb.mono X7.out.2.size))
  clear hb
  go_wp2_with fail
  refine (E0.out _).mono ?_
  rintro e w9 ⟨V9, rfl, hl, hb⟩
  have X9 := Lib.hid (And.intro hl (B8.out.trans (hb.mono B8.out.size)))
  clear hl hb
  obtain ⟨LV9, hLV9⟩ : ∃ LV, LV = V9.val (exL []) := ⟨_, rfl⟩
  have C9 := Lib.hid (X.out w9 V9 [] X9.out.1 (GR.out.below X9.out.2))
  rw [ex_exc] at C9
  rw [← hLV9] at C9 ⊢
  clear hLV9
  go_wp2_with fail
  refine C9.out.mono ?_
  rintro e w10 ⟨rfl, hb⟩
  have B10 := Lib.hid (X9.out.2.trans (hb.mono X9.out.2.size))
  clear hb
  go_wp2_with fail
  go_ret
  exact ⟨rfl, B10.out⟩
set_option maxRecDepth 100000 in
set_option maxHeartbeats 4000000 in
theorem wide_any (w : World) (V : LedV) (L : Led) (h : LedAt w V L) (hb : L.Short) :
    Calls Tryz.prog 12 #[V.val L] w fun e w' => e = .returned (.bool (decide (1024 < L.bulk))) ∧ Below w.heap.size w w' := by
  obtain ⟨b1, b2, b3, b4, b5, b6, b7, b8⟩ := hb
  obtain ⟨a1, c1, a2, c2, a3, c3, a4, c4, a5, c5, a6, c6, a7, c7, a8, c8, e1, e2, e3, e4, e5, e6, e7, e8⟩ := LedAt.opened h
  have R := Lib.hid (show decide (1024 < L.bulk) = decide ((1024 : Int) < (((((((L.curs.length : Int) + L.unders.length) + L.instrs.length) + L.poss.length) + L.orders.length) + L.avail.length) + L.locs.length) + L.accts.length) from by
    unfold Led.bulk; rw [Bool.eq_iff_iff]; simp only [decide_eq_true_eq]; omega)
  rw [R.out]
  unfold LedV.val LedV.cells
  rw [e1, e2, e3, e4, e5, e6, e7, e8]
  obtain ⟨n1, hn1⟩ : ∃ n, n = L.curs.length := ⟨_, rfl⟩
  obtain ⟨n2, hn2⟩ : ∃ n, n = L.unders.length := ⟨_, rfl⟩
  obtain ⟨n3, hn3⟩ : ∃ n, n = L.instrs.length := ⟨_, rfl⟩
  obtain ⟨n4, hn4⟩ : ∃ n, n = L.accts.length := ⟨_, rfl⟩
  obtain ⟨n5, hn5⟩ : ∃ n, n = L.poss.length := ⟨_, rfl⟩
  obtain ⟨n6, hn6⟩ : ∃ n, n = L.orders.length := ⟨_, rfl⟩
  obtain ⟨n7, hn7⟩ : ∃ n, n = L.avail.length := ⟨_, rfl⟩
  obtain ⟨n8, hn8⟩ : ∃ n, n = L.locs.length := ⟨_, rfl⟩
  rw [← hn1] at b1
  rw [← hn2] at b2
  rw [← hn3] at b3
  rw [← hn4] at b4
  rw [← hn5] at b5
  rw [← hn6] at b6
  rw [← hn7] at b7
  rw [← hn8] at b8
  rw [← hn1, ← hn2, ← hn3, ← hn4, ← hn5, ← hn6, ← hn7, ← hn8]
  clear h e1 e2 e3 e4 e5 e6 e7 e8 hn1 hn2 hn3 hn4 hn5 hn6 hn7 hn8 R
  go_enter Tryz.func12, Tryz.ntmps12
  go_wp2_with fail
  go_ret
  exact ⟨rfl, (Below.refl _ _).alloc (Nat.le_refl _) _⟩
end Go.Proofs.YtcjbhgnlmmeeeaaGreatDoor

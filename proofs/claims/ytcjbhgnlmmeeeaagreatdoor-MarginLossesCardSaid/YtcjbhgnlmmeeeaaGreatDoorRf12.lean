/- bulwarkref12 (Shift, fits, Point, Units) of what a ledger that can be holds, walked. -/
import Derived.Test.YtcjbhgnlmmeeeaaGreatDoorRf11
import Derived.Test.YtcjbhgnlmmeeeaaGreatDoorMgF
namespace Go.Proofs.YtcjbhgnlmmeeeaaGreatDoor
open Go.RowKit Go.Bw Go.Maps Go.Shelf
set_option linter.unusedVariables false
set_option linter.unusedSimpArgs false

theorem zTen1 : (Tryz.prog.info? 118).map (·.size) = some (Array.replicate 21 (Value.int .i64 0)).size := by rw [Array.size_replicate]; exact sTen0
theorem zTen2 : (Array.replicate 21 (Value.int .i64 0)).all (·.oneCell') = true := by rw [Array.all_eq_true]; intro i hi; simp [Value.oneCell']
theorem heap_alloc_last' (w : World) (o : Obj) {n : Nat} (h : n = w.heap.size) : (w.alloc o).heap[n]? = some o := by subst h; exact heap_alloc_last w o
theorem setRow_last (w : World) (n : Nat) (c c' : Array Value) (t : TypeId) (h : n = w.heap.size) : (w.alloc (.cells c t)).setRow n c' = w.alloc (.cells c' t) := by subst h; exact World.setRow_alloc_new _ _ _ _
theorem lt21 {s : Nat} (h : s < 21) : s = 0 ∨ s = 1 ∨ s = 2 ∨ s = 3 ∨ s = 4 ∨ s = 5 ∨ s = 6 ∨ s = 7 ∨ s = 8 ∨ s = 9 ∨ s = 10 ∨ s = 11 ∨ s = 12 ∨ s = 13 ∨ s = 14 ∨ s = 15 ∨ s = 16 ∨ s = 17 ∨ s = 18 ∨ s = 19 ∨ s = 20 := by omega
set_option maxRecDepth 100000 in
set_option maxHeartbeats 4000000 in
theorem rshift_any (s : Nat) (hs : s < 21) (w : World) : Calls Tryz.prog 149 #[.int .i64 (s : Int)] w fun e w' => e = .returned (.agg #[.int .i64 (shiftA s), .int .i64 (volA s)]) ∧ Below w.heap.size w w' := by
  rcases lt21 hs with rfl | rfl | rfl | rfl | rfl | rfl | rfl | rfl | rfl | rfl | rfl | rfl | rfl | rfl | rfl | rfl | rfl | rfl | rfl | rfl | rfl
  all_goals
    clear hs
    go_enter Tryz.func149, Tryz.ntmps149
    go_wp2_with fail
    exact bodyPost_ret (by simp [results, Tryz.results149, go_sem]; rfl) rfl ⟨by rfl, (Below.refl _ _).alloc (Nat.le_refl _) _⟩
set_option maxHeartbeats 1000000 in
theorem rfits12_yes (price vol : Int) (p0 : 0 ≤ price) (p1 : price ≤ 1000000000000) (v0 : 0 ≤ vol) (v1 : vol ≤ 50000) (w : World) : Calls Tryz.prog 148 #[.int .i64 price, .int .i64 vol] w fun e w' => e = .returned (.bool true) ∧ w = w' := by
  go_enter Tryz.func148, Tryz.ntmps148
  go_wp2_with fail
  go_ret
  refine ⟨ret_bool ?_, rfl⟩
  first | rfl | simp
set_option maxRecDepth 100000 in
set_option maxHeartbeats 2000000 in
theorem rpoint_any (price vol : Int) (s : Nat) (hs : s < 21) (p0 : 0 ≤ price) (p1 : price ≤ 1000000000000) (v0 : 0 ≤ vol) (v1 : vol ≤ 50000) (w : World) :
    Calls Tryz.prog 131 #[.int .i64 price, .int .i64 vol, .int .i64 (s : Int)] w fun e w' => e = .returned (.tuple #[.int .i64 (pointP price s), .int .i64 (pointV vol s), .int .i64 0]) ∧ Below w.heap.size w w' := by
  have FI := Lib.hid (fun W => rfits12_yes price vol p0 p1 v0 v1 W)
  have SH := Lib.hid (fun W => rshift_any s hs W)
  have hp := (pointP_bd p0 p1 s).1
  have hv := (pointV_bd v0 v1 s).1
  have MP := Lib.hid (fun W => rmd_any price (10000 + shiftA s) 10000 0 W)
  have MV := Lib.hid (fun W => rmd_any vol (10000 + volA s) 10000 0 W)
  rw [hp] at MP
  rw [hv] at MV
  have bs := shiftA_bd s
  have bv := volA_bd s
  obtain ⟨S, hS⟩ : ∃ S, S = shiftA s := ⟨_, rfl⟩
  obtain ⟨T, hT⟩ : ∃ T, T = volA s := ⟨_, rfl⟩
  rw [← hS] at MP SH bs
  rw [← hT] at MV SH bv
  obtain ⟨bs0, bs1⟩ := bs
  obtain ⟨bv0, bv1⟩ := bv
  have s0 : ¬ (s : Int) < 0 := by omega
  have s1 : ¬ 20 < (s : Int) := by omega
  have d0 : decide ((s : Int) < 0) = false := decide_eq_false s0
  have d1 : decide (20 < (s : Int)) = false := decide_eq_false s1
  clear hs hp hv hS hT
  go_enter Tryz.func131, Tryz.ntmps131
  go_wp2_with fail
  refine (FI.out _).mono ?_
  rintro e w' ⟨rfl, rfl⟩
  go_wp2_with fail
  refine (SH.out _).mono ?_
  rintro e w1 ⟨rfl, hb⟩
  have B1 := Lib.hid (hb.alloc hb.size (.cells #[.int .i64 S, .int .i64 T] 49))
  have X1 := Lib.hid (BoxAt.new w1 #[.int .i64 S, .int .i64 T] 49)
  clear hb
  go_wp2_with fail
  refine (MP.out _).mono ?_
  rintro e w2 ⟨rfl, hb⟩
  have B2 := Lib.hid (B1.out.trans (hb.mono B1.out.size))
  have c1 := (X1.out.below hb).at_ 1 _ rfl
  clear hb
  go_wp2_with fail
  refine (MV.out _).mono ?_
  rintro e w3 ⟨rfl, hb⟩
  have B3 := Lib.hid (B2.out.trans (hb.mono B2.out.size))
  clear hb
  go_wp2_with fail
  go_ret3
  exact ⟨rfl, B3.out⟩
set_option maxRecDepth 100000 in
set_option maxHeartbeats 4000000 in
theorem runits_any (i : Ins) (u : Und) (n m : Nat) (hi : i.Ok n) (hu : u.Ok m) (day : Int) (d0 : 0 ≤ day) (d1 : day ≤ 100000) (w : World) :
    Calls Tryz.prog 91 #[.agg #[.int .i64 i.kind, .int .i64 i.under, .int .i64 i.mult, .int .i64 i.strike, .int .i64 i.expiry, .bool i.call, .int .i64 i.mark], .agg #[.string u.name, .int .i64 u.cur, .int .i64 u.price, .int .i64 u.vol], .int .i64 day] w fun e w' => e = .returned (.tuple #[.agg (unitsV fun s => (unitAt i u day s).1), .int .i64 0]) ∧ Below w.heap.size w w' := by
  have HI := Lib.hid hi
  have HU := Lib.hid hu
  have D01 := Lib.hid (And.intro d0 d1)
  obtain ⟨f, hf⟩ : ∃ f : Nat → Int, f = fun s => (unitAt i u day s).1 := ⟨_, rfl⟩
  rw [← hf]
  have EF := Lib.hid hf
  clear hi hu hf d0 d1
  obtain ⟨ci, hci⟩ : ∃ ci : Array Value, ci = #[.int .i64 i.kind, .int .i64 i.under, .int .i64 i.mult, .int .i64 i.strike, .int .i64 i.expiry, .bool i.call, .int .i64 i.mark] := ⟨_, rfl⟩
  obtain ⟨cu, hcu⟩ : ∃ cu : Array Value, cu = #[.string u.name, .int .i64 u.cur, .int .i64 u.price, .int .i64 u.vol] := ⟨_, rfl⟩
  have ECI := Lib.hid hci
  have ECU := Lib.hid hcu
  have START := Lib.hid (show UnAt w ((((w.alloc (.cells ci 54)).alloc (.cells cu 60)).alloc (.cells (Array.replicate 21 (.int .i64 0)) 118)).alloc (.cells (Array.replicate 21 (.int .i64 0)) 118)) (w.heap.size + 1 + 1) (w.heap.size + 1 + 1 + 1) ci cu f 0 from by
    have x1 := BoxAt.new w ci 54
    have x2 := BoxAt.new (w.alloc (.cells ci 54)) cu 60
    have M3 := (Mod.refl (fun _ => False) ((w.alloc (.cells ci 54)).alloc (.cells cu 60))).alloc (.cells (Array.replicate 21 (.int .i64 0)) 118)
    have M4 := M3.alloc (.cells (Array.replicate 21 (.int .i64 0)) 118)
    have M2 := (Mod.refl (fun _ => False) (w.alloc (.cells ci 54))).alloc (.cells cu 60)
    have h3 := heap_alloc_new ((w.alloc (.cells ci 54)).alloc (.cells cu 60)) (.cells (Array.replicate 21 (.int .i64 0)) 118)
    have h4 := heap_alloc_new (((w.alloc (.cells ci 54)).alloc (.cells cu 60)).alloc (.cells (Array.replicate 21 (.int .i64 0)) 118)) (.cells (Array.replicate 21 (.int .i64 0)) 118)
    refine ⟨(x1.mod M2 (fun h => h)).mod M4 (fun h => h), by have := x2.mod M4 (fun h => h); simpa using this, ⟨_, (((Mod.refl (fun _ => False) _).alloc (.cells (Array.replicate 21 (.int .i64 0)) 118)).heap (by simpa using h3) (fun h => h)), by simp⟩, ⟨_, by simpa using h4, by simp, fun j hj => by omega⟩, ?_⟩
    exact ((((Below.refl _ w).alloc (Nat.le_refl _) _).alloc (by simp) _).alloc (by simp; omega) _).alloc (by simp; omega) _)
  rw [hci, hcu] at START
  clear hci hcu
  go_enter Tryz.func91, Tryz.ntmps91
  go_wp2_with (refine wpList_store_row rfl 118 (.tmp 8) (.tmp 14) rfl (w.heap.size + 1 + 1 + 1) (Array.replicate 21 (.int .i64 0)) (by rfl) rfl 118 _ (by first | exact heap_alloc_last' _ _ (by simp) | (rw [show w.heap.size + 1 + 1 + 1 = (((w.alloc _).alloc _).alloc _).heap.size from by simp]; exact heap_alloc_last _ _)) zTen1 (by simp) zTen2 ?_; rw [setRow_last _ _ _ _ _ (by simp)])
  obtain ⟨W, hW⟩ : ∃ W, W = ((((w.alloc (.cells #[.int .i64 i.kind, .int .i64 i.under, .int .i64 i.mult, .int .i64 i.strike, .int .i64 i.expiry, .bool i.call, .int .i64 i.mark] 54)).alloc (.cells #[.string u.name, .int .i64 u.cur, .int .i64 u.price, .int .i64 u.vol] 60)).alloc (.cells (Array.replicate 21 (.int .i64 0)) 118)).alloc (.cells (Array.replicate 21 (.int .i64 0)) 118)) := ⟨_, rfl⟩
  have hW2 := hW
  simp only [show Array.replicate 21 (Value.int .i64 0) = #[.int .i64 0, .int .i64 0, .int .i64 0, .int .i64 0, .int .i64 0, .int .i64 0, .int .i64 0, .int .i64 0, .int .i64 0, .int .i64 0, .int .i64 0, .int .i64 0, .int .i64 0, .int .i64 0, .int .i64 0, .int .i64 0, .int .i64 0, .int .i64 0, .int .i64 0, .int .i64 0, .int .i64 0] from rfl] at hW2 ⊢
  rw [← hW2]
  rw [← hW, ← ECI.out, ← ECU.out] at START
  clear hW hW2
  obtain ⟨H8, h8⟩ : ∃ n, n = w.heap.size + 1 + 1 + 1 := ⟨_, rfl⟩
  obtain ⟨H6, h6⟩ : ∃ n, n = w.heap.size + 1 + 1 := ⟨_, rfl⟩
  rw [← h8, ← h6] at START ⊢
  have H68 := Lib.hid (show H6 = w.heap.size + 2 ∧ H8 = w.heap.size + 3 from by omega)
  clear h8 h6
  go_loopw [9] (fun i wr => ∃ k : Nat, k ≤ 21 ∧ i = .int .i64 k ∧ UnAt w wr H6 H8 ci cu f k) (fun i _ => 21 - (intOf i).toNat)
  case atStart => exact ⟨0, by omega, rfl, START.out⟩
  case round =>
    obtain ⟨k, hk, rfl, hU⟩ := hrel
    have UU := Lib.hid hU
    clear hU
    by_cases hlt : k < 21
    · have hlt' : (k : Int) < 21 := by omega
      have k0 : (0 : Int) ≤ (k : Int) := by omega
      have LT := Lib.hid hlt
      have c2 : wr.cell? ⟨w.heap.size + 1, 2, none⟩ = some (.int .i64 u.price) := UU.out.bu.at_ 2 _ (by rw [ECU.out]; rfl)
      have c3 : wr.cell? ⟨w.heap.size + 1, 3, none⟩ = some (.int .i64 u.vol) := UU.out.bu.at_ 3 _ (by rw [ECU.out]; rfl)
      obtain ⟨_, _, _, q0, q1, r0, r1⟩ := HU.out
      have PT := Lib.hid (rpoint_any u.price u.vol k hlt (by omega) q1 r0 r1 wr)
      clear q0 q1 r0 r1 hk hlt
      go_wp2_with fail
      refine PT.out.mono ?_
      rintro e w1 ⟨rfl, hb⟩
      have U1 := Lib.hid (UU.out.below hb)
      clear hb c2 c3
      have i0 : w1.cell? ⟨w.heap.size, 0, none⟩ = some (.int .i64 i.kind) := U1.out.bi.at_ 0 _ (by rw [ECI.out]; rfl)
      have i1 : w1.cell? ⟨w.heap.size, 1, none⟩ = some (.int .i64 i.under) := U1.out.bi.at_ 1 _ (by rw [ECI.out]; rfl)
      have i2 : w1.cell? ⟨w.heap.size, 2, none⟩ = some (.int .i64 i.mult) := U1.out.bi.at_ 2 _ (by rw [ECI.out]; rfl)
      have i3 : w1.cell? ⟨w.heap.size, 3, none⟩ = some (.int .i64 i.strike) := U1.out.bi.at_ 3 _ (by rw [ECI.out]; rfl)
      have i4 : w1.cell? ⟨w.heap.size, 4, none⟩ = some (.int .i64 i.expiry) := U1.out.bi.at_ 4 _ (by rw [ECI.out]; rfl)
      have i5 : w1.cell? ⟨w.heap.size, 5, none⟩ = some (.bool i.call) := U1.out.bi.at_ 5 _ (by rw [ECI.out]; rfl)
      have i6 : w1.cell? ⟨w.heap.size, 6, none⟩ = some (.int .i64 i.mark) := U1.out.bi.at_ 6 _ (by rw [ECI.out]; rfl)
      go_wp2_with fail
      clear i0 i1 i2 i3 i4 i5 i6
      have UN := Lib.hid (show Calls Tryz.prog 132 #[.agg #[.int .i64 i.kind, .int .i64 i.under, .int .i64 i.mult, .int .i64 i.strike, .int .i64 i.expiry, .bool i.call, .int .i64 i.mark], .int .i64 (pointP u.price k), .int .i64 (pointV u.vol k), .int .i64 day] w1 fun e w' => e = .returned (.tuple #[.int .i64 (f k), .int .i64 0]) ∧ Below w1.heap.size w1 w' from by
        obtain ⟨_, _, _, q0, q1, r0, r1⟩ := HU.out
        have hp := pointP_bd (show 0 ≤ u.price by omega) q1 k
        have hv := pointV_bd r0 r1 k
        rw [EF.out]
        exact runit_any i n HI.out _ _ day hp.2.1 hp.2.2 hv.2.1 hv.2.2 D01.out.1 D01.out.2 w1)
      refine UN.out.mono ?_
      rintro e w2 ⟨rfl, hb⟩
      have U2 := Lib.hid (U1.out.below hb)
      clear hb
      obtain ⟨A, ha, as1, as2⟩ := U2.out.arr
      obtain ⟨y, hy⟩ : ∃ y, A[k]? = some y := ⟨_, Array.getElem?_eq_getElem (by have := LT.out; omega)⟩
      have a0 : w2.cell? ⟨H8, k, none⟩ = some y := (cell_of_heap ha k).trans hy
      have z0 := free_of_heap ha k
      clear ha as1 as2 hy
      go_wp2_with fail
      have U3 := Lib.hid (U2.out.next H68.out LT.out (f k) rfl)
      go_roundw
      case rel => exact ⟨k + 1, by have := LT.out; omega, by go_num, U3.out⟩
      case measure => have := LT.out; simp [intOf]; omega
    · have hlt' : ¬ (k : Int) < 21 := by omega
      obtain ⟨A, ha, as1, as2⟩ := UU.out.arr
      obtain ⟨Z, hz, zs⟩ := UU.out.res
      obtain rfl : k = 21 := by omega
      have EA : A = unitsV f := unitsV_eq as1 as2
      subst EA
      have HA := Lib.hid ha
      have HZ := Lib.hid hz
      have ZS := Lib.hid zs
      clear hlt hk as1 as2 ha hz zs hlt'
      go_wp2_with (first | (refine wpList_load_row rfl 118 (.tmp 8) rfl H8 rfl 118 _ (0, 0) (.array 21 3) HA.out uTen.out rfl (sTen f).out ?_) | (refine wpList_store_row rfl 118 (.tmp 6) (.tmp 48) rfl H6 (unitsV f) rfl rfl 118 _ HZ.out (sTen f).out ZS.out (unitsV_cells f) ?_))
      have hg : (wr.setRow H6 (unitsV f)).heap[H6]? = some (.cells (unitsV f) 118 (0, 0)) := setRow_heap _ _ _ _ _ _ HZ.out
      refine bodyPost_ret (results_row_tmp (q := 7) rfl _ _ H6 118 (unitsV f) (0, 0) _ rfl hg uTen.out rfl (sTen f).out) rfl ⟨by rfl, ?_⟩
      exact below_setRow UU.out.low (by have := H68.out; omega) _
end Go.Proofs.YtcjbhgnlmmeeeaaGreatDoor

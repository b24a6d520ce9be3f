/- grid.Units, walked (under way: not finished). -/
import Derived.Test.YtcjbhgnlmmeeeaaGreatDoorMgD
import Derived.Test.YtcjbhgnlmmeeeaaGreatDoorNamed
import Derived.Laws.CopyOwn
namespace Go.Proofs.YtcjbhgnlmmeeeaaGreatDoor
open Go.RowKit Go.Bw Go.Maps Go.Shelf
set_option linter.unusedVariables false
set_option linter.unusedSimpArgs false

/-- A row of 21. -/
def unitsV (f : Nat → Int) : Array Value := ((List.range 21).map fun s => Value.int .i64 (f s)).toArray
/-- A loop that fills an array of 21. -/
structure UnAt (w wr : World) (H6 H8 : Nat) (ci cu : Array Value) (f : Nat → Int) (k : Nat) : Prop where
  bi : BoxAt wr w.heap.size ci
  bu : BoxAt wr (w.heap.size + 1) cu
  res : ∃ Z, wr.heap[H6]? = some (.cells Z 118 (0, 0)) ∧ Z.size = 21
  arr : ∃ A, wr.heap[H8]? = some (.cells A 118 (0, 0)) ∧ A.size = 21 ∧ ∀ j, j < k → A[j]? = some (.int .i64 (f j))
  low : Below w.heap.size w wr
theorem UnAt.below {w wr w' : World} {H6 H8 : Nat} {ci cu : Array Value} {f : Nat → Int} {k : Nat} (h : UnAt w wr H6 H8 ci cu f k) (hb : Below wr.heap.size wr w') : UnAt w w' H6 H8 ci cu f k := by
  obtain ⟨Z, hz, zs⟩ := h.res
  obtain ⟨A, ha, as1, as2⟩ := h.arr
  exact ⟨h.bi.below hb, h.bu.below hb, ⟨Z, (Mod.of_below hb).heap hz (fun h => h), zs⟩, ⟨A, (Mod.of_below hb).heap ha (fun h => h), as1, as2⟩, h.low.trans (hb.mono h.low.size)⟩
theorem UnAt.next {w wr : World} {H6 H8 : Nat} {ci cu : Array Value} {f : Nat → Int} {k : Nat} (h : UnAt w wr H6 H8 ci cu f k) (h68 : H6 = w.heap.size + 2 ∧ H8 = w.heap.size + 3) (hk : k < 21) (x : Int) (hx : x = f k) :
    UnAt w (wr.setCell ⟨H8, k, none⟩ (.int .i64 x)) H6 H8 ci cu f (k + 1) := by
  obtain ⟨rfl, rfl⟩ := h68
  have M := (Mod.refl (fun j => j = w.heap.size + 3) wr).setCell (p := ⟨w.heap.size + 3, k, none⟩) (.int .i64 x) (fun _ => rfl)
  obtain ⟨Z, hz, zs⟩ := h.res
  obtain ⟨A, ha, as1, as2⟩ := h.arr
  refine ⟨h.bi.mod M (by omega), h.bu.mod M (by omega), ⟨Z, M.heap hz (by omega), zs⟩, ⟨A.setIfInBounds k (.int .i64 x), heap_setCell_at ha k _, by simp [as1], fun j hj => ?_⟩, h.low.setCell (by show w.heap.size ≤ w.heap.size + 3; omega) _⟩
  by_cases e : j = k
  · subst e
    rw [Array.getElem?_setIfInBounds_self_of_lt (by omega), hx]
  · rw [Array.getElem?_setIfInBounds_ne (by omega)]
    exact as2 j (by omega)

theorem unitsV_eq {A : Array Value} {f : Nat → Int} (h1 : A.size = 21) (h2 : ∀ j, j < 21 → A[j]? = some (.int .i64 (f j))) : A = unitsV f := by
  apply Array.ext_getElem?
  intro j
  by_cases hj : j < 21
  · rw [h2 j hj]; simp [unitsV, hj]
  · rw [Array.getElem?_eq_none (by omega), Array.getElem?_eq_none (by simp [unitsV]; omega)]
theorem results_row_tmp {P : Program} {fn : Func} {p q : Tmp} {ty : TypeId} (h : fn.results = #[.cell p ty, .tmp q]) (tmps : Array Value) (w : World) (g : Nat) (t : TypeId) (cs : Array Value) (fr : Nat × Nat) (d : TypeDesc)
    (hp : tmps.getD p undef = .pointer (some ⟨g, 0, none⟩)) (hg : w.heap[g]? = some (.cells cs t fr))
    (hu : P.underlying ty = some d) (hd : (match d with | .struct _ | .array _ _ => true | _ => false) = true) (hi : (P.info? ty).map (·.size) = some cs.size) :
    (results fn tmps).run P w = .ok (.tuple #[.agg cs, tmps.getD q undef]) w := by
  have hp' : tmps[p]?.getD undef = .pointer (some ⟨g, 0, none⟩) := by simpa using hp
  simp [results, h, hp', asAddr, run_loadVar_row w g t ty cs fr d hg hu hd hi]
theorem unitsV_cells (f : Nat → Int) : (unitsV f).all (·.oneCell') = true := by
  rw [Array.all_eq_true]; intro i hi; simp [unitsV, Value.oneCell']
theorem unitsV_size (f : Nat → Int) : (unitsV f).size = 21 := by simp [unitsV]
theorem uTen : Hid (Tryz.prog.underlying 118 = some (.array 21 3)) := Lib.hid (by kernel_rfl)
theorem sTen0 : (Tryz.prog.info? 118).map (·.size) = some 21 := by kernel_rfl
theorem sTen (f : Nat → Int) : Hid ((Tryz.prog.info? 118).map (·.size) = some (unitsV f).size) := Lib.hid (by rw [unitsV_size]; exact sTen0)
set_option maxRecDepth 100000 in
set_option maxHeartbeats 4000000 in
theorem units_any (i : Ins) (u : Und) (n m : Nat) (hi : i.Ok n) (hu : u.Ok m) (day : Int) (d0 : 0 ≤ day) (d1 : day ≤ 100000) (w : World) (hG : Grd w) :
    Calls Tryz.prog 147 #[.agg #[.int .i64 i.kind, .int .i64 i.under, .int .i64 i.mult, .int .i64 i.strike, .int .i64 i.expiry, .bool i.call, .int .i64 i.mark], .agg #[.string u.name, .int .i64 u.cur, .int .i64 u.price, .int .i64 u.vol], .int .i64 day] w fun e w' => e = .returned (.tuple #[.agg (unitsV fun s => (unitAt i u day s).1), .int .i64 0]) ∧ Below w.heap.size w w' := by
  have HI := Lib.hid hi
  have HU := Lib.hid hu
  have HG := Lib.hid hG
  have D01 := Lib.hid (And.intro d0 d1)
  obtain ⟨f, hf⟩ : ∃ f : Nat → Int, f = fun s => (unitAt i u day s).1 := ⟨_, rfl⟩
  rw [← hf]
  have EF := Lib.hid hf
  clear hi hu hG hf d0 d1
  obtain ⟨ci, hci⟩ : ∃ ci : Array Value, ci = #[.int .i64 i.kind, .int .i64 i.under, .int .i64 i.mult, .int .i64 i.strike, .int .i64 i.expiry, .bool i.call, .int .i64 i.mark] := ⟨_, rfl⟩
  obtain ⟨cu, hcu⟩ : ∃ cu : Array Value, cu = #[.string u.name, .int .i64 u.cur, .int .i64 u.price, .int .i64 u.vol] := ⟨_, rfl⟩
  have ECI := Lib.hid hci
  have ECU := Lib.hid hcu
  have START := Lib.hid (show UnAt w ((((w.alloc (.cells ci 54)).alloc (.cells cu 60)).alloc (.cells (Array.replicate 21 (.int .i64 0)) 118)).alloc (.cells (Array.replicate 21 (.int .i64 0)) 118)) (w.heap.size + 1 + 1) (w.heap.size + 1 + 1 + 1) ci cu f 0 from by
    have x1 := BoxAt.new w ci 54
    have x2 := BoxAt.new (w.alloc (.cells ci 54)) cu 60
    have M3 := (Mod.refl (fun _ => False) ((w.alloc (.cells ci 54)).alloc (.cells cu 60))).alloc (.cells (Array.replicate 21 (.int .i64 0)) 118)
    have M4 := M3.alloc (.cells (Array.replicate 21 (.int .i64 0)) 118)
    have M2 := (Mod.refl (fun _ => False) (w.alloc (.cells ci 54))).alloc (.cells cu 60)
    have h3 := heap_alloc_new ((w.alloc (.cells ci 54)).alloc (.cells cu 60)) (.cells (Array.replicate 21 (.int .i64 0)) 118)
    have h4 := heap_alloc_new (((w.alloc (.cells ci 54)).alloc (.cells cu 60)).alloc (.cells (Array.replicate 21 (.int .i64 0)) 118)) (.cells (Array.replicate 21 (.int .i64 0)) 118)
    refine ⟨(x1.mod M2 (fun h => h)).mod M4 (fun h => h), by have := x2.mod M4 (fun h => h); simpa using this, ⟨_, (((Mod.refl (fun _ => False) _).alloc (.cells (Array.replicate 21 (.int .i64 0)) 118)).heap (by simpa using h3) (fun h => h)), by simp⟩, ⟨_, by simpa using h4, by simp, fun j hj => by omega⟩, ?_⟩
    exact ((((Below.refl _ w).alloc (Nat.le_refl _) _).alloc (by simp) _).alloc (by simp; omega) _).alloc (by simp; omega) _)
  rw [hci, hcu] at START
  clear hci hcu
  go_enter Tryz.func147, Tryz.ntmps147
  go_wp2_with fail
  obtain ⟨W, hW⟩ : ∃ W, W = ((((w.alloc (.cells #[.int .i64 i.kind, .int .i64 i.under, .int .i64 i.mult, .int .i64 i.strike, .int .i64 i.expiry, .bool i.call, .int .i64 i.mark] 54)).alloc (.cells #[.string u.name, .int .i64 u.cur, .int .i64 u.price, .int .i64 u.vol] 60)).alloc (.cells (Array.replicate 21 (.int .i64 0)) 118)).alloc (.cells (Array.replicate 21 (.int .i64 0)) 118)) := ⟨_, rfl⟩
  have hW2 := hW
  simp only [show Array.replicate 21 (Value.int .i64 0) = #[.int .i64 0, .int .i64 0, .int .i64 0, .int .i64 0, .int .i64 0, .int .i64 0, .int .i64 0, .int .i64 0, .int .i64 0, .int .i64 0, .int .i64 0, .int .i64 0, .int .i64 0, .int .i64 0, .int .i64 0, .int .i64 0, .int .i64 0, .int .i64 0, .int .i64 0, .int .i64 0, .int .i64 0] from rfl] at hW2 
  rw [← hW2]
  rw [← hW, ← ECI.out, ← ECU.out] at START
  clear hW hW2
  obtain ⟨H8, h8⟩ : ∃ n, n = w.heap.size + 1 + 1 + 1 := ⟨_, rfl⟩
  obtain ⟨H6, h6⟩ : ∃ n, n = w.heap.size + 1 + 1 := ⟨_, rfl⟩
  rw [← h8, ← h6] at START ⊢
  have H68 := Lib.hid (show H6 = w.heap.size + 2 ∧ H8 = w.heap.size + 3 from by omega)
  clear h8 h6
  go_loopw [13] (fun i wr => ∃ k : Nat, k ≤ 21 ∧ i = .int .i64 k ∧ UnAt w wr H6 H8 ci cu f k) (fun i _ => 21 - (intOf i).toNat)
  case atStart => exact ⟨0, by omega, rfl, START.out⟩
  case round =>
    obtain ⟨k, hk, rfl, hU⟩ := hrel
    have UU := Lib.hid hU
    clear hU
    by_cases hlt : k < 21
    · have hlt' : (k : Int) < 21 := by omega
      have k0 : (0 : Int) ≤ (k : Int) := by omega
      have LT := Lib.hid hlt
      have c2 : wr.cell? ⟨w.heap.size + 1, 2, none⟩ = some (.int .i64 u.price) := UU.out.bu.at_ 2 _ (by rw [ECU.out]; rfl)
      have c3 : wr.cell? ⟨w.heap.size + 1, 3, none⟩ = some (.int .i64 u.vol) := UU.out.bu.at_ 3 _ (by rw [ECU.out]; rfl)
      obtain ⟨_, _, _, q0, q1, r0, r1⟩ := HU.out
      have PT := Lib.hid (point_any u.price u.vol k hlt (by omega) q1 r0 r1 wr (HG.out.mod (Mod.mono (T := fun k => w.heap.size ≤ k) (Mod.of_below UU.out.low) (fun k hk h => h.elim)) (by obtain ⟨⟨_, _, h⟩, _⟩ := HG.out; have := World.block_lt_of_cell? w ⟨_, 0, none⟩ (cell_of_heap h 0); simp at this ⊢; omega) (by obtain ⟨_, ⟨_, _, h⟩⟩ := HG.out; have := World.block_lt_of_cell? w ⟨_, 0, none⟩ (cell_of_heap h 0); simp at this ⊢; omega)))
      clear q0 q1 r0 r1 hk hlt
      go_wp2_with fail
      refine PT.out.mono ?_
      rintro e w1 ⟨rfl, hb⟩
      have U1 := Lib.hid (UU.out.below hb)
      clear hb c2 c3
      have i0 : w1.cell? ⟨w.heap.size, 0, none⟩ = some (.int .i64 i.kind) := U1.out.bi.at_ 0 _ (by rw [ECI.out]; rfl)
      have i1 : w1.cell? ⟨w.heap.size, 1, none⟩ = some (.int .i64 i.under) := U1.out.bi.at_ 1 _ (by rw [ECI.out]; rfl)
      have i2 : w1.cell? ⟨w.heap.size, 2, none⟩ = some (.int .i64 i.mult) := U1.out.bi.at_ 2 _ (by rw [ECI.out]; rfl)
      have i3 : w1.cell? ⟨w.heap.size, 3, none⟩ = some (.int .i64 i.strike) := U1.out.bi.at_ 3 _ (by rw [ECI.out]; rfl)
      have i4 : w1.cell? ⟨w.heap.size, 4, none⟩ = some (.int .i64 i.expiry) := U1.out.bi.at_ 4 _ (by rw [ECI.out]; rfl)
      have i5 : w1.cell? ⟨w.heap.size, 5, none⟩ = some (.bool i.call) := U1.out.bi.at_ 5 _ (by rw [ECI.out]; rfl)
      have i6 : w1.cell? ⟨w.heap.size, 6, none⟩ = some (.int .i64 i.mark) := U1.out.bi.at_ 6 _ (by rw [ECI.out]; rfl)
      go_wp2_with fail
      clear i0 i1 i2 i3 i4 i5 i6
      have UN := Lib.hid (show Calls Tryz.prog 156 #[.agg #[.int .i64 i.kind, .int .i64 i.under, .int .i64 i.mult, .int .i64 i.strike, .int .i64 i.expiry, .bool i.call, .int .i64 i.mark], .int .i64 (pointP u.price k), .int .i64 (pointV u.vol k), .int .i64 day] w1 fun e w' => e = .returned (.tuple #[.int .i64 (f k), .int .i64 0]) ∧ Below w1.heap.size w1 w' from by
        obtain ⟨_, _, _, q0, q1, r0, r1⟩ := HU.out
        have hp := pointP_bd (show 0 ≤ u.price by omega) q1 k
        have hv := pointV_bd r0 r1 k
        rw [EF.out]
        exact ounit_any i n HI.out _ _ day hp.2.1 hp.2.2 hv.2.1 hv.2.2 D01.out.1 D01.out.2 w1)
      refine UN.out.mono ?_
      rintro e w2 ⟨rfl, hb⟩
      have U2 := Lib.hid (U1.out.below hb)
      clear hb
      obtain ⟨A, ha, as1, as2⟩ := U2.out.arr
      obtain ⟨y, hy⟩ : ∃ y, A[k]? = some y := ⟨_, Array.getElem?_eq_getElem (by have := LT.out; omega)⟩
      have a0 : w2.cell? ⟨H8, k, none⟩ = some y := (cell_of_heap ha k).trans hy
      have z0 := free_of_heap ha k
      clear ha as1 as2 hy
      go_wp2_with fail
      have U3 := Lib.hid (U2.out.next H68.out LT.out (f k) rfl)
      go_roundw
      case rel => exact ⟨k + 1, by have := LT.out; omega, by go_num, U3.out⟩
      case measure => have := LT.out; simp [intOf]; omega
    · have hlt' : ¬ (k : Int) < 21 := by omega
      obtain ⟨A, ha, as1, as2⟩ := UU.out.arr
      obtain ⟨Z, hz, zs⟩ := UU.out.res
      obtain rfl : k = 21 := by omega
      have EA : A = unitsV f := unitsV_eq as1 as2
      subst EA
      have HA := Lib.hid ha
      have HZ := Lib.hid hz
      have ZS := Lib.hid zs
      clear hlt hk as1 as2 ha hz zs hlt'
      go_wp2_with (first | (refine wpList_load_row rfl 118 (.tmp 8) rfl H8 rfl 118 _ (0, 0) (.array 21 3) HA.out uTen.out rfl (sTen f).out ?_) | (refine wpList_store_row rfl 118 (.tmp 6) (.tmp 45) rfl H6 (unitsV f) rfl rfl 118 _ HZ.out (sTen f).out ZS.out (unitsV_cells f) ?_))
      have hg : (wr.setRow H6 (unitsV f)).heap[H6]? = some (.cells (unitsV f) 118 (0, 0)) := setRow_heap _ _ _ _ _ _ HZ.out
      refine bodyPost_ret (results_row_tmp (q := 7) rfl _ _ H6 118 (unitsV f) (0, 0) _ rfl hg uTen.out rfl (sTen f).out) rfl ⟨by rfl, ?_⟩
      exact below_setRow UU.out.low (by have := H68.out; omega) _
end Go.Proofs.YtcjbhgnlmmeeeaaGreatDoor

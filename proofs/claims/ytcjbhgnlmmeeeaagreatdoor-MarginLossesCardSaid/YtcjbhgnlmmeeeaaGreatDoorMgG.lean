/- Joined: Worst, Base, Need, Have. -/
import Derived.Test.YtcjbhgnlmmeeeaaGreatDoorMgF
import Derived.Test.YtcjbhgnlmmeeeaaGreatDoorThing
import Derived.Test.YtcjbhgnlmmeeeaaGreatDoorNamed
import Derived.Test.YtcjbhgnlmmeeeaaGreatDoorMgE
import Derived.Test.YtcjbhgnlmmeeeaaGreatDoorRf01b
import Derived.Test.YtcjbhgnlmmeeeaaGreatDoorMgB
/- grid.Worst; margin's sight: the greatest loss over an underlying, walked. -/
namespace Go.Proofs.YtcjbhgnlmmeeeaaGreatDoor
open Go.RowKit Go.Bw Go.Maps Go.Shelf Go.Bw.Fall
set_option linter.unusedVariables false
set_option linter.unusedSimpArgs false

theorem index_units (g : Nat → Int) (k : Nat) (hk : k < 21) (w : World) : (Instr.index 118 (.agg (unitsV g)) (.int .i64 (k : Int))).run Tryz.prog w = .ok (.int .i64 (g k)) w := by
  have h := uTen.out
  have h2 := unitsV_at g hk
  have h3 := unitsV_size g
  have hk2 : (k : Int) < 21 := by omega
  have hu : Tryz.prog.underlying 3 = some (.int .i64) := uInt
  simp [Instr.index, run_underlying h, h2, h3, hk2, asIntOf, part, isAgg, run_underlying hu]
  intro h; omega
/-- The place of the greatest. -/
def TopOf (g : Nat → Int) (n : Nat) : Prop := n < 21 ∧ ∀ j, j < 21 → g j ≤ g n
def WorstOut (g : Nat → Int) (w : World) (e : Ending) (w' : World) : Prop := ∃ n : Nat, TopOf g n ∧ e = .returned (.tuple #[.int .i64 (g n), .int .i64 (n : Int)]) ∧ Below w.heap.size w w'
set_option maxRecDepth 100000 in
set_option maxHeartbeats 2000000 in
theorem gworst_any (w : World) (g : Nat → Int) (hg : ∀ j, j < 21 → I64 (g j)) : Calls Tryz.prog 120 #[.agg (unitsV g)] w (WorstOut g w) := by
  have HB := Lib.hid ((Below.refl w.heap.size w).alloc (Nat.le_refl _) (.cells (unitsV g) 118))
  have H0 := Lib.hid (heap_alloc_last w (.cells (unitsV g) 118))
  go_enter Tryz.func120, Tryz.ntmps120
  go_wp2_with (refine wpList_load_row rfl 118 (.tmp 1) rfl w.heap.size rfl 118 (unitsV g) (0, 0) _ H0.out uTen.out rfl (sTen g).out ?_)
  obtain ⟨W, hW⟩ : ∃ W, W = w.alloc (.cells (unitsV g) 118) := ⟨_, rfl⟩
  rw [← hW] at HB ⊢
  have CL := Lib.hid (show ∀ j, j < 21 → W.cell? ⟨w.heap.size, j, none⟩ = some (.int .i64 (g j)) from fun j hj => by rw [hW, cell_of_heap (heap_alloc_last w _)]; exact unitsV_at g hj)
  have IX := Lib.hid (fun k hk W => index_units g k hk W)
  have GG := Lib.hid hg
  clear hW hg H0
  go_loopw [4, 8] (fun av i wr => ∃ (k n : Nat), k ≤ 21 ∧ n < 21 ∧ i = .int .i64 k ∧ av = .int .i64 n ∧ Hid (∀ j, j < k → g j ≤ g n) ∧ wr = W) (fun _ i _ => 21 - (intOf i).toNat)
  case atStart => exact ⟨0, 0, by omega, by omega, rfl, rfl, Lib.hid (fun j hj => by omega), rfl⟩
  case round =>
    obtain ⟨k, n, hk, hn, rfl, rfl, TOP, rfl⟩ := hrel
    have cn := CL.out n hn
    have n0 : (0 : Int) ≤ (n : Int) := by omega
    have n1 : (n : Int) < 21 := by omega
    by_cases hlt : k < 21
    · have hlt' : (k : Int) < 21 := by omega
      have ix := IX.out k hlt
      have LT := Lib.hid hlt
      have HN := Lib.hid hn
      clear hk hlt hn
      by_cases hx : g n < g k
      · have HX := Lib.hid hx
        go_wp2_with fail
        go_roundw
        case rel => exact ⟨k + 1, k, by have := LT.out; omega, LT.out, by go_num, rfl, Lib.hid (fun j hj => by
          have h1 := HX.out
          by_cases e : j = k
          · rw [e]; omega
          · have := TOP.out j (by omega); omega), trivial⟩
        case measure => have := LT.out; simp [intOf]; omega
      · have HX := Lib.hid hx
        go_wp2_with fail
        go_roundw
        case rel => exact ⟨k + 1, n, by have := LT.out; omega, HN.out, by go_num, rfl, Lib.hid (fun j hj => by
          have h1 := HX.out
          by_cases e : j = k
          · rw [e]; omega
          · exact TOP.out j (by omega)), trivial⟩
        case measure => have := LT.out; simp [intOf]; omega
    · have hlt' : ¬ (k : Int) < 21 := by omega
      have HN := Lib.hid (show TopOf g n from ⟨hn, fun j hj => TOP.out j (by omega)⟩)
      clear hk hn
      go_wp2_with fail
      go_ret2
      exact ⟨n, HN.out, rfl, HB.out⟩

/-! The greatest loss. -/
theorem worstO_some {L : Led} {a : Nat} {under : Int} {g : Nat → Int} : ∀ n, (∀ j, j < n → lossO L a under j = some (g j)) → ∃ m, worstO L a under n = some m ∧ 0 ≤ m ∧ (∀ j, j < n → g j ≤ m) ∧ (m = 0 ∨ ∃ j, j < n ∧ m = g j)
  | 0, _ => ⟨0, rfl, by omega, fun j hj => by omega, Or.inl rfl⟩
  | n + 1, h => by
    obtain ⟨m, h1, h2, h3, h4⟩ := worstO_some n (fun j hj => h j (by omega))
    refine ⟨max m (g n), ?_, by omega, fun j hj => ?_, ?_⟩
    · show ((worstO L a under n).bind fun w => (lossO L a under n).map fun x => max w x) = _
      rw [h1, h n (by omega)]; rfl
    · by_cases e : j = n
      · rw [e]; omega
      · have := h3 j (by omega); omega
    · by_cases e : g n ≤ m
      · rw [show max m (g n) = m by omega]
        rcases h4 with h4 | ⟨j, hj, h4⟩
        · exact Or.inl h4
        · exact Or.inr ⟨j, by omega, h4⟩
      · exact Or.inr ⟨n, by omega, by omega⟩
theorem worstO_top {L : Led} {a : Nat} {under : Int} {g : Nat → Int} {n : Nat} (h : ∀ j, j < 21 → lossO L a under j = some (g j)) (ht : TopOf g n) : worstO L a under 21 = some (max (g n) 0) := by
  obtain ⟨m, h1, h2, h3, h4⟩ := worstO_some 21 h
  have h5 := h3 n ht.1
  rw [h1]
  congr 1
  rcases h4 with h4 | ⟨j, hj, h4⟩
  · omega
  · have := ht.2 j hj; omega
theorem worstO_none {L : Led} {a : Nat} {under : Int} {k : Nat} (h : lossO L a under k = none) : ∀ n, k < n → worstO L a under n = none
  | 0, hn => by omega
  | n + 1, hn => by
    show ((worstO L a under n).bind fun w => (lossO L a under n).map fun x => max w x) = _
    by_cases e : k = n
    · subst e; rw [h]; cases worstO L a under k <;> rfl
    · rw [worstO_none h n (by omega)]; rfl
theorem lossO_fits {L : Led} {a : Nat} {under : Int} {s : Nat} {x : Int} (h : lossO L a under s = some x) : fitsA x = true := by
  have ord : ∀ (os : List Ord) (x y : Int), fitsA x = true → lossOrd L a under s os x = some y → fitsA y = true := by
    intro os
    induction os with
    | nil => intro x y hx h; cases h; exact hx
    | cons o r ih =>
      intro x y hx h
      unfold lossOrd at h
      by_cases hh : L.hit a under o.instr o.acct = true
      · rw [if_pos hh, Option.bind_eq_some_iff] at h
        obtain ⟨g, _, h⟩ := h
        rw [Option.bind_eq_some_iff] at h
        obtain ⟨z, hz, h⟩ := h
        exact ih z y (sub_fits hz) h
      · rw [if_neg hh] at h; exact ih x y hx h
  have pos : ∀ (ps : List Pos) (x y : Int), fitsA x = true → lossPos L a under s ps x = some y → fitsA y = true := by
    intro ps
    induction ps with
    | nil => intro x y hx h; cases h; exact hx
    | cons o r ih =>
      intro x y hx h
      unfold lossPos at h
      by_cases hh : L.hit a under o.instr o.acct = true
      · rw [if_pos hh, Option.bind_eq_some_iff] at h
        obtain ⟨g, _, h⟩ := h
        rw [Option.bind_eq_some_iff] at h
        obtain ⟨z, hz, h⟩ := h
        exact ih z y (sub_fits hz) h
      · rw [if_neg hh] at h; exact ih x y hx h
  unfold lossO at h
  rw [Option.bind_eq_some_iff] at h
  obtain ⟨y, hy, h⟩ := h
  exact ord _ _ _ (pos _ _ _ (by decide) hy) h
/-- A row of 21 that is being filled. -/
def Filled (w : World) (b : Nat) (g : Nat → Int) (k : Nat) : Prop := ∃ A, w.heap[b]? = some (.cells A 118 (0, 0)) ∧ A.size = 21 ∧ ∀ j, j < k → A[j]? = some (.int .i64 (g j))
theorem Filled.mod {w w' : World} {b : Nat} {g : Nat → Int} {k : Nat} {S : Nat → Prop} (h : Filled w b g k) (hm : Mod S w w') (hS : ¬ S b) : Filled w' b g k := by
  obtain ⟨A, h1, h2, h3⟩ := h
  exact ⟨A, hm.heap h1 hS, h2, h3⟩
theorem Filled.next {w : World} {b : Nat} {g : Nat → Int} {k : Nat} (h : Filled w b g k) (hk : k < 21) (x : Int) (hx : x = g k) : Filled (w.setCell ⟨b, k, none⟩ (.int .i64 x)) b g (k + 1) := by
  obtain ⟨A, h1, h2, h3⟩ := h
  refine ⟨_, heap_setCell_at h1 k _, by simp [h2], fun j hj => ?_⟩
  by_cases e : j = k
  · subst e; rw [Array.getElem?_setIfInBounds_self_of_lt (by omega), hx]
  · rw [Array.getElem?_setIfInBounds_ne (by omega)]; exact h3 j (by omega)
theorem Filled.full {w : World} {b : Nat} {g : Nat → Int} (h : Filled w b g 21) : w.heap[b]? = some (.cells (unitsV g) 118 (0, 0)) := by
  obtain ⟨A, h1, h2, h3⟩ := h
  rw [← unitsV_eq h2 h3]; exact h1
theorem Filled.new (w : World) (g : Nat → Int) : Filled (w.alloc (.cells (Array.replicate 21 (.int .i64 0)) 118)) w.heap.size g 0 := ⟨_, heap_alloc_last _ _, by simp, fun j hj => by omega⟩
set_option maxRecDepth 100000 in
set_option maxHeartbeats 4000000 in
theorem worst_any (w : World) (b mb : Nat) (bv : Value) (V : LedV) (L : Led) (a : Nat) (hS : Sight w b mb bv V L a) (hg : L.Good) (under : Int) :
    Calls Tryz.prog 78 #[.pointer (some ⟨b, 0, none⟩), .int .i64 under] w (GainOut w b mb bv V L a (worstO L a under 21)) := by
  have HS := Lib.hid hS
  have LS := Lib.hid (fun W (hW : Sight W b mb bv V L a) s (hs : s < 21) => loss_any W b mb bv V L a hW hg under s hs)
  obtain ⟨g, hgd⟩ : ∃ g : Nat → Int, g = fun s => (lossO L a under s).getD 0 := ⟨_, rfl⟩
  have GD := Lib.hid (show ∀ s x, lossO L a under s = some x → x = g s from fun s x h => by rw [hgd]; simp [h])
  have GF := Lib.hid (show ∀ s, I64 (g s) from fun s => by
    rw [hgd]
    show I64 ((lossO L a under s).getD 0)
    cases h : lossO L a under s with
    | none => exact ⟨by decide, by decide⟩
    | some x => exact I64.of_fits (lossO_fits h))
  obtain ⟨R, hR⟩ : ∃ R, R = worstO L a under 21 := ⟨_, rfl⟩
  have EQ := Lib.hid hR
  rw [← hR]
  clear hS hg hgd hR
  go_enter Tryz.func78, Tryz.ntmps78
  go_wp2_with fail
  obtain ⟨W, hW⟩ : ∃ W, W = w.alloc (.cells (Array.replicate 21 (.int .i64 0)) 118) := ⟨_, rfl⟩
  have T0 := Lib.hid (show Turn w W b mb bv V L a ∧ Filled W w.heap.size g 0 ∧ w.heap.size < W.heap.size from by rw [hW]; exact ⟨HS.out.here.low ((Below.refl _ _).alloc (Nat.le_refl _) _), Filled.new _ _, by simp⟩)
  simp only [show Array.replicate 21 (Value.int .i64 0) = #[.int .i64 0, .int .i64 0, .int .i64 0, .int .i64 0, .int .i64 0, .int .i64 0, .int .i64 0, .int .i64 0, .int .i64 0, .int .i64 0, .int .i64 0, .int .i64 0, .int .i64 0, .int .i64 0, .int .i64 0, .int .i64 0, .int .i64 0, .int .i64 0, .int .i64 0, .int .i64 0, .int .i64 0] from rfl] at hW
  rw [← hW]
  obtain ⟨h5, hh5⟩ : ∃ h5, h5 = w.heap.size := ⟨_, rfl⟩
  rw [← hh5] at T0 ⊢
  have H5 := Lib.hid (show w.heap.size ≤ h5 ∧ mb < h5 from by have := HS.out.units.lt; omega)
  clear hW hh5
  go_loopw [9] (fun i wr => ∃ (k : Nat), k ≤ 21 ∧ i = .int .i64 k ∧ Turn w wr b mb bv V L a ∧ Filled wr h5 g k ∧ Hid (∀ j, j < k → lossO L a under j = some (g j)) ∧ h5 < wr.heap.size) (fun i _ => 21 - (intOf i).toNat)
  case atStart => exact ⟨0, by omega, rfl, T0.out.1, T0.out.2.1, Lib.hid (fun j hj => by omega), T0.out.2.2⟩
  case round =>
    obtain ⟨k, hk, rfl, ht, hf, ALL, h5l⟩ := hrel
    have TT := Lib.hid (And.intro ht (And.intro hf h5l))
    clear ht hf h5l
    by_cases hlt : k < 21
    · have hlt' : (k : Int) < 21 := by omega
      have LT := Lib.hid hlt
      have k0 : (0 : Int) ≤ (k : Int) := by omega
      clear hk hlt
      go_wp2_with fail
      refine (LS.out _ TT.out.1.s k LT.out).mono ?_
      rintro e w3 ⟨ho, ht3⟩
      have T3 := Lib.hid (show Turn w w3 b mb bv V L a ∧ Filled w3 h5 g k ∧ h5 < w3.heap.size from ⟨TT.out.1.trans ht3, TT.out.2.1.mod ht3.m (by have := H5.out.2; omega), Nat.lt_of_lt_of_le TT.out.2.2 ht3.m.size⟩)
      clear ht3
      rcases ho with ⟨x, hx, rfl⟩ | ⟨hx, rfl⟩
      · have HX := Lib.hid hx
        obtain ⟨A, ha, as1, _⟩ := T3.out.2.1
        obtain ⟨y, hy⟩ : ∃ y, A[k]? = some y := ⟨_, Array.getElem?_eq_getElem (by have := LT.out; omega)⟩
        have a0 : w3.cell? ⟨h5, k, none⟩ = some y := (cell_of_heap ha k).trans hy
        have z0 := free_of_heap ha k
        clear hx ha as1 hy
        go_wp2_with fail
        have T4 := Lib.hid (show Turn w (w3.setCell ⟨h5, k, none⟩ (.int .i64 x)) b mb bv V L a ∧ Filled (w3.setCell ⟨h5, k, none⟩ (.int .i64 x)) h5 g (k + 1) ∧ h5 < (w3.setCell ⟨h5, k, none⟩ (.int .i64 x)).heap.size from
          ⟨⟨HS.out.turn (T3.out.1.m.setCell _ (fun h => by have := H5.out.1; simp at h; omega)) (T3.out.1.s.units.mod ((Mod.refl (fun k => k = h5) w3).setCell _ (fun _ => rfl)) (by have := H5.out.2; omega)), T3.out.1.m.setCell _ (fun h => by have := H5.out.1; simp at h; omega)⟩, T3.out.2.1.next LT.out x (GD.out _ _ HX.out), by simpa [World.setCell] using T3.out.2.2⟩)
        go_roundw
        case rel => exact ⟨k + 1, by have := LT.out; omega, by go_num, T4.out.1, T4.out.2.1, Lib.hid (fun j hj => by
          by_cases e : j = k
          · rw [e, HX.out, ← GD.out _ _ HX.out]
          · exact ALL.out j (by omega)), T4.out.2.2⟩
        case measure => have := LT.out; simp [intOf]; omega
      · have HX := Lib.hid hx
        clear hx
        go_wp2_with fail
        exact ⟨rfl, OutO.none_ (by rw [EQ.out]; exact worstO_none HX.out 21 LT.out), T3.out.1⟩
    · have hlt' : ¬ (k : Int) < 21 := by omega
      obtain rfl : k = 21 := by omega
      have HF := Lib.hid TT.out.2.1.full
      have WC := Lib.hid (gworst_any wr g (fun j _ => GF.out j))
      clear hk hlt
      go_wp2_with (refine wpList_load_row rfl 118 (.tmp 5) rfl h5 rfl 118 (unitsV g) (0, 0) _ HF.out uTen.out rfl (sTen g).out ?_)
      refine WC.out.mono ?_
      rintro e w3 ⟨n, hn, rfl, hb⟩
      have T3 := Lib.hid (show Turn w w3 b mb bv V L a from TT.out.1.low hb)
      have TP := Lib.hid hn
      clear hn hb
      go_wp2_with fail
      go_ret
      exact ⟨OutO.some_ (by rw [EQ.out]; exact worstO_top ALL.out TP.out), T3.out⟩
end Go.Proofs.YtcjbhgnlmmeeeaaGreatDoor
/- ref.Base, ref.Worth; bulwarkref09.Base, Worth, walked (printed by tools/gen_base.py). -/
namespace Go.Proofs.YtcjbhgnlmmeeeaaGreatDoor
open Go.RowKit Go.Bw Go.Maps Go.Shelf
set_option linter.unusedVariables false
set_option linter.unusedSimpArgs false

theorem ofA_er (q : Nat) (neg : Bool) : (ofA q neg).2 = 0 ∧ fitsA (ofA q neg).1 = true ∨ ofA q neg = (0, 4) := by
  by_cases h : q ≤ 4611686018427387904
  · rw [ofA_ok h]
    refine Or.inl ⟨rfl, fitsA_true.2 ?_⟩
    cases neg
    · show -4611686018427387904 ≤ (q : Int) ∧ (q : Int) ≤ _; omega
    · show -4611686018427387904 ≤ -(q : Int) ∧ -(q : Int) ≤ _; omega
  · exact Or.inr (ofA_over (by omega))
theorem md_er (a b c mode : Int) (hc : c ≠ 0) (h0 : 0 ≤ mode) (h3 : mode ≤ 3) : (mdA a b c mode).2 = 0 ∧ fitsA (mdA a b c mode).1 = true ∨ mdA a b c mode = (0, 4) := by
  unfold mdA
  split
  · exact Or.inr rfl
  · rw [if_neg (by omega)]
    exact ofA_er _ _
def worthA (c : Cur) (x : Int) : Int × Int :=
  if (mdA x c.rate 1000000 0).2 ≠ 0 then (0, (mdA x c.rate 1000000 0).2)
  else mdA (mdA x c.rate 1000000 0).1 (if (mdA x c.rate 1000000 0).1 < 0 then 10000 + c.hair else 10000 - c.hair) 10000 0
theorem worthA_opt (c : Cur) (x : Int) : worthO c x = optA (worthA c x) := by
  unfold worthO baseO worthA
  rcases md_er x c.rate 1000000 0 (by omega) (by omega) (by omega) with h | h
  · rw [if_neg (by rw [h.1]; simp)]
    unfold optA
    rw [if_pos h.1]; rfl
  · rw [h, if_pos (by decide)]; rfl
theorem worthA_er (c : Cur) (x : Int) : (worthA c x).2 = 0 ∧ fitsA (worthA c x).1 = true ∨ worthA c x = (0, 4) := by
  unfold worthA
  rcases md_er x c.rate 1000000 0 (by omega) (by omega) (by omega) with h | h
  · rw [if_neg (by rw [h.1]; simp)]
    exact md_er _ _ _ _ (by omega) (by omega) (by omega)
  · rw [h, if_pos (by decide)]; exact Or.inr rfl
theorem Cur.ok1 {c : Cur} {n : Nat} (h : c.Ok n) : c.Ok 1 := ⟨h.1, h.2.1, h.2.2.1, h.2.2.2.1, fun h => by omega⟩
open Classical in
set_option maxRecDepth 100000 in
set_option maxHeartbeats 1000000 in
theorem pbase_any (c : Cur) (n : Nat) (hc : c.Ok n) (x mode : Int) (hx : I64 x) (m0 : 0 ≤ mode) (m1 : mode ≤ 3) (w : World) :
    Calls Tryz.prog 77 #[.agg #[.int .i64 c.rate, .int .i64 c.hair], .int .i64 x, .int .i64 mode] w fun e w' => e = .returned (.tuple #[.int .i64 (mdA x c.rate 1000000 mode).1, .int .i64 (mdA x c.rate 1000000 mode).2]) ∧ Below w.heap.size w w' := by
  have CU := Lib.hid (show ∀ W, Calls Tryz.prog 93 #[.agg #[.int .i64 c.rate, .int .i64 c.hair], .int .i64 1] W fun e w' => e = .returned (.bool true) ∧ Below W.heap.size W w' from fun W => by
    have := cur_any c 1 (by omega) W
    rw [decide_eq_true (Cur.ok1 hc)] at this
    exact this)
  have MD := Lib.hid (fun W => fmd_any x c.rate 1000000 mode hx (I64.of_fits (fitsA_true.2 (by have := hc.1; have := hc.2.1; omega))) (I64.of_fits (by decide)) W)
  obtain ⟨R, hR⟩ : ∃ R, R = mdA x c.rate 1000000 mode := ⟨_, rfl⟩
  rw [← hR] at MD ⊢
  have B0 := Lib.hid ((Below.refl w.heap.size w).alloc (Nat.le_refl _) (.cells #[.int .i64 c.rate, .int .i64 c.hair] 69))
  have M0 := Lib.hid (show BoxAt (w.alloc (.cells #[.int .i64 c.rate, .int .i64 c.hair] 69)) w.heap.size #[.int .i64 c.rate, .int .i64 c.hair] from BoxAt.new _ _ _)
  clear hc hR hx
  go_enter Tryz.func77, Tryz.ntmps77
  go_wp2_with fail
  refine (CU.out _).mono ?_
  rintro e w1 ⟨rfl, hb⟩
  have B1 := Lib.hid (B0.out.trans (hb.mono (by simp)))
  have c0 : w1.cell? ⟨w.heap.size, 0, none⟩ = some (.int .i64 c.rate) := (M0.out.below hb).at_ 0 _ rfl
  clear hb
  go_wp2_with fail
  refine (MD.out _).mono ?_
  rintro e w2 ⟨rfl, nd, rfl⟩
  have B2 := Lib.hid (B1.out.trans (((Mod.refl (fun _ => False) w1).drewN nd).toBelow.mono B1.out.size))
  go_wp2_with fail
  go_ret2
  exact ⟨rfl, B2.out⟩
set_option maxRecDepth 100000 in
set_option maxHeartbeats 2000000 in
theorem pworth_any (c : Cur) (n : Nat) (hc : c.Ok n) (x : Int) (hx : I64 x) (w : World) :
    Calls Tryz.prog 79 #[.agg #[.int .i64 c.rate, .int .i64 c.hair], .int .i64 x] w fun e w' => e = .returned (.tuple #[.int .i64 (worthA c x).1, .int .i64 (worthA c x).2]) ∧ Below w.heap.size w w' := by
  have BA := Lib.hid (fun W => pbase_any c n hc x 0 hx (by omega) (by omega) W)
  have B0 := Lib.hid ((Below.refl w.heap.size w).alloc (Nat.le_refl _) (.cells #[.int .i64 c.rate, .int .i64 c.hair] 69))
  have M0 := Lib.hid (show BoxAt (w.alloc (.cells #[.int .i64 c.rate, .int .i64 c.hair] 69)) w.heap.size #[.int .i64 c.rate, .int .i64 c.hair] from BoxAt.new _ _ _)
  obtain ⟨R, hR⟩ : ∃ R, R = worthA c x := ⟨_, rfl⟩
  rw [← hR]
  have ER := md_er x c.rate 1000000 0 (by omega) (by omega) (by omega)
  unfold worthA at hR
  obtain ⟨Y, hY⟩ : ∃ Y, Y = mdA x c.rate 1000000 0 := ⟨_, rfl⟩
  rw [← hY] at BA ER hR
  obtain ⟨y, er⟩ := Y
  have h0 := hc.2.2.1
  have h1 := hc.2.2.2.1
  simp only at ER hR
  clear hY hc hx
  rcases ER with ⟨rfl, hf⟩ | he
  · rw [if_neg (by simp)] at hR
    have iy := I64.of_fits hf
    have MP := Lib.hid (fun W => fmd_any y (10000 + c.hair) 10000 0 iy (I64.of_fits (fitsA_true.2 (by omega))) (I64.of_fits (by decide)) W)
    have MM := Lib.hid (fun W => fmd_any y (10000 - c.hair) 10000 0 iy (I64.of_fits (fitsA_true.2 (by omega))) (I64.of_fits (by decide)) W)
    by_cases hy : y < 0
    · rw [if_pos hy] at hR
      rw [← hR] at MP
      clear hR hf iy MM
      go_enter Tryz.func79, Tryz.ntmps79
      go_wp2_with fail
      refine (BA.out _).mono ?_
      rintro e w1 ⟨rfl, hb⟩
      have B1 := Lib.hid (B0.out.trans (hb.mono (by simp)))
      have c1 : w1.cell? ⟨w.heap.size, 1, none⟩ = some (.int .i64 c.hair) := (M0.out.below hb).at_ 1 _ rfl
      clear hb
      go_wp2_with fail
      refine (MP.out _).mono ?_
      rintro e w2 ⟨rfl, nd, rfl⟩
      have B2 := Lib.hid (B1.out.trans (((Mod.refl (fun _ => False) w1).drewN nd).toBelow.mono B1.out.size))
      go_wp2_with fail
      go_ret2
      exact ⟨rfl, B2.out⟩
    · rw [if_neg hy] at hR
      rw [← hR] at MM
      clear hR hf iy MP
      go_enter Tryz.func79, Tryz.ntmps79
      go_wp2_with fail
      refine (BA.out _).mono ?_
      rintro e w1 ⟨rfl, hb⟩
      have B1 := Lib.hid (B0.out.trans (hb.mono (by simp)))
      have c1 : w1.cell? ⟨w.heap.size, 1, none⟩ = some (.int .i64 c.hair) := (M0.out.below hb).at_ 1 _ rfl
      clear hb
      go_wp2_with fail
      refine (MM.out _).mono ?_
      rintro e w2 ⟨rfl, nd, rfl⟩
      have B2 := Lib.hid (B1.out.trans (((Mod.refl (fun _ => False) w1).drewN nd).toBelow.mono B1.out.size))
      go_wp2_with fail
      go_ret2
      exact ⟨rfl, B2.out⟩
  · cases he
    rw [if_pos (by decide)] at hR
    subst hR
    go_enter Tryz.func79, Tryz.ntmps79
    go_wp2_with fail
    refine (BA.out _).mono ?_
    rintro e w1 ⟨rfl, hb⟩
    have B1 := Lib.hid (B0.out.trans (hb.mono (by simp)))
    clear hb
    go_wp2_with fail
    go_ret2
    exact ⟨rfl, B1.out⟩
open Classical in
set_option maxRecDepth 100000 in
set_option maxHeartbeats 1000000 in
theorem rbase_any (c : Cur) (n : Nat) (hc : c.Ok n) (x mode : Int) (hx : I64 x) (m0 : 0 ≤ mode) (m1 : mode ≤ 3) (w : World) :
    Calls Tryz.prog 45 #[.agg #[.int .i64 c.rate, .int .i64 c.hair], .int .i64 x, .int .i64 mode] w fun e w' => e = .returned (.tuple #[.int .i64 (mdA x c.rate 1000000 mode).1, .int .i64 (mdA x c.rate 1000000 mode).2]) ∧ Below w.heap.size w w' := by
  have CU := Lib.hid (show ∀ W, Calls Tryz.prog 36 #[.agg #[.int .i64 c.rate, .int .i64 c.hair], .int .i64 1] W fun e w' => e = .returned (.bool true) ∧ Below W.heap.size W w' from fun W => by
    have := rcur_any c 1 (by omega) W
    rw [decide_eq_true (Cur.ok1 hc)] at this
    exact this)
  have MD := Lib.hid (fun W => rmd_any x c.rate 1000000 mode W)
  obtain ⟨R, hR⟩ : ∃ R, R = mdA x c.rate 1000000 mode := ⟨_, rfl⟩
  rw [← hR] at MD ⊢
  have B0 := Lib.hid ((Below.refl w.heap.size w).alloc (Nat.le_refl _) (.cells #[.int .i64 c.rate, .int .i64 c.hair] 69))
  have M0 := Lib.hid (show BoxAt (w.alloc (.cells #[.int .i64 c.rate, .int .i64 c.hair] 69)) w.heap.size #[.int .i64 c.rate, .int .i64 c.hair] from BoxAt.new _ _ _)
  clear hc hR hx
  go_enter Tryz.func45, Tryz.ntmps45
  go_wp2_with fail
  refine (CU.out _).mono ?_
  rintro e w1 ⟨rfl, hb⟩
  have B1 := Lib.hid (B0.out.trans (hb.mono (by simp)))
  have c0 : w1.cell? ⟨w.heap.size, 0, none⟩ = some (.int .i64 c.rate) := (M0.out.below hb).at_ 0 _ rfl
  clear hb
  go_wp2_with fail
  refine (MD.out _).mono ?_
  rintro e w2 ⟨rfl, hb2⟩
  have B2 := Lib.hid (B1.out.trans (hb2.mono B1.out.size))
  clear hb2
  go_wp2_with fail
  go_ret2
  exact ⟨rfl, B2.out⟩
set_option maxRecDepth 100000 in
set_option maxHeartbeats 2000000 in
theorem rworth_any (c : Cur) (n : Nat) (hc : c.Ok n) (x : Int) (hx : I64 x) (w : World) :
    Calls Tryz.prog 48 #[.agg #[.int .i64 c.rate, .int .i64 c.hair], .int .i64 x] w fun e w' => e = .returned (.tuple #[.int .i64 (worthA c x).1, .int .i64 (worthA c x).2]) ∧ Below w.heap.size w w' := by
  have BA := Lib.hid (fun W => rbase_any c n hc x 0 hx (by omega) (by omega) W)
  have B0 := Lib.hid ((Below.refl w.heap.size w).alloc (Nat.le_refl _) (.cells #[.int .i64 c.rate, .int .i64 c.hair] 69))
  have M0 := Lib.hid (show BoxAt (w.alloc (.cells #[.int .i64 c.rate, .int .i64 c.hair] 69)) w.heap.size #[.int .i64 c.rate, .int .i64 c.hair] from BoxAt.new _ _ _)
  obtain ⟨R, hR⟩ : ∃ R, R = worthA c x := ⟨_, rfl⟩
  rw [← hR]
  have ER := md_er x c.rate 1000000 0 (by omega) (by omega) (by omega)
  unfold worthA at hR
  obtain ⟨Y, hY⟩ : ∃ Y, Y = mdA x c.rate 1000000 0 := ⟨_, rfl⟩
  rw [← hY] at BA ER hR
  obtain ⟨y, er⟩ := Y
  have h0 := hc.2.2.1
  have h1 := hc.2.2.2.1
  simp only at ER hR
  clear hY hc hx
  rcases ER with ⟨rfl, hf⟩ | he
  · rw [if_neg (by simp)] at hR
    have iy := I64.of_fits hf
    have MP := Lib.hid (fun W => rmd_any y (10000 + c.hair) 10000 0 W)
    have MM := Lib.hid (fun W => rmd_any y (10000 - c.hair) 10000 0 W)
    by_cases hy : y < 0
    · rw [if_pos hy] at hR
      rw [← hR] at MP
      clear hR hf iy MM
      go_enter Tryz.func48, Tryz.ntmps48
      go_wp2_with fail
      refine (BA.out _).mono ?_
      rintro e w1 ⟨rfl, hb⟩
      have B1 := Lib.hid (B0.out.trans (hb.mono (by simp)))
      have c1 : w1.cell? ⟨w.heap.size, 1, none⟩ = some (.int .i64 c.hair) := (M0.out.below hb).at_ 1 _ rfl
      clear hb
      go_wp2_with fail
      refine (MP.out _).mono ?_
      rintro e w2 ⟨rfl, hb2⟩
      have B2 := Lib.hid (B1.out.trans (hb2.mono B1.out.size))
      clear hb2
      go_wp2_with fail
      go_ret2
      exact ⟨rfl, B2.out⟩
    · rw [if_neg hy] at hR
      rw [← hR] at MM
      clear hR hf iy MP
      go_enter Tryz.func48, Tryz.ntmps48
      go_wp2_with fail
      refine (BA.out _).mono ?_
      rintro e w1 ⟨rfl, hb⟩
      have B1 := Lib.hid (B0.out.trans (hb.mono (by simp)))
      have c1 : w1.cell? ⟨w.heap.size, 1, none⟩ = some (.int .i64 c.hair) := (M0.out.below hb).at_ 1 _ rfl
      clear hb
      go_wp2_with fail
      refine (MM.out _).mono ?_
      rintro e w2 ⟨rfl, hb2⟩
      have B2 := Lib.hid (B1.out.trans (hb2.mono B1.out.size))
      clear hb2
      go_wp2_with fail
      go_ret2
      exact ⟨rfl, B2.out⟩
  · cases he
    rw [if_pos (by decide)] at hR
    subst hR
    go_enter Tryz.func48, Tryz.ntmps48
    go_wp2_with fail
    refine (BA.out _).mono ?_
    rintro e w1 ⟨rfl, hb⟩
    have B1 := Lib.hid (B0.out.trans (hb.mono (by simp)))
    clear hb
    go_wp2_with fail
    go_ret2
    exact ⟨rfl, B1.out⟩
end Go.Proofs.YtcjbhgnlmmeeeaaGreatDoor
/- margin's sight: what accounts must have, walked. -/
namespace Go.Proofs.YtcjbhgnlmmeeeaaGreatDoor
open Go.RowKit Go.Bw Go.Maps Go.Shelf Go.Bw.Fall
set_option linter.unusedVariables false
set_option linter.unusedSimpArgs false

theorem worstO_fits {L : Led} {a : Nat} {under : Int} : ∀ {n : Nat} {m : Int}, worstO L a under n = some m → fitsA m = true ∧ 0 ≤ m
  | 0, m, h => by cases h; exact ⟨by decide, by omega⟩
  | n + 1, m, h => by
    have h' : ((worstO L a under n).bind fun w => (lossO L a under n).map fun x => max w x) = some m := h
    rw [Option.bind_eq_some_iff] at h'
    obtain ⟨y, hy, h2⟩ := h'
    rw [Option.map_eq_some_iff] at h2
    obtain ⟨x, hx, rfl⟩ := h2
    have h3 := worstO_fits hy
    have h4 := fitsA_true.1 (lossO_fits hx)
    have h5 := fitsA_true.1 h3.1
    exact ⟨fitsA_true.2 (by omega), by omega⟩
section
variable {L : Led} {a : Nat}
theorem needGo_gone {n : Nat} {u : Und} {r : List Und} {x : Int} (h : worstO L a n 21 = none) : needGo L a n (u :: r) x = none := by
  unfold needGo; rw [h]; rfl
theorem needGo_dear {n : Nat} {u : Und} {r : List Und} {x m : Int} (h : worstO L a n 21 = some m) (h2 : baseO (L.cur u.cur) m 1 = none) : needGo L a n (u :: r) x = none := by
  unfold needGo; rw [h]; show (baseO (L.cur u.cur) m 1).bind _ = none; rw [h2]; rfl
theorem needGo_over {n : Nat} {u : Und} {r : List Und} {x m y : Int} (h : worstO L a n 21 = some m) (h2 : baseO (L.cur u.cur) m 1 = some y) (h3 : addO x y = none) : needGo L a n (u :: r) x = none := by
  unfold needGo; rw [h]; show (baseO (L.cur u.cur) m 1).bind _ = none; rw [h2]; show (addO x y).bind _ = none; rw [h3]; rfl
theorem needGo_next {n : Nat} {u : Und} {r : List Und} {x m y z : Int} (h : worstO L a n 21 = some m) (h2 : baseO (L.cur u.cur) m 1 = some y) (h3 : addO x y = some z) : needGo L a n (u :: r) x = needGo L a (n + 1) r z := by
  conv => lhs; unfold needGo
  rw [h]; show (baseO (L.cur u.cur) m 1).bind _ = _; rw [h2]; show (addO x y).bind _ = _; rw [h3]; rfl
theorem opt_fits {r : Int × Int} {x : Int} (h : r.2 = 0 ∧ fitsA r.1 = true ∨ r = (0, 4)) (ho : optA r = some x) : fitsA x = true := by
  rw [optA_some] at ho
  subst ho
  rcases h with h | h
  · exact h.2
  · cases h
theorem er_or {r : Int × Int} (h : r.2 = 0 ∧ fitsA r.1 = true ∨ r = (0, 4)) : r.2 = 0 ∨ r = (0, 4) := by
  rcases h with h | h
  · exact Or.inl h.1
  · exact Or.inr h
end
set_option maxRecDepth 100000 in
set_option maxHeartbeats 8000000 in
theorem need_any (w : World) (b mb : Nat) (bv : Value) (V : LedV) (L : Led) (a : Nat) (hS : Sight w b mb bv V L a) (hg : L.Good) :
    Calls Tryz.prog 31 #[.pointer (some ⟨b, 0, none⟩)] w (GainOut w b mb bv V L a (needO L a)) := by
  have HS := Lib.hid hS
  have HG := Lib.hid hg
  have NB := Lib.hid (show mb < w.heap.size from hS.units.lt)
  have WS := Lib.hid (fun W (hW : Sight W b mb bv V L a) under => worst_any W b mb bv V L a hW hg under)
  obtain ⟨a2, c2, e2⟩ := hS.led.unders.form
  obtain ⟨UN, hUN⟩ : ∃ n, n = L.unders.length := ⟨_, rfl⟩
  have d2 := hS.box.at_ 2 _ rfl
  rw [e2, ← hUN] at d2
  have EV := Lib.hid (show V.unders = .slice a2 UN c2 from by rw [hUN]; exact e2)
  have LU := Lib.hid hUN
  have u6 : UN ≤ 6 := by have := hg.things.u1; omega
  obtain ⟨R, hR⟩ : ∃ R, R = needO L a := ⟨_, rfl⟩
  have EQ := Lib.hid hR
  rw [← hR]
  clear hS hg e2 hUN hR
  go_enter Tryz.func31, Tryz.ntmps31
  go_wp2_with fail
  clear d2
  go_loopw [3, 12] (fun al i wr => ∃ (k : Nat) (x : Int), k ≤ UN ∧ i = .int .i64 k ∧ al = .int .i64 x ∧ Hid (fitsA x = true) ∧ Turn w wr b mb bv V L a ∧ Hid (R = needGo L a k (L.unders.drop k) x)) (fun _ i _ => UN - (intOf i).toNat)
  case atStart => exact ⟨0, 0, Nat.zero_le _, rfl, rfl, Lib.hid (by decide), HS.out.here, Lib.hid EQ.out⟩
  case round =>
    obtain ⟨k, x, hk, rfl, rfl, FX, ht, KEY⟩ := hrel
    have TT := Lib.hid ht
    clear ht
    by_cases hlt : k < UN
    · obtain ⟨u, hu⟩ : ∃ u, L.unders[k]? = some u := ⟨_, List.getElem?_eq_getElem (by have := LU.out; omega)⟩
      have row : RowOf wr 4 Und.cells (.slice a2 UN c2) L.unders := by have := TT.out.s.led.unders; rw [EV.out] at this; exact this
      obtain ⟨ub, uo, rfl, hbl, hc⟩ := row.at_ hu
      have uok := HG.out.things.unders k u hu
      obtain ⟨q, hq⟩ : ∃ q : Nat, u.cur = q := ⟨u.cur.toNat, by have := uok.2.1; omega⟩
      have hql : q < L.curs.length := by have := uok.2.2.1; omega
      obtain ⟨c, hcr⟩ : ∃ c, L.curs[q]? = some c := ⟨_, List.getElem?_eq_getElem hql⟩
      have EC := Lib.hid (show L.cur u.cur = c from by rw [hq]; unfold Led.cur; simp [hcr])
      have cok := Lib.hid (HG.out.things.curs q c hcr)
      have c0 := hc 0 (.string u.name) rfl
      have c1 := hc 1 (.int .i64 u.cur) rfl
      have c2' := hc 2 (.int .i64 u.price) rfl
      have c3 := hc 3 (.int .i64 u.vol) rfl
      rw [Nat.add_zero] at c0
      rw [hq] at c1
      have DK := Lib.hid (drop_cons hu)
      have HU := Lib.hid hu
      have LT := Lib.hid hlt
      have hlt' : (k : Int) < (UN : Int) := by omega
      have CC := Lib.hid (show ∀ W, Sight W b mb bv V L a → ∃ cb co cn cc, V.curs = .slice (some ⟨cb, co, none⟩) cn cc ∧ (q : Int) < cn ∧ W.cell? ⟨b, 1, none⟩ = some (.slice (some ⟨cb, co, none⟩) cn cc) ∧ W.cell? ⟨cb, co + q * 2, none⟩ = some (.int .i64 c.rate) ∧ W.cell? ⟨cb, co + q * 2 + 1, none⟩ = some (.int .i64 c.hair) from by
        intro W hW
        obtain ⟨a1, c1, e1⟩ := hW.led.curs.form
        have bx := hW.box
        have r1 := hW.led.curs
        rw [e1] at bx r1
        obtain ⟨cb, co, rfl, _, ic⟩ := r1.at_ hcr
        exact ⟨cb, co, _, c1, e1, by omega, bx.at_ 1 _ rfl, ic 0 _ rfl, ic 1 _ rfl⟩)
      obtain ⟨cb, co, cn, cc, ec, qn, _⟩ := CC.out wr TT.out.s
      have CD := Lib.hid (show ∀ W, Sight W b mb bv V L a → W.cell? ⟨b, 1, none⟩ = some (.slice (some ⟨cb, co, none⟩) cn cc) ∧ W.cell? ⟨cb, co + q * 2, none⟩ = some (.int .i64 c.rate) ∧ W.cell? ⟨cb, co + q * 2 + 1, none⟩ = some (.int .i64 c.hair) from by
        intro W hW
        obtain ⟨_, _, _, _, e, _, x1, x2, x3⟩ := CC.out W hW
        rw [ec] at e
        cases e
        exact ⟨x1, x2, x3⟩)
      have q0 : (0 : Int) ≤ (q : Int) := by omega
      have k0 : (0 : Int) ≤ (k : Int) := by omega
      clear row hc uok hq hcr hu hbl hql ec hlt CC
      obtain ⟨W1, hW1⟩ : ∃ W1, W1 = wr.alloc (.cells #[.string u.name, .int .i64 (q : Int), .int .i64 u.price, .int .i64 u.vol] 60) := ⟨_, rfl⟩
      have TB := Lib.hid (show Turn w W1 b mb bv V L a ∧ BoxAt W1 wr.heap.size #[.string u.name, .int .i64 (q : Int), .int .i64 u.price, .int .i64 u.vol] ∧ mb < wr.heap.size from by
        rw [hW1]
        exact ⟨TT.out.low ((Below.refl _ _).alloc (Nat.le_refl _) _), BoxAt.new _ _ _, TT.out.s.units.lt⟩)
      go_wp2_with fail
      rw [← hW1]
      obtain ⟨h5, hh5⟩ : ∃ h5, h5 = wr.heap.size := ⟨_, rfl⟩
      rw [← hh5] at TB ⊢
      clear hW1 hh5 c0 c1 c2' c3
      have f1 : ∀ z : Cls (fun W => Sight W b mb bv V L a ∧ BoxAt W h5 #[.string u.name, .int .i64 (q : Int), .int .i64 u.price, .int .i64 u.vol]), z.w.cell? ⟨b, 1, none⟩ = some (.slice (some ⟨cb, co, none⟩) cn cc) := fun z => (CD.out z.w z.ok.1).1
      have f2 : ∀ z : Cls (fun W => Sight W b mb bv V L a ∧ BoxAt W h5 #[.string u.name, .int .i64 (q : Int), .int .i64 u.price, .int .i64 u.vol]), z.w.cell? ⟨cb, co + q * 2, none⟩ = some (.int .i64 c.rate) := fun z => (CD.out z.w z.ok.1).2.1
      have f3 : ∀ z : Cls (fun W => Sight W b mb bv V L a ∧ BoxAt W h5 #[.string u.name, .int .i64 (q : Int), .int .i64 u.price, .int .i64 u.vol]), z.w.cell? ⟨cb, co + q * 2 + 1, none⟩ = some (.int .i64 c.hair) := fun z => (CD.out z.w z.ok.1).2.2
      have f4 : ∀ z : Cls (fun W => Sight W b mb bv V L a ∧ BoxAt W h5 #[.string u.name, .int .i64 (q : Int), .int .i64 u.price, .int .i64 u.vol]), z.w.cell? ⟨h5, 1, none⟩ = some (.int .i64 (q : Int)) := fun z => z.ok.2.at_ 1 _ rfl
      have TBD := Lib.hid (show Turn w W1.drew b mb bv V L a ∧ BoxAt W1.drew h5 #[.string u.name, .int .i64 (q : Int), .int .i64 u.price, .int .i64 u.vol] from ⟨TB.out.1.low ((Mod.refl (fun _ => False) W1).drew).toBelow, TB.out.2.1.mod ((Mod.refl (fun _ => False) W1).drew) (fun h => h)⟩)
      refine wp_region_tree (C := fun w' => ∃ z : Cls (fun W => Sight W b mb bv V L a ∧ BoxAt W h5 #[.string u.name, .int .i64 (q : Int), .int .i64 u.price, .int .i64 u.vol]), w' = z.w) [12, 13, 16, 17, 20] [0, 1, 2, 3, 4, 5, 6, 7, 8, 9] (.step 0 (.step 1 (.step 2 (.step 3 (.step 4 (.step 5 (.step 6 (.step 7 (.step 8 (.step 9 (.step 10 (.step 11 (.step 12 (.step 13 (.step 14 (.step 15 (.step 16 (.step 17 (.step 18 (.step 19 (.step 20 (.step 21 .leaf)))))))))))))))))))))) (fun c d w' => d = [] ∧ GainOut w b mb bv V L a R (.panicked c) w') (by kernel_rfl) (fun c a' w' hR => hR) (by kernel_rfl) ⟨⟨W1.drew, TBD.out.1.s, TBD.out.2⟩, rfl⟩ ?_
      haveI ne : Nonempty (Cls (fun W => Sight W b mb bv V L a ∧ BoxAt W h5 #[.string u.name, .int .i64 (q : Int), .int .i64 u.price, .int .i64 u.vol])) := ⟨⟨W1, TB.out.1.s, TB.out.2.1⟩⟩
      refine tree_pure [0, 1, 2, 3, 4, 5, 6, 7, 8, 9] (by kernel_rfl) ?_
      simp only [pickL, nth]
      repeat (go_big_quiet_step (fail))
      refine wpQuiet_nil ?_
      clear f1 f2 f3 f4 ne
      refine tree_still [10, 11] (by kernel_rfl) ?_
      simp only [pickL, nth]
      repeat (go_big_quiet_step (fail))
      refine wpQuiet_nil ?_
      refine tree_eff (by kernel_rfl) rfl (fun K hK => ?_)
      simp only [pickL, nth]
      refine wpOne_one ?_
      go_simp
      refine (WS.out _ TBD.out.1.s _).mono ?_
      rintro e w3 ⟨ho, ht3⟩
      have T3 := Lib.hid (show Turn w w3 b mb bv V L a ∧ BoxAt w3 h5 #[.string u.name, .int .i64 (q : Int), .int .i64 u.price, .int .i64 u.vol] from ⟨TBD.out.1.trans ht3, TBD.out.2.mod ht3.m (by have := TB.out.2.2; omega)⟩)
      clear ht3 TBD
      rcases Or.symm ho with ⟨hm, rfl⟩ | ⟨m, hm, rfl⟩
      · have HM := Lib.hid hm
        clear hm
        go_simp
        exact ⟨rfl, OutO.none_ (by rw [KEY.out, DK.out]; exact needGo_gone HM.out), T3.out.1⟩
      have HM := Lib.hid hm
      clear hm
      have BC := Lib.hid (fun W => pbase_any c q cok.out m 1 (I64.of_fits (worstO_fits HM.out).1) (by omega) (by omega) W)
      have ER := Lib.hid (md_er m c.rate 1000000 1 (by omega) (by omega) (by omega))
      have BO := Lib.hid (show baseO c m 1 = optA (mdA m c.rate 1000000 1) from rfl)
      obtain ⟨MR, hMR⟩ : ∃ r, r = mdA m c.rate 1000000 1 := ⟨_, rfl⟩
      rw [← hMR] at BC ER BO
      clear hMR
      go_simp
      refine hK _ _ ⟨⟨w3, T3.out.1.s, T3.out.2⟩, rfl⟩ ?_
      clear hK
      refine tree_eff (by kernel_rfl) rfl (fun K hK => ?_)
      simp only [pickL, nth]
      refine wpOne_one ?_
      go_simp
      refine (BC.out _).mono ?_
      rintro e w4 ⟨rfl, hb4⟩
      have T4 := Lib.hid (show Turn w w4 b mb bv V L a ∧ BoxAt w4 h5 #[.string u.name, .int .i64 (q : Int), .int .i64 u.price, .int .i64 u.vol] from ⟨T3.out.1.low hb4, T3.out.2.below hb4⟩)
      clear hb4
      go_simp
      refine hK _ _ ⟨⟨w4, T4.out.1.s, T4.out.2⟩, rfl⟩ ?_
      clear hK
      refine tree_still [14, 15] (by kernel_rfl) ?_
      simp only [pickL, nth]
      repeat (go_big_quiet_step (fail))
      refine wpQuiet_nil ?_
      refine tree_eff (by kernel_rfl) rfl (fun K hK => ?_)
      simp only [pickL, nth]
      refine wpOne_one ?_
      go_simp
      refine (mmust_any MR (er_or ER.out) _).mono ?_
      rintro e w' ⟨ho, rfl⟩
      rcases Or.symm ho with ⟨hy, rfl⟩ | ⟨y, hy, rfl⟩
      · have HY := Lib.hid (BO.out.trans hy)
        clear hy
        go_simp
        exact ⟨rfl, OutO.none_ (by rw [KEY.out, DK.out]; exact needGo_dear HM.out (by rw [EC.out]; exact HY.out)), T4.out.1⟩
      have FY := Lib.hid (opt_fits ER.out hy)
      have HY := Lib.hid (BO.out.trans hy)
      clear hy
      have AC := Lib.hid (fun W => fadd_any x y (I64.of_fits FX.out) (I64.of_fits FY.out) W)
      have AE := Lib.hid (addA_er x y)
      have AO := Lib.hid (show addO x y = optA (addA x y) from rfl)
      obtain ⟨AR, hAR⟩ : ∃ r, r = addA x y := ⟨_, rfl⟩
      rw [← hAR] at AC AE AO
      clear hAR
      go_simp
      refine hK _ _ ⟨⟨w4, T4.out.1.s, T4.out.2⟩, rfl⟩ ?_
      clear hK
      refine tree_eff (by kernel_rfl) rfl (fun K hK => ?_)
      simp only [pickL, nth]
      refine wpOne_one ?_
      go_simp
      refine (AC.out _).mono ?_
      rintro e w' ⟨rfl, rfl⟩
      go_simp
      refine hK _ _ ⟨⟨w4, T4.out.1.s, T4.out.2⟩, rfl⟩ ?_
      clear hK
      refine tree_still [18, 19] (by kernel_rfl) ?_
      simp only [pickL, nth]
      repeat (go_big_quiet_step (fail))
      refine wpQuiet_nil ?_
      refine tree_eff (by kernel_rfl) rfl (fun K hK => ?_)
      simp only [pickL, nth]
      refine wpOne_one ?_
      go_simp
      refine (mmust_any AR (er_or AE.out) _).mono ?_
      rintro e w' ⟨ho, rfl⟩
      rcases Or.symm ho with ⟨hz, rfl⟩ | ⟨z, hz, rfl⟩
      · have HZ := Lib.hid (AO.out.trans hz)
        clear hz
        go_simp
        exact ⟨rfl, OutO.none_ (by rw [KEY.out, DK.out]; exact needGo_over HM.out (by rw [EC.out]; exact HY.out) HZ.out), T4.out.1⟩
      have FZ := Lib.hid (opt_fits AE.out hz)
      have HZ := Lib.hid (AO.out.trans hz)
      clear hz
      go_simp
      refine hK _ _ ⟨⟨w4, T4.out.1.s, T4.out.2⟩, rfl⟩ ?_
      clear hK
      refine tree_still [21] (by kernel_rfl) ?_
      simp only [pickL, nth]
      repeat (go_big_quiet_step (fail))
      refine wpQuiet_nil ?_
      refine tree_nil ?_
      go_wp2_with fail
      go_roundw
      case rel => exact ⟨k + 1, z, by have := LT.out; omega, by go_num, rfl, FZ, T4.out.1, Lib.hid (by rw [KEY.out, DK.out]; exact needGo_next HM.out (by rw [EC.out]; exact HY.out) HZ.out)⟩
      case measure => have := LT.out; simp [intOf]; omega
    · have hlt' : ¬ (k : Int) < (UN : Int) := by omega
      go_wp2_with fail
      go_ret
      exact ⟨OutO.some_ (by rw [KEY.out, List.drop_of_length_le (by have := LU.out; omega)]; rfl), TT.out⟩
end Go.Proofs.YtcjbhgnlmmeeeaaGreatDoor
/- margin's sight: what accounts have, walked. -/
namespace Go.Proofs.YtcjbhgnlmmeeeaaGreatDoor
open Go.RowKit Go.Bw Go.Maps Go.Shelf Go.Bw.Fall
set_option linter.unusedVariables false
set_option linter.unusedSimpArgs false

section
variable {L : Led} {a : Nat}
theorem cashGo_over {n : Nat} {p : Acc} {r : List Acc} {x : Int} (h : addO x (p.cash.getD n 0) = none) : cashGo n (p :: r) x = none := by
  unfold cashGo; rw [h]; rfl
theorem cashGo_next {n : Nat} {p : Acc} {r : List Acc} {x y : Int} (h : addO x (p.cash.getD n 0) = some y) : cashGo n (p :: r) x = cashGo n r y := by
  conv => lhs; unfold cashGo
  rw [h]; rfl
theorem haveGo_gone {n : Nat} {c : Cur} {r : List Cur} {x : Int} (h : cashGo n (L.under a) 0 = none) : haveGo L a n (c :: r) x = none := by
  unfold haveGo; rw [h]; rfl
theorem haveGo_dear {n : Nat} {c : Cur} {r : List Cur} {x m : Int} (h : cashGo n (L.under a) 0 = some m) (h2 : worthO c m = none) : haveGo L a n (c :: r) x = none := by
  unfold haveGo; rw [h]; show (worthO c m).bind _ = none; rw [h2]; rfl
theorem haveGo_over {n : Nat} {c : Cur} {r : List Cur} {x m y : Int} (h : cashGo n (L.under a) 0 = some m) (h2 : worthO c m = some y) (h3 : addO x y = none) : haveGo L a n (c :: r) x = none := by
  unfold haveGo; rw [h]; show (worthO c m).bind _ = none; rw [h2]; show (addO x y).bind _ = none; rw [h3]; rfl
theorem haveGo_next {n : Nat} {c : Cur} {r : List Cur} {x m y z : Int} (h : cashGo n (L.under a) 0 = some m) (h2 : worthO c m = some y) (h3 : addO x y = some z) : haveGo L a n (c :: r) x = haveGo L a (n + 1) r z := by
  conv => lhs; unfold haveGo
  rw [h]; show (worthO c m).bind _ = _; rw [h2]; show (addO x y).bind _ = _; rw [h3]; rfl
end
set_option maxRecDepth 100000 in
set_option maxHeartbeats 8000000 in
theorem have_any (w : World) (b mb : Nat) (bv : Value) (V : LedV) (L : Led) (a : Nat) (hS : Sight w b mb bv V L a) (hg : L.Good) :
    Calls Tryz.prog 32 #[.pointer (some ⟨b, 0, none⟩)] w (GainOut w b mb bv V L a (haveO L a)) := by
  have HS := Lib.hid hS
  have HG := Lib.hid hg
  obtain ⟨a1, c1, e1⟩ := hS.led.curs.form
  obtain ⟨a4, c4, e4⟩ := hS.led.accts.form
  obtain ⟨vb, cb, eb⟩ := hS.below.form
  obtain ⟨CN, hCN⟩ : ∃ n, n = L.curs.length := ⟨_, rfl⟩
  obtain ⟨AN, hAN⟩ : ∃ n, n = V.ac.length := ⟨_, rfl⟩
  obtain ⟨BN, hBN⟩ : ∃ n, n = (ints (belowL L.parents a)).length := ⟨_, rfl⟩
  have d1 := hS.box.at_ 1 _ rfl
  rw [e1, ← hCN] at d1
  have EV := Lib.hid (show V.curs = .slice a1 CN c1 ∧ V.accts = .slice a4 AN c4 ∧ bv = .slice vb BN cb from ⟨by rw [hCN]; exact e1, by rw [hAN]; exact e4, by rw [hBN]; exact eb⟩)
  have LC := Lib.hid hCN
  have LA := Lib.hid (show AN = V.ac.length ∧ L.accts.length = V.ac.length from ⟨hAN, by have := hS.led.same; rw [this, List.length_map]⟩)
  have LB := Lib.hid hBN
  have bl : BN ≤ 16 := by
    rw [hBN]
    unfold ints
    rw [List.length_map]
    have h1 : (belowL L.parents a).length ≤ (List.range L.parents.length).length := List.length_filter_le _ _
    rw [List.length_range] at h1
    have := hg.accounts.tree.hi
    unfold Led.parents at h1 ⊢
    omega
  have cl : CN ≤ 4 := by have := hg.things.c1; omega
  have al : AN ≤ 16 := by
    have := hg.accounts.tree.hi
    have h2 := LA.out
    simp only [List.length_map] at this
    omega
  obtain ⟨R, hR⟩ : ∃ R, R = haveO L a := ⟨_, rfl⟩
  have EQ := Lib.hid hR
  rw [← hR]
  clear hS hg e1 e4 eb hCN hAN hBN hR
  go_enter Tryz.func32, Tryz.ntmps32
  go_wp2_with fail
  clear d1
  go_loopw [3, 15] (fun av i wr => ∃ (k : Nat) (x : Int), k ≤ CN ∧ i = .int .i64 k ∧ av = .int .i64 x ∧ Hid (fitsA x = true) ∧ Turn w wr b mb bv V L a ∧ Hid (R = haveGo L a k (L.curs.drop k) x)) (fun _ i _ => CN - (intOf i).toNat)
  case atStart => exact ⟨0, 0, Nat.zero_le _, rfl, rfl, Lib.hid (by decide), HS.out.here, Lib.hid EQ.out⟩
  case round =>
    obtain ⟨k, x, hk, rfl, rfl, FX, ht, KEY⟩ := hrel
    have TT := Lib.hid ht
    clear ht
    by_cases hlt : k < CN
    · obtain ⟨c, hc⟩ : ∃ c, L.curs[k]? = some c := ⟨_, List.getElem?_eq_getElem (by have := LC.out; omega)⟩
      have row : RowOf wr 2 Cur.cells (.slice a1 CN c1) L.curs := by have := TT.out.s.led.curs; rw [EV.out.1] at this; exact this
      obtain ⟨qb, qo, rfl, hbl, hcc⟩ := row.at_ hc
      have c0 := hcc 0 (.int .i64 c.rate) rfl
      have c1' := hcc 1 (.int .i64 c.hair) rfl
      rw [Nat.add_zero] at c0
      have COK := Lib.hid (HG.out.things.curs k c hc)
      have DK := Lib.hid (drop_cons hc)
      have LT := Lib.hid hlt
      have HK := Lib.hid (show k < L.curs.length from by have := LC.out; omega)
      have hlt' : (k : Int) < (CN : Int) := by omega
      clear row hc hcc hbl hlt hk
      obtain ⟨W1, hW1⟩ : ∃ W1, W1 = wr.alloc (.cells #[.int .i64 c.rate, .int .i64 c.hair] 69) := ⟨_, rfl⟩
      have TB := Lib.hid (show Turn w W1 b mb bv V L a ∧ BoxAt W1 wr.heap.size #[.int .i64 c.rate, .int .i64 c.hair] ∧ W1.cell? ⟨b, 9, none⟩ = some (.slice vb BN cb) from by
        rw [hW1]
        have T := TT.out.low ((Below.refl _ _).alloc (Nat.le_refl _) (.cells #[.int .i64 c.rate, .int .i64 c.hair] 69))
        refine ⟨T, BoxAt.new _ _ _, ?_⟩
        have := T.s.box.at_ 9 _ rfl
        rw [EV.out.2.2] at this
        exact this)
      have d9 := TB.out.2.2
      rw [hW1] at d9
      obtain ⟨wo, rfl⟩ : ∃ wo, wo = wr := ⟨_, rfl⟩
      go_wp2_with fail
      rw [← hW1] at d9 ⊢
      obtain ⟨h5, hh5⟩ : ∃ h5, h5 = wo.heap.size := ⟨_, rfl⟩
      rw [← hh5] at TB ⊢
      clear hW1 hh5 c0 c1' d9
      have k0 : (0 : Int) ≤ (k : Int) := by omega
      go_loopw [6, 25] (fun cv i wr => ∃ (n : Nat) (y : Int), n ≤ BN ∧ i = .int .i64 n ∧ cv = .int .i64 y ∧ Hid (fitsA y = true) ∧ Turn w wr b mb bv V L a ∧ BoxAt wr h5 #[.int .i64 c.rate, .int .i64 c.hair] ∧ Hid (cashGo k (L.under a) 0 = cashGo k ((L.under a).drop n) y)) (fun _ i _ => BN - (intOf i).toNat)
      case atStart => exact ⟨0, 0, Nat.zero_le _, rfl, rfl, Lib.hid (by decide), TB.out.1, TB.out.2.1, Lib.hid rfl⟩
      case round =>
        obtain ⟨n, y, hn, rfl, rfl, FY, ht, hbx, KEI⟩ := hrel
        have TI := Lib.hid (And.intro ht hbx)
        clear ht hbx
        by_cases hlt2 : n < BN
        · obtain ⟨v, hv⟩ : ∃ v, (belowL L.parents a)[n]? = some v := ⟨_, List.getElem?_eq_getElem (by have := LB.out; unfold ints at this; rw [List.length_map] at this; omega)⟩
          have hvi : (ints (belowL L.parents a))[n]? = some (v : Int) := by unfold ints; rw [List.getElem?_map, hv]; rfl
          have rowb : RowOf wr 1 icell (.slice vb BN cb) (ints (belowL L.parents a)) := by have := TI.out.1.s.below; rw [EV.out.2.2] at this; exact this
          obtain ⟨bb, bo, rfl, _, hbc⟩ := rowb.at_ hvi
          have b0 := hbc 0 (.int .i64 (v : Int)) rfl
          rw [Nat.add_zero, Nat.mul_one] at b0
          have hvl : v < V.ac.length := by
            have h1 := (mem_belowL.1 (List.mem_of_getElem? hv)).1
            unfold Led.parents at h1
            rw [List.length_map] at h1
            have := LA.out.2
            omega
          obtain ⟨p, hp⟩ : ∃ p, V.ac[v]? = some p := ⟨_, List.getElem?_eq_getElem hvl⟩
          have hpl : L.accts[v]? = some p.1 := by rw [HS.out.led.same, List.getElem?_map, hp]; rfl
          have aok := HG.out.accounts.accts v p.1 hpl
          have rowa : RowOf wr 4 Acc.cells (.slice a4 AN c4) V.ac := by have := TI.out.1.s.led.accts; rw [EV.out.2.1] at this; exact this
          obtain ⟨ab, ao, rfl, _, hac⟩ := rowa.at_ hp
          have rowc := TI.out.1.s.led.cash p (List.mem_of_getElem? hp)
          obtain ⟨a7, c7, e7⟩ := rowc.form
          obtain ⟨z, hz⟩ : ∃ z, p.1.cash[k]? = some z := ⟨_, List.getElem?_eq_getElem (by have := aok.1; have := HK.out; omega)⟩
          rw [e7] at rowc
          obtain ⟨kb, ko, rfl, _, hkc⟩ := rowc.at_ hz
          have z0 := hkc 0 (.int .i64 z) rfl
          rw [Nat.add_zero, Nat.mul_one] at z0
          have a1c := hac 1 p.2 rfl
          rw [e7] at a1c
          have d4 : wr.cell? ⟨b, 4, none⟩ = some (.slice (some ⟨ab, ao, none⟩) AN c4) := by have := TI.out.1.s.box.at_ 4 _ rfl; rw [EV.out.2.1] at this; exact this
          have kl : (k : Int) < (p.1.cash.length : Int) := by have := aok.1; have := HK.out; omega
          have vl : (v : Int) < (AN : Int) := by have := LA.out.1; omega
          have v0 : (0 : Int) ≤ (v : Int) := by omega
          have ZF := Lib.hid (show fitsA z = true from aok.2.2.2.2 z (List.mem_of_getElem? hz))
          have UK := Lib.hid (show (L.under a)[n]? = some p.1 ∧ p.1.cash.getD k 0 = z from by
            refine ⟨?_, by rw [List.getD_eq_getElem?_getD, hz]; rfl⟩
            unfold Led.under
            rw [List.getElem?_map, hv]
            show some (L.accts.getD v _) = _
            rw [List.getD_eq_getElem?_getD, hpl]; rfl)
          have AC := Lib.hid (fun W => fadd_any y z (I64.of_fits FY.out) (I64.of_fits ZF.out) W)
          have AE := Lib.hid (addA_er y z)
          have AO := Lib.hid (show addO y z = optA (addA y z) from rfl)
          obtain ⟨AR, hAR⟩ : ∃ r, r = addA y z := ⟨_, rfl⟩
          rw [← hAR] at AC AE AO
          obtain ⟨KN, hKN⟩ : ∃ n, n = p.1.cash.length := ⟨_, rfl⟩
          rw [← hKN] at kl a1c
          have DN := Lib.hid (drop_cons UK.out.1)
          have LT2 := Lib.hid hlt2
          have hlt2' : (n : Int) < (BN : Int) := by omega
          clear hAR hKN hv hvi rowb hbc hvl hp hpl aok rowa hac rowc e7 hz hkc hlt2 hn
          go_wp2_with fail
          refine (AC.out _).mono ?_
          rintro e w' ⟨rfl, rfl⟩
          go_wp2_with fail
          refine (mmust_any AR (er_or AE.out) _).mono ?_
          rintro e w' ⟨ho, rfl⟩
          rcases Or.symm ho with ⟨hz, rfl⟩ | ⟨g, hz, rfl⟩
          · have HZ := Lib.hid (AO.out.trans hz)
            clear hz
            go_wp2_with fail
            exact ⟨rfl, OutO.none_ (by rw [KEY.out, DK.out]; exact haveGo_gone (by rw [KEI.out, DN.out]; exact cashGo_over (by rw [UK.out.2]; exact HZ.out))), TI.out.1⟩
          have FZ := Lib.hid (opt_fits AE.out hz)
          have HZ := Lib.hid (AO.out.trans hz)
          clear hz
          go_wp2_with fail
          go_roundw
          case rel => exact ⟨n + 1, g, by have := LT2.out; omega, by go_num, rfl, FZ, TI.out.1, TI.out.2, Lib.hid (by rw [KEI.out, DN.out]; exact cashGo_next (by rw [UK.out.2]; exact HZ.out))⟩
          case measure => have := LT2.out; simp [intOf]; omega
        · have hlt2' : ¬ (n : Int) < (BN : Int) := by omega
          have CG := Lib.hid (show cashGo k (L.under a) 0 = some y from by
            rw [KEI.out, List.drop_of_length_le (by have := LB.out; unfold Led.under; unfold ints at this; rw [List.length_map] at this ⊢; omega)]; rfl)
          have WC := Lib.hid (fun W => pworth_any c k COK.out y (I64.of_fits FY.out) W)
          have WE := Lib.hid (worthA_er c y)
          have WO := Lib.hid (worthA_opt c y)
          obtain ⟨WR, hWR⟩ : ∃ r, r = worthA c y := ⟨_, rfl⟩
          rw [← hWR] at WC WE WO
          have f0 : wr.cell? ⟨h5, 0, none⟩ = some (.int .i64 c.rate) := TI.out.2.at_ 0 _ rfl
          have f1 : wr.cell? ⟨h5, 1, none⟩ = some (.int .i64 c.hair) := TI.out.2.at_ 1 _ rfl
          clear hWR hlt2 hn
          go_wp2_with fail
          refine (WC.out _).mono ?_
          rintro e w4 ⟨rfl, hb4⟩
          have T4 := Lib.hid (TI.out.1.low hb4)
          clear hb4 f0 f1
          go_wp2_with fail
          refine (mmust_any WR (er_or WE.out) _).mono ?_
          rintro e w' ⟨ho, rfl⟩
          rcases Or.symm ho with ⟨hy, rfl⟩ | ⟨m, hy, rfl⟩
          · have HY := Lib.hid (WO.out.trans hy)
            clear hy
            go_wp2_with fail
            exact ⟨rfl, OutO.none_ (by rw [KEY.out, DK.out]; exact haveGo_dear CG.out HY.out), T4.out⟩
          have FM := Lib.hid (opt_fits WE.out hy)
          have HY := Lib.hid (WO.out.trans hy)
          clear hy
          have AC := Lib.hid (fun W => fadd_any x m (I64.of_fits FX.out) (I64.of_fits FM.out) W)
          have AE := Lib.hid (addA_er x m)
          have AO := Lib.hid (show addO x m = optA (addA x m) from rfl)
          obtain ⟨AR, hAR⟩ : ∃ r, r = addA x m := ⟨_, rfl⟩
          rw [← hAR] at AC AE AO
          clear hAR
          go_wp2_with fail
          refine (AC.out _).mono ?_
          rintro e w' ⟨rfl, rfl⟩
          go_wp2_with fail
          refine (mmust_any AR (er_or AE.out) _).mono ?_
          rintro e w' ⟨ho, rfl⟩
          rcases Or.symm ho with ⟨hz, rfl⟩ | ⟨z, hz, rfl⟩
          · have HZ := Lib.hid (AO.out.trans hz)
            clear hz
            go_wp2_with fail
            exact ⟨rfl, OutO.none_ (by rw [KEY.out, DK.out]; exact haveGo_over CG.out HY.out HZ.out), T4.out⟩
          have FZ := Lib.hid (opt_fits AE.out hz)
          have HZ := Lib.hid (AO.out.trans hz)
          clear hz
          go_wp2_with fail
          go_roundw
          case rel => exact ⟨k + 1, z, by have := LT.out; omega, by go_num, rfl, FZ, T4.out, Lib.hid (by rw [KEY.out, DK.out]; exact haveGo_next CG.out HY.out HZ.out)⟩
          case measure => have := LT.out; simp [intOf]; omega
    · have hlt' : ¬ (k : Int) < (CN : Int) := by omega
      go_wp2_with fail
      go_ret
      exact ⟨OutO.some_ (by rw [KEY.out, List.drop_of_length_le (by have := LC.out; omega)]; rfl), TT.out⟩
end Go.Proofs.YtcjbhgnlmmeeeaaGreatDoor

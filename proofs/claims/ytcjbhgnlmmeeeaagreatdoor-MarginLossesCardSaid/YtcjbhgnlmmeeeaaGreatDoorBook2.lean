/- book.Poss, book.Orders, the document's Poss, Orders, walked (printed by tools/gen_book2.py). -/
import Derived.Test.YtcjbhgnlmmeeeaaGreatDoorBook
namespace Go.Proofs.YtcjbhgnlmmeeeaaGreatDoor
open Go.RowKit Go.Bw Go.Maps Go.Shelf
set_option linter.unusedVariables false
set_option linter.unusedSimpArgs false

theorem any_not {α : Type} (p : α → Bool) (l : List α) : (l.any fun x => !p x) = false ↔ ∀ x ∈ l, p x = true := by
  rw [List.any_eq_false]
  constructor
  · intro h x hx; have := h x hx; simpa using this
  · intro h x hx; simp [h x hx]
theorem any_not_true {α : Type} (p : α → Bool) (l : List α) (h : (l.any fun x => !p x) = true) : ∃ x ∈ l, p x = false := by
  obtain ⟨x, hx, hp⟩ := List.any_eq_true.1 h
  exact ⟨x, hx, by simpa using hp⟩

open Classical in
set_option maxRecDepth 100000 in
set_option maxHeartbeats 2000000 in
theorem poss_any (w : World) (v : Value) (l : List Pos) (A I : Nat) (hR : RowOf w 3 Pos.cells v l) :
    Calls Tryz.prog 55 #[v, .int .i64 (A : Nat), .int .i64 (I : Nat)] w fun e w' => e = .returned (.bool (decide (PossOk l A I))) ∧ Below w.heap.size w w' := by
  obtain ⟨a, c, rfl⟩ := hR.form
  obtain ⟨R, hRr⟩ : ∃ R, R = decide (PossOk l A I) := ⟨_, rfl⟩
  rw [← hRr]
  have EQ := Lib.hid hRr
  have BX := Lib.hid (show ∃ W, W = (w.alloc (.cells #[.int .i64 (A : Nat)] 3)).alloc (.cells #[.int .i64 (I : Nat)] 3) ∧ Below w.heap.size w W ∧ W.cell? ⟨w.heap.size, 0, none⟩ = some (.int .i64 (A : Nat)) ∧ W.cell? ⟨w.heap.size + 1, 0, none⟩ = some (.int .i64 (I : Nat)) ∧ w.heap.size + 1 < W.heap.size from
    ⟨_, rfl, ((Below.refl _ _).alloc (Nat.le_refl _) _).alloc (by simp) _, cell_of_heap ((Below.heap_alloc _ _ _ (by simp)).trans (heap_alloc_new w _)) 0, by have := cell_of_heap (heap_alloc_new (w.alloc (.cells #[.int .i64 (A : Nat)] 3)) (.cells #[.int .i64 (I : Nat)] 3)) 0; simp, by simp⟩)
  have HR := Lib.hid hR
  clear hR hRr
  by_cases hlen : l.length ≤ 64
  case neg =>
    have FL := Lib.hid (EQ.out.trans (decide_eq_false (fun h => hlen h.len)))
    have hlen' : ¬ (l.length : Int) ≤ 64 := by omega
    clear hlen
    obtain ⟨W, hW, hb, _, _, _⟩ := BX.out
    have BW := Lib.hid (show Below w.heap.size w _ from hW ▸ hb)
    clear hW hb BX
    go_enter Tryz.func55, Tryz.ntmps55
    go_wp2_with fail
    go_ret
    exact ⟨ret_bool FL.out.symm, BW.out⟩
  have hlen' : (l.length : Int) ≤ 64 := by omega
  have HL := Lib.hid hlen
  clear hlen
  go_enter Tryz.func55, Tryz.ntmps55
  go_wp2_with fail
  obtain ⟨W, hW, hb, h4, h5, hs⟩ := BX.out
  rw [← hW]
  have BW := Lib.hid hb
  have H45 := Lib.hid (And.intro h4 h5)
  have ROW := Lib.hid (HR.out.below hb)
  clear hW hb h4 h5 BX
  refine (risePos_any W _ l ROW.out).mono ?_
  rintro e w2 ⟨rfl, hb2⟩
  have B2 := Lib.hid (BW.out.trans (hb2.mono BW.out.size))
  have M2 := Lib.hid (Mod.of_below hb2)
  have ROW2 := Lib.hid (ROW.out.below hb2)
  clear hb2 hs
  by_cases hri : Rises Pos.Lt l
  case neg =>
    have FL := Lib.hid (EQ.out.trans (decide_eq_false (fun h => hri h.rise)))
    rw [decide_eq_false hri]
    clear hri
    go_wp2_with fail
    go_ret
    exact ⟨ret_bool FL.out.symm, B2.out⟩
  rw [decide_eq_true hri]
  have HRI := Lib.hid hri
  clear hri
  have CF := Lib.hid (containsFunc_pos w2 _ l 103 #[.pointer (some ⟨w.heap.size, 0, none⟩), .pointer (some ⟨w.heap.size + 1, 0, none⟩)] (fun p => !posB p A I) (enters_of Tryz.func103 (by kernel_rfl) rfl) ROW2.out (fun W' x hb' _ =>
    possBad_any W' x A I w.heap.size (w.heap.size + 1) ((M2.out.trans (Mod.of_below hb') (fun _ _ h => h)).cell H45.out.1 (fun h => h)) ((M2.out.trans (Mod.of_below hb') (fun _ _ h => h)).cell H45.out.2 (fun h => h))))
  cases ha : (l.any fun p => !posB p A I) with
  | true =>
    rw [ha] at CF
    have FL := Lib.hid (EQ.out.trans (decide_eq_false (fun h => by
      obtain ⟨x, hx, hp⟩ := any_not_true _ _ ha
      rw [(posB_iff x A I).2 (h.all x hx)] at hp; cases hp)))
    clear ha
    go_wp2_with fail
    refine CF.out.mono ?_
    rintro e w3 ⟨rfl, hb3⟩
    have B3 := Lib.hid (B2.out.trans (hb3.mono B2.out.size))
    clear hb3
    go_wp2_with fail
    go_ret
    exact ⟨ret_bool FL.out.symm, B3.out⟩
  | false =>
    rw [ha] at CF
    have FL := Lib.hid (EQ.out.trans (decide_eq_true ⟨HL.out, fun x hx => (posB_iff x A I).1 ((any_not _ _).1 ha x hx), HRI.out⟩))
    clear ha
    go_wp2_with fail
    refine CF.out.mono ?_
    rintro e w3 ⟨rfl, hb3⟩
    have B3 := Lib.hid (B2.out.trans (hb3.mono B2.out.size))
    clear hb3
    go_wp2_with fail
    go_ret
    exact ⟨ret_bool FL.out.symm, B3.out⟩

open Classical in
set_option maxRecDepth 100000 in
set_option maxHeartbeats 2000000 in
theorem rposs_any (w : World) (v : Value) (l : List Pos) (A I : Nat) (hR : RowOf w 3 Pos.cells v l) :
    Calls Tryz.prog 42 #[v, .int .i64 (A : Nat), .int .i64 (I : Nat)] w fun e w' => e = .returned (.bool (decide (PossOk l A I))) ∧ Below w.heap.size w w' := by
  obtain ⟨a, c, rfl⟩ := hR.form
  obtain ⟨R, hRr⟩ : ∃ R, R = decide (PossOk l A I) := ⟨_, rfl⟩
  rw [← hRr]
  have EQ := Lib.hid hRr
  have HR := Lib.hid hR
  clear hR hRr
  by_cases hlen : l.length ≤ 64
  case neg =>
    have FL := Lib.hid (EQ.out.trans (decide_eq_false (fun h => hlen h.len)))
    have hlen' : (64 : Int) < (l.length : Int) := by omega
    clear hlen
    go_enter Tryz.func42, Tryz.ntmps42
    go_wp2_with fail
    go_ret
    exact ⟨ret_bool FL.out.symm, Below.refl _ _⟩
  have hlen' : ¬ (64 : Int) < (l.length : Int) := by omega
  have HL := Lib.hid hlen
  clear hlen
  go_enter Tryz.func42, Tryz.ntmps42
  go_wp2_with fail
  refine (rposRise_any w _ l HR.out).mono ?_
  rintro e w2 ⟨rfl, hb2⟩
  have B2 := Lib.hid hb2
  have ROW2 := Lib.hid (HR.out.below hb2)
  clear hb2
  by_cases hri : rposRiseOk l
  case neg =>
    have FL := Lib.hid (EQ.out.trans (decide_eq_false (fun h => hri ⟨fun x hx => by have := h.all x hx; unfold Pos.Ok at this; exact decide_eq_true (by omega), h.rise⟩)))
    rw [decide_eq_false hri]
    clear hri
    go_wp2_with fail
    go_ret
    exact ⟨ret_bool FL.out.symm, B2.out⟩
  rw [decide_eq_true hri]
  have HRI := Lib.hid hri
  clear hri
  go_wp2_with fail
  go_loopw [19] (fun i wr => ∃ k : Nat, k ≤ l.length ∧ i = .int .i64 k ∧ Hid (∀ (j : Nat) x, j < k → l[j]? = some x → x.Ok A I) ∧ Below w.heap.size w wr) (fun i _ => l.length - (intOf i).toNat)
  case atStart => exact ⟨0, Nat.zero_le _, rfl, Lib.hid (fun j x hj => by omega), B2.out⟩
  case round =>
    obtain ⟨k, hk, rfl, INV, hb⟩ := hrel
    have BW := Lib.hid hb
    have ROW := Lib.hid (HR.out.below hb)
    clear hb
    by_cases hlt : k < l.length
    · obtain ⟨x, hx⟩ : ∃ x, l[k]? = some x := ⟨_, List.getElem?_eq_getElem hlt⟩
      obtain ⟨b, o, rfl, hbl, hc⟩ := ROW.out.at_ hx
      have c0 := hc 0 (.int .i64 x.acct) rfl
      have c1 := hc 1 (.int .i64 x.instr) rfl
      have c2 := hc 2 (.int .i64 x.qty) rfl
      rw [Nat.add_zero] at c0
      have hlt' : (k : Int) < (l.length : Int) := by omega
      have HX := Lib.hid hx
      have LT := Lib.hid hlt
      have Q := Lib.hid (HRI.out.all x (List.mem_of_getElem? hx))
      have BX2 := Lib.hid (BW.out.alloc BW.out.size (.cells #[.int .i64 x.acct, .int .i64 x.instr, .int .i64 x.qty] 43))
      have DEC := Lib.hid (show ¬ x.Ok A I → R = false from fun hn => EQ.out.trans (decide_eq_false (fun h => hn (h.all x (List.mem_of_getElem? HX.out)))))
      have ch : (x.acct < 2) ∨ (¬ (x.acct < 2) ∧ (A : Int) ≤ x.acct) ∨ (¬ (x.acct < 2) ∧ ¬ ((A : Int) ≤ x.acct) ∧ x.instr < 0) ∨ (¬ (x.acct < 2) ∧ ¬ ((A : Int) ≤ x.acct) ∧ ¬ (x.instr < 0) ∧ (I : Int) ≤ x.instr) ∨ (¬ (x.acct < 2) ∧ ¬ ((A : Int) ≤ x.acct) ∧ ¬ (x.instr < 0) ∧ ¬ ((I : Int) ≤ x.instr) ∧ x.qty = 0) ∨ (¬ (x.acct < 2) ∧ ¬ ((A : Int) ≤ x.acct) ∧ ¬ (x.instr < 0) ∧ ¬ ((I : Int) ≤ x.instr) ∧ ¬ (x.qty = 0)) := by
        by_cases h0 : x.acct < 2
        · exact Or.inl h0
        by_cases h1 : (A : Int) ≤ x.acct
        · exact Or.inr (Or.inl ⟨h0, h1⟩)
        by_cases h2 : x.instr < 0
        · exact Or.inr (Or.inr (Or.inl ⟨h0, h1, h2⟩))
        by_cases h3 : (I : Int) ≤ x.instr
        · exact Or.inr (Or.inr (Or.inr (Or.inl ⟨h0, h1, h2, h3⟩)))
        by_cases h4 : x.qty = 0
        · exact Or.inr (Or.inr (Or.inr (Or.inr (Or.inl ⟨h0, h1, h2, h3, h4⟩))))
        exact Or.inr (Or.inr (Or.inr (Or.inr (Or.inr ⟨h0, h1, h2, h3, h4⟩))))
      clear hx hc
      rcases ch with h0 | ⟨h0, h1⟩ | ⟨h0, h1, h2⟩ | ⟨h0, h1, h2, h3⟩ | ⟨h0, h1, h2, h3, h4⟩ | ⟨h0, h1, h2, h3, h4⟩
      · have FL := Lib.hid (DEC.out (by unfold Pos.Ok; omega))
        go_wp2_with fail
        go_ret
        exact ⟨ret_bool FL.out.symm, BX2.out⟩
      · have FL := Lib.hid (DEC.out (by unfold Pos.Ok; omega))
        go_wp2_with fail
        go_ret
        exact ⟨ret_bool FL.out.symm, BX2.out⟩
      · have FL := Lib.hid (DEC.out (by unfold Pos.Ok; omega))
        go_wp2_with fail
        go_ret
        exact ⟨ret_bool FL.out.symm, BX2.out⟩
      · have FL := Lib.hid (DEC.out (by unfold Pos.Ok; omega))
        go_wp2_with fail
        go_ret
        exact ⟨ret_bool FL.out.symm, BX2.out⟩
      · have FL := Lib.hid (DEC.out (by unfold Pos.Ok; omega))
        have hbq : (x.qty == 0) = true := by simp [h4]
        clear h4
        go_wp2_with fail
        go_ret
        exact ⟨ret_bool FL.out.symm, BX2.out⟩
      · have YES := Lib.hid (show x.Ok A I from by have := of_decide_eq_true Q.out; unfold Pos.Ok; omega)
        have hbq : (x.qty == 0) = false := by simp [h4]
        clear h4
        go_wp2_with fail
        go_roundw
        case rel => exact ⟨k + 1, by have := LT.out; omega, by go_num, Lib.hid (fun j z hj hz => by
          by_cases e : j = k
          · subst e; have h1 := HX.out; rw [hz] at h1; cases h1; exact YES.out
          · exact INV.out j z (by omega) hz), BX2.out⟩
        case measure => have := LT.out; simp [intOf]; omega
    · have hlt' : ¬ (k : Int) < (l.length : Int) := by omega
      have FL := Lib.hid (EQ.out.trans (decide_eq_true ⟨HL.out, fun x hx => by
        obtain ⟨j, hj, e⟩ := List.mem_iff_getElem.1 hx
        exact INV.out j x (by omega) (by rw [← e]; exact List.getElem?_eq_getElem hj), HRI.out.rise⟩))
      go_wp2_with fail
      go_ret
      exact ⟨ret_bool FL.out.symm, BW.out⟩

open Classical in
set_option maxRecDepth 100000 in
set_option maxHeartbeats 2000000 in
theorem orders_any (w : World) (v : Value) (l : List Ord) (A I : Nat) (hR : RowOf w 5 Ord.cells v l) :
    Calls Tryz.prog 56 #[v, .int .i64 (A : Nat), .int .i64 (I : Nat)] w fun e w' => e = .returned (.bool (decide (OrdersOk l A I))) ∧ Below w.heap.size w w' := by
  obtain ⟨a, c, rfl⟩ := hR.form
  obtain ⟨R, hRr⟩ : ∃ R, R = decide (OrdersOk l A I) := ⟨_, rfl⟩
  rw [← hRr]
  have EQ := Lib.hid hRr
  have BX := Lib.hid (show ∃ W, W = (w.alloc (.cells #[.int .i64 (A : Nat)] 3)).alloc (.cells #[.int .i64 (I : Nat)] 3) ∧ Below w.heap.size w W ∧ W.cell? ⟨w.heap.size, 0, none⟩ = some (.int .i64 (A : Nat)) ∧ W.cell? ⟨w.heap.size + 1, 0, none⟩ = some (.int .i64 (I : Nat)) ∧ w.heap.size + 1 < W.heap.size from
    ⟨_, rfl, ((Below.refl _ _).alloc (Nat.le_refl _) _).alloc (by simp) _, cell_of_heap ((Below.heap_alloc _ _ _ (by simp)).trans (heap_alloc_new w _)) 0, by have := cell_of_heap (heap_alloc_new (w.alloc (.cells #[.int .i64 (A : Nat)] 3)) (.cells #[.int .i64 (I : Nat)] 3)) 0; simp, by simp⟩)
  have HR := Lib.hid hR
  clear hR hRr
  by_cases hlen : l.length ≤ 32
  case neg =>
    have FL := Lib.hid (EQ.out.trans (decide_eq_false (fun h => hlen h.len)))
    have hlen' : ¬ (l.length : Int) ≤ 32 := by omega
    clear hlen
    obtain ⟨W, hW, hb, _, _, _⟩ := BX.out
    have BW := Lib.hid (show Below w.heap.size w _ from hW ▸ hb)
    clear hW hb BX
    go_enter Tryz.func56, Tryz.ntmps56
    go_wp2_with fail
    go_ret
    exact ⟨ret_bool FL.out.symm, BW.out⟩
  have hlen' : (l.length : Int) ≤ 32 := by omega
  have HL := Lib.hid hlen
  clear hlen
  go_enter Tryz.func56, Tryz.ntmps56
  go_wp2_with fail
  obtain ⟨W, hW, hb, h4, h5, hs⟩ := BX.out
  rw [← hW]
  have BW := Lib.hid hb
  have H45 := Lib.hid (And.intro h4 h5)
  have ROW := Lib.hid (HR.out.below hb)
  clear hW hb h4 h5 BX
  refine (riseOrd_any W _ l ROW.out).mono ?_
  rintro e w2 ⟨rfl, hb2⟩
  have B2 := Lib.hid (BW.out.trans (hb2.mono BW.out.size))
  have M2 := Lib.hid (Mod.of_below hb2)
  have ROW2 := Lib.hid (ROW.out.below hb2)
  clear hb2 hs
  by_cases hri : Rises Ord.Lt l
  case neg =>
    have FL := Lib.hid (EQ.out.trans (decide_eq_false (fun h => hri h.rise)))
    rw [decide_eq_false hri]
    clear hri
    go_wp2_with fail
    go_ret
    exact ⟨ret_bool FL.out.symm, B2.out⟩
  rw [decide_eq_true hri]
  have HRI := Lib.hid hri
  clear hri
  have CF := Lib.hid (containsFunc_order w2 _ l 109 #[.pointer (some ⟨w.heap.size, 0, none⟩), .pointer (some ⟨w.heap.size + 1, 0, none⟩)] (fun p => !ordB p A I) (enters_of Tryz.func109 (by kernel_rfl) rfl) ROW2.out (fun W' x hb' _ =>
    ordersBad_any W' x A I w.heap.size (w.heap.size + 1) ((M2.out.trans (Mod.of_below hb') (fun _ _ h => h)).cell H45.out.1 (fun h => h)) ((M2.out.trans (Mod.of_below hb') (fun _ _ h => h)).cell H45.out.2 (fun h => h))))
  cases ha : (l.any fun p => !ordB p A I) with
  | true =>
    rw [ha] at CF
    have FL := Lib.hid (EQ.out.trans (decide_eq_false (fun h => by
      obtain ⟨x, hx, hp⟩ := any_not_true _ _ ha
      rw [(ordB_iff x A I).2 (h.all x hx)] at hp; cases hp)))
    clear ha
    go_wp2_with fail
    refine CF.out.mono ?_
    rintro e w3 ⟨rfl, hb3⟩
    have B3 := Lib.hid (B2.out.trans (hb3.mono B2.out.size))
    clear hb3
    go_wp2_with fail
    go_ret
    exact ⟨ret_bool FL.out.symm, B3.out⟩
  | false =>
    rw [ha] at CF
    have FL := Lib.hid (EQ.out.trans (decide_eq_true ⟨HL.out, fun x hx => (ordB_iff x A I).1 ((any_not _ _).1 ha x hx), HRI.out⟩))
    clear ha
    go_wp2_with fail
    refine CF.out.mono ?_
    rintro e w3 ⟨rfl, hb3⟩
    have B3 := Lib.hid (B2.out.trans (hb3.mono B2.out.size))
    clear hb3
    go_wp2_with fail
    go_ret
    exact ⟨ret_bool FL.out.symm, B3.out⟩

open Classical in
set_option maxRecDepth 100000 in
set_option maxHeartbeats 2000000 in
theorem rorders_any (w : World) (v : Value) (l : List Ord) (A I : Nat) (hR : RowOf w 5 Ord.cells v l) :
    Calls Tryz.prog 43 #[v, .int .i64 (A : Nat), .int .i64 (I : Nat)] w fun e w' => e = .returned (.bool (decide (OrdersOk l A I))) ∧ Below w.heap.size w w' := by
  obtain ⟨a, c, rfl⟩ := hR.form
  obtain ⟨R, hRr⟩ : ∃ R, R = decide (OrdersOk l A I) := ⟨_, rfl⟩
  rw [← hRr]
  have EQ := Lib.hid hRr
  have HR := Lib.hid hR
  clear hR hRr
  by_cases hlen : l.length ≤ 32
  case neg =>
    have FL := Lib.hid (EQ.out.trans (decide_eq_false (fun h => hlen h.len)))
    have hlen' : (32 : Int) < (l.length : Int) := by omega
    clear hlen
    go_enter Tryz.func43, Tryz.ntmps43
    go_wp2_with fail
    go_ret
    exact ⟨ret_bool FL.out.symm, Below.refl _ _⟩
  have hlen' : ¬ (32 : Int) < (l.length : Int) := by omega
  have HL := Lib.hid hlen
  clear hlen
  go_enter Tryz.func43, Tryz.ntmps43
  go_wp2_with fail
  refine (rordRise_any w _ l HR.out).mono ?_
  rintro e w2 ⟨rfl, hb2⟩
  have B2 := Lib.hid hb2
  have ROW2 := Lib.hid (HR.out.below hb2)
  clear hb2
  by_cases hri : rordRiseOk l
  case neg =>
    have FL := Lib.hid (EQ.out.trans (decide_eq_false (fun h => hri ⟨fun x hx => by have := h.all x hx; unfold Ord.Ok at this; exact decide_eq_true (by omega), h.rise⟩)))
    rw [decide_eq_false hri]
    clear hri
    go_wp2_with fail
    go_ret
    exact ⟨ret_bool FL.out.symm, B2.out⟩
  rw [decide_eq_true hri]
  have HRI := Lib.hid hri
  clear hri
  go_wp2_with fail
  go_loopw [19] (fun i wr => ∃ k : Nat, k ≤ l.length ∧ i = .int .i64 k ∧ Hid (∀ (j : Nat) x, j < k → l[j]? = some x → x.Ok A I) ∧ Below w.heap.size w wr) (fun i _ => l.length - (intOf i).toNat)
  case atStart => exact ⟨0, Nat.zero_le _, rfl, Lib.hid (fun j x hj => by omega), B2.out⟩
  case round =>
    obtain ⟨k, hk, rfl, INV, hb⟩ := hrel
    have BW := Lib.hid hb
    have ROW := Lib.hid (HR.out.below hb)
    clear hb
    by_cases hlt : k < l.length
    · obtain ⟨x, hx⟩ : ∃ x, l[k]? = some x := ⟨_, List.getElem?_eq_getElem hlt⟩
      obtain ⟨b, o, rfl, hbl, hc⟩ := ROW.out.at_ hx
      have c0 := hc 0 (.int .i64 x.acct) rfl
      have c1 := hc 1 (.int .i64 x.id) rfl
      have c2 := hc 2 (.int .i64 x.instr) rfl
      have c3 := hc 3 (.int .i64 x.qty) rfl
      have c4 := hc 4 (.int .i64 x.price) rfl
      rw [Nat.add_zero] at c0
      have hlt' : (k : Int) < (l.length : Int) := by omega
      have HX := Lib.hid hx
      have LT := Lib.hid hlt
      have Q := Lib.hid (HRI.out.all x (List.mem_of_getElem? hx))
      have BX2 := Lib.hid (BW.out.alloc BW.out.size (.cells #[.int .i64 x.acct, .int .i64 x.id, .int .i64 x.instr, .int .i64 x.qty, .int .i64 x.price] 46))
      have DEC := Lib.hid (show ¬ x.Ok A I → R = false from fun hn => EQ.out.trans (decide_eq_false (fun h => hn (h.all x (List.mem_of_getElem? HX.out)))))
      have ch : (x.acct < 2) ∨ (¬ (x.acct < 2) ∧ (A : Int) ≤ x.acct) ∨ (¬ (x.acct < 2) ∧ ¬ ((A : Int) ≤ x.acct) ∧ x.id < 1) ∨ (¬ (x.acct < 2) ∧ ¬ ((A : Int) ≤ x.acct) ∧ ¬ (x.id < 1) ∧ 1099511627776 < x.id) ∨ (¬ (x.acct < 2) ∧ ¬ ((A : Int) ≤ x.acct) ∧ ¬ (x.id < 1) ∧ ¬ (1099511627776 < x.id) ∧ x.instr < 0) ∨ (¬ (x.acct < 2) ∧ ¬ ((A : Int) ≤ x.acct) ∧ ¬ (x.id < 1) ∧ ¬ (1099511627776 < x.id) ∧ ¬ (x.instr < 0) ∧ (I : Int) ≤ x.instr) ∨ (¬ (x.acct < 2) ∧ ¬ ((A : Int) ≤ x.acct) ∧ ¬ (x.id < 1) ∧ ¬ (1099511627776 < x.id) ∧ ¬ (x.instr < 0) ∧ ¬ ((I : Int) ≤ x.instr) ∧ x.qty = 0) ∨ (¬ (x.acct < 2) ∧ ¬ ((A : Int) ≤ x.acct) ∧ ¬ (x.id < 1) ∧ ¬ (1099511627776 < x.id) ∧ ¬ (x.instr < 0) ∧ ¬ ((I : Int) ≤ x.instr) ∧ ¬ (x.qty = 0) ∧ x.price < 1) ∨ (¬ (x.acct < 2) ∧ ¬ ((A : Int) ≤ x.acct) ∧ ¬ (x.id < 1) ∧ ¬ (1099511627776 < x.id) ∧ ¬ (x.instr < 0) ∧ ¬ ((I : Int) ≤ x.instr) ∧ ¬ (x.qty = 0) ∧ ¬ (x.price < 1) ∧ 100000000000000 < x.price) ∨ (¬ (x.acct < 2) ∧ ¬ ((A : Int) ≤ x.acct) ∧ ¬ (x.id < 1) ∧ ¬ (1099511627776 < x.id) ∧ ¬ (x.instr < 0) ∧ ¬ ((I : Int) ≤ x.instr) ∧ ¬ (x.qty = 0) ∧ ¬ (x.price < 1) ∧ ¬ (100000000000000 < x.price)) := by
        by_cases h0 : x.acct < 2
        · exact Or.inl h0
        by_cases h1 : (A : Int) ≤ x.acct
        · exact Or.inr (Or.inl ⟨h0, h1⟩)
        by_cases h2 : x.id < 1
        · exact Or.inr (Or.inr (Or.inl ⟨h0, h1, h2⟩))
        by_cases h3 : 1099511627776 < x.id
        · exact Or.inr (Or.inr (Or.inr (Or.inl ⟨h0, h1, h2, h3⟩)))
        by_cases h4 : x.instr < 0
        · exact Or.inr (Or.inr (Or.inr (Or.inr (Or.inl ⟨h0, h1, h2, h3, h4⟩))))
        by_cases h5 : (I : Int) ≤ x.instr
        · exact Or.inr (Or.inr (Or.inr (Or.inr (Or.inr (Or.inl ⟨h0, h1, h2, h3, h4, h5⟩)))))
        by_cases h6 : x.qty = 0
        · exact Or.inr (Or.inr (Or.inr (Or.inr (Or.inr (Or.inr (Or.inl ⟨h0, h1, h2, h3, h4, h5, h6⟩))))))
        by_cases h7 : x.price < 1
        · exact Or.inr (Or.inr (Or.inr (Or.inr (Or.inr (Or.inr (Or.inr (Or.inl ⟨h0, h1, h2, h3, h4, h5, h6, h7⟩)))))))
        by_cases h8 : 100000000000000 < x.price
        · exact Or.inr (Or.inr (Or.inr (Or.inr (Or.inr (Or.inr (Or.inr (Or.inr (Or.inl ⟨h0, h1, h2, h3, h4, h5, h6, h7, h8⟩))))))))
        exact Or.inr (Or.inr (Or.inr (Or.inr (Or.inr (Or.inr (Or.inr (Or.inr (Or.inr ⟨h0, h1, h2, h3, h4, h5, h6, h7, h8⟩))))))))
      clear hx hc
      rcases ch with h0 | ⟨h0, h1⟩ | ⟨h0, h1, h2⟩ | ⟨h0, h1, h2, h3⟩ | ⟨h0, h1, h2, h3, h4⟩ | ⟨h0, h1, h2, h3, h4, h5⟩ | ⟨h0, h1, h2, h3, h4, h5, h6⟩ | ⟨h0, h1, h2, h3, h4, h5, h6, h7⟩ | ⟨h0, h1, h2, h3, h4, h5, h6, h7, h8⟩ | ⟨h0, h1, h2, h3, h4, h5, h6, h7, h8⟩
      · have FL := Lib.hid (DEC.out (by unfold Ord.Ok; omega))
        go_wp2_with fail
        go_ret
        exact ⟨ret_bool FL.out.symm, BX2.out⟩
      · have FL := Lib.hid (DEC.out (by unfold Ord.Ok; omega))
        go_wp2_with fail
        go_ret
        exact ⟨ret_bool FL.out.symm, BX2.out⟩
      · have FL := Lib.hid (DEC.out (by unfold Ord.Ok; omega))
        go_wp2_with fail
        go_ret
        exact ⟨ret_bool FL.out.symm, BX2.out⟩
      · have FL := Lib.hid (DEC.out (by unfold Ord.Ok; omega))
        go_wp2_with fail
        go_ret
        exact ⟨ret_bool FL.out.symm, BX2.out⟩
      · have FL := Lib.hid (DEC.out (by unfold Ord.Ok; omega))
        go_wp2_with fail
        go_ret
        exact ⟨ret_bool FL.out.symm, BX2.out⟩
      · have FL := Lib.hid (DEC.out (by unfold Ord.Ok; omega))
        go_wp2_with fail
        go_ret
        exact ⟨ret_bool FL.out.symm, BX2.out⟩
      · have FL := Lib.hid (DEC.out (by unfold Ord.Ok; omega))
        have hbq : (x.qty == 0) = true := by simp [h6]
        clear h6
        go_wp2_with fail
        go_ret
        exact ⟨ret_bool FL.out.symm, BX2.out⟩
      · have FL := Lib.hid (DEC.out (by unfold Ord.Ok; omega))
        have hbq : (x.qty == 0) = false := by simp [h6]
        clear h6
        go_wp2_with fail
        go_ret
        exact ⟨ret_bool FL.out.symm, BX2.out⟩
      · have FL := Lib.hid (DEC.out (by unfold Ord.Ok; omega))
        have hbq : (x.qty == 0) = false := by simp [h6]
        clear h6
        go_wp2_with fail
        go_ret
        exact ⟨ret_bool FL.out.symm, BX2.out⟩
      · have YES := Lib.hid (show x.Ok A I from by have := of_decide_eq_true Q.out; unfold Ord.Ok; omega)
        have hbq : (x.qty == 0) = false := by simp [h6]
        clear h6
        go_wp2_with fail
        go_roundw
        case rel => exact ⟨k + 1, by have := LT.out; omega, by go_num, Lib.hid (fun j z hj hz => by
          by_cases e : j = k
          · subst e; have h1 := HX.out; rw [hz] at h1; cases h1; exact YES.out
          · exact INV.out j z (by omega) hz), BX2.out⟩
        case measure => have := LT.out; simp [intOf]; omega
    · have hlt' : ¬ (k : Int) < (l.length : Int) := by omega
      have FL := Lib.hid (EQ.out.trans (decide_eq_true ⟨HL.out, fun x hx => by
        obtain ⟨j, hj, e⟩ := List.mem_iff_getElem.1 hx
        exact INV.out j x (by omega) (by rw [← e]; exact List.getElem?_eq_getElem hj), HRI.out.rise⟩))
      go_wp2_with fail
      go_ret
      exact ⟨ret_bool FL.out.symm, BW.out⟩
end Go.Proofs.YtcjbhgnlmmeeeaaGreatDoor

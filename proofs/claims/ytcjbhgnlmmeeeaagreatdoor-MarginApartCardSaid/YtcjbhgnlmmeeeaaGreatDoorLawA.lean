/- MarginApart, walked (printed by tools/gen_lawa.py). -/
import Derived.Test.YtcjbhgnlmmeeeaaGreatDoorGk
import Derived.Test.YtcjbhgnlmmeeeaaGreatDoorAppP
import Derived.Test.YtcjbhgnlmmeeeaaGreatDoorZero
import Derived.Test.YtcjbhgnlmmeeeaaGreatDoorLedS
import Derived.Test.YtcjbhgnlmmeeeaaGreatDoorLUnd
import Derived.Test.YtcjbhgnlmmeeeaaGreatDoorGh
import Derived.Test.YtcjbhgnlmmeeeaaGreatDoorGb
namespace Go.Proofs.YtcjbhgnlmmeeeaaGreatDoor
open Go.RowKit Go.Bw Go.Maps Go.Shelf Go.Bw.Fall
set_option linter.unusedVariables false
set_option linter.unusedSimpArgs false
theorem lunder_int (w : World) (V : LedV) (L : Led) (h : LedAt w V L) (hg : L.Good) (x : Int) (hx : 0 ≤ x ∧ x < L.accts.length) (a : Nat) :
    Calls Tryz.prog 24 #[V.val L, .int .i64 x, .int .i64 (a : Int)] w fun e w' => e = .returned (.bool (underL L.parents a x.toNat)) ∧ Below w.heap.size w w' := by
  have := lunder_any w V L h hg x.toNat (by omega) a
  rwa [show ((x.toNat : Nat) : Int) = x by omega] at this
theorem filter_yes {α : Type} {f : α → Bool} {l : List α} {k : Nat} {x : α} (hx : l[k]? = some x) (hf : f x = true) : (l.take (k + 1)).filter f = (l.take k).filter f ++ [x] := by rw [List.take_add_one, hx, List.filter_append]; simp [hf]
theorem filter_no {α : Type} {f : α → Bool} {l : List α} {k : Nat} {x : α} (hx : l[k]? = some x) (hf : f x = false) : (l.take (k + 1)).filter f = (l.take k).filter f := by rw [List.take_add_one, hx, List.filter_append]; simp [hf]
theorem _root_.Go.Bw.LedV.NotIn.poss {V : LedV} {b : Nat} {v : Value} (h : V.NotIn b) (hv : v.ownBlock ≠ some b) : LedV.NotIn { V with poss := v } b := by
  intro x hx e
  simp only [LedV.rows, List.mem_cons, List.mem_map] at hx
  have key : ∀ y, y ∈ V.rows → y.ownBlock ≠ some b := h
  rcases hx with rfl | rfl | rfl | rfl | rfl | rfl | rfl | rfl | ⟨p, hp, rfl⟩
  · exact key _ (by simp [LedV.rows]) e
  · exact key _ (by simp [LedV.rows]) e
  · exact key _ (by simp [LedV.rows]) e
  · exact key _ (by simp [LedV.rows]) e
  · exact hv e
  · exact key _ (by simp [LedV.rows]) e
  · exact key _ (by simp [LedV.rows]) e
  · exact key _ (by simp [LedV.rows]) e
  · refine key p.2 ?_ e
    simp only [LedV.rows, List.mem_cons, List.mem_map]
    exact Or.inr (Or.inr (Or.inr (Or.inr (Or.inr (Or.inr (Or.inr (Or.inr ⟨p, hp, rfl⟩)))))))
theorem _root_.Go.Bw.LedV.NotIn.orders {V : LedV} {b : Nat} {v : Value} (h : V.NotIn b) (hv : v.ownBlock ≠ some b) : LedV.NotIn { V with orders := v } b := by
  intro x hx e
  simp only [LedV.rows, List.mem_cons, List.mem_map] at hx
  have key : ∀ y, y ∈ V.rows → y.ownBlock ≠ some b := h
  rcases hx with rfl | rfl | rfl | rfl | rfl | rfl | rfl | rfl | ⟨p, hp, rfl⟩
  · exact key _ (by simp [LedV.rows]) e
  · exact key _ (by simp [LedV.rows]) e
  · exact key _ (by simp [LedV.rows]) e
  · exact key _ (by simp [LedV.rows]) e
  · exact key _ (by simp [LedV.rows]) e
  · exact hv e
  · exact key _ (by simp [LedV.rows]) e
  · exact key _ (by simp [LedV.rows]) e
  · refine key p.2 ?_ e
    simp only [LedV.rows, List.mem_cons, List.mem_map]
    exact Or.inr (Or.inr (Or.inr (Or.inr (Or.inr (Or.inr (Or.inr (Or.inr ⟨p, hp, rfl⟩)))))))
/-- Two boxes and a ledger of one's own. -/
structure FB (w : World) (R0 q2 b5 : Nat) (C : Array Value) (L : Led) (V : LedV) (l : Led) (W : World) : Prop where
  at_ : At w W [(q2, 31, C), (b5, 31, V.cells L)]
  own : LedOwn W R0 V l
  n1 : V.NotIn q2
  n2 : V.NotIn b5
  rb : R0 ≤ W.heap.size
theorem FB.go {w W W' : World} {R0 q2 b5 : Nat} {C : Array Value} {L : Led} {V : LedV} {l : Led} (h : FB w R0 q2 b5 C L V l W) (hb : Below W.heap.size W W') : FB w R0 q2 b5 C L V l W' := ⟨h.at_.go hb, h.own.below hb, h.n1, h.n2, Nat.le_trans h.rb hb.size⟩
theorem own_ne {w : World} {B n : Nat} {α : Type} {e : TypeId} {f : α → List Value} {v v' : Value} {l : List α} {b s : Nat} (hv : v.ownBlock ≠ some b) (hb : ∀ k, v'.ownBlock = some k → v.ownBlock = some k ∨ s ≤ k) (hs : b < s) : v'.ownBlock ≠ some b := fun e => by
  rcases hb b e with h | h
  · exact hv h
  · omega
theorem FB.poss {w W W' : World} {R0 q2 b5 : Nat} {C : Array Value} {L : Led} {V : LedV} {l : Led} {v : Value} {xs : List Pos} (h : FB w R0 q2 b5 C L V l W) (hw : w.heap.size ≤ R0) (hm : Mod (fun k => V.poss.ownBlock = some k) W W') (ho : OwnOf W' R0 43 3 Pos.cells v xs) (hb : ∀ k, v.ownBlock = some k → V.poss.ownBlock = some k ∨ W.heap.size ≤ k) :
    FB w R0 q2 b5 C L { V with poss := v } { l with poss := xs } (W'.setCell ⟨b5, 5, none⟩ v) ∧ W'.cell? ⟨b5, 5, none⟩ = some V.poss ∧ W'.frozen? ⟨b5, 5, none⟩ = false := by
  have hp : V.poss ∈ V.rows := by simp [LedV.rows]
  have a1 : At w W' [(q2, 31, C), (b5, 31, V.cells L)] := h.at_.mod hm (fun k e => Nat.le_trans hw (h.own.lts _ hp k e).1) (fun x hx e => by
    simp at hx
    rcases hx with rfl | rfl
    · exact h.n1 _ hp e
    · exact h.n2 _ hp e)
  have hq := h.at_.lt (q2, 31, C) (by simp)
  have h5 := h.at_.lt (b5, 31, V.cells L) (by simp)
  have o1 := h.own.new_poss hm ho hb
  have n2 := h.n2.poss (own_ne (w := W) (B := 0) (n := 0) (α := Nat) (e := 0) (f := fun _ => []) (l := []) (h.n2 _ hp) hb h5)
  refine ⟨⟨a1.setCell 1 rfl 5 v, o1.keep ((Mod.refl (fun k => k = b5) W').setCell v (fun _ => rfl)) (fun k e => by rw [e]; exact n2), h.n1.poss (own_ne (w := W) (B := 0) (n := 0) (α := Nat) (e := 0) (f := fun _ => []) (l := []) (h.n1 _ hp) hb hq), n2, ?_⟩, a1.cell 1 rfl 5 rfl, a1.free 1 rfl 5⟩
  exact Nat.le_trans h.rb (Nat.le_trans hm.size (by simp [World.setCell]))
theorem FB.orders {w W W' : World} {R0 q2 b5 : Nat} {C : Array Value} {L : Led} {V : LedV} {l : Led} {v : Value} {xs : List Ord} (h : FB w R0 q2 b5 C L V l W) (hw : w.heap.size ≤ R0) (hm : Mod (fun k => V.orders.ownBlock = some k) W W') (ho : OwnOf W' R0 46 5 Ord.cells v xs) (hb : ∀ k, v.ownBlock = some k → V.orders.ownBlock = some k ∨ W.heap.size ≤ k) :
    FB w R0 q2 b5 C L { V with orders := v } { l with orders := xs } (W'.setCell ⟨b5, 6, none⟩ v) ∧ W'.cell? ⟨b5, 6, none⟩ = some V.orders ∧ W'.frozen? ⟨b5, 6, none⟩ = false := by
  have hp : V.orders ∈ V.rows := by simp [LedV.rows]
  have a1 : At w W' [(q2, 31, C), (b5, 31, V.cells L)] := h.at_.mod hm (fun k e => Nat.le_trans hw (h.own.lts _ hp k e).1) (fun x hx e => by
    simp at hx
    rcases hx with rfl | rfl
    · exact h.n1 _ hp e
    · exact h.n2 _ hp e)
  have hq := h.at_.lt (q2, 31, C) (by simp)
  have h5 := h.at_.lt (b5, 31, V.cells L) (by simp)
  have o1 := h.own.new_orders hm ho hb
  have n2 := h.n2.orders (own_ne (w := W) (B := 0) (n := 0) (α := Nat) (e := 0) (f := fun _ => []) (l := []) (h.n2 _ hp) hb h5)
  refine ⟨⟨a1.setCell 1 rfl 6 v, o1.keep ((Mod.refl (fun k => k = b5) W').setCell v (fun _ => rfl)) (fun k e => by rw [e]; exact n2), h.n1.orders (own_ne (w := W) (B := 0) (n := 0) (α := Nat) (e := 0) (f := fun _ => []) (l := []) (h.n1 _ hp) hb hq), n2, ?_⟩, a1.cell 1 rfl 6 rfl, a1.free 1 rfl 6⟩
  exact Nat.le_trans h.rb (Nat.le_trans hm.size (by simp [World.setCell]))
set_option maxRecDepth 100000 in
set_option maxHeartbeats 16000000 in
theorem apart_law (w : World) (V : LedV) (L : Led) (h : LedAt w V L) (hs : L.Short) (hG : Grd w) (acct : Int) :
    Calls Tryz.prog 5 #[V.val L, .int .i64 acct] w fun e w' => e = .returned (.bool true) ∧ Below w.heap.size w w' := by
  classical
  have GR := Lib.hid (fun W (hb : Below w.heap.size w W) => hG.below hb)
  have HH := Lib.hid (fun W (hb : Below w.heap.size w W) => h.below hb)
  have WK := Lib.hid (fun W (hb : Below w.heap.size w W) => wakes_any W (hG.below hb))
  have WD := Lib.hid (fun W (hb : Below w.heap.size w W) => wide_any W V L (h.below hb) hs)
  have GD := Lib.hid (show ∀ W, Below w.heap.size w W → L.accts.length ≤ 1024 → ∀ B : Bool, decide L.Good = B → Calls Tryz.prog 22 #[V.val L] W fun e w' => e = .returned (.bool B) ∧ Below W.heap.size W w' from fun W hb hL B hB => good_to (h.below hb) hL hB)
  have CP := Lib.hid (fun W (hb : Below w.heap.size w W) (hg : L.Good) => copy_any W V L (h.below hb) (good_bulk hg).1 (fun a ha => by have := (good_bulk hg).2.1 a ha; omega))
  have EX := Lib.hid (fun W (hb : Below w.heap.size w W) (hL : L.accts.length ≤ 1024) => mexcess_any W V L (h.below hb) hL (hG.below hb) acct)
  have LC := Lib.hid (ledc h)
  obtain ⟨a4, c4, hc4⟩ := cells4 h
  have UN := Lib.hid (fun W (hb : Below w.heap.size w W) (hg : L.Good) (x : Int) (hx : 0 ≤ x ∧ x < L.accts.length) (a : Nat) => lunder_int W V L (h.below hb) hg x hx a)
  obtain ⟨aP, cP, hP⟩ := h.poss.form
  obtain ⟨aO, cO, hO⟩ := h.orders.form
  have RP := Lib.hid (fun W (hb : Below w.heap.size w W) => (h.below hb).poss)
  have RO := Lib.hid (fun W (hb : Below w.heap.size w W) => (h.below hb).orders)
  rw [hP] at RP
  rw [hO] at RO
  unfold LedV.val at WD GD CP EX UN ⊢
  obtain ⟨C, hC⟩ : ∃ C, C = V.cells L := ⟨_, rfl⟩
  obtain ⟨nP, hnP⟩ : ∃ n, n = L.poss.length := ⟨_, rfl⟩
  obtain ⟨nO, hnO⟩ : ∃ n, n = L.orders.length := ⟨_, rfl⟩
  rw [← hnP] at hP RP
  rw [← hnO] at hO RO
  have CP5 := Lib.hid (show C[5]? = some (.slice aP nP cP) from by rw [hC, ← hP]; rfl)
  have CO6 := Lib.hid (show C[6]? = some (.slice aO nO cO) from by rw [hC, ← hO]; rfl)
  have NP := Lib.hid hnP
  have NO := Lib.hid hnO
  rw [← hC] at WD GD CP EX UN LC hc4 ⊢
  obtain ⟨n4, hn4⟩ : ∃ n, n = L.accts.length := ⟨_, rfl⟩
  rw [← hn4] at hc4
  have LN := Lib.hid hn4
  have C4 := Lib.hid hc4
  have BK := Lib.hid (show ¬ 1024 < L.bulk → L.accts.length ≤ 1024 from fun hb => by unfold Led.bulk at hb; omega)
  have A0 := Lib.hid ((At.start w).alloc 31 C)
  obtain ⟨BB, hBB⟩ : ∃ B, B = decide (1024 < L.bulk) := ⟨_, rfl⟩
  rw [← hBB] at WD
  have HB := Lib.hid hBB
  clear h hs hG hC hBB hn4 hc4 hP hO hnP hnO
  go_enter Tryz.func5, Tryz.ntmps5
  go_upto_region 1 with (fail)
  obtain ⟨W0, hW0⟩ : ∃ s, s = w.alloc (.cells C 31) := ⟨_, rfl⟩
  obtain ⟨q2, hq2⟩ : ∃ n, n = w.heap.size := ⟨_, rfl⟩
  have X0 := Lib.hid (show At w W0 [(q2, 31, C)] from by rw [hW0, hq2]; exact A0.out)
  rw [← hW0, ← hq2]
  clear A0 hW0 hq2
  go_wp2_with fail
  refine (WK.out W0 X0.out.low).mono ?_
  rintro e w1 ⟨rfl, hb⟩
  have X1 := Lib.hid (X0.out.go hb)
  clear hb
  go_wp2_with (refine led_load (X1.out.get 0 rfl) LC.out rfl rfl rfl ?_)
  refine (WD.out w1 X1.out.low).mono ?_
  rintro e w2 ⟨rfl, hb⟩
  have X2 := Lib.hid (X1.out.go hb)
  clear hb
  cases hbb : BB with
  | true =>
    subst hbb
    go_wp2_with fail
    go_ret
    exact ⟨rfl, X2.out.low⟩
  | false =>
    subst hbb
    have hL := BK.out (of_decide_eq_false HB.out.symm)
    have HL := Lib.hid hL
    by_cases hg : L.Good
    rotate_left
    · have hgd := decide_eq_false hg
      go_wp2_with (refine led_loadg (X2.out.get 0 rfl) LC.out (by rfl) rfl rfl ?_)
      refine (GD.out w2 X2.out.low hL false hgd).mono ?_
      rintro e w3 ⟨rfl, hb⟩
      have X3 := Lib.hid (X2.out.go hb)
      clear hb hg hgd
      go_wp2_with fail
      go_ret
      exact ⟨rfl, X3.out.low⟩
    have HG := Lib.hid hg
    have m4 : n4 ≤ 16 := by rw [LN.out]; exact (good_bulk hg).2.2
    have mP : nP ≤ 64 := by rw [NP.out]; exact hg.poss.len
    have mO : nO ≤ 32 := by rw [NO.out]; exact hg.orders.len
    clear hg
    go_wp2_with (refine led_loadg (X2.out.get 0 rfl) LC.out (by rfl) rfl rfl ?_)
    refine (GD.out w2 X2.out.low hL true (decide_eq_true HG.out)).mono ?_
    rintro e w3 ⟨rfl, hb⟩
    have X3 := Lib.hid (X2.out.go hb)
    clear hb hL
    by_cases hneg : acct < 0
    · have dn : decide (acct < 0) = true := decide_eq_true hneg
      go_wp2_with fail
      go_ret
      exact ⟨rfl, X3.out.low⟩
    have dn : decide (acct < 0) = false := decide_eq_false hneg
    have y4 : w3.cell? ⟨q2, 4, none⟩ = some (.slice a4 n4 c4) := X3.out.cell 0 rfl 4 C4.out
    by_cases hge : (n4 : Int) ≤ acct
    · go_wp2_with fail
      go_ret
      exact ⟨rfl, X3.out.low⟩
    obtain ⟨a, rfl⟩ := Int.eq_ofNat_of_zero_le (show 0 ≤ acct by omega)
    have dn3 : (a : Int) < (n4 : Int) := by omega
    have AIN := Lib.hid (show a < L.accts.length from by rw [← LN.out]; omega)
    go_wp2_with (refine led_load (X3.out.get 0 rfl) LC.out rfl rfl rfl ?_)
    refine (CP.out w3 X3.out.low HG.out).mono ?_
    rintro e u ⟨V1, rfl, own, hb⟩
    have X4 := Lib.hid (X3.out.go hb)
    have OW := Lib.hid own
    have LU := Lib.hid (ledc own.led)
    have HSZ := Lib.hid hb.size
    unfold LedV.val
    clear own hb y4 hneg hge
    go_upto_region 6 with (refine led_store (heap_alloc_last _ _) ledc0 LU.out rfl rfl rfl rfl ?_; rw [World.setRow_alloc_new])
    obtain ⟨W5, hW5⟩ : ∃ s, s = u.alloc (.cells (V1.cells L) 31) := ⟨_, rfl⟩
    obtain ⟨b5, hb5⟩ : ∃ n, n = u.heap.size := ⟨_, rfl⟩
    have X5 := Lib.hid (show At w W5 [(q2, 31, C), (b5, 31, V1.cells L)] from by rw [hW5, hb5]; exact X4.out.alloc _ _)
    have OW5 := Lib.hid (show LedOwn W5 w3.heap.size V1 L ∧ V1.NotIn q2 ∧ V1.NotIn b5 from by
      have hq := X3.out.lt (q2, 31, C) (by simp)
      refine ⟨by rw [hW5]; exact OW.out.below ((Below.refl _ _).alloc (Nat.le_refl _) _), OW.out.notin (Or.inl hq), OW.out.notin (Or.inr (by omega))⟩)
    have SZ := Lib.hid (show w.heap.size ≤ w3.heap.size ∧ w3.heap.size ≤ W5.heap.size from ⟨X3.out.low.size, by
      have h5 : b5 < W5.heap.size := X5.out.lt (b5, 31, V1.cells L) (by simp)
      have h6 : w3.heap.size ≤ b5 := by
        rcases Nat.lt_or_ge b5 w3.heap.size with h | h
        · rw [hb5] at h; exact absurd h (Nat.not_lt.2 HSZ.out)
        · exact h
      omega⟩)
    rw [← hW5, ← hb5]
    clear hW5 hb5 X4 OW
    have y5 : W5.cell? ⟨b5, 5, none⟩ = some V1.poss := X5.out.cell 1 rfl 5 rfl
    have z5 := X5.out.free 1 rfl 5
    go_upto_region 7 with (fail)
    obtain ⟨W6, hW6⟩ : ∃ s, s = W5.setCell ⟨b5, 5, none⟩ (.slice none 0 0) := ⟨_, rfl⟩
    have X6 := Lib.hid (X5.out.setCell 1 rfl 5 (.slice none 0 0))
    rw [← hW6] at X6 ⊢
    have HW6 := Lib.hid hW6
    clear hW6
    have y6 : W6.cell? ⟨b5, 6, none⟩ = some V1.orders := X6.out.cell 1 rfl 6 rfl
    have z6 := X6.out.free 1 rfl 6
    clear y5 z5
    go_upto_region 8 with (fail)
    obtain ⟨W7, hW7⟩ : ∃ s, s = W6.setCell ⟨b5, 6, none⟩ (.slice none 0 0) := ⟨_, rfl⟩
    obtain ⟨VB, hVB⟩ : ∃ v : LedV, v = { V1 with poss := .slice none 0 0, orders := .slice none 0 0 } := ⟨_, rfl⟩
    have M7 : Mod (fun k => k = b5) W5 W7 := by
      rw [hW7, HW6.out]; exact ((Mod.refl (fun k => k = b5) W5).setCell _ (fun _ => rfl)).setCell _ (fun _ => rfl)
    have FZ := Lib.hid (show FB w w3.heap.size q2 b5 C L VB { L with poss := [], orders := [] } W7 from
      ⟨by rw [hW7, hVB]; exact X6.out.setCell 1 rfl 6 (.slice none 0 0), by rw [hVB]; exact (OW5.out.1.keep M7 (fun k e => by rw [e]; exact OW5.out.2.2)).bare,
       by rw [hVB]; exact (OW5.out.2.1.poss (v := .slice none 0 0) (by simp [Value.ownBlock])).orders (by simp [Value.ownBlock]), by rw [hVB]; exact (OW5.out.2.2.poss (v := .slice none 0 0) (by simp [Value.ownBlock])).orders (by simp [Value.ownBlock]), Nat.le_trans SZ.out.2 M7.size⟩)
    rw [← hW7]
    clear hW7 HW6 hVB M7 y6 z6 X6 X5 OW5
    obtain ⟨f, hf⟩ : ∃ f : Int → Bool, f = fun x => underL L.parents a x.toNat := ⟨_, rfl⟩
    have FF := Lib.hid hf
    have UN' := Lib.hid (show ∀ W, Below w.heap.size w W → ∀ x : Int, 0 ≤ x ∧ x < L.accts.length → Calls Tryz.prog 24 #[.agg C, .int .i64 x, .int .i64 (a : Int)] W fun e w' => e = .returned (.bool (f x)) ∧ Below W.heap.size W w' from fun W hb x hx => by rw [hf]; exact UN.out W hb HG.out x hx a)
    clear hf UN
    have yP : W7.cell? ⟨q2, 5, none⟩ = some (.slice aP nP cP) := FZ.out.at_.cell 0 rfl 5 CP5.out
    go_wp2_with fail
    go_loopw [43] (fun i wr => ∃ k : Nat, k ≤ nP ∧ i = .int .i64 k ∧ ∃ v W, W = wr ∧ Hid (FB w w3.heap.size q2 b5 C L { VB with poss := v } { L with poss := (L.poss.take k).filter fun p => f p.acct, orders := [] } W)) (fun i _ => nP - (intOf i).toNat)
    case atStart => exact ⟨0, Nat.zero_le _, rfl, _, _, rfl, Lib.hid (show FB w w3.heap.size q2 b5 C L { VB with poss := VB.poss } { L with poss := (L.poss.take 0).filter fun p => f p.acct, orders := [] } W7 from by simpa using FZ.out)⟩
    case round =>
      clear FZ yP
      obtain ⟨k, hk, rfl, v, W, rfl, FZ⟩ := hrel
      by_cases hlt : k < nP
      · have hlt' : (k : Int) < (nP : Int) := by omega
        have LT_ := Lib.hid hlt
        obtain ⟨x, hx⟩ : ∃ x, L.poss[k]? = some x := ⟨_, List.getElem?_eq_getElem (by rw [← NP.out]; exact hlt)⟩
        have HX := Lib.hid hx
        have hok := HG.out.poss.all x (List.mem_of_getElem? hx)
        have XR := Lib.hid (show 0 ≤ x.acct ∧ x.acct < L.accts.length from by unfold Pos.Ok at hok; omega)
        obtain ⟨b, o, e, _, hc⟩ := (RP.out W FZ.out.at_.low).at_ hx
        subst e
        have c0 := hc 0 (.int .i64 x.acct) rfl
        have c1 := hc 1 (.int .i64 x.instr) rfl
        have c2 := hc 2 (.int .i64 x.qty) rfl
        simp only [Nat.add_zero] at c0
        clear hx hok hc
        go_upto_region 11 with (fail)
        obtain ⟨b7, hb7⟩ : ∃ n, n = W.heap.size := ⟨_, rfl⟩
        obtain ⟨W5, hW5⟩ : ∃ s, s = W.alloc (.cells #[.int .i64 x.acct, .int .i64 x.instr, .int .i64 x.qty] 43) := ⟨_, rfl⟩
        have N5 := Lib.hid (show W5.heap[b7]? = some (.cells #[.int .i64 x.acct, .int .i64 x.instr, .int .i64 x.qty] 43 (0, 0)) from by rw [hW5, hb7]; exact heap_alloc_new W _)
        have F5 := Lib.hid (show FB w w3.heap.size q2 b5 C L { VB with poss := v } { L with poss := (L.poss.take k).filter fun p => f p.acct, orders := [] } W5 from by rw [hW5]; exact FZ.out.go ((Below.refl _ _).alloc (Nat.le_refl _) _))
        rw [← hW5, ← hb7]
        clear hW5 hb7 c0 c1 c2 FZ
        have d0 : W5.cell? ⟨b7, 0, none⟩ = some (.int .i64 x.acct) := cell_of_heap N5.out 0
        go_wp2_with (refine led_load (F5.out.at_.get 0 rfl) LC.out rfl rfl rfl ?_)
        refine (UN'.out W5 F5.out.at_.low x.acct XR.out).mono ?_
        rintro e w6 ⟨rfl, hb⟩
        have F6 := Lib.hid (F5.out.go hb)
        have N6 := Lib.hid (show w6.heap[b7]? = some (.cells #[.int .i64 x.acct, .int .i64 x.instr, .int .i64 x.qty] 43 (0, 0)) from (Mod.of_below hb).heap N5.out (fun h => h))
        clear hb d0 F5 N5
        obtain ⟨R, hR⟩ : ∃ R, R = f x.acct := ⟨_, rfl⟩
        rw [← hR]
        have HR := Lib.hid hR
        clear hR
        cases R with
        | true =>
          have hrow : OwnOf w6 w3.heap.size 43 3 Pos.cells v ((L.poss.take k).filter fun p => f p.acct) := F6.out.own.poss
          obtain ⟨xa, ka, hv, _⟩ := hrow.form
          obtain ⟨na, hna⟩ : ∃ n, n = ((L.poss.take k).filter fun p => f p.acct).length := ⟨_, rfl⟩
          have NAL := Lib.hid (show na ≤ 64 from by rw [hna]; have h1 := List.length_filter_le (fun p => f p.acct) (L.poss.take k); have h2 := HG.out.poss.len; rw [List.length_take] at h1; omega)
          rw [← hna] at hv
          have HNA := Lib.hid hna
          subst hv
          obtain ⟨v7, w7, hrun, ho, hm, hbk⟩ := app1_pos w6 w3.heap.size (.slice xa na ka) _ hrow F6.out.rb x #[.int .i64 x.acct, .int .i64 x.instr, .int .i64 x.qty] rfl (by rw [← hna]; have := NAL.out; omega)
          clear hna
          have F7 := Lib.hid (F6.out.poss SZ.out.1 hm ho hbk)
          obtain ⟨x7, k7, hv7, _⟩ := ho.form
          rw [List.length_append, ← HNA.out] at hv7
          subst hv7
          have HRUN := Lib.hid hrun
          have NX := Lib.hid (show FB w w3.heap.size q2 b5 C L { VB with poss := .slice x7 (na + [x].length) k7 } { L with poss := (L.poss.take (k + 1)).filter fun p => f p.acct, orders := [] } (w7.setCell ⟨b5, 5, none⟩ (.slice x7 (na + [x].length) k7)) from by
            rw [filter_yes (f := fun p : Pos => f p.acct) HX.out HR.out.symm]
            exact F7.out.1)
          have yq : w6.cell? ⟨b5, 5, none⟩ = some (.slice xa na ka) := F6.out.at_.cell 1 rfl 5 rfl
          have d0 : w6.cell? ⟨b7, 0, none⟩ = some (.int .i64 x.acct) := cell_of_heap N6.out 0
          have d1 : w6.cell? ⟨b7, 1, none⟩ = some (.int .i64 x.instr) := cell_of_heap N6.out 1
          have d2 : w6.cell? ⟨b7, 2, none⟩ = some (.int .i64 x.qty) := cell_of_heap N6.out 2
          have yc : w7.cell? ⟨b5, 5, none⟩ = some (.slice xa na ka) := F7.out.2.1
          have zc := F7.out.2.2
          clear hrow hrun ho hm hbk
          go_wp2_with (at_builtin; refine wpList_append_run rfl (.tmp 53) (.tmp 55) 26 rfl rfl rfl HRUN.out ?_)
          go_roundw
          case rel => exact ⟨k + 1, by have := LT_.out; omega, by go_num, _, _, rfl, NX⟩
          case measure => have := LT_.out; simp [intOf]; omega
        | false =>
          have NX := Lib.hid (show FB w w3.heap.size q2 b5 C L { VB with poss := v } { L with poss := (L.poss.take (k + 1)).filter fun p => f p.acct, orders := [] } w6 from by
            rw [filter_no (f := fun p : Pos => f p.acct) HX.out HR.out.symm]
            exact F6.out)
          go_wp2_with fail
          go_roundw
          case rel => exact ⟨k + 1, by have := LT_.out; omega, by go_num, _, _, rfl, NX⟩
          case measure => have := LT_.out; simp [intOf]; omega
      · have hlt' : ¬ (k : Int) < (nP : Int) := by omega
        obtain rfl : nP = k := by omega
        rw [List.take_of_length_le (by rw [← NP.out]; exact Nat.le_refl _)] at FZ
        obtain ⟨VP, hVP⟩ : ∃ v' : LedV, v' = { VB with poss := v } := ⟨_, rfl⟩
        have FY := Lib.hid (show FB w w3.heap.size q2 b5 C L VP { L with poss := (L.poss.filter fun p => f p.acct), orders := [] } W from by rw [hVP]; exact FZ.out)
        have VPO := Lib.hid (show VP.orders = VB.orders from by rw [hVP])
        clear FZ hVP
        have yP : W.cell? ⟨q2, 6, none⟩ = some (.slice aO nO cO) := FY.out.at_.cell 0 rfl 6 CO6.out
        go_wp2_with fail
        go_loopw [62] (fun i wr => ∃ k : Nat, k ≤ nO ∧ i = .int .i64 k ∧ ∃ v W, W = wr ∧ Hid (FB w w3.heap.size q2 b5 C L { VP with orders := v } { L with poss := (L.poss.filter fun p => f p.acct), orders := (L.orders.take k).filter fun p => f p.acct } W)) (fun i _ => nO - (intOf i).toNat)
        case atStart => exact ⟨0, Nat.zero_le _, rfl, _, _, rfl, Lib.hid (show FB w w3.heap.size q2 b5 C L { VP with orders := VP.orders } { L with poss := (L.poss.filter fun p => f p.acct), orders := (L.orders.take 0).filter fun p => f p.acct } W from by simpa using FY.out)⟩
        case round =>
          clear FY yP
          obtain ⟨k, hk, rfl, v, W, rfl, FZ⟩ := hrel
          by_cases hlt : k < nO
          · have hlt' : (k : Int) < (nO : Int) := by omega
            have LT_ := Lib.hid hlt
            obtain ⟨x, hx⟩ : ∃ x, L.orders[k]? = some x := ⟨_, List.getElem?_eq_getElem (by rw [← NO.out]; exact hlt)⟩
            have HX := Lib.hid hx
            have hok := HG.out.orders.all x (List.mem_of_getElem? hx)
            have XR := Lib.hid (show 0 ≤ x.acct ∧ x.acct < L.accts.length from by unfold Ord.Ok at hok; omega)
            obtain ⟨b, o, e, _, hc⟩ := (RO.out W FZ.out.at_.low).at_ hx
            subst e
            have c0 := hc 0 (.int .i64 x.acct) rfl
            have c1 := hc 1 (.int .i64 x.id) rfl
            have c2 := hc 2 (.int .i64 x.instr) rfl
            have c3 := hc 3 (.int .i64 x.qty) rfl
            have c4 := hc 4 (.int .i64 x.price) rfl
            simp only [Nat.add_zero] at c0
            clear hx hok hc
            go_upto_region 17 with (fail)
            obtain ⟨b7, hb7⟩ : ∃ n, n = W.heap.size := ⟨_, rfl⟩
            obtain ⟨W5, hW5⟩ : ∃ s, s = W.alloc (.cells #[.int .i64 x.acct, .int .i64 x.id, .int .i64 x.instr, .int .i64 x.qty, .int .i64 x.price] 46) := ⟨_, rfl⟩
            have N5 := Lib.hid (show W5.heap[b7]? = some (.cells #[.int .i64 x.acct, .int .i64 x.id, .int .i64 x.instr, .int .i64 x.qty, .int .i64 x.price] 46 (0, 0)) from by rw [hW5, hb7]; exact heap_alloc_new W _)
            have F5 := Lib.hid (show FB w w3.heap.size q2 b5 C L { VP with orders := v } { L with poss := (L.poss.filter fun p => f p.acct), orders := (L.orders.take k).filter fun p => f p.acct } W5 from by rw [hW5]; exact FZ.out.go ((Below.refl _ _).alloc (Nat.le_refl _) _))
            rw [← hW5, ← hb7]
            clear hW5 hb7 c0 c1 c2 c3 c4 FZ
            have d0 : W5.cell? ⟨b7, 0, none⟩ = some (.int .i64 x.acct) := cell_of_heap N5.out 0
            go_wp2_with (refine led_load (F5.out.at_.get 0 rfl) LC.out rfl rfl rfl ?_)
            refine (UN'.out W5 F5.out.at_.low x.acct XR.out).mono ?_
            rintro e w6 ⟨rfl, hb⟩
            have F6 := Lib.hid (F5.out.go hb)
            have N6 := Lib.hid (show w6.heap[b7]? = some (.cells #[.int .i64 x.acct, .int .i64 x.id, .int .i64 x.instr, .int .i64 x.qty, .int .i64 x.price] 46 (0, 0)) from (Mod.of_below hb).heap N5.out (fun h => h))
            clear hb d0 F5 N5
            obtain ⟨R, hR⟩ : ∃ R, R = f x.acct := ⟨_, rfl⟩
            rw [← hR]
            have HR := Lib.hid hR
            clear hR
            cases R with
            | true =>
              have hrow : OwnOf w6 w3.heap.size 46 5 Ord.cells v ((L.orders.take k).filter fun p => f p.acct) := F6.out.own.orders
              obtain ⟨xa, ka, hv, _⟩ := hrow.form
              obtain ⟨na, hna⟩ : ∃ n, n = ((L.orders.take k).filter fun p => f p.acct).length := ⟨_, rfl⟩
              have NAL := Lib.hid (show na ≤ 64 from by rw [hna]; have h1 := List.length_filter_le (fun p => f p.acct) (L.orders.take k); have h2 := HG.out.orders.len; rw [List.length_take] at h1; omega)
              rw [← hna] at hv
              have HNA := Lib.hid hna
              subst hv
              obtain ⟨v7, w7, hrun, ho, hm, hbk⟩ := app1_order w6 w3.heap.size (.slice xa na ka) _ hrow F6.out.rb x #[.int .i64 x.acct, .int .i64 x.id, .int .i64 x.instr, .int .i64 x.qty, .int .i64 x.price] rfl (by rw [← hna]; have := NAL.out; omega)
              clear hna
              have F7 := Lib.hid (F6.out.orders SZ.out.1 hm ho hbk)
              obtain ⟨x7, k7, hv7, _⟩ := ho.form
              rw [List.length_append, ← HNA.out] at hv7
              subst hv7
              have HRUN := Lib.hid hrun
              have NX := Lib.hid (show FB w w3.heap.size q2 b5 C L { VP with orders := .slice x7 (na + [x].length) k7 } { L with poss := (L.poss.filter fun p => f p.acct), orders := (L.orders.take (k + 1)).filter fun p => f p.acct } (w7.setCell ⟨b5, 6, none⟩ (.slice x7 (na + [x].length) k7)) from by
                rw [filter_yes (f := fun p : Ord => f p.acct) HX.out HR.out.symm]
                exact F7.out.1)
              have yq : w6.cell? ⟨b5, 6, none⟩ = some (.slice xa na ka) := F6.out.at_.cell 1 rfl 6 rfl
              have d0 : w6.cell? ⟨b7, 0, none⟩ = some (.int .i64 x.acct) := cell_of_heap N6.out 0
              have d1 : w6.cell? ⟨b7, 1, none⟩ = some (.int .i64 x.id) := cell_of_heap N6.out 1
              have d2 : w6.cell? ⟨b7, 2, none⟩ = some (.int .i64 x.instr) := cell_of_heap N6.out 2
              have d3 : w6.cell? ⟨b7, 3, none⟩ = some (.int .i64 x.qty) := cell_of_heap N6.out 3
              have d4 : w6.cell? ⟨b7, 4, none⟩ = some (.int .i64 x.price) := cell_of_heap N6.out 4
              have yc : w7.cell? ⟨b5, 6, none⟩ = some (.slice xa na ka) := F7.out.2.1
              have zc := F7.out.2.2
              clear hrow hrun ho hm hbk
              go_wp2_with (at_builtin; refine wpList_append_run rfl (.tmp 72) (.tmp 74) 27 rfl rfl rfl HRUN.out ?_)
              go_roundw
              case rel => exact ⟨k + 1, by have := LT_.out; omega, by go_num, _, _, rfl, NX⟩
              case measure => have := LT_.out; simp [intOf]; omega
            | false =>
              have NX := Lib.hid (show FB w w3.heap.size q2 b5 C L { VP with orders := v } { L with poss := (L.poss.filter fun p => f p.acct), orders := (L.orders.take (k + 1)).filter fun p => f p.acct } w6 from by
                rw [filter_no (f := fun p : Ord => f p.acct) HX.out HR.out.symm]
                exact F6.out)
              go_wp2_with fail
              go_roundw
              case rel => exact ⟨k + 1, by have := LT_.out; omega, by go_num, _, _, rfl, NX⟩
              case measure => have := LT_.out; simp [intOf]; omega
          · have hlt' : ¬ (k : Int) < (nO : Int) := by omega
            obtain rfl : nO = k := by omega
            rw [List.take_of_length_le (by rw [← NO.out]; exact Nat.le_refl _)] at FZ
            obtain ⟨VQ, hVQ⟩ : ∃ v' : LedV, v' = { VP with orders := v } := ⟨_, rfl⟩
            obtain ⟨LQ, hLQ⟩ : ∃ l : Led, l = { L with poss := (L.poss.filter fun p => f p.acct), orders := L.orders.filter fun p => f p.acct } := ⟨_, rfl⟩
            obtain ⟨CQ, hCQ⟩ : ∃ c, c = VQ.cells L := ⟨_, rfl⟩
            have XQ := Lib.hid (show At w W [(q2, 31, C), (b5, 31, CQ)] from by rw [hCQ, hVQ]; exact FZ.out.at_)
            have OQ := Lib.hid (show LedOwn W w3.heap.size VQ LQ from by rw [hVQ, hLQ]; exact FZ.out.own)
            have NQ := Lib.hid (show ∀ x ∈ [(q2, 31, C), (b5, 31, CQ)], VQ.NotIn x.1 from by
              intro x hx
              simp at hx
              rcases hx with rfl | rfl
              · rw [hVQ]; exact FZ.out.n1
              · rw [hVQ]; exact FZ.out.n2)
            have GQ := Lib.hid (show LQ.Good ∧ LQ.accts = L.accts ∧ LQ.day = L.day from by rw [hLQ]; exact ⟨HG.out.fewer List.filter_sublist List.filter_sublist, rfl, rfl⟩)
            have LQ4 := Lib.hid (show n4 = LQ.accts.length from by rw [GQ.out.2.1]; exact LN.out)
            have LCQ := Lib.hid (show LedC CQ from by rw [hCQ, show VQ.cells L = VQ.cells LQ from by unfold LedV.cells; rw [GQ.out.2.2]]; exact ledc OQ.out.led)
            obtain ⟨x4, k4, hx4⟩ : ∃ x4 k4, VQ.accts = .slice x4 n4 k4 := by
              obtain ⟨a, c, e⟩ := OQ.out.led.accts.form
              exact ⟨a, c, by rw [e, LQ4.out, OQ.out.same, List.length_map]⟩
            have F4 := Lib.hid hx4
            have CQ4 := Lib.hid (show CQ[4]? = some (.slice x4 n4 k4) from by rw [hCQ, ← hx4]; rfl)
            have EQ := Lib.hid (show CQ = VQ.cells LQ from by rw [hCQ]; unfold LedV.cells; rw [GQ.out.2.2])
            have HLQ := Lib.hid hLQ
            clear FZ hVQ hLQ hCQ hx4
            have y4 : W.cell? ⟨b5, 4, none⟩ = some (.slice x4 n4 k4) := XQ.out.cell 1 rfl 4 CQ4.out
            go_wp2_with fail
            go_loopw [81] (fun i wr => ∃ k : Nat, k ≤ n4 ∧ i = .int .i64 k ∧ ∃ W, W = wr ∧ Hid (ZAt w w3.heap.size [(q2, 31, C), (b5, 31, CQ)] VQ LQ (fun v => f (v : Int) = false) k W)) (fun i _ => n4 - (intOf i).toNat)
            case atStart => exact ⟨0, Nat.zero_le _, rfl, _, rfl, Lib.hid (ZAt.start XQ.out OQ.out)⟩
            case round =>
              clear y4 XQ OQ
              obtain ⟨k, hk, rfl, W, rfl, ZA⟩ := hrel
              by_cases hlt : k < n4
              · have hlt' : (k : Int) < (n4 : Int) := by omega
                have LT_ := Lib.hid hlt
                obtain ⟨a', ha'⟩ : ∃ a, LQ.accts[k]? = some a := ⟨_, List.getElem?_eq_getElem (by rw [← LQ4.out]; exact hlt)⟩
                have HA := Lib.hid ha'
                clear ha'
                go_wp2_with (refine led_load (ZA.out.at_.get 0 rfl) LC.out rfl rfl rfl ?_)
                refine (UN'.out W ZA.out.at_.low k ⟨by omega, by rw [← LN.out]; exact hlt'⟩).mono ?_
                rintro e w6 ⟨rfl, hb⟩
                have ZB := Lib.hid (ZA.out.go hb)
                clear hb ZA
                obtain ⟨R, hR⟩ : ∃ R, R = f (k : Int) := ⟨_, rfl⟩
                rw [← hR]
                have HR := Lib.hid hR
                clear hR
                cases R with
                | true =>
                  have ZQ := Lib.hid (ZB.out.skip (show ¬ f (k : Int) = false from by rw [← HR.out]; simp))
                  go_wp2_with fail
                  go_roundw
                  case rel => exact ⟨k + 1, by have := LT_.out; omega, by go_num, _, rfl, ZQ⟩
                  case measure => have := LT_.out; simp [intOf]; omega
                | false =>
                  have y4 : w6.cell? ⟨b5, 4, none⟩ = some (.slice x4 n4 k4) := ZB.out.at_.cell 1 rfl 4 CQ4.out
                  have Z0 := Lib.hid ZB.out.inn
                  obtain ⟨g, c, pa, pc, hv, yc⟩ := Z0.out.row HA.out
                  have hv2 := hv.symm.trans F4.out
                  obtain rfl : x4 = some ⟨g, 0, none⟩ := by injection hv2 with e _ _; exact e.symm
                  obtain ⟨m, hm⟩ : ∃ m, m = a'.cash.length := ⟨_, rfl⟩
                  have HM := Lib.hid hm
                  rw [← hm] at yc
                  have m6 : m ≤ 4 := by rw [hm]; exact (good_bulk GQ.out.1).2.1 a' (List.mem_of_getElem? HA.out)
                  clear hv hv2 hm ZB
                  go_wp2_with fail
                  clear y4 yc
                  go_loopw [96] (fun i wr => ∃ j : Nat, j ≤ m ∧ i = .int .i64 j ∧ ∃ W, W = wr ∧ Hid (ZIn w w3.heap.size [(q2, 31, C), (b5, 31, CQ)] VQ LQ (fun v => f (v : Int) = false) k j W)) (fun i _ => m - (intOf i).toNat)
                  case atStart => exact ⟨0, Nat.zero_le _, rfl, _, rfl, Z0⟩
                  case round =>
                    clear Z0
                    obtain ⟨j, hj, rfl, W, rfl, ZI⟩ := hrel
                    by_cases hjt : j < m
                    · have hjt' : (j : Int) < (m : Int) := by omega
                      have JT := Lib.hid hjt
                      obtain ⟨gp, pc2, y, z1, z2, z3, z4⟩ := ZI.out.put HA.out (by rw [← HM.out]; exact hjt) NQ.out SZ.out.1 F4.out
                      rw [← HM.out] at z1
                      have ZN := Lib.hid z4
                      have y4 : W.cell? ⟨b5, 4, none⟩ = some (.slice (some ⟨g, 0, none⟩) n4 k4) := ZI.out.at_.cell 1 rfl 4 CQ4.out
                      clear z4
                      go_wp2_with fail
                      go_roundw
                      case rel => exact ⟨j + 1, by have := JT.out; omega, by go_num, _, rfl, ZN⟩
                      case measure => have := JT.out; simp [intOf]; omega
                    · have hjt' : ¬ (j : Int) < (m : Int) := by omega
                      have ZQ := Lib.hid (show ZAt w w3.heap.size [(q2, 31, C), (b5, 31, CQ)] VQ LQ (fun v => f (v : Int) = false) (k + 1) W from ZI.out.out HA.out (by rw [← HM.out]; omega) HR.out.symm)
                      go_wp2_with fail
                      go_roundw
                      case rel => exact ⟨k + 1, by have := LT_.out; omega, by go_num, _, rfl, ZQ⟩
                      case measure => have := LT_.out; simp [intOf]; omega
              · have hlt' : ¬ (k : Int) < (n4 : Int) := by omega
                obtain rfl : n4 = k := by omega
                obtain ⟨ac, A, o, z, e⟩ := ZA.out.own
                have XB := Lib.hid ZA.out.at_
                obtain ⟨VZ, hVZ⟩ : ∃ v : LedV, v = { VQ with ac := ac } := ⟨_, rfl⟩
                obtain ⟨LZ, hLZ⟩ : ∃ l : Led, l = { LQ with accts := A } := ⟨_, rfl⟩
                have OZ := Lib.hid (show LedOwn W w3.heap.size VZ LZ from by rw [hVZ, hLZ]; exact o)
                have GZ := Lib.hid (show LZ.Good from by rw [hLZ]; exact z.good GQ.out.1 (by rw [← LQ4.out]; exact Nat.le_refl _))
                have EZ := Lib.hid (show CQ = VZ.cells LZ from by rw [EQ.out, hVZ, hLZ]; rfl)
                have nz : LQ.accts.length ≤ n4 := by rw [← LQ4.out]; exact Nat.le_refl _
                have EE := Lib.hid (show excessO LZ a = excessO L a from by
                  have hp : A.map (·.parent) = L.accts.map (·.parent) := by rw [z.map (·.parent) nz (fun a b h => h.parent), GQ.out.2.1]
                  have h1 := excessO_own (l := L) (ps := (L.poss.filter fun p => f p.acct)) (os := L.orders.filter fun p => f p.acct) («as» := A) (a := a) hp
                    (fun u s => lossPos_own (fun p : Pos => f p.acct) (fun p h => by rw [FF.out]; exact h) _ _)
                    (fun u s x => lossOrd_own (fun p : Ord => f p.acct) (fun p h => by rw [FF.out]; exact h) _ _)
                    (fun v hv => by
                      obtain ⟨v1, v2⟩ := mem_belowL.1 hv
                      have hvl : v < L.accts.length := by simpa [Led.parents] using v1
                      have hvl2 : v < A.length := by rw [z.len, GQ.out.2.1]; exact hvl
                      have hq : LQ.accts[v]? = some L.accts[v] := by rw [GQ.out.2.1]; exact List.getElem?_eq_getElem hvl
                      have := (z.all nz v _ _ hq (List.getElem?_eq_getElem hvl2)).2 (by
                        show ¬ f (v : Int) = false
                        rw [FF.out]
                        show ¬ underL L.parents a ((v : Int).toNat) = false
                        rw [Int.toNat_natCast]
                        unfold underL
                        simp [v2])
                      rw [List.getD_eq_getElem?_getD, List.getD_eq_getElem?_getD, List.getElem?_eq_getElem hvl2, List.getElem?_eq_getElem hvl, this])
                  rw [hLZ, HLQ.out]
                  exact h1)
                have LZ4 := Lib.hid (show LZ.accts.length = L.accts.length from by rw [hLZ]; show A.length = _; rw [z.len, GQ.out.2.1])
                clear o z e hVZ hLZ ZA
                have EX1 := Lib.hid (fun W hb => EX.out W hb HL.out)
                rw [ansA_in HG.out AIN.out] at EX1
                obtain ⟨r, hr⟩ : ∃ r, r = retA (excessO L ((a : Int).toNat)) := ⟨_, rfl⟩
                have HRr := Lib.hid hr
                rw [← hr] at EX1
                clear hr EX
                go_wp2_with (refine led_load (XB.out.get 0 rfl) LC.out rfl rfl rfl ?_)
                refine (EX1.out W XB.out.low).mono ?_
                rintro e w8 ⟨rfl, hb⟩
                have X8 := Lib.hid (XB.out.go hb)
                have O8 := Lib.hid (OZ.out.below hb)
                clear hb
                have EX2 := Lib.hid (mexcess_any w8 VZ LZ O8.out.led (by have := (good_bulk GZ.out).2.2; omega) (GR.out w8 X8.out.low) (a : Int))
                rw [ansA_in GZ.out (by rw [LZ4.out]; exact AIN.out), Int.toNat_natCast, EE.out] at EX2
                rw [Int.toNat_natCast] at HRr
                rw [← HRr.out] at EX2
                unfold LedV.val at EX2
                rw [← EZ.out] at EX2
                go_wp2_with (refine led_load (X8.out.get 1 rfl) LCQ.out rfl rfl rfl ?_)
                refine EX2.out.mono ?_
                rintro e w9 ⟨rfl, hb⟩
                have X9 := Lib.hid (X8.out.go hb)
                clear hb
                go_wp2_with fail
                go_ret
                refine ⟨ret_bool ?_, X9.out.low⟩
                first | rfl | simp
end Go.Proofs.YtcjbhgnlmmeeeaaGreatDoor

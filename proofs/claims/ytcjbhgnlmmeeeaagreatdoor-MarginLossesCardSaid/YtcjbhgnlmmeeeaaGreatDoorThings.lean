/- ledger.things, walked. -/
import Derived.Test.YtcjbhgnlmmeeeaaGreatDoorNamed
import Derived.Test.YtcjbhgnlmmeeeaaGreatDoorMgA
import Derived.Test.YtcjbhgnlmmeeeaaGreatDoorBook2
namespace Go.Proofs.YtcjbhgnlmmeeeaaGreatDoor
open Go.RowKit Go.Bw Go.Maps Go.Shelf
set_option linter.unusedVariables false
set_option linter.unusedSimpArgs false

theorem _root_.Go.Bw.RowOf.take {α : Type} {w : World} {n : Nat} {f : α → List Value} {a : Option Addr} {m c : Nat} {l : List α} (h : RowOf w n f (.slice a m c) l) (k : Nat) (hk : k ≤ l.length) : RowOf w n f (.slice a k c) (l.take k) := by
  obtain ⟨a', c', e, h1, h2, h3, h4⟩ := h.ex
  cases e
  have hl : (l.take k).length = k := by rw [List.length_take]; omega
  refine ⟨a, c, by rw [hl], by rw [hl]; omega, h2, h3, fun i x hi => ?_⟩
  have hik : i < k := by have := (List.getElem?_eq_some_iff.1 hi).1; omega
  rw [List.getElem?_take_of_lt hik] at hi
  exact h4 i x hi
theorem _root_.Go.Bw.ThingsOk.of {l : Led} (c0 : 1 ≤ l.curs.length) (c1 : l.curs.length ≤ 4) (u1 : l.unders.length ≤ 6) (i1 : l.instrs.length ≤ 12)
    (curs : ∀ (n : Nat) c, n < l.curs.length → l.curs[n]? = some c → c.Ok n)
    (unders : ∀ (n : Nat) u, n < l.unders.length → l.unders[n]? = some u → u.Ok l.curs.length)
    (names : ∀ (n k : Nat) u v, n < l.unders.length → k < n → l.unders[n]? = some u → l.unders[k]? = some v → v.name ≠ u.name)
    (instrs : ∀ i ∈ l.instrs, i.Ok l.unders.length) : ThingsOk l :=
  ⟨c0, c1, u1, i1, fun n c h => curs n c (List.getElem?_eq_some_iff.1 h).1 h, fun n c h => unders n c (List.getElem?_eq_some_iff.1 h).1 h,
    fun n k u v h hu hv => names n k u v (List.getElem?_eq_some_iff.1 hu).1 h hu hv, instrs⟩
theorem named_yes {l : List Und} {k : Nat} {x : Und} (h : 0 ≤ idxL (fun u : Und => u.name.toList == x.name.toList) (l.take k)) : ∃ j v, j < k ∧ l[j]? = some v ∧ v.name = x.name := by
  have h1 := (idxL_any (fun u : Und => u.name.toList == x.name.toList) (l.take k)).symm.trans (decide_eq_true h)
  obtain ⟨v, hv, he⟩ := List.any_eq_true.1 h1
  obtain ⟨j, hj, e⟩ := List.mem_iff_getElem.1 hv
  have hj' : j < k := by rw [List.length_take] at hj; omega
  refine ⟨j, v, hj', ?_, (toList_beq _ _).1 he⟩
  have := List.getElem?_eq_getElem hj
  rw [e, List.getElem?_take_of_lt hj'] at this
  exact this
theorem named_no {l : List Und} {k : Nat} {x : Und} (h : ¬ 0 ≤ idxL (fun u : Und => u.name.toList == x.name.toList) (l.take k)) : ∀ j v, j < k → l[j]? = some v → v.name ≠ x.name := by
  intro j v hj hv he
  apply h
  have h1 := idxL_any (fun u : Und => u.name.toList == x.name.toList) (l.take k)
  apply of_decide_eq_true
  rw [h1, List.any_eq_true]
  exact ⟨v, List.mem_of_getElem? (by rw [List.getElem?_take_of_lt hj]; exact hv), (toList_beq _ _).2 he⟩

open Classical in
set_option maxRecDepth 100000 in
set_option maxHeartbeats 4000000 in
theorem things_any (w : World) (V : LedV) (L : Led) (h : LedAt w V L) :
    Calls Tryz.prog 53 #[V.val L] w fun e w' => e = .returned (.bool (decide (ThingsOk L))) ∧ Below w.heap.size w w' := by
  obtain ⟨a1, c1', a2, c2', a3, c3', a4, c4', a5, c5', a6, c6', a7, c7', a8, c8', asl, rfl⟩ := h.forms
  simp only [LedV.val, LedV.cells]
  have HC := Lib.hid (show RowOf w 2 Cur.cells (.slice a1 L.curs.length c1') L.curs from h.curs)
  have HU := Lib.hid (show RowOf w 4 Und.cells (.slice a2 L.unders.length c2') L.unders from h.unders)
  have HI := Lib.hid (show RowOf w 7 Ins.cells (.slice a3 L.instrs.length c3') L.instrs from h.instrs)
  have HN := Lib.hid h.names
  obtain ⟨R, hRr⟩ : ∃ R, R = decide (ThingsOk L) := ⟨_, rfl⟩
  rw [← hRr]
  have EQ := Lib.hid hRr
  obtain ⟨C, hC⟩ : ∃ C, C = L.curs.length := ⟨_, rfl⟩
  obtain ⟨U, hU⟩ : ∃ U, U = L.unders.length := ⟨_, rfl⟩
  obtain ⟨I, hI⟩ : ∃ I, I = L.instrs.length := ⟨_, rfl⟩
  have LC := Lib.hid hC
  have LU := Lib.hid hU
  have LI := Lib.hid hI
  have capC : C ≤ 9223372036854775807 := by have := HC.out.caps; unfold maxLen at this; omega
  have capU : U ≤ 9223372036854775807 := by have := HU.out.caps; unfold maxLen at this; omega
  have capI : I ≤ 9223372036854775807 := by have := HI.out.caps; unfold maxLen at this; omega
  rw [← hC, ← hU, ← hI]
  rw [← hC] at HC
  rw [← hU] at HU
  rw [← hI] at HI
  obtain ⟨CS, hCS⟩ : ∃ CS : Array Value, CS = #[.int .i64 L.day, .slice a1 C c1', .slice a2 U c2', .slice a3 I c3', .slice a4 asl.length c4', .slice a5 L.poss.length c5', .slice a6 L.orders.length c6', .slice a7 L.avail.length c7', .slice a8 L.locs.length c8'] := ⟨_, rfl⟩
  have BX := Lib.hid (show ∃ W, W = w.alloc (.cells #[.int .i64 L.day, .slice a1 C c1', .slice a2 U c2', .slice a3 I c3', .slice a4 asl.length c4', .slice a5 L.poss.length c5', .slice a6 L.orders.length c6', .slice a7 L.avail.length c7', .slice a8 L.locs.length c8'] 31) ∧ Below w.heap.size w W ∧ BoxAt W w.heap.size CS from
    ⟨_, rfl, (Below.refl _ _).alloc (Nat.le_refl _) _, by rw [hCS]; exact BoxAt.new w _ _⟩)
  have ECS := Lib.hid hCS
  clear h hRr hC hU hI hCS
  by_cases g1 : (C : Int) < 1
  · have FL := Lib.hid (EQ.out.trans (decide_eq_false (fun h => by have := h.c0; have := LC.out; omega)))
    go_enter Tryz.func53, Tryz.ntmps53
    go_wp2_with fail
    go_ret
    exact ⟨ret_bool FL.out.symm, (Below.refl _ _).alloc (Nat.le_refl _) _⟩
  by_cases g2 : 4 < (C : Int)
  · have FL := Lib.hid (EQ.out.trans (decide_eq_false (fun h => by have := h.c1; have := LC.out; omega)))
    go_enter Tryz.func53, Tryz.ntmps53
    go_wp2_with fail
    go_ret
    exact ⟨ret_bool FL.out.symm, (Below.refl _ _).alloc (Nat.le_refl _) _⟩
  by_cases g3 : 6 < (U : Int)
  · have FL := Lib.hid (EQ.out.trans (decide_eq_false (fun h => by have := h.u1; have := LU.out; omega)))
    go_enter Tryz.func53, Tryz.ntmps53
    go_wp2_with fail
    go_ret
    exact ⟨ret_bool FL.out.symm, (Below.refl _ _).alloc (Nat.le_refl _) _⟩
  by_cases g4 : 12 < (I : Int)
  · have FL := Lib.hid (EQ.out.trans (decide_eq_false (fun h => by have := h.i1; have := LI.out; omega)))
    go_enter Tryz.func53, Tryz.ntmps53
    go_wp2_with fail
    go_ret
    exact ⟨ret_bool FL.out.symm, (Below.refl _ _).alloc (Nat.le_refl _) _⟩
  have OK1 := Lib.hid (show 1 ≤ L.curs.length ∧ L.curs.length ≤ 4 ∧ L.unders.length ≤ 6 ∧ L.instrs.length ≤ 12 from by have := LC.out; have := LU.out; have := LI.out; omega)
  go_enter Tryz.func53, Tryz.ntmps53
  go_wp2_with fail
  clear g1 g3 g4
  obtain ⟨W, hW, hb, hbx⟩ := BX.out
  rw [← hW]
  have BW := Lib.hid hb
  have XW := Lib.hid hbx
  clear hW hb hbx BX
  go_loopw [32] (fun i wr => ∃ k : Nat, k ≤ C ∧ i = .int .i64 k ∧ Hid (∀ (j : Nat) x, j < k → L.curs[j]? = some x → x.Ok j) ∧ Below W.heap.size W wr) (fun i _ => C - (intOf i).toNat)
  case atStart => exact ⟨0, Nat.zero_le _, rfl, Lib.hid (fun j x hj => by omega), Below.refl _ _⟩
  case round =>
    obtain ⟨k, hk, rfl, INV, hb⟩ := hrel
    have B1 := Lib.hid hb
    clear hb
    by_cases hlt : k < C
    · obtain ⟨x, hx⟩ : ∃ x, L.curs[k]? = some x := ⟨_, List.getElem?_eq_getElem (by have := LC.out; omega)⟩
      obtain ⟨b, o, rfl, hbl, hc⟩ := ((HC.out.below BW.out).below B1.out).at_ hx
      have c0 := hc 0 (.int .i64 x.rate) rfl
      have c1 := hc 1 (.int .i64 x.hair) rfl
      rw [Nat.add_zero] at c0
      have hlt' : (k : Int) < (C : Int) := by omega
      have HX := Lib.hid hx
      have LT := Lib.hid hlt
      have CU := Lib.hid (cur_any x k (by omega) (wr.alloc (.cells #[.int .i64 x.rate, .int .i64 x.hair] 69)))
      have B2 := Lib.hid (B1.out.alloc B1.out.size (.cells #[.int .i64 x.rate, .int .i64 x.hair] 69))
      have c0' := ((Mod.refl (fun _ => False) wr).alloc (.cells #[.int .i64 x.rate, .int .i64 x.hair] 69))
      clear c0' hx hc
      cases hq : decide (x.Ok k) with
      | false =>
        have FL := Lib.hid (EQ.out.trans (decide_eq_false (fun h => (of_decide_eq_false hq) (h.curs k x HX.out))))
        rw [hq] at CU
        clear hq
        go_wp2_with fail
        refine CU.out.mono ?_
        rintro e w' ⟨rfl, hb⟩
        have B3 := Lib.hid (BW.out.trans ((B2.out.trans (hb.mono B2.out.size)).mono BW.out.size))
        clear hb
        go_wp2_with fail
        go_ret
        exact ⟨ret_bool FL.out.symm, B3.out⟩
      | true =>
        have HQ := Lib.hid (of_decide_eq_true hq)
        rw [hq] at CU
        clear hq
        go_wp2_with fail
        refine CU.out.mono ?_
        rintro e w' ⟨rfl, hb⟩
        have B3 := Lib.hid (B2.out.trans (hb.mono B2.out.size))
        clear hb
        go_wp2_with fail
        go_roundw
        case rel => exact ⟨k + 1, by have := LT.out; omega, by go_num, Lib.hid (fun j z hj hz => by
          by_cases e : j = k
          · subst e; have h1 := HX.out; rw [hz] at h1; cases h1; exact HQ.out
          · exact INV.out j z (by omega) hz), B3.out⟩
        case measure => have := LT.out; simp [intOf]; omega
    · have hlt' : ¬ (k : Int) < (C : Int) := by omega
      have CUR := Lib.hid (show ∀ (j : Nat) x, j < L.curs.length → L.curs[j]? = some x → x.Ok j from fun j x hj hx => INV.out j x (by have := LC.out; omega) hx)
      have XR := Lib.hid (XW.out.below B1.out)
      have m1 : wr.cell? ⟨w.heap.size, 1, none⟩ = some (.slice a1 C c1') := XR.out.at_ 1 _ (by rw [ECS.out]; rfl)
      have m2 : wr.cell? ⟨w.heap.size, 2, none⟩ = some (.slice a2 U c2') := XR.out.at_ 2 _ (by rw [ECS.out]; rfl)
      have BR := Lib.hid (BW.out.trans (B1.out.mono BW.out.size))
      clear hk hlt INV
      go_wp2_with fail
      clear m1 m2
      obtain ⟨V1, hV1⟩ : ∃ V1, V1 = wr := ⟨_, rfl⟩
      rw [← hV1] at BR XR B1 ⊢
      clear hV1
      go_loopw [45] (fun i wr => ∃ k : Nat, k ≤ U ∧ i = .int .i64 k ∧ Hid ((∀ (j : Nat) x, j < k → L.unders[j]? = some x → x.Ok C) ∧ (∀ (n m : Nat) u v, n < k → m < n → L.unders[n]? = some u → L.unders[m]? = some v → v.name ≠ u.name)) ∧ Below V1.heap.size V1 wr) (fun i _ => U - (intOf i).toNat)
      case atStart => exact ⟨0, Nat.zero_le _, rfl, Lib.hid ⟨fun j x hj => by omega, fun n m u v hn => by omega⟩, Below.refl _ _⟩
      case round =>
        obtain ⟨k, hk, rfl, INV, hb⟩ := hrel
        have B2 := Lib.hid hb
        have B3 := Lib.hid (BR.out.trans (hb.mono BR.out.size))
        have XV := Lib.hid (XR.out.below hb)
        clear hb
        by_cases hlt : k < U
        · obtain ⟨x, hx⟩ : ∃ x, L.unders[k]? = some x := ⟨_, List.getElem?_eq_getElem (by have := LU.out; omega)⟩
          have ROW := Lib.hid (HU.out.below B3.out)
          obtain ⟨b, o, rfl, hbl, hc⟩ := ROW.out.at_ hx
          have c0 := hc 0 (.string x.name) rfl
          have c1 := hc 1 (.int .i64 x.cur) rfl
          have c2 := hc 2 (.int .i64 x.price) rfl
          have c3 := hc 3 (.int .i64 x.vol) rfl
          rw [Nat.add_zero] at c0
          have hlt' : (k : Int) < (U : Int) := by omega
          have HX := Lib.hid hx
          have LT := Lib.hid hlt
          have HS := Lib.hid (HN.out x (List.mem_of_getElem? hx))
          have AX := Lib.hid (show ∃ X, X = wr.alloc (.cells #[.string x.name, .int .i64 x.cur, .int .i64 x.price, .int .i64 x.vol] 60) ∧ Below wr.heap.size wr X ∧ BoxAt X wr.heap.size #[.string x.name, .int .i64 x.cur, .int .i64 x.price, .int .i64 x.vol] from
            ⟨_, rfl, (Below.refl _ _).alloc (Nat.le_refl _) _, BoxAt.new wr _ _⟩)
          clear hx hc
          go_wp2_with fail
          clear c0 c1 c2 c3 hlt hlt' hk
          obtain ⟨X, hX, hbX, hbx⟩ := AX.out
          rw [← hX]
          have BX2 := Lib.hid hbX
          have xc0 := Lib.hid (show ∀ z : Cls (Below X.heap.size X), z.w.cell? _ = some _ from fun z => (hbx.below z.ok).at_ 0 (.string x.name) rfl)
          have xc1 := Lib.hid (show ∀ z : Cls (Below X.heap.size X), z.w.cell? _ = some _ from fun z => (hbx.below z.ok).at_ 1 (.int .i64 x.cur) rfl)
          have xc2 := Lib.hid (show ∀ z : Cls (Below X.heap.size X), z.w.cell? _ = some _ from fun z => (hbx.below z.ok).at_ 2 (.int .i64 x.price) rfl)
          have xc3 := Lib.hid (show ∀ z : Cls (Below X.heap.size X), z.w.cell? _ = some _ from fun z => (hbx.below z.ok).at_ 3 (.int .i64 x.vol) rfl)
          have lc1 := Lib.hid (show ∀ z : Cls (Below X.heap.size X), z.w.cell? _ = some _ from fun z => ((XV.out.below hbX).below z.ok).at_ 1 (.slice a1 C c1') (by rw [ECS.out]; rfl))
          have lc2 := Lib.hid (show ∀ z : Cls (Below X.heap.size X), z.w.cell? _ = some _ from fun z => ((XV.out.below hbX).below z.ok).at_ 2 (.slice (some ⟨b, o, none⟩) U c2') (by rw [ECS.out]; rfl))
          have C1 := Lib.hid (show ∀ z : Cls (Below X.heap.size X), Calls Tryz.prog 94 #[.agg #[.string x.name, .int .i64 x.cur, .int .i64 x.price, .int .i64 x.vol], .int .i64 (C : Nat)] z.w fun e w' => e = .returned (.bool (decide (x.Ok C))) ∧ ∃ u : Cls (Below X.heap.size X), w' = u.w from fun z =>
            (und_any x C (by have := OK1.out; have := LC.out; omega) HS.out z.w).mono fun e w' h => ⟨h.1, ⟨w', z.ok.trans (h.2.mono z.ok.size)⟩, rfl⟩)
          have C2 := Lib.hid (show ∀ z : Cls (Below X.heap.size X), Calls Tryz.prog 95 #[.slice (some ⟨b, o, none⟩) k c2', .string x.name] z.w fun e w' => e = .returned (.int .i64 (idxL (fun u : Und => u.name.toList == x.name.toList) (L.unders.take k))) ∧ ∃ u : Cls (Below X.heap.size X), w' = u.w from fun z =>
            (named_any z.w _ (L.unders.take k) x.name (((ROW.out.below hbX).below z.ok).take k (by have := LU.out; have := LT.out; omega))).mono fun e w' h => ⟨h.1, ⟨w', z.ok.trans (h.2.mono z.ok.size)⟩, rfl⟩)
          obtain ⟨i, hi⟩ : ∃ i, i = idxL (fun u : Und => u.name.toList == x.name.toList) (L.unders.take k) := ⟨_, rfl⟩
          rw [← hi] at C2
          have EI := Lib.hid hi
          clear hX hbX hbx hi
          have k0 : (0 : Int) ≤ (k : Int) := by omega
          have k1 : (k : Int) ≤ (c2' : Int) := by have := ROW.out.caps; have := LT.out; omega
          have k2 : (k : Int) ≤ (U : Int) := by have := LT.out; omega
          have k3 : (k : Int) ≤ 6 := by have := LT.out; have := OK1.out; have := LU.out; omega
          cases hq : decide (x.Ok C) with
          | false =>
            have FL := Lib.hid (EQ.out.trans (decide_eq_false (fun h => (of_decide_eq_false hq) (by have := h.unders k x HX.out; rw [LC.out]; exact this))))
            rw [hq] at C1
            clear hq
            refine wp_region_cls (C := Below X.heap.size X) (by kernel_rfl) (by kernel_rfl) ⟨rfl, rfl, rfl, Nat.le_refl _, fun _ _ => rfl⟩ (fun _ => ?_)
            have gx0 := xc0.out
            have gx1 := xc1.out
            have gx2 := xc2.out
            have gx3 := xc3.out
            have gl1 := lc1.out
            have gl2 := lc2.out
            repeat (go_big_quiet_step (exact C1.out _))
            refine wpQuiet_nil ?_
            intro w2 hC
            clear gx0 gx1 gx2 gx3 gl1 gl2
            have B4 := Lib.hid (B3.out.trans ((BX2.out.trans (hC.mono BX2.out.size)).mono B3.out.size))
            clear hC
            go_wp2_with fail
            go_ret
            exact ⟨ret_bool FL.out.symm, B4.out⟩
          | true =>
            have HQ := Lib.hid (of_decide_eq_true hq)
            rw [hq] at C1
            clear hq
            by_cases hneg : 0 ≤ i
            · have FL := Lib.hid (EQ.out.trans (decide_eq_false (fun h => by
                rw [EI.out] at hneg
                obtain ⟨j, v, hj, hv, he⟩ := named_yes hneg
                exact h.names k j x v hj HX.out hv he)))
              refine wp_region_cls (C := Below X.heap.size X) (by kernel_rfl) (by kernel_rfl) ⟨rfl, rfl, rfl, Nat.le_refl _, fun _ _ => rfl⟩ (fun _ => ?_)
              have gx0 := xc0.out
              have gx1 := xc1.out
              have gx2 := xc2.out
              have gx3 := xc3.out
              have gl1 := lc1.out
              have gl2 := lc2.out
              repeat (go_big_quiet_step (first | exact C1.out _ | exact C2.out _))
              refine wpQuiet_nil ?_
              intro w2 hC
              clear gx0 gx1 gx2 gx3 gl1 gl2
              have B4 := Lib.hid (B3.out.trans ((BX2.out.trans (hC.mono BX2.out.size)).mono B3.out.size))
              clear hC
              go_wp2_with fail
              go_ret
              exact ⟨ret_bool FL.out.symm, B4.out⟩
            · have NO := Lib.hid (show ∀ j v, j < k → L.unders[j]? = some v → v.name ≠ x.name from by rw [EI.out] at hneg; exact named_no hneg)
              refine wp_region_cls (C := Below X.heap.size X) (by kernel_rfl) (by kernel_rfl) ⟨rfl, rfl, rfl, Nat.le_refl _, fun _ _ => rfl⟩ (fun _ => ?_)
              have gx0 := xc0.out
              have gx1 := xc1.out
              have gx2 := xc2.out
              have gx3 := xc3.out
              have gl1 := lc1.out
              have gl2 := lc2.out
              repeat (go_big_quiet_step (first | exact C1.out _ | exact C2.out _))
              refine wpQuiet_nil ?_
              intro w2 hC
              clear gx0 gx1 gx2 gx3 gl1 gl2
              have B4 := Lib.hid (B2.out.trans ((BX2.out.trans (hC.mono BX2.out.size)).mono B2.out.size))
              clear hC
              go_wp2_with fail
              go_roundw
              case rel => exact ⟨k + 1, by have := LT.out; omega, by go_num, Lib.hid ⟨fun j z hj hz => by
                by_cases e : j = k
                · subst e; have h1 := HX.out; rw [hz] at h1; cases h1; exact HQ.out
                · exact INV.out.1 j z (by omega) hz, fun n m u v hn hm hu hv => by
                by_cases e : n = k
                · subst e; have h1 := HX.out; rw [hu] at h1; cases h1; exact NO.out m v hm hv
                · exact INV.out.2 n m u v (by omega) hm hu hv⟩, B4.out⟩
              case measure => have := LT.out; simp [intOf]; omega
        · have hlt' : ¬ (k : Int) < (U : Int) := by omega
          have m3 : wr.cell? ⟨w.heap.size, 3, none⟩ = some (.slice a3 I c3') := XV.out.at_ 3 _ (by rw [ECS.out]; rfl)
          have ALL := Lib.hid (show (∀ (n : Nat) u, n < L.unders.length → L.unders[n]? = some u → u.Ok L.curs.length) ∧ (∀ (n k : Nat) u v, n < L.unders.length → k < n → L.unders[n]? = some u → L.unders[k]? = some v → v.name ≠ u.name) from by
            have e1 := LC.out
            have e2 := LU.out
            rw [← e1]
            exact ⟨fun n u hn hu => INV.out.1 n u (by omega) hu, fun n m u v hn hm hu hv => INV.out.2 n m u v (by omega) hm hu hv⟩)
          have CF := Lib.hid (containsFunc_instr wr _ L.instrs 97 #[.pointer (some ⟨w.heap.size, 0, none⟩)] (fun x => !decide (x.Ok U)) (enters_of Tryz.func97 (by kernel_rfl) rfl) (HI.out.below B3.out) (fun W' x hb' _ =>
            things1_any W' x U (by have := OK1.out; have := LU.out; omega) w.heap.size a2 c2' ((XV.out.below hb').at_ 2 _ (by rw [ECS.out]; rfl))))
          clear hlt hk INV
          cases ha : (L.instrs.any fun x => !decide (x.Ok U)) with
          | true =>
            rw [ha] at CF
            have FL := Lib.hid (EQ.out.trans (decide_eq_false (fun h => by
              obtain ⟨x, hx, hp⟩ := any_not_true _ _ ha
              exact (of_decide_eq_false hp) (by have := h.instrs x hx; rw [LU.out]; exact this))))
            clear ha
            go_wp2_with fail
            refine CF.out.mono ?_
            rintro e w3 ⟨rfl, hb3⟩
            have B4 := Lib.hid (B3.out.trans (hb3.mono B3.out.size))
            clear hb3
            go_wp2_with fail
            go_ret
            exact ⟨ret_bool FL.out.symm, B4.out⟩
          | false =>
            rw [ha] at CF
            have FL := Lib.hid (EQ.out.trans (decide_eq_true (ThingsOk.of OK1.out.1 OK1.out.2.1 OK1.out.2.2.1 OK1.out.2.2.2 CUR.out ALL.out.1 ALL.out.2 (fun x hx => by
              have := of_decide_eq_true ((any_not _ _).1 ha x hx)
              rw [LU.out] at this; exact this))))
            clear ha
            go_wp2_with fail
            refine CF.out.mono ?_
            rintro e w3 ⟨rfl, hb3⟩
            have B4 := Lib.hid (B3.out.trans (hb3.mono B3.out.size))
            clear hb3
            go_wp2_with fail
            go_ret
            exact ⟨ret_bool FL.out.symm, B4.out⟩
end Go.Proofs.YtcjbhgnlmmeeeaaGreatDoor

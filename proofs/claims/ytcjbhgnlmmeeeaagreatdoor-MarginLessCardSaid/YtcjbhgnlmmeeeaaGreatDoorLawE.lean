/- MarginLess, walked (printed by tools/gen_lawl.py). -/
import Derived.Test.YtcjbhgnlmmeeeaaGreatDoorGk
import Derived.Test.YtcjbhgnlmmeeeaaGreatDoorLedS
import Derived.Test.YtcjbhgnlmmeeeaaGreatDoorAppP
import Derived.Test.YtcjbhgnlmmeeeaaGreatDoorGh
import Derived.Test.YtcjbhgnlmmeeeaaGreatDoorGb
import Derived.Test.YtcjbhgnlmmeeeaaGreatDoorGa
namespace Go.Proofs.YtcjbhgnlmmeeeaaGreatDoor
open Go.RowKit Go.Bw Go.Maps Go.Shelf Go.Bw.Fall
set_option linter.unusedVariables false
set_option linter.unusedSimpArgs false
theorem _root_.Go.Bw.RowOf.drop {α : Type} {w : World} {n : Nat} {f : α → List Value} {b o m c : Nat} {l : List α} (h : RowOf w n f (.slice (some ⟨b, o, none⟩) m c) l) {k : Nat} (hk : k ≤ l.length) : RowOf w n f (.slice (if c = k then some ⟨b, o, none⟩ else some ⟨b, o + k * n, none⟩) (m - k) (c - k)) (l.drop k) := by
  obtain ⟨a, c', e, h1, h2, h3, h4⟩ := h.ex
  cases e
  refine ⟨if c = k then some ⟨b, o, none⟩ else some ⟨b, o + k * n, none⟩, c - k, by rw [List.length_drop], by rw [List.length_drop]; omega, by omega, fun e => ?_, fun i x hi => ?_⟩
  · by_cases hck : c = k
    · rw [if_pos hck] at e; cases e
    · rw [if_neg hck] at e; cases e
  rw [List.getElem?_drop] at hi
  have hl := (List.getElem?_eq_some_iff.1 hi).1
  obtain ⟨b', o', e', hb, hc⟩ := h4 (k + i) x hi
  cases e'
  have hck : ¬ c = k := by omega
  rw [if_neg hck]
  refine ⟨b, o + k * n, rfl, hb, fun j u hj => ?_⟩
  have := hc j u hj
  rwa [Nat.add_mul, ← Nat.add_assoc] at this
set_option maxRecDepth 100000 in
set_option maxHeartbeats 16000000 in
theorem less_law (w : World) (V : LedV) (L : Led) (h : LedAt w V L) (hs : L.Short) (hG : Grd w) (acct p0 p1 : Int) (hp0 : -9223372036854775808 ≤ p0 ∧ p0 ≤ 9223372036854775807) (hp1 : -9223372036854775808 ≤ p1 ∧ p1 ≤ 9223372036854775807) :
    Calls Tryz.prog 6 #[V.val L, .int .i64 acct, .agg #[.int .i64 p0, .int .i64 p1]] w fun e w' => e = .returned (.bool true) ∧ Below w.heap.size w w' := by
  classical
  have GR := Lib.hid (fun W (hb : Below w.heap.size w W) => hG.below hb)
  have WK := Lib.hid (fun W (hb : Below w.heap.size w W) => wakes_any W (hG.below hb))
  have WD := Lib.hid (fun W (hb : Below w.heap.size w W) => wide_any W V L (h.below hb) hs)
  have GD := Lib.hid (show ∀ W, Below w.heap.size w W → L.accts.length ≤ 1024 → ∀ B : Bool, decide L.Good = B → Calls Tryz.prog 22 #[V.val L] W fun e w' => e = .returned (.bool B) ∧ Below W.heap.size W w' from fun W hb hL B hB => good_to (h.below hb) hL hB)
  have CP := Lib.hid (fun W (hb : Below w.heap.size w W) (hg : L.Good) => copy_any W V L (h.below hb) (good_bulk hg).1 (fun a ha => by have := (good_bulk hg).2.1 a ha; omega))
  have NE := Lib.hid (fun W (hb : Below w.heap.size w W) (hL : L.accts.length ≤ 1024) => mneed_any W V L (h.below hb) hL (hG.below hb) acct)
  have HV := Lib.hid (fun W (hb : Below w.heap.size w W) (hL : L.accts.length ≤ 1024) => mhave_any W V L (h.below hb) hL (hG.below hb) acct)
  have LC := Lib.hid (ledc h)
  have P0 := Lib.hid hp0
  have P1 := Lib.hid hp1
  obtain ⟨a4, c4, hc4⟩ := cells4 h
  obtain ⟨aO, cO, hO⟩ := h.orders.form
  have RO := Lib.hid (fun W (hb : Below w.heap.size w W) => (h.below hb).orders)
  rw [hO] at RO
  unfold LedV.val at WD GD CP NE HV ⊢
  obtain ⟨C, hC⟩ : ∃ C, C = V.cells L := ⟨_, rfl⟩
  obtain ⟨nO, hnO⟩ : ∃ n, n = L.orders.length := ⟨_, rfl⟩
  rw [← hnO] at hO RO
  have CO6 := Lib.hid (show C[6]? = some (.slice aO nO cO) from by rw [hC, ← hO]; rfl)
  have NO := Lib.hid hnO
  rw [← hC] at WD GD CP NE HV LC hc4 ⊢
  obtain ⟨n4, hn4⟩ : ∃ n, n = L.accts.length := ⟨_, rfl⟩
  rw [← hn4] at hc4
  have LN := Lib.hid hn4
  have C4 := Lib.hid hc4
  have BK := Lib.hid (show ¬ 1024 < L.bulk → L.accts.length ≤ 1024 from fun hb => by unfold Led.bulk at hb; omega)
  have A0 := Lib.hid (((At.start w).alloc 31 C).alloc 49 #[.int .i64 p0, .int .i64 p1])
  obtain ⟨BB, hBB⟩ : ∃ B, B = decide (1024 < L.bulk) := ⟨_, rfl⟩
  rw [← hBB] at WD
  have HB := Lib.hid hBB
  clear h hs hG hC hBB hn4 hc4 hO hnO hp0 hp1
  go_enter Tryz.func6, Tryz.ntmps6
  go_upto_region 1 with (fail)
  obtain ⟨W0, hW0⟩ : ∃ s, s = (w.alloc (.cells C 31)).alloc (.cells #[.int .i64 p0, .int .i64 p1] 49) := ⟨_, rfl⟩
  obtain ⟨q2, hq2⟩ : ∃ n, n = w.heap.size := ⟨_, rfl⟩
  obtain ⟨q3, hq3⟩ : ∃ n, n = w.heap.size + 1 := ⟨_, rfl⟩
  have X0 := Lib.hid (show At w W0 [(q2, 31, C), (q3, 49, #[.int .i64 p0, .int .i64 p1])] from by
    have h := A0.out
    simp at h
    rw [hW0, hq2, hq3]; exact h)
  rw [← hW0, ← hq3, ← hq2]
  clear A0 hW0 hq2 hq3
  go_wp2_with fail
  refine (WK.out W0 X0.out.low).mono ?_
  rintro e w1 ⟨rfl, hb⟩
  have X1 := Lib.hid (X0.out.go hb)
  clear hb
  go_wp2_with (refine led_load (X1.out.get 0 rfl) LC.out rfl rfl rfl ?_)
  refine (WD.out w1 X1.out.low).mono ?_
  rintro e w2 ⟨rfl, hb⟩
  have X2 := Lib.hid (X1.out.go hb)
  clear hb
  cases hbb : BB with
  | true =>
    subst hbb
    go_wp2_with fail
    go_ret
    exact ⟨rfl, X2.out.low⟩
  | false =>
    subst hbb
    have hL := BK.out (of_decide_eq_false HB.out.symm)
    have HL := Lib.hid hL
    by_cases hg : L.Good
    rotate_left
    · have hgd := decide_eq_false hg
      go_wp2_with (refine led_loadg (X2.out.get 0 rfl) LC.out (by rfl) rfl rfl ?_)
      refine (GD.out w2 X2.out.low hL false hgd).mono ?_
      rintro e w3 ⟨rfl, hb⟩
      have X3 := Lib.hid (X2.out.go hb)
      clear hb hg hgd
      go_wp2_with fail
      go_ret
      exact ⟨rfl, X3.out.low⟩
    have HG := Lib.hid hg
    have m4 : n4 ≤ 16 := by rw [LN.out]; exact (good_bulk hg).2.2
    have mO : nO ≤ 32 := by rw [NO.out]; exact hg.orders.len
    clear hg
    go_wp2_with (refine led_loadg (X2.out.get 0 rfl) LC.out (by rfl) rfl rfl ?_)
    refine (GD.out w2 X2.out.low hL true (decide_eq_true HG.out)).mono ?_
    rintro e w3 ⟨rfl, hb⟩
    have X3 := Lib.hid (X2.out.go hb)
    clear hb hL
    by_cases ho : acct < 0 ∨ (n4 : Int) ≤ acct
    · have NE' := Lib.hid (fun W hb => NE.out W hb HL.out)
      have HV' := Lib.hid (fun W hb => HV.out W hb HL.out)
      rw [ansA_out HG.out (by rw [← LN.out]; exact ho)] at NE' HV'
      clear ho
      go_wp2_with (refine led_load (X3.out.get 0 rfl) LC.out rfl rfl rfl ?_)
      refine (NE'.out w3 X3.out.low).mono ?_
      rintro e w4 ⟨rfl, hb⟩
      have X4 := Lib.hid (X3.out.go hb)
      clear hb
      go_wp2_with (refine led_load (X4.out.get 0 rfl) LC.out rfl rfl rfl ?_)
      refine (HV'.out w4 X4.out.low).mono ?_
      rintro e w5 ⟨rfl, hb⟩
      have X5 := Lib.hid (X4.out.go hb)
      clear hb
      go_wp2_with fail
      go_ret
      exact ⟨rfl, X5.out.low⟩
    obtain ⟨a, rfl⟩ := Int.eq_ofNat_of_zero_le (show 0 ≤ acct by omega)
    have dn3 : (a : Int) < (n4 : Int) := by omega
    have dn4 : ¬ (n4 : Int) ≤ (a : Int) := by omega
    have dn : decide ((a : Int) < 0) = false := decide_eq_false (by omega)
    have AIN := Lib.hid (show a < L.accts.length from by rw [← LN.out]; omega)
    have NE' := Lib.hid (fun W hb => NE.out W hb HL.out)
    have HV' := Lib.hid (fun W hb => HV.out W hb HL.out)
    rw [ansA_in HG.out AIN.out, Int.toNat_natCast] at NE' HV'
    clear NE HV ho
    go_wp2_with (refine led_load (X3.out.get 0 rfl) LC.out rfl rfl rfl ?_)
    refine (NE'.out w3 X3.out.low).mono ?_
    rintro e w4 ⟨rfl, hb⟩
    have X4 := Lib.hid (X3.out.go hb)
    clear hb NE'
    obtain ⟨sorry_, hs_⟩ : ∃ n : Nat, n = 0 := ⟨_, rfl⟩
    clear hs_
    cases hn : needO L a with
    | none =>
      have RZ : retA (none : Option Int) = (0, 4) := rfl
      rw [RZ]
      clear RZ
      cases hh : haveO L a with
      | none =>
        rw [hh] at HV'
        have RZ : retA none = (0, 4) := rfl
        rw [RZ] at HV'
        clear RZ
        go_wp2_with (refine led_load (X4.out.get 0 rfl) LC.out rfl rfl rfl ?_)
        refine (HV'.out w4 X4.out.low).mono ?_
        rintro e w8 ⟨rfl, hb⟩
        have X8 := Lib.hid (X4.out.go hb)
        clear hb
        go_wp2_with fail
        go_ret
        exact ⟨rfl, X8.out.low⟩
      | some hy =>
        rw [hh] at HV'
        have HHY := Lib.hid hh
        have RZ : retA (some hy) = (hy, 0) := rfl
        rw [RZ] at HV'
        clear RZ hh
        go_wp2_with (refine led_load (X4.out.get 0 rfl) LC.out rfl rfl rfl ?_)
        refine (HV'.out w4 X4.out.low).mono ?_
        rintro e w8 ⟨rfl, hb⟩
        have X8 := Lib.hid (X4.out.go hb)
        clear hb
        have u1 : w8.cell? ⟨q3, 1, none⟩ = some (.int .i64 p1) := X8.out.cell 1 rfl 1 rfl
        by_cases g1 : p1 < 0
        · have dg : decide (p1 < 0) = true := decide_eq_true g1
          go_wp2_with fail
          go_ret
          exact ⟨rfl, X8.out.low⟩
        have dg : decide (p1 < 0) = false := decide_eq_false g1
        have y4 : w8.cell? ⟨q2, 4, none⟩ = some (.slice a4 n4 c4) := X8.out.cell 0 rfl 4 C4.out
        by_cases g2 : 4611686018427387904 < p1
        · go_wp2_with fail
          go_ret
          exact ⟨rfl, X8.out.low⟩
        have HP := Lib.hid (show 0 ≤ p1 ∧ p1 ≤ 4611686018427387904 from by omega)
        go_wp2_with (refine led_load (X8.out.get 0 rfl) LC.out rfl rfl rfl ?_)
        refine (CP.out w8 X8.out.low HG.out).mono ?_
        rintro e u ⟨V1, rfl, own, hb⟩
        have X9 := Lib.hid (X8.out.go hb)
        have OW := Lib.hid own
        have LU := Lib.hid (ledc own.led)
        have HSZ := Lib.hid (show w8.heap.size ≤ u.heap.size ∧ w.heap.size ≤ w8.heap.size from ⟨hb.size, X8.out.low.size⟩)
        unfold LedV.val
        clear own hb u1 y4 dg g1 g2
        obtain ⟨D, hD⟩ : ∃ D, D = (4611686018427387904 : Int) - p1 := ⟨_, rfl⟩
        have ED := Lib.hid hD
        clear hD
        go_upto_region 16 with (refine led_store (heap_alloc_last _ _) ledc0 LU.out rfl rfl rfl rfl ?_; rw [World.setRow_alloc_new])
        obtain ⟨WA, hWA⟩ : ∃ s, s = u.alloc (.cells (V1.cells L) 31) := ⟨_, rfl⟩
        obtain ⟨b13, hb13⟩ : ∃ n, n = u.heap.size := ⟨_, rfl⟩
        have XA := Lib.hid (show At w WA [(q2, 31, C), (q3, 49, #[.int .i64 p0, .int .i64 p1]), (b13, 31, V1.cells L)] from by rw [hWA, hb13]; exact X9.out.alloc _ _)
        have OWA := Lib.hid (show LedOwn WA w8.heap.size V1 L ∧ V1.NotIn q2 ∧ V1.NotIn q3 ∧ V1.NotIn b13 from by
          have hq := X8.out.lt (q2, 31, C) (by simp)
          have hq3 := X8.out.lt (q3, 49, #[.int .i64 p0, .int .i64 p1]) (by simp)
          exact ⟨by rw [hWA]; exact OW.out.below ((Below.refl _ _).alloc (Nat.le_refl _) _), OW.out.notin (Or.inl hq), OW.out.notin (Or.inl hq3), OW.out.notin (Or.inr (by omega))⟩)
        rw [← hWA, ← hb13]
        clear hWA hb13 X9 OW
        obtain ⟨p, hp⟩ : ∃ p, V1.ac[a]? = some p := ⟨_, List.getElem?_eq_getElem (by have h := congrArg List.length OWA.out.1.same; simp at h; have := AIN.out; omega)⟩
        have hpa : L.accts[a]? = some p.1 := by rw [OWA.out.1.same, List.getElem?_map, hp]; rfl
        have hok := HG.out.accounts.accts a p.1 hpa
        have hlen : 0 < p.1.cash.length := by have := hok.1; have := HG.out.things.c0; omega
        obtain ⟨z, hz⟩ : ∃ z, p.1.cash[0]? = some z := ⟨_, List.getElem?_eq_getElem hlen⟩
        have HZ := Lib.hid (show -4611686018427387904 ≤ z ∧ z ≤ 4611686018427387904 from fitsA_true.1 (hok.2.2.2.2 z (List.mem_of_getElem? hz)))
        obtain ⟨g, c, hv, _, _, _, hfr⟩ := OWA.out.1.accts.block hp
        have hvn : V1.accts = .slice (some ⟨g, 0, none⟩) n4 c := by rw [hv, LN.out, OWA.out.1.same, List.length_map]
        have hR := OWA.out.1.accts.row acccells_len (by decide)
        rw [hv] at hR
        obtain ⟨b', o', e', _, hc⟩ := hR.at_ hp
        cases e'
        obtain ⟨gp, pc, hpv, _, _, _, hfr2⟩ := (OWA.out.1.cash p (List.mem_of_getElem? hp)).block hz
        have hR2 := (OWA.out.1.cash p (List.mem_of_getElem? hp)).row icell_len (by decide)
        rw [hpv] at hR2
        obtain ⟨b'', o'', e'', _, hc2⟩ := hR2.at_ hz
        cases e''
        obtain ⟨pn, hpn⟩ : ∃ n, n = p.1.cash.length := ⟨_, rfl⟩
        rw [← hpn] at hpv hlen
        have k1 : WA.cell? ⟨g, a * 4 + 1, none⟩ = some (.slice (some ⟨gp, 0, none⟩) pn pc) := by have := hc 1 p.2 rfl; rw [Nat.zero_add] at this; rw [this, hpv]
        have k2 : WA.cell? ⟨gp, 0, none⟩ = some (.int .i64 z) := by have := hc2 0 (.int .i64 z) rfl; simpa using this
        have y13 : WA.cell? ⟨b13, 4, none⟩ = some (.slice (some ⟨g, 0, none⟩) n4 c) := XA.out.cell 2 rfl 4 (by rw [← hvn]; rfl)
        have u1 : WA.cell? ⟨q3, 1, none⟩ = some (.int .i64 p1) := XA.out.cell 1 rfl 1 rfl
        have V4 := Lib.hid hv
        have V4n := Lib.hid hvn
        have HPP := Lib.hid (And.intro hp (And.intro hpa (And.intro hz (And.intro hpv hpn))))
        have FR := Lib.hid (hfr2 0)
        clear hp hpa hok hz hv hfr hvn hR hc hpv hfr2 hR2 hc2 hpn
        have hpn0 : (0 : Int) < (pn : Int) := by omega
        go_simp
        have DA := Lib.hid (show Below WA.heap.size WA WA.drew from ((Mod.refl (fun _ => False) WA).drew).toBelow)
        have eD : (4611686018427387904 : Int) - p1 = D := ED.out.symm
        have d0 : 0 ≤ D := by have := HP.out; have := ED.out; omega
        have d1 : D ≤ 4611686018427387904 := by have := HP.out; have := ED.out; omega
        refine Fall2.wp_region_tree (C := fun w' => True) [] [] (.step 0 (.step 1 (.step 2 (.step 3 (.step 4 (.step 5 (.step 6 (.step 7 (.step 8 (.step 9 (.step 10 (.step 11 .leaf)))))))))))) (fun _ _ _ => False) (by kernel_rfl) (fun _ _ _ h => h.elim) (by kernel_rfl) trivial ?_
        refine Fall2.tree_still [0, 1, 2, 3, 4, 5, 6, 7, 8, 9, 10, 11] (by kernel_rfl) ?_
        simp only [pickL, nth]
        repeat (go_big_quiet_step (fail))
        refine wpQuiet_nil ?_
        refine Fall2.tree_nil ?_
        clear eD d0 d1
        by_cases gz : D < z
        · go_simp
          go_wp2_with fail
          go_ret
          exact ⟨rfl, XA.out.drew.low⟩
        go_simp
        have HS := Lib.hid (show -4611686018427387904 ≤ z + p1 ∧ z + p1 ≤ 4611686018427387904 ∧ 0 ≤ p1 from by have := HP.out; have := HZ.out; have := ED.out; omega)
        clear k1 k2 y13 u1
        obtain ⟨WB, hWB⟩ : ∃ s, s = WA.drew := ⟨_, rfl⟩
        have XB := Lib.hid (show At w WB [(q2, 31, C), (q3, 49, #[.int .i64 p0, .int .i64 p1]), (b13, 31, V1.cells L)] from by rw [hWB]; exact XA.out.drew)
        have OWB := Lib.hid (show LedOwn WB w8.heap.size V1 L from by rw [hWB]; exact OWA.out.1.below DA.out)
        have KF := Lib.hid (show WB.cell? ⟨g, a * 4 + 1, none⟩ = some (.slice (some ⟨gp, 0, none⟩) pn pc) ∧ WB.cell? ⟨gp, 0, none⟩ = some (.int .i64 z) ∧ WB.frozen? ⟨gp, 0, none⟩ = false from by
          have hR := OWB.out.accts.row acccells_len (by decide)
          rw [V4.out] at hR
          obtain ⟨b', o', e', _, hc⟩ := hR.at_ HPP.out.1
          cases e'
          have h1 := hc 1 p.2 rfl
          rw [Nat.zero_add] at h1
          have hR2 := (OWB.out.cash p (List.mem_of_getElem? HPP.out.1)).row icell_len (by decide)
          obtain ⟨g', c', e2, _, _, _, hfr2⟩ := (OWB.out.cash p (List.mem_of_getElem? HPP.out.1)).block HPP.out.2.2.1
          rw [HPP.out.2.2.2.1] at hR2
          obtain ⟨b'', o'', e'', _, hc2⟩ := hR2.at_ HPP.out.2.2.1
          cases e''
          have h2 := hc2 0 (.int .i64 z) rfl
          have e3 := HPP.out.2.2.2.1.symm.trans e2
          injection e3 with e4 _ _
          injection e4 with e4
          injection e4 with e4
          exact ⟨by rw [h1]; exact congrArg some HPP.out.2.2.2.1, by simpa using h2, by rw [e4]; exact hfr2 0⟩)
        rw [← hWB]
        clear hWB
        have y13 : WB.cell? ⟨b13, 4, none⟩ = some (.slice (some ⟨g, 0, none⟩) n4 c) := XB.out.cell 2 rfl 4 (by rw [← V4n.out]; rfl)
        have u1 : WB.cell? ⟨q3, 1, none⟩ = some (.int .i64 p1) := XB.out.cell 1 rfl 1 rfl
        have k1 := KF.out.1
        have k2 := KF.out.2.1
        obtain ⟨S, hS⟩ : ∃ S, S = z + p1 := ⟨_, rfl⟩
        have ES := Lib.hid hS
        have eS : z + p1 = S := hS.symm
        have s0 : -4611686018427387904 ≤ S := by rw [hS]; exact HS.out.1
        have s1 : S ≤ 4611686018427387904 := by rw [hS]; exact HS.out.2.1
        clear hS
        go_upto_region 18 with (fail)
        refine Fall2.wp_region_tree (C := fun w' => True) [12] [] (.step 0 (.step 1 (.step 2 (.step 3 (.step 4 (.step 5 (.step 6 (.step 7 (.step 8 (.step 9 (.step 10 (.step 11 (.step 12 .leaf))))))))))))) (fun _ _ _ => False) (by kernel_rfl) (fun _ _ _ h => h.elim) (by kernel_rfl) trivial ?_
        refine Fall2.tree_still [0, 1, 2, 3, 4, 5, 6, 7, 8, 9, 10, 11] (by kernel_rfl) ?_
        simp only [pickL, nth]
        repeat (go_big_quiet_step (fail))
        refine wpQuiet_nil ?_
        have zf : WB.frozen? ⟨gp, 0, none⟩ = false := KF.out.2.2
        refine Fall2.tree_last (by kernel_rfl) rfl (by kernel_rfl) (fun K hK => ?_)
        simp only [pickL, nth]
        refine wpOne_one ?_
        go_simp
        refine hK _ _ ?_
        clear hK y13 u1 k1 k2 zf eS s0 s1
        refine Fall2.tree_nil ?_
        obtain ⟨WC, hWC⟩ : ∃ s, s = (WB.setCell ⟨gp, 0, none⟩ (.int .i64 S)).drew := ⟨_, rfl⟩
        obtain ⟨as2, has2⟩ : ∃ l, l = L.accts.set a { p.1 with cash := p.1.cash.set 0 S } := ⟨_, rfl⟩
        have SC := Lib.hid (OWB.out.setCash HPP.out.1 (g := gp) (c := pc) (by rw [HPP.out.2.2.2.1, HPP.out.2.2.2.2]) HPP.out.2.2.1 (x := S) (by have := HS.out; have := ES.out; omega))
        have OX := Lib.hid (show LedOwn WC w8.heap.size { V1 with ac := V1.ac.set a ({ p.1 with cash := p.1.cash.set 0 S }, p.2) } { L with accts := as2 } from by rw [hWC, has2]; exact SC.out.1.below ((Mod.refl (fun _ => False) _).drew).toBelow)
        have XC := Lib.hid (show At w WC [(q2, 31, C), (q3, 49, #[.int .i64 p0, .int .i64 p1]), (b13, 31, V1.cells L)] from by
          rw [hWC]
          refine (XB.out.mod SC.out.2 (fun k e => ?_) (fun x hx e => ?_)).drew
          · have h1 := (OWB.out.lts p.2 (by
              simp only [LedV.rows, List.mem_cons, List.mem_map]
              exact Or.inr (Or.inr (Or.inr (Or.inr (Or.inr (Or.inr (Or.inr (Or.inr ⟨p, List.mem_of_getElem? HPP.out.1, rfl⟩)))))))) gp (by rw [HPP.out.2.2.2.1]; rfl)).1
            have := HSZ.out
            omega
          · have hn : ∀ b, V1.NotIn b → b ≠ gp := fun b hb e2 => hb p.2 (by
              simp only [LedV.rows, List.mem_cons, List.mem_map]
              exact Or.inr (Or.inr (Or.inr (Or.inr (Or.inr (Or.inr (Or.inr (Or.inr ⟨p, List.mem_of_getElem? HPP.out.1, rfl⟩)))))))) (by rw [HPP.out.2.2.2.1, e2]; rfl)
            simp at hx
            rcases hx with rfl | rfl | rfl
            · exact hn _ OWA.out.2.1 e
            · exact hn _ OWA.out.2.2.1 e
            · exact hn _ OWA.out.2.2.2 e)
        have hset : ∀ (k : Nat) q r, L.accts[k]? = some q → as2[k]? = some r → (k = a ∧ q = p.1 ∧ r = { p.1 with cash := p.1.cash.set 0 S }) ∨ r = q := fun k q r h1 h2 => by
          rw [has2] at h2
          by_cases e : a = k
          · subst e
            rw [List.getElem?_set_self (List.getElem?_eq_some_iff.1 HPP.out.2.1).1] at h2
            rw [HPP.out.2.1] at h1
            exact Or.inl ⟨rfl, (Option.some.inj h1).symm, (Option.some.inj h2).symm⟩
          · rw [List.getElem?_set_ne e, h1] at h2
            exact Or.inr (Option.some.inj h2).symm
        have hln : as2.length = L.accts.length := by rw [has2, List.length_set]
        have hmp : as2.map (·.parent) = L.accts.map (·.parent) := map_same _ hln (fun k q r h1 h2 => by exact (hset k q r h1 h2).elim (fun h => by rw [h.2.1, h.2.2]) (fun h => by rw [h]))
        have hml : as2.map (·.last) = L.accts.map (·.last) := map_same _ hln (fun k q r h1 h2 => by exact (hset k q r h1 h2).elim (fun h => by rw [h.2.1, h.2.2]) (fun h => by rw [h]))
        have GX := Lib.hid (show ({ L with accts := as2 } : Led).Good from HG.out.recash hmp hml (fun v r hr => by
          have hv : v < L.accts.length := by rw [← hln]; exact (List.getElem?_eq_some_iff.1 hr).1
          have hq := List.getElem?_eq_getElem hv
          have ok := HG.out.accounts.accts v _ hq
          rcases hset v _ r hq hr with ⟨e0, e1, e2⟩ | e
          · rw [e1] at ok
            rw [e2]
            obtain ⟨o1, o2, o3, o4, o5⟩ := ok
            refine ⟨by simpa using o1, o2, o3, o4, fun y hy => ?_⟩
            rcases List.mem_or_eq_of_mem_set hy with hy | rfl
            · exact o5 y hy
            · exact fitsA_true.2 (by have := HS.out; have := ES.out; omega)
          · rw [e]; exact ok))
        have MORE := Lib.hid (show ∀ y', haveO { L with accts := as2 } a = some y' → hy ≤ y' from fun y' h' => haveO_more HG.out hmp (fun k n q r h1 h2 => by
          rcases hset k q r h1 h2 with ⟨_, e1, e2⟩ | e
          · rw [e1, e2]
            show p.1.cash.getD n 0 ≤ (p.1.cash.set 0 S).getD n 0
            rw [List.getD_eq_getElem?_getD, List.getD_eq_getElem?_getD]
            by_cases hn : n = 0
            · subst hn
              rw [List.getElem?_set_self (List.getElem?_eq_some_iff.1 HPP.out.2.2.1).1, HPP.out.2.2.1]
              show z ≤ S
              have := HS.out; have := ES.out; omega
            · rw [List.getElem?_set_ne (fun e => hn e.symm)]; exact Int.le_refl _
          · rw [e]; exact Int.le_refl _) HHY.out h')
        have HX := Lib.hid (mhave_any WC _ _ OX.out.led (by show as2.length ≤ 1024; rw [hln]; exact HL.out) (GR.out WC XC.out.low) (a : Int))
        rw [ansA_in GX.out (by show a < as2.length; rw [hln]; exact AIN.out), Int.toNat_natCast] at HX
        have HX2 := Lib.hid (show Calls Tryz.prog 14 #[.agg (V1.cells L), .int .i64 (a : Int)] WC fun e w' => e = .returned (.tuple #[.int .i64 (retA (haveO { L with accts := as2 } a)).1, .int .i64 (retA (haveO { L with accts := as2 } a)).2]) ∧ Below WC.heap.size WC w' from HX.out)
        rw [← hWC]
        clear hWC has2 hset hln hmp hml HX OX SC
        cases hx2 : haveO { L with accts := as2 } a with
        | none =>
          rw [hx2] at HX2
          have RZ : retA (none : Option Int) = (0, 4) := rfl
          rw [RZ] at HX2
          clear RZ hx2
          go_wp2_with (refine led_load (XC.out.get 2 rfl) LU.out rfl rfl rfl ?_)
          refine HX2.out.mono ?_
          rintro e wD ⟨rfl, hb⟩
          have XD := Lib.hid (XC.out.go hb)
          clear hb
          go_wp2_with fail
          go_ret
          exact ⟨rfl, XD.out.low⟩
        | some v2 =>
          have hle : hy ≤ v2 := MORE.out v2 hx2
          rw [hx2] at HX2
          have RZ : retA (some v2) = (v2, 0) := rfl
          rw [RZ] at HX2
          clear RZ hx2 MORE
          go_wp2_with (refine led_load (XC.out.get 2 rfl) LU.out rfl rfl rfl ?_)
          refine HX2.out.mono ?_
          rintro e wD ⟨rfl, hb⟩
          have XD := Lib.hid (XC.out.go hb)
          clear hb
          go_wp2_with fail
          go_ret
          exact ⟨rfl, XD.out.low⟩

    | some y =>
      have HNY := Lib.hid hn
      have RZ : retA (some y) = (y, 0) := rfl
      rw [RZ]
      clear RZ hn
      have u0 : w4.cell? ⟨q3, 0, none⟩ = some (.int .i64 p0) := X4.out.cell 1 rfl 0 rfl
      by_cases g0 : p0 < 0
      · have dg0 : ¬ 0 ≤ p0 := by omega
        have dg1 : decide (p0 < 0) = true := decide_eq_true g0
        cases hh : haveO L a with
        | none =>
          rw [hh] at HV'
          have RZ : retA none = (0, 4) := rfl
          rw [RZ] at HV'
          clear RZ
          go_wp2_with (refine led_load (X4.out.get 0 rfl) LC.out rfl rfl rfl ?_)
          refine (HV'.out w4 X4.out.low).mono ?_
          rintro e w8 ⟨rfl, hb⟩
          have X8 := Lib.hid (X4.out.go hb)
          clear hb
          go_wp2_with fail
          go_ret
          exact ⟨rfl, X8.out.low⟩
        | some hy =>
          rw [hh] at HV'
          have HHY := Lib.hid hh
          have RZ : retA (some hy) = (hy, 0) := rfl
          rw [RZ] at HV'
          clear RZ hh
          go_wp2_with (refine led_load (X4.out.get 0 rfl) LC.out rfl rfl rfl ?_)
          refine (HV'.out w4 X4.out.low).mono ?_
          rintro e w8 ⟨rfl, hb⟩
          have X8 := Lib.hid (X4.out.go hb)
          clear hb
          have u1 : w8.cell? ⟨q3, 1, none⟩ = some (.int .i64 p1) := X8.out.cell 1 rfl 1 rfl
          by_cases g1 : p1 < 0
          · have dg : decide (p1 < 0) = true := decide_eq_true g1
            go_wp2_with fail
            go_ret
            exact ⟨rfl, X8.out.low⟩
          have dg : decide (p1 < 0) = false := decide_eq_false g1
          have y4 : w8.cell? ⟨q2, 4, none⟩ = some (.slice a4 n4 c4) := X8.out.cell 0 rfl 4 C4.out
          by_cases g2 : 4611686018427387904 < p1
          · go_wp2_with fail
            go_ret
            exact ⟨rfl, X8.out.low⟩
          have HP := Lib.hid (show 0 ≤ p1 ∧ p1 ≤ 4611686018427387904 from by omega)
          go_wp2_with (refine led_load (X8.out.get 0 rfl) LC.out rfl rfl rfl ?_)
          refine (CP.out w8 X8.out.low HG.out).mono ?_
          rintro e u ⟨V1, rfl, own, hb⟩
          have X9 := Lib.hid (X8.out.go hb)
          have OW := Lib.hid own
          have LU := Lib.hid (ledc own.led)
          have HSZ := Lib.hid (show w8.heap.size ≤ u.heap.size ∧ w.heap.size ≤ w8.heap.size from ⟨hb.size, X8.out.low.size⟩)
          unfold LedV.val
          clear own hb u1 y4 dg g1 g2
          obtain ⟨D, hD⟩ : ∃ D, D = (4611686018427387904 : Int) - p1 := ⟨_, rfl⟩
          have ED := Lib.hid hD
          clear hD
          go_upto_region 16 with (refine led_store (heap_alloc_last _ _) ledc0 LU.out rfl rfl rfl rfl ?_; rw [World.setRow_alloc_new])
          obtain ⟨WA, hWA⟩ : ∃ s, s = u.alloc (.cells (V1.cells L) 31) := ⟨_, rfl⟩
          obtain ⟨b13, hb13⟩ : ∃ n, n = u.heap.size := ⟨_, rfl⟩
          have XA := Lib.hid (show At w WA [(q2, 31, C), (q3, 49, #[.int .i64 p0, .int .i64 p1]), (b13, 31, V1.cells L)] from by rw [hWA, hb13]; exact X9.out.alloc _ _)
          have OWA := Lib.hid (show LedOwn WA w8.heap.size V1 L ∧ V1.NotIn q2 ∧ V1.NotIn q3 ∧ V1.NotIn b13 from by
            have hq := X8.out.lt (q2, 31, C) (by simp)
            have hq3 := X8.out.lt (q3, 49, #[.int .i64 p0, .int .i64 p1]) (by simp)
            exact ⟨by rw [hWA]; exact OW.out.below ((Below.refl _ _).alloc (Nat.le_refl _) _), OW.out.notin (Or.inl hq), OW.out.notin (Or.inl hq3), OW.out.notin (Or.inr (by omega))⟩)
          rw [← hWA, ← hb13]
          clear hWA hb13 X9 OW
          obtain ⟨p, hp⟩ : ∃ p, V1.ac[a]? = some p := ⟨_, List.getElem?_eq_getElem (by have h := congrArg List.length OWA.out.1.same; simp at h; have := AIN.out; omega)⟩
          have hpa : L.accts[a]? = some p.1 := by rw [OWA.out.1.same, List.getElem?_map, hp]; rfl
          have hok := HG.out.accounts.accts a p.1 hpa
          have hlen : 0 < p.1.cash.length := by have := hok.1; have := HG.out.things.c0; omega
          obtain ⟨z, hz⟩ : ∃ z, p.1.cash[0]? = some z := ⟨_, List.getElem?_eq_getElem hlen⟩
          have HZ := Lib.hid (show -4611686018427387904 ≤ z ∧ z ≤ 4611686018427387904 from fitsA_true.1 (hok.2.2.2.2 z (List.mem_of_getElem? hz)))
          obtain ⟨g, c, hv, _, _, _, hfr⟩ := OWA.out.1.accts.block hp
          have hvn : V1.accts = .slice (some ⟨g, 0, none⟩) n4 c := by rw [hv, LN.out, OWA.out.1.same, List.length_map]
          have hR := OWA.out.1.accts.row acccells_len (by decide)
          rw [hv] at hR
          obtain ⟨b', o', e', _, hc⟩ := hR.at_ hp
          cases e'
          obtain ⟨gp, pc, hpv, _, _, _, hfr2⟩ := (OWA.out.1.cash p (List.mem_of_getElem? hp)).block hz
          have hR2 := (OWA.out.1.cash p (List.mem_of_getElem? hp)).row icell_len (by decide)
          rw [hpv] at hR2
          obtain ⟨b'', o'', e'', _, hc2⟩ := hR2.at_ hz
          cases e''
          obtain ⟨pn, hpn⟩ : ∃ n, n = p.1.cash.length := ⟨_, rfl⟩
          rw [← hpn] at hpv hlen
          have k1 : WA.cell? ⟨g, a * 4 + 1, none⟩ = some (.slice (some ⟨gp, 0, none⟩) pn pc) := by have := hc 1 p.2 rfl; rw [Nat.zero_add] at this; rw [this, hpv]
          have k2 : WA.cell? ⟨gp, 0, none⟩ = some (.int .i64 z) := by have := hc2 0 (.int .i64 z) rfl; simpa using this
          have y13 : WA.cell? ⟨b13, 4, none⟩ = some (.slice (some ⟨g, 0, none⟩) n4 c) := XA.out.cell 2 rfl 4 (by rw [← hvn]; rfl)
          have u1 : WA.cell? ⟨q3, 1, none⟩ = some (.int .i64 p1) := XA.out.cell 1 rfl 1 rfl
          have V4 := Lib.hid hv
          have V4n := Lib.hid hvn
          have HPP := Lib.hid (And.intro hp (And.intro hpa (And.intro hz (And.intro hpv hpn))))
          have FR := Lib.hid (hfr2 0)
          clear hp hpa hok hz hv hfr hvn hR hc hpv hfr2 hR2 hc2 hpn
          have hpn0 : (0 : Int) < (pn : Int) := by omega
          go_simp
          have DA := Lib.hid (show Below WA.heap.size WA WA.drew from ((Mod.refl (fun _ => False) WA).drew).toBelow)
          have eD : (4611686018427387904 : Int) - p1 = D := ED.out.symm
          have d0 : 0 ≤ D := by have := HP.out; have := ED.out; omega
          have d1 : D ≤ 4611686018427387904 := by have := HP.out; have := ED.out; omega
          refine Fall2.wp_region_tree (C := fun w' => True) [] [] (.step 0 (.step 1 (.step 2 (.step 3 (.step 4 (.step 5 (.step 6 (.step 7 (.step 8 (.step 9 (.step 10 (.step 11 .leaf)))))))))))) (fun _ _ _ => False) (by kernel_rfl) (fun _ _ _ h => h.elim) (by kernel_rfl) trivial ?_
          refine Fall2.tree_still [0, 1, 2, 3, 4, 5, 6, 7, 8, 9, 10, 11] (by kernel_rfl) ?_
          simp only [pickL, nth]
          repeat (go_big_quiet_step (fail))
          refine wpQuiet_nil ?_
          refine Fall2.tree_nil ?_
          clear eD d0 d1
          by_cases gz : D < z
          · go_simp
            go_wp2_with fail
            go_ret
            exact ⟨rfl, XA.out.drew.low⟩
          go_simp
          have HS := Lib.hid (show -4611686018427387904 ≤ z + p1 ∧ z + p1 ≤ 4611686018427387904 ∧ 0 ≤ p1 from by have := HP.out; have := HZ.out; have := ED.out; omega)
          clear k1 k2 y13 u1
          obtain ⟨WB, hWB⟩ : ∃ s, s = WA.drew := ⟨_, rfl⟩
          have XB := Lib.hid (show At w WB [(q2, 31, C), (q3, 49, #[.int .i64 p0, .int .i64 p1]), (b13, 31, V1.cells L)] from by rw [hWB]; exact XA.out.drew)
          have OWB := Lib.hid (show LedOwn WB w8.heap.size V1 L from by rw [hWB]; exact OWA.out.1.below DA.out)
          have KF := Lib.hid (show WB.cell? ⟨g, a * 4 + 1, none⟩ = some (.slice (some ⟨gp, 0, none⟩) pn pc) ∧ WB.cell? ⟨gp, 0, none⟩ = some (.int .i64 z) ∧ WB.frozen? ⟨gp, 0, none⟩ = false from by
            have hR := OWB.out.accts.row acccells_len (by decide)
            rw [V4.out] at hR
            obtain ⟨b', o', e', _, hc⟩ := hR.at_ HPP.out.1
            cases e'
            have h1 := hc 1 p.2 rfl
            rw [Nat.zero_add] at h1
            have hR2 := (OWB.out.cash p (List.mem_of_getElem? HPP.out.1)).row icell_len (by decide)
            obtain ⟨g', c', e2, _, _, _, hfr2⟩ := (OWB.out.cash p (List.mem_of_getElem? HPP.out.1)).block HPP.out.2.2.1
            rw [HPP.out.2.2.2.1] at hR2
            obtain ⟨b'', o'', e'', _, hc2⟩ := hR2.at_ HPP.out.2.2.1
            cases e''
            have h2 := hc2 0 (.int .i64 z) rfl
            have e3 := HPP.out.2.2.2.1.symm.trans e2
            injection e3 with e4 _ _
            injection e4 with e4
            injection e4 with e4
            exact ⟨by rw [h1]; exact congrArg some HPP.out.2.2.2.1, by simpa using h2, by rw [e4]; exact hfr2 0⟩)
          rw [← hWB]
          clear hWB
          have y13 : WB.cell? ⟨b13, 4, none⟩ = some (.slice (some ⟨g, 0, none⟩) n4 c) := XB.out.cell 2 rfl 4 (by rw [← V4n.out]; rfl)
          have u1 : WB.cell? ⟨q3, 1, none⟩ = some (.int .i64 p1) := XB.out.cell 1 rfl 1 rfl
          have k1 := KF.out.1
          have k2 := KF.out.2.1
          obtain ⟨S, hS⟩ : ∃ S, S = z + p1 := ⟨_, rfl⟩
          have ES := Lib.hid hS
          have eS : z + p1 = S := hS.symm
          have s0 : -4611686018427387904 ≤ S := by rw [hS]; exact HS.out.1
          have s1 : S ≤ 4611686018427387904 := by rw [hS]; exact HS.out.2.1
          clear hS
          go_upto_region 18 with (fail)
          refine Fall2.wp_region_tree (C := fun w' => True) [12] [] (.step 0 (.step 1 (.step 2 (.step 3 (.step 4 (.step 5 (.step 6 (.step 7 (.step 8 (.step 9 (.step 10 (.step 11 (.step 12 .leaf))))))))))))) (fun _ _ _ => False) (by kernel_rfl) (fun _ _ _ h => h.elim) (by kernel_rfl) trivial ?_
          refine Fall2.tree_still [0, 1, 2, 3, 4, 5, 6, 7, 8, 9, 10, 11] (by kernel_rfl) ?_
          simp only [pickL, nth]
          repeat (go_big_quiet_step (fail))
          refine wpQuiet_nil ?_
          have zf : WB.frozen? ⟨gp, 0, none⟩ = false := KF.out.2.2
          refine Fall2.tree_last (by kernel_rfl) rfl (by kernel_rfl) (fun K hK => ?_)
          simp only [pickL, nth]
          refine wpOne_one ?_
          go_simp
          refine hK _ _ ?_
          clear hK y13 u1 k1 k2 zf eS s0 s1
          refine Fall2.tree_nil ?_
          obtain ⟨WC, hWC⟩ : ∃ s, s = (WB.setCell ⟨gp, 0, none⟩ (.int .i64 S)).drew := ⟨_, rfl⟩
          obtain ⟨as2, has2⟩ : ∃ l, l = L.accts.set a { p.1 with cash := p.1.cash.set 0 S } := ⟨_, rfl⟩
          have SC := Lib.hid (OWB.out.setCash HPP.out.1 (g := gp) (c := pc) (by rw [HPP.out.2.2.2.1, HPP.out.2.2.2.2]) HPP.out.2.2.1 (x := S) (by have := HS.out; have := ES.out; omega))
          have OX := Lib.hid (show LedOwn WC w8.heap.size { V1 with ac := V1.ac.set a ({ p.1 with cash := p.1.cash.set 0 S }, p.2) } { L with accts := as2 } from by rw [hWC, has2]; exact SC.out.1.below ((Mod.refl (fun _ => False) _).drew).toBelow)
          have XC := Lib.hid (show At w WC [(q2, 31, C), (q3, 49, #[.int .i64 p0, .int .i64 p1]), (b13, 31, V1.cells L)] from by
            rw [hWC]
            refine (XB.out.mod SC.out.2 (fun k e => ?_) (fun x hx e => ?_)).drew
            · have h1 := (OWB.out.lts p.2 (by
                simp only [LedV.rows, List.mem_cons, List.mem_map]
                exact Or.inr (Or.inr (Or.inr (Or.inr (Or.inr (Or.inr (Or.inr (Or.inr ⟨p, List.mem_of_getElem? HPP.out.1, rfl⟩)))))))) gp (by rw [HPP.out.2.2.2.1]; rfl)).1
              have := HSZ.out
              omega
            · have hn : ∀ b, V1.NotIn b → b ≠ gp := fun b hb e2 => hb p.2 (by
                simp only [LedV.rows, List.mem_cons, List.mem_map]
                exact Or.inr (Or.inr (Or.inr (Or.inr (Or.inr (Or.inr (Or.inr (Or.inr ⟨p, List.mem_of_getElem? HPP.out.1, rfl⟩)))))))) (by rw [HPP.out.2.2.2.1, e2]; rfl)
              simp at hx
              rcases hx with rfl | rfl | rfl
              · exact hn _ OWA.out.2.1 e
              · exact hn _ OWA.out.2.2.1 e
              · exact hn _ OWA.out.2.2.2 e)
          have hset : ∀ (k : Nat) q r, L.accts[k]? = some q → as2[k]? = some r → (k = a ∧ q = p.1 ∧ r = { p.1 with cash := p.1.cash.set 0 S }) ∨ r = q := fun k q r h1 h2 => by
            rw [has2] at h2
            by_cases e : a = k
            · subst e
              rw [List.getElem?_set_self (List.getElem?_eq_some_iff.1 HPP.out.2.1).1] at h2
              rw [HPP.out.2.1] at h1
              exact Or.inl ⟨rfl, (Option.some.inj h1).symm, (Option.some.inj h2).symm⟩
            · rw [List.getElem?_set_ne e, h1] at h2
              exact Or.inr (Option.some.inj h2).symm
          have hln : as2.length = L.accts.length := by rw [has2, List.length_set]
          have hmp : as2.map (·.parent) = L.accts.map (·.parent) := map_same _ hln (fun k q r h1 h2 => by exact (hset k q r h1 h2).elim (fun h => by rw [h.2.1, h.2.2]) (fun h => by rw [h]))
          have hml : as2.map (·.last) = L.accts.map (·.last) := map_same _ hln (fun k q r h1 h2 => by exact (hset k q r h1 h2).elim (fun h => by rw [h.2.1, h.2.2]) (fun h => by rw [h]))
          have GX := Lib.hid (show ({ L with accts := as2 } : Led).Good from HG.out.recash hmp hml (fun v r hr => by
            have hv : v < L.accts.length := by rw [← hln]; exact (List.getElem?_eq_some_iff.1 hr).1
            have hq := List.getElem?_eq_getElem hv
            have ok := HG.out.accounts.accts v _ hq
            rcases hset v _ r hq hr with ⟨e0, e1, e2⟩ | e
            · rw [e1] at ok
              rw [e2]
              obtain ⟨o1, o2, o3, o4, o5⟩ := ok
              refine ⟨by simpa using o1, o2, o3, o4, fun y hy => ?_⟩
              rcases List.mem_or_eq_of_mem_set hy with hy | rfl
              · exact o5 y hy
              · exact fitsA_true.2 (by have := HS.out; have := ES.out; omega)
            · rw [e]; exact ok))
          have MORE := Lib.hid (show ∀ y', haveO { L with accts := as2 } a = some y' → hy ≤ y' from fun y' h' => haveO_more HG.out hmp (fun k n q r h1 h2 => by
            rcases hset k q r h1 h2 with ⟨_, e1, e2⟩ | e
            · rw [e1, e2]
              show p.1.cash.getD n 0 ≤ (p.1.cash.set 0 S).getD n 0
              rw [List.getD_eq_getElem?_getD, List.getD_eq_getElem?_getD]
              by_cases hn : n = 0
              · subst hn
                rw [List.getElem?_set_self (List.getElem?_eq_some_iff.1 HPP.out.2.2.1).1, HPP.out.2.2.1]
                show z ≤ S
                have := HS.out; have := ES.out; omega
              · rw [List.getElem?_set_ne (fun e => hn e.symm)]; exact Int.le_refl _
            · rw [e]; exact Int.le_refl _) HHY.out h')
          have HX := Lib.hid (mhave_any WC _ _ OX.out.led (by show as2.length ≤ 1024; rw [hln]; exact HL.out) (GR.out WC XC.out.low) (a : Int))
          rw [ansA_in GX.out (by show a < as2.length; rw [hln]; exact AIN.out), Int.toNat_natCast] at HX
          have HX2 := Lib.hid (show Calls Tryz.prog 14 #[.agg (V1.cells L), .int .i64 (a : Int)] WC fun e w' => e = .returned (.tuple #[.int .i64 (retA (haveO { L with accts := as2 } a)).1, .int .i64 (retA (haveO { L with accts := as2 } a)).2]) ∧ Below WC.heap.size WC w' from HX.out)
          rw [← hWC]
          clear hWC has2 hset hln hmp hml HX OX SC
          cases hx2 : haveO { L with accts := as2 } a with
          | none =>
            rw [hx2] at HX2
            have RZ : retA (none : Option Int) = (0, 4) := rfl
            rw [RZ] at HX2
            clear RZ hx2
            go_wp2_with (refine led_load (XC.out.get 2 rfl) LU.out rfl rfl rfl ?_)
            refine HX2.out.mono ?_
            rintro e wD ⟨rfl, hb⟩
            have XD := Lib.hid (XC.out.go hb)
            clear hb
            go_wp2_with fail
            go_ret
            exact ⟨rfl, XD.out.low⟩
          | some v2 =>
            have hle : hy ≤ v2 := MORE.out v2 hx2
            rw [hx2] at HX2
            have RZ : retA (some v2) = (v2, 0) := rfl
            rw [RZ] at HX2
            clear RZ hx2 MORE
            go_wp2_with (refine led_load (XC.out.get 2 rfl) LU.out rfl rfl rfl ?_)
            refine HX2.out.mono ?_
            rintro e wD ⟨rfl, hb⟩
            have XD := Lib.hid (XC.out.go hb)
            clear hb
            go_wp2_with fail
            go_ret
            exact ⟨rfl, XD.out.low⟩

      have y6 : w4.cell? ⟨q2, 6, none⟩ = some (.slice aO nO cO) := X4.out.cell 0 rfl 6 CO6.out
      by_cases g1 : (nO : Int) ≤ p0
      · have dg0 : 0 ≤ p0 := by omega
        have dg1 : ¬ p0 < (nO : Int) := by omega
        cases hh : haveO L a with
        | none =>
          rw [hh] at HV'
          have RZ : retA none = (0, 4) := rfl
          rw [RZ] at HV'
          clear RZ
          go_wp2_with (refine led_load (X4.out.get 0 rfl) LC.out rfl rfl rfl ?_)
          refine (HV'.out w4 X4.out.low).mono ?_
          rintro e w8 ⟨rfl, hb⟩
          have X8 := Lib.hid (X4.out.go hb)
          clear hb
          go_wp2_with fail
          go_ret
          exact ⟨rfl, X8.out.low⟩
        | some hy =>
          rw [hh] at HV'
          have HHY := Lib.hid hh
          have RZ : retA (some hy) = (hy, 0) := rfl
          rw [RZ] at HV'
          clear RZ hh
          go_wp2_with (refine led_load (X4.out.get 0 rfl) LC.out rfl rfl rfl ?_)
          refine (HV'.out w4 X4.out.low).mono ?_
          rintro e w8 ⟨rfl, hb⟩
          have X8 := Lib.hid (X4.out.go hb)
          clear hb
          have u1 : w8.cell? ⟨q3, 1, none⟩ = some (.int .i64 p1) := X8.out.cell 1 rfl 1 rfl
          by_cases g1 : p1 < 0
          · have dg : decide (p1 < 0) = true := decide_eq_true g1
            go_wp2_with fail
            go_ret
            exact ⟨rfl, X8.out.low⟩
          have dg : decide (p1 < 0) = false := decide_eq_false g1
          have y4 : w8.cell? ⟨q2, 4, none⟩ = some (.slice a4 n4 c4) := X8.out.cell 0 rfl 4 C4.out
          by_cases g2 : 4611686018427387904 < p1
          · go_wp2_with fail
            go_ret
            exact ⟨rfl, X8.out.low⟩
          have HP := Lib.hid (show 0 ≤ p1 ∧ p1 ≤ 4611686018427387904 from by omega)
          go_wp2_with (refine led_load (X8.out.get 0 rfl) LC.out rfl rfl rfl ?_)
          refine (CP.out w8 X8.out.low HG.out).mono ?_
          rintro e u ⟨V1, rfl, own, hb⟩
          have X9 := Lib.hid (X8.out.go hb)
          have OW := Lib.hid own
          have LU := Lib.hid (ledc own.led)
          have HSZ := Lib.hid (show w8.heap.size ≤ u.heap.size ∧ w.heap.size ≤ w8.heap.size from ⟨hb.size, X8.out.low.size⟩)
          unfold LedV.val
          clear own hb u1 y4 dg g1 g2
          obtain ⟨D, hD⟩ : ∃ D, D = (4611686018427387904 : Int) - p1 := ⟨_, rfl⟩
          have ED := Lib.hid hD
          clear hD
          go_upto_region 16 with (refine led_store (heap_alloc_last _ _) ledc0 LU.out rfl rfl rfl rfl ?_; rw [World.setRow_alloc_new])
          obtain ⟨WA, hWA⟩ : ∃ s, s = u.alloc (.cells (V1.cells L) 31) := ⟨_, rfl⟩
          obtain ⟨b13, hb13⟩ : ∃ n, n = u.heap.size := ⟨_, rfl⟩
          have XA := Lib.hid (show At w WA [(q2, 31, C), (q3, 49, #[.int .i64 p0, .int .i64 p1]), (b13, 31, V1.cells L)] from by rw [hWA, hb13]; exact X9.out.alloc _ _)
          have OWA := Lib.hid (show LedOwn WA w8.heap.size V1 L ∧ V1.NotIn q2 ∧ V1.NotIn q3 ∧ V1.NotIn b13 from by
            have hq := X8.out.lt (q2, 31, C) (by simp)
            have hq3 := X8.out.lt (q3, 49, #[.int .i64 p0, .int .i64 p1]) (by simp)
            exact ⟨by rw [hWA]; exact OW.out.below ((Below.refl _ _).alloc (Nat.le_refl _) _), OW.out.notin (Or.inl hq), OW.out.notin (Or.inl hq3), OW.out.notin (Or.inr (by omega))⟩)
          rw [← hWA, ← hb13]
          clear hWA hb13 X9 OW
          obtain ⟨p, hp⟩ : ∃ p, V1.ac[a]? = some p := ⟨_, List.getElem?_eq_getElem (by have h := congrArg List.length OWA.out.1.same; simp at h; have := AIN.out; omega)⟩
          have hpa : L.accts[a]? = some p.1 := by rw [OWA.out.1.same, List.getElem?_map, hp]; rfl
          have hok := HG.out.accounts.accts a p.1 hpa
          have hlen : 0 < p.1.cash.length := by have := hok.1; have := HG.out.things.c0; omega
          obtain ⟨z, hz⟩ : ∃ z, p.1.cash[0]? = some z := ⟨_, List.getElem?_eq_getElem hlen⟩
          have HZ := Lib.hid (show -4611686018427387904 ≤ z ∧ z ≤ 4611686018427387904 from fitsA_true.1 (hok.2.2.2.2 z (List.mem_of_getElem? hz)))
          obtain ⟨g, c, hv, _, _, _, hfr⟩ := OWA.out.1.accts.block hp
          have hvn : V1.accts = .slice (some ⟨g, 0, none⟩) n4 c := by rw [hv, LN.out, OWA.out.1.same, List.length_map]
          have hR := OWA.out.1.accts.row acccells_len (by decide)
          rw [hv] at hR
          obtain ⟨b', o', e', _, hc⟩ := hR.at_ hp
          cases e'
          obtain ⟨gp, pc, hpv, _, _, _, hfr2⟩ := (OWA.out.1.cash p (List.mem_of_getElem? hp)).block hz
          have hR2 := (OWA.out.1.cash p (List.mem_of_getElem? hp)).row icell_len (by decide)
          rw [hpv] at hR2
          obtain ⟨b'', o'', e'', _, hc2⟩ := hR2.at_ hz
          cases e''
          obtain ⟨pn, hpn⟩ : ∃ n, n = p.1.cash.length := ⟨_, rfl⟩
          rw [← hpn] at hpv hlen
          have k1 : WA.cell? ⟨g, a * 4 + 1, none⟩ = some (.slice (some ⟨gp, 0, none⟩) pn pc) := by have := hc 1 p.2 rfl; rw [Nat.zero_add] at this; rw [this, hpv]
          have k2 : WA.cell? ⟨gp, 0, none⟩ = some (.int .i64 z) := by have := hc2 0 (.int .i64 z) rfl; simpa using this
          have y13 : WA.cell? ⟨b13, 4, none⟩ = some (.slice (some ⟨g, 0, none⟩) n4 c) := XA.out.cell 2 rfl 4 (by rw [← hvn]; rfl)
          have u1 : WA.cell? ⟨q3, 1, none⟩ = some (.int .i64 p1) := XA.out.cell 1 rfl 1 rfl
          have V4 := Lib.hid hv
          have V4n := Lib.hid hvn
          have HPP := Lib.hid (And.intro hp (And.intro hpa (And.intro hz (And.intro hpv hpn))))
          have FR := Lib.hid (hfr2 0)
          clear hp hpa hok hz hv hfr hvn hR hc hpv hfr2 hR2 hc2 hpn
          have hpn0 : (0 : Int) < (pn : Int) := by omega
          go_simp
          have DA := Lib.hid (show Below WA.heap.size WA WA.drew from ((Mod.refl (fun _ => False) WA).drew).toBelow)
          have eD : (4611686018427387904 : Int) - p1 = D := ED.out.symm
          have d0 : 0 ≤ D := by have := HP.out; have := ED.out; omega
          have d1 : D ≤ 4611686018427387904 := by have := HP.out; have := ED.out; omega
          refine Fall2.wp_region_tree (C := fun w' => True) [] [] (.step 0 (.step 1 (.step 2 (.step 3 (.step 4 (.step 5 (.step 6 (.step 7 (.step 8 (.step 9 (.step 10 (.step 11 .leaf)))))))))))) (fun _ _ _ => False) (by kernel_rfl) (fun _ _ _ h => h.elim) (by kernel_rfl) trivial ?_
          refine Fall2.tree_still [0, 1, 2, 3, 4, 5, 6, 7, 8, 9, 10, 11] (by kernel_rfl) ?_
          simp only [pickL, nth]
          repeat (go_big_quiet_step (fail))
          refine wpQuiet_nil ?_
          refine Fall2.tree_nil ?_
          clear eD d0 d1
          by_cases gz : D < z
          · go_simp
            go_wp2_with fail
            go_ret
            exact ⟨rfl, XA.out.drew.low⟩
          go_simp
          have HS := Lib.hid (show -4611686018427387904 ≤ z + p1 ∧ z + p1 ≤ 4611686018427387904 ∧ 0 ≤ p1 from by have := HP.out; have := HZ.out; have := ED.out; omega)
          clear k1 k2 y13 u1
          obtain ⟨WB, hWB⟩ : ∃ s, s = WA.drew := ⟨_, rfl⟩
          have XB := Lib.hid (show At w WB [(q2, 31, C), (q3, 49, #[.int .i64 p0, .int .i64 p1]), (b13, 31, V1.cells L)] from by rw [hWB]; exact XA.out.drew)
          have OWB := Lib.hid (show LedOwn WB w8.heap.size V1 L from by rw [hWB]; exact OWA.out.1.below DA.out)
          have KF := Lib.hid (show WB.cell? ⟨g, a * 4 + 1, none⟩ = some (.slice (some ⟨gp, 0, none⟩) pn pc) ∧ WB.cell? ⟨gp, 0, none⟩ = some (.int .i64 z) ∧ WB.frozen? ⟨gp, 0, none⟩ = false from by
            have hR := OWB.out.accts.row acccells_len (by decide)
            rw [V4.out] at hR
            obtain ⟨b', o', e', _, hc⟩ := hR.at_ HPP.out.1
            cases e'
            have h1 := hc 1 p.2 rfl
            rw [Nat.zero_add] at h1
            have hR2 := (OWB.out.cash p (List.mem_of_getElem? HPP.out.1)).row icell_len (by decide)
            obtain ⟨g', c', e2, _, _, _, hfr2⟩ := (OWB.out.cash p (List.mem_of_getElem? HPP.out.1)).block HPP.out.2.2.1
            rw [HPP.out.2.2.2.1] at hR2
            obtain ⟨b'', o'', e'', _, hc2⟩ := hR2.at_ HPP.out.2.2.1
            cases e''
            have h2 := hc2 0 (.int .i64 z) rfl
            have e3 := HPP.out.2.2.2.1.symm.trans e2
            injection e3 with e4 _ _
            injection e4 with e4
            injection e4 with e4
            exact ⟨by rw [h1]; exact congrArg some HPP.out.2.2.2.1, by simpa using h2, by rw [e4]; exact hfr2 0⟩)
          rw [← hWB]
          clear hWB
          have y13 : WB.cell? ⟨b13, 4, none⟩ = some (.slice (some ⟨g, 0, none⟩) n4 c) := XB.out.cell 2 rfl 4 (by rw [← V4n.out]; rfl)
          have u1 : WB.cell? ⟨q3, 1, none⟩ = some (.int .i64 p1) := XB.out.cell 1 rfl 1 rfl
          have k1 := KF.out.1
          have k2 := KF.out.2.1
          obtain ⟨S, hS⟩ : ∃ S, S = z + p1 := ⟨_, rfl⟩
          have ES := Lib.hid hS
          have eS : z + p1 = S := hS.symm
          have s0 : -4611686018427387904 ≤ S := by rw [hS]; exact HS.out.1
          have s1 : S ≤ 4611686018427387904 := by rw [hS]; exact HS.out.2.1
          clear hS
          go_upto_region 18 with (fail)
          refine Fall2.wp_region_tree (C := fun w' => True) [12] [] (.step 0 (.step 1 (.step 2 (.step 3 (.step 4 (.step 5 (.step 6 (.step 7 (.step 8 (.step 9 (.step 10 (.step 11 (.step 12 .leaf))))))))))))) (fun _ _ _ => False) (by kernel_rfl) (fun _ _ _ h => h.elim) (by kernel_rfl) trivial ?_
          refine Fall2.tree_still [0, 1, 2, 3, 4, 5, 6, 7, 8, 9, 10, 11] (by kernel_rfl) ?_
          simp only [pickL, nth]
          repeat (go_big_quiet_step (fail))
          refine wpQuiet_nil ?_
          have zf : WB.frozen? ⟨gp, 0, none⟩ = false := KF.out.2.2
          refine Fall2.tree_last (by kernel_rfl) rfl (by kernel_rfl) (fun K hK => ?_)
          simp only [pickL, nth]
          refine wpOne_one ?_
          go_simp
          refine hK _ _ ?_
          clear hK y13 u1 k1 k2 zf eS s0 s1
          refine Fall2.tree_nil ?_
          obtain ⟨WC, hWC⟩ : ∃ s, s = (WB.setCell ⟨gp, 0, none⟩ (.int .i64 S)).drew := ⟨_, rfl⟩
          obtain ⟨as2, has2⟩ : ∃ l, l = L.accts.set a { p.1 with cash := p.1.cash.set 0 S } := ⟨_, rfl⟩
          have SC := Lib.hid (OWB.out.setCash HPP.out.1 (g := gp) (c := pc) (by rw [HPP.out.2.2.2.1, HPP.out.2.2.2.2]) HPP.out.2.2.1 (x := S) (by have := HS.out; have := ES.out; omega))
          have OX := Lib.hid (show LedOwn WC w8.heap.size { V1 with ac := V1.ac.set a ({ p.1 with cash := p.1.cash.set 0 S }, p.2) } { L with accts := as2 } from by rw [hWC, has2]; exact SC.out.1.below ((Mod.refl (fun _ => False) _).drew).toBelow)
          have XC := Lib.hid (show At w WC [(q2, 31, C), (q3, 49, #[.int .i64 p0, .int .i64 p1]), (b13, 31, V1.cells L)] from by
            rw [hWC]
            refine (XB.out.mod SC.out.2 (fun k e => ?_) (fun x hx e => ?_)).drew
            · have h1 := (OWB.out.lts p.2 (by
                simp only [LedV.rows, List.mem_cons, List.mem_map]
                exact Or.inr (Or.inr (Or.inr (Or.inr (Or.inr (Or.inr (Or.inr (Or.inr ⟨p, List.mem_of_getElem? HPP.out.1, rfl⟩)))))))) gp (by rw [HPP.out.2.2.2.1]; rfl)).1
              have := HSZ.out
              omega
            · have hn : ∀ b, V1.NotIn b → b ≠ gp := fun b hb e2 => hb p.2 (by
                simp only [LedV.rows, List.mem_cons, List.mem_map]
                exact Or.inr (Or.inr (Or.inr (Or.inr (Or.inr (Or.inr (Or.inr (Or.inr ⟨p, List.mem_of_getElem? HPP.out.1, rfl⟩)))))))) (by rw [HPP.out.2.2.2.1, e2]; rfl)
              simp at hx
              rcases hx with rfl | rfl | rfl
              · exact hn _ OWA.out.2.1 e
              · exact hn _ OWA.out.2.2.1 e
              · exact hn _ OWA.out.2.2.2 e)
          have hset : ∀ (k : Nat) q r, L.accts[k]? = some q → as2[k]? = some r → (k = a ∧ q = p.1 ∧ r = { p.1 with cash := p.1.cash.set 0 S }) ∨ r = q := fun k q r h1 h2 => by
            rw [has2] at h2
            by_cases e : a = k
            · subst e
              rw [List.getElem?_set_self (List.getElem?_eq_some_iff.1 HPP.out.2.1).1] at h2
              rw [HPP.out.2.1] at h1
              exact Or.inl ⟨rfl, (Option.some.inj h1).symm, (Option.some.inj h2).symm⟩
            · rw [List.getElem?_set_ne e, h1] at h2
              exact Or.inr (Option.some.inj h2).symm
          have hln : as2.length = L.accts.length := by rw [has2, List.length_set]
          have hmp : as2.map (·.parent) = L.accts.map (·.parent) := map_same _ hln (fun k q r h1 h2 => by exact (hset k q r h1 h2).elim (fun h => by rw [h.2.1, h.2.2]) (fun h => by rw [h]))
          have hml : as2.map (·.last) = L.accts.map (·.last) := map_same _ hln (fun k q r h1 h2 => by exact (hset k q r h1 h2).elim (fun h => by rw [h.2.1, h.2.2]) (fun h => by rw [h]))
          have GX := Lib.hid (show ({ L with accts := as2 } : Led).Good from HG.out.recash hmp hml (fun v r hr => by
            have hv : v < L.accts.length := by rw [← hln]; exact (List.getElem?_eq_some_iff.1 hr).1
            have hq := List.getElem?_eq_getElem hv
            have ok := HG.out.accounts.accts v _ hq
            rcases hset v _ r hq hr with ⟨e0, e1, e2⟩ | e
            · rw [e1] at ok
              rw [e2]
              obtain ⟨o1, o2, o3, o4, o5⟩ := ok
              refine ⟨by simpa using o1, o2, o3, o4, fun y hy => ?_⟩
              rcases List.mem_or_eq_of_mem_set hy with hy | rfl
              · exact o5 y hy
              · exact fitsA_true.2 (by have := HS.out; have := ES.out; omega)
            · rw [e]; exact ok))
          have MORE := Lib.hid (show ∀ y', haveO { L with accts := as2 } a = some y' → hy ≤ y' from fun y' h' => haveO_more HG.out hmp (fun k n q r h1 h2 => by
            rcases hset k q r h1 h2 with ⟨_, e1, e2⟩ | e
            · rw [e1, e2]
              show p.1.cash.getD n 0 ≤ (p.1.cash.set 0 S).getD n 0
              rw [List.getD_eq_getElem?_getD, List.getD_eq_getElem?_getD]
              by_cases hn : n = 0
              · subst hn
                rw [List.getElem?_set_self (List.getElem?_eq_some_iff.1 HPP.out.2.2.1).1, HPP.out.2.2.1]
                show z ≤ S
                have := HS.out; have := ES.out; omega
              · rw [List.getElem?_set_ne (fun e => hn e.symm)]; exact Int.le_refl _
            · rw [e]; exact Int.le_refl _) HHY.out h')
          have HX := Lib.hid (mhave_any WC _ _ OX.out.led (by show as2.length ≤ 1024; rw [hln]; exact HL.out) (GR.out WC XC.out.low) (a : Int))
          rw [ansA_in GX.out (by show a < as2.length; rw [hln]; exact AIN.out), Int.toNat_natCast] at HX
          have HX2 := Lib.hid (show Calls Tryz.prog 14 #[.agg (V1.cells L), .int .i64 (a : Int)] WC fun e w' => e = .returned (.tuple #[.int .i64 (retA (haveO { L with accts := as2 } a)).1, .int .i64 (retA (haveO { L with accts := as2 } a)).2]) ∧ Below WC.heap.size WC w' from HX.out)
          rw [← hWC]
          clear hWC has2 hset hln hmp hml HX OX SC
          cases hx2 : haveO { L with accts := as2 } a with
          | none =>
            rw [hx2] at HX2
            have RZ : retA (none : Option Int) = (0, 4) := rfl
            rw [RZ] at HX2
            clear RZ hx2
            go_wp2_with (refine led_load (XC.out.get 2 rfl) LU.out rfl rfl rfl ?_)
            refine HX2.out.mono ?_
            rintro e wD ⟨rfl, hb⟩
            have XD := Lib.hid (XC.out.go hb)
            clear hb
            go_wp2_with fail
            go_ret
            exact ⟨rfl, XD.out.low⟩
          | some v2 =>
            have hle : hy ≤ v2 := MORE.out v2 hx2
            rw [hx2] at HX2
            have RZ : retA (some v2) = (v2, 0) := rfl
            rw [RZ] at HX2
            clear RZ hx2 MORE
            go_wp2_with (refine led_load (XC.out.get 2 rfl) LU.out rfl rfl rfl ?_)
            refine HX2.out.mono ?_
            rintro e wD ⟨rfl, hb⟩
            have XD := Lib.hid (XC.out.go hb)
            clear hb
            go_wp2_with fail
            go_ret
            exact ⟨rfl, XD.out.low⟩

      obtain ⟨k, rfl⟩ := Int.eq_ofNat_of_zero_le (show 0 ≤ p0 by omega)
      have hk : (k : Int) < (nO : Int) := by omega
      have KN := Lib.hid (show k < nO from by omega)
      clear g0 g1
      go_wp2_with (refine led_load (X4.out.get 0 rfl) LC.out rfl rfl rfl ?_)
      refine (CP.out w4 X4.out.low HG.out).mono ?_
      rintro e u ⟨V1, rfl, own, hb⟩
      have X5 := Lib.hid (X4.out.go hb)
      have OW := Lib.hid own
      have LU := Lib.hid (ledc own.led)
      have HSZ := Lib.hid (show w4.heap.size ≤ u.heap.size ∧ w.heap.size ≤ w4.heap.size from ⟨hb.size, X4.out.low.size⟩)
      unfold LedV.val
      clear own hb u0 y6
      go_upto_region 8 with (refine led_store (heap_alloc_last _ _) ledc0 LU.out rfl rfl rfl rfl ?_; rw [World.setRow_alloc_new])
      obtain ⟨W6, hW6⟩ : ∃ s, s = u.alloc (.cells (V1.cells L) 31) := ⟨_, rfl⟩
      obtain ⟨b9, hb9⟩ : ∃ n, n = u.heap.size := ⟨_, rfl⟩
      have X6 := Lib.hid (show At w W6 [(q2, 31, C), (q3, 49, #[.int .i64 (k : Int), .int .i64 p1]), (b9, 31, V1.cells L)] from by rw [hW6, hb9]; exact X5.out.alloc _ _)
      have OW6 := Lib.hid (show LedOwn W6 w4.heap.size V1 L ∧ V1.NotIn b9 ∧ w4.heap.size ≤ W6.heap.size from ⟨by rw [hW6]; exact OW.out.below ((Below.refl _ _).alloc (Nat.le_refl _) _), OW.out.notin (Or.inr (by omega)), by rw [hW6]; have := HSZ.out; simp; omega⟩)
      rw [← hW6, ← hb9]
      clear hW6 hb9 X5 OW
      obtain ⟨x, hx⟩ : ∃ x, L.orders[k]? = some x := ⟨_, List.getElem?_eq_getElem (by rw [← NO.out]; exact KN.out)⟩
      obtain ⟨b, o, eO, _, _⟩ := (RO.out w4 X4.out.low).at_ hx
      subst eO
      have cOn := (RO.out w4 X4.out.low).caps
      have CN := Lib.hid (show nO ≤ cO from by rw [NO.out]; exact cOn.2.1)
      clear hx cOn
      have DW := Lib.hid (show Below W6.heap.size W6 W6.drew from ((Mod.refl (fun _ => False) W6).drew).toBelow)
      have RT := Lib.hid (fun W (hb : Below w.heap.size w W) => (RO.out W hb).take k (by have := KN.out; have := NO.out; omega))
      have RD := Lib.hid (fun W (hb : Below w.heap.size w W) => (RO.out W hb).drop (k := k + 1) (by have := KN.out; have := NO.out; omega))
      have hltk : (L.orders.take k).length = k := by rw [List.length_take]; have := KN.out; have := NO.out; omega
      obtain ⟨v1, w7, hrun, ho1, hb7⟩ := appn_order W6.drew _ _ (RT.out W6.drew X6.out.drew.low) (by rw [hltk]; have := KN.out; omega)
      obtain ⟨xa, ka, hv1, _⟩ := ho1.form
      rw [hltk] at hv1
      subst hv1
      have B7 := Lib.hid (show Below W6.heap.size W6 w7 from DW.out.trans hb7)
      have RD7 := Lib.hid ((RD.out w7 (X6.out.go B7.out).low).reads ordcells_len)
      have hln2 : (L.orders.drop (k + 1)).length = nO - (k + 1) := by rw [List.length_drop, ← NO.out]
      obtain ⟨v2, w8, hrun2, ho2, hm2, hbk2⟩ := appr_order w7 W6.drew.heap.size (.slice xa k ka) _ ho1 hb7.size _ _ RD7.out (by rw [hltk, hln2]; have := KN.out; omega)
      obtain ⟨xb, kb, hv2, _⟩ := ho2.form
      obtain ⟨nb, hnb⟩ : ∃ n, n = (L.orders.take k ++ L.orders.drop (k + 1)).length := ⟨_, rfl⟩
      rw [← hnb] at hv2
      subst hv2
      have own7 : ∀ j, Value.ownBlock (.slice xa k ka) = some j → W6.heap.size ≤ j := fun j hj => (ho1.lt j hj).1
      have B8 := Lib.hid (show Below W6.heap.size W6 w8 from ((Mod.of_below B7.out).trans hm2 (fun j hj e => absurd (own7 j e) (Nat.not_le.2 hj))).toBelow)
      have HR1 := Lib.hid hrun
      have HR2 := Lib.hid hrun2
      have O2 := Lib.hid (show OwnOf w8 W6.heap.size 46 5 Ord.cells (.slice xb nb kb) (L.orders.take k ++ L.orders.drop (k + 1)) ∧ ∀ j, Value.ownBlock (.slice xb nb kb) = some j → W6.heap.size ≤ j from ⟨ho2, fun j hj => (ho2.lt j hj).1⟩)
      have X8 := Lib.hid (X6.out.go B8.out)
      have yb := X8.out.cell 2 rfl 6 (v := V1.orders) rfl
      have zb := X8.out.free 2 rfl 6
      have YB := Lib.hid (And.intro yb zb)
      obtain ⟨vo, ko, hvo⟩ := OW6.out.1.orders.form
      have u0 : ∀ z : Cls (fun w' => Below W6.heap.size W6 w'), z.w.cell? ⟨q3, 0, none⟩ = some (.int .i64 (k : Int)) := fun z => (X6.out.go z.ok).cell 1 rfl 0 rfl
      have y6 : ∀ z : Cls (fun w' => Below W6.heap.size W6 w'), z.w.cell? ⟨q2, 6, none⟩ = some (.slice (some ⟨b, o, none⟩) nO cO) := fun z => (X6.out.go z.ok).cell 0 rfl 6 CO6.out
      have ck : (k : Int) ≤ (cO : Int) := by have := CN.out; omega
      have ck2 : (k : Int) + 1 ≤ (nO : Int) := by omega
      have ck3 : k ≤ 32 := by omega
      clear hrun hrun2 ho1 hb7 ho2 hm2 hbk2 own7 yb zb hltk hln2 hnb
      go_simp
      refine Fall2.wp_region_tree (C := fun w' => ∃ z : Cls (fun w' => Below W6.heap.size W6 w'), w' = z.w) [0, 6, 13, 15] [1, 2, 3, 4, 5, 7, 8, 9, 10, 11, 12] (.step 1 (.step 2 (.step 3 (.step 4 (.step 5 (.step 7 (.step 8 (.step 9 (.step 10 (.step 11 (.step 12 (.step 0 (.step 6 (.step 13 (.step 14 (.step 15 .leaf)))))))))))))))) (fun _ _ _ => False) (by kernel_rfl) (fun _ _ _ h => h.elim) (by kernel_rfl) ⟨⟨W6.drew, DW.out⟩, rfl⟩ ?_
      haveI ne : Nonempty (Cls (fun w' => Below W6.heap.size W6 w')) := ⟨⟨W6, Below.refl _ _⟩⟩
      refine Fall2.tree_pure [1, 2, 3, 4, 5, 7, 8, 9, 10, 11, 12] (by kernel_rfl) ?_
      simp only [pickL, nth]
      repeat (go_big_quiet_step (fail))
      refine wpQuiet_nil ?_
      clear u0 y6
      obtain ⟨ob, hob⟩ : ∃ o' : Option Addr, o' = (if cO = k + 1 then some ⟨b, o, none⟩ else some ⟨b, o + (k + 1) * 5, none⟩) := ⟨_, rfl⟩
      rw [← hob] at HR2 ⊢
      clear hob
      refine Fall2.tree_eff (by kernel_rfl) rfl (fun K hK => ?_)
      simp only [pickL, nth]
      refine wpOne_one ?_
      go_simp
      refine hK _ _ (fun _ => ⟨⟨W6.drew.alloc (.cells #[] 46), DW.out.alloc DW.out.size _⟩, rfl⟩) ?_
      clear hK
      refine Fall2.tree_eff (by kernel_rfl) rfl (fun K hK => ?_)
      simp only [pickL, nth]
      refine wpOne_one ?_
      refine wp_append_run (.tmp 48) (.tmp 53) 27 rfl rfl rfl HR1.out ?_
      go_simp
      refine hK _ _ (fun _ => ⟨⟨w7, B7.out⟩, rfl⟩) ?_
      clear hK
      refine Fall2.tree_eff (by kernel_rfl) rfl (fun K hK => ?_)
      simp only [pickL, nth]
      refine wpOne_one ?_
      refine wp_append_run (.tmp 54) (.tmp 60) 27 rfl rfl rfl HR2.out ?_
      go_simp
      refine hK _ _ (fun _ => ⟨⟨w8, B8.out⟩, rfl⟩) ?_
      clear hK
      refine Fall2.tree_still [14] (by kernel_rfl) ?_
      simp only [pickL, nth]
      repeat (go_big_quiet_step (fail))
      refine wpQuiet_nil ?_
      have yb : w8.cell? ⟨b9, 6, none⟩ = some (.slice vo L.orders.length ko) := by rw [← hvo.1]; exact YB.out.1
      have zb := YB.out.2
      refine Fall2.tree_last (by kernel_rfl) rfl (by kernel_rfl) (fun K hK => ?_)
      simp only [pickL, nth]
      refine wpOne_one ?_
      go_simp
      refine hK _ _ ?_
      clear hK yb zb
      refine Fall2.tree_nil ?_
      obtain ⟨L9, hL9⟩ : ∃ l : Led, l = { L with orders := L.orders.take k ++ L.orders.drop (k + 1) } := ⟨_, rfl⟩
      obtain ⟨V9, hV9⟩ : ∃ v : LedV, v = { V1 with orders := .slice xb nb kb } := ⟨_, rfl⟩
      obtain ⟨C9, hC9⟩ : ∃ c, c = V9.cells L9 := ⟨_, rfl⟩
      obtain ⟨W9, hW9⟩ : ∃ s, s = w8.setCell ⟨b9, 6, none⟩ (.slice xb nb kb) := ⟨_, rfl⟩
      have X9 := Lib.hid (show At w W9 [(q2, 31, C), (q3, 49, #[.int .i64 (k : Int), .int .i64 p1]), (b9, 31, C9)] from by rw [hW9, hC9, hV9, hL9]; exact X8.out.setCell 2 rfl 6 _)
      have O9 := Lib.hid (show LedOwn W9 w4.heap.size V9 L9 from by
        have h1 := OW6.out.1.new_orders ((Mod.of_below B8.out).mono (fun _ _ h => h.elim)) (O2.out.1.base OW6.out.2.2) (fun j hj => Or.inr (O2.out.2 j hj))
        have n9 : LedV.NotIn { V1 with orders := .slice xb nb kb } b9 := by
          have h9 := X6.out.lt (b9, 31, V1.cells L) (by simp)
          intro y hy e
          simp only [LedV.rows, List.mem_cons, List.mem_map] at hy
          have key : ∀ y, y ∈ V1.rows → y.ownBlock ≠ some b9 := OW6.out.2.1
          rcases hy with rfl | rfl | rfl | rfl | rfl | rfl | rfl | rfl | ⟨p, hp, rfl⟩
          · exact key _ (by simp [LedV.rows]) e
          · exact key _ (by simp [LedV.rows]) e
          · exact key _ (by simp [LedV.rows]) e
          · exact key _ (by simp [LedV.rows]) e
          · exact key _ (by simp [LedV.rows]) e
          · have := O2.out.2 _ e; simp at h9; omega
          · exact key _ (by simp [LedV.rows]) e
          · exact key _ (by simp [LedV.rows]) e
          · refine key p.2 ?_ e
            simp only [LedV.rows, List.mem_cons, List.mem_map]
            exact Or.inr (Or.inr (Or.inr (Or.inr (Or.inr (Or.inr (Or.inr (Or.inr ⟨p, hp, rfl⟩)))))))
        rw [hW9, hV9, hL9]
        exact h1.keep ((Mod.refl (fun j => j = b9) w8).setCell _ (fun _ => rfl)) (fun j e => by rw [e]; exact n9))
      have hsub : (L.orders.take k ++ L.orders.drop (k + 1)).Sublist L.orders := by
        have h1 := List.take_append_drop k L.orders
        have h2 : (L.orders.drop (k + 1)).Sublist (L.orders.drop k) := by rw [← List.drop_drop]; exact List.drop_sublist _ _
        have h3 := (List.Sublist.refl (L.orders.take k)).append h2
        rwa [h1] at h3
      have GX := Lib.hid (show L9.Good ∧ L9.accts = L.accts from by rw [hL9]; exact ⟨HG.out.fewer (List.Sublist.refl _) hsub, rfl⟩)
      obtain ⟨y2, hy2, hle⟩ := needO_less HG.out hsub HNY.out
      have N9 := Lib.hid (mneed_any W9 V9 L9 O9.out.led (by rw [GX.out.2]; exact HL.out) (GR.out W9 X9.out.low) (a : Int))
      rw [ansA_in GX.out.1 (by rw [GX.out.2]; exact AIN.out), Int.toNat_natCast, show needO L9 a = some y2 from by rw [hL9]; exact hy2] at N9
      have RZ : retA (some y2) = (y2, 0) := rfl
      rw [RZ] at N9
      unfold LedV.val at N9
      rw [← hC9] at N9
      have LC9 := Lib.hid (show LedC C9 from by rw [hC9]; exact ledc O9.out.led)
      rw [← hW9]
      clear hW9 hC9 hV9 hL9 hsub hy2 RZ
      have hle' : ¬ y < y2 := by omega
      go_wp2_with (refine led_load (X9.out.get 2 rfl) LC9.out rfl rfl rfl ?_)
      refine N9.out.mono ?_
      rintro e w10 ⟨rfl, hb⟩
      have XT := Lib.hid (show At w w10 [(q2, 31, C), (q3, 49, #[.int .i64 (k : Int), .int .i64 p1])] from by
        have h := X9.out.go hb
        exact ⟨h.low, fun x hx => h.has x (by simp at hx ⊢; rcases hx with rfl | rfl <;> simp), fun x hx => h.new x (by simp at hx ⊢; rcases hx with rfl | rfl <;> simp), by have := h.nod; simp at this ⊢; exact this.1.1⟩)
      clear hb N9 hle
      cases hh : haveO L a with
      | none =>
        rw [hh] at HV'
        have RZ : retA none = (0, 4) := rfl
        rw [RZ] at HV'
        clear RZ
        go_wp2_with (refine led_load (XT.out.get 0 rfl) LC.out rfl rfl rfl ?_)
        refine (HV'.out w10 XT.out.low).mono ?_
        rintro e w8 ⟨rfl, hb⟩
        have X8 := Lib.hid (XT.out.go hb)
        clear hb
        go_wp2_with fail
        go_ret
        exact ⟨rfl, X8.out.low⟩
      | some hy =>
        rw [hh] at HV'
        have HHY := Lib.hid hh
        have RZ : retA (some hy) = (hy, 0) := rfl
        rw [RZ] at HV'
        clear RZ hh
        go_wp2_with (refine led_load (XT.out.get 0 rfl) LC.out rfl rfl rfl ?_)
        refine (HV'.out w10 XT.out.low).mono ?_
        rintro e w8 ⟨rfl, hb⟩
        have X8 := Lib.hid (XT.out.go hb)
        clear hb
        have u1 : w8.cell? ⟨q3, 1, none⟩ = some (.int .i64 p1) := X8.out.cell 1 rfl 1 rfl
        by_cases g1 : p1 < 0
        · have dg : decide (p1 < 0) = true := decide_eq_true g1
          go_wp2_with fail
          go_ret
          exact ⟨rfl, X8.out.low⟩
        have dg : decide (p1 < 0) = false := decide_eq_false g1
        have y4 : w8.cell? ⟨q2, 4, none⟩ = some (.slice a4 n4 c4) := X8.out.cell 0 rfl 4 C4.out
        by_cases g2 : 4611686018427387904 < p1
        · go_wp2_with fail
          go_ret
          exact ⟨rfl, X8.out.low⟩
        have HP := Lib.hid (show 0 ≤ p1 ∧ p1 ≤ 4611686018427387904 from by omega)
        go_wp2_with (refine led_load (X8.out.get 0 rfl) LC.out rfl rfl rfl ?_)
        refine (CP.out w8 X8.out.low HG.out).mono ?_
        rintro e u ⟨V1, rfl, own, hb⟩
        have X9 := Lib.hid (X8.out.go hb)
        have OW := Lib.hid own
        have LU := Lib.hid (ledc own.led)
        have HSZ := Lib.hid (show w8.heap.size ≤ u.heap.size ∧ w.heap.size ≤ w8.heap.size from ⟨hb.size, X8.out.low.size⟩)
        unfold LedV.val
        clear own hb u1 y4 dg g1 g2
        obtain ⟨D, hD⟩ : ∃ D, D = (4611686018427387904 : Int) - p1 := ⟨_, rfl⟩
        have ED := Lib.hid hD
        clear hD
        go_upto_region 16 with (refine led_store (heap_alloc_last _ _) ledc0 LU.out rfl rfl rfl rfl ?_; rw [World.setRow_alloc_new])
        obtain ⟨WA, hWA⟩ : ∃ s, s = u.alloc (.cells (V1.cells L) 31) := ⟨_, rfl⟩
        obtain ⟨b13, hb13⟩ : ∃ n, n = u.heap.size := ⟨_, rfl⟩
        have XA := Lib.hid (show At w WA [(q2, 31, C), (q3, 49, #[.int .i64 (k : Int), .int .i64 p1]), (b13, 31, V1.cells L)] from by rw [hWA, hb13]; exact X9.out.alloc _ _)
        have OWA := Lib.hid (show LedOwn WA w8.heap.size V1 L ∧ V1.NotIn q2 ∧ V1.NotIn q3 ∧ V1.NotIn b13 from by
          have hq := X8.out.lt (q2, 31, C) (by simp)
          have hq3 := X8.out.lt (q3, 49, #[.int .i64 (k : Int), .int .i64 p1]) (by simp)
          exact ⟨by rw [hWA]; exact OW.out.below ((Below.refl _ _).alloc (Nat.le_refl _) _), OW.out.notin (Or.inl hq), OW.out.notin (Or.inl hq3), OW.out.notin (Or.inr (by omega))⟩)
        rw [← hWA, ← hb13]
        clear hWA hb13 X9 OW
        obtain ⟨p, hp⟩ : ∃ p, V1.ac[a]? = some p := ⟨_, List.getElem?_eq_getElem (by have h := congrArg List.length OWA.out.1.same; simp at h; have := AIN.out; omega)⟩
        have hpa : L.accts[a]? = some p.1 := by rw [OWA.out.1.same, List.getElem?_map, hp]; rfl
        have hok := HG.out.accounts.accts a p.1 hpa
        have hlen : 0 < p.1.cash.length := by have := hok.1; have := HG.out.things.c0; omega
        obtain ⟨z, hz⟩ : ∃ z, p.1.cash[0]? = some z := ⟨_, List.getElem?_eq_getElem hlen⟩
        have HZ := Lib.hid (show -4611686018427387904 ≤ z ∧ z ≤ 4611686018427387904 from fitsA_true.1 (hok.2.2.2.2 z (List.mem_of_getElem? hz)))
        obtain ⟨g, c, hv, _, _, _, hfr⟩ := OWA.out.1.accts.block hp
        have hvn : V1.accts = .slice (some ⟨g, 0, none⟩) n4 c := by rw [hv, LN.out, OWA.out.1.same, List.length_map]
        have hR := OWA.out.1.accts.row acccells_len (by decide)
        rw [hv] at hR
        obtain ⟨b', o', e', _, hc⟩ := hR.at_ hp
        cases e'
        obtain ⟨gp, pc, hpv, _, _, _, hfr2⟩ := (OWA.out.1.cash p (List.mem_of_getElem? hp)).block hz
        have hR2 := (OWA.out.1.cash p (List.mem_of_getElem? hp)).row icell_len (by decide)
        rw [hpv] at hR2
        obtain ⟨b'', o'', e'', _, hc2⟩ := hR2.at_ hz
        cases e''
        obtain ⟨pn, hpn⟩ : ∃ n, n = p.1.cash.length := ⟨_, rfl⟩
        rw [← hpn] at hpv hlen
        have k1 : WA.cell? ⟨g, a * 4 + 1, none⟩ = some (.slice (some ⟨gp, 0, none⟩) pn pc) := by have := hc 1 p.2 rfl; rw [Nat.zero_add] at this; rw [this, hpv]
        have k2 : WA.cell? ⟨gp, 0, none⟩ = some (.int .i64 z) := by have := hc2 0 (.int .i64 z) rfl; simpa using this
        have y13 : WA.cell? ⟨b13, 4, none⟩ = some (.slice (some ⟨g, 0, none⟩) n4 c) := XA.out.cell 2 rfl 4 (by rw [← hvn]; rfl)
        have u1 : WA.cell? ⟨q3, 1, none⟩ = some (.int .i64 p1) := XA.out.cell 1 rfl 1 rfl
        have V4 := Lib.hid hv
        have V4n := Lib.hid hvn
        have HPP := Lib.hid (And.intro hp (And.intro hpa (And.intro hz (And.intro hpv hpn))))
        have FR := Lib.hid (hfr2 0)
        clear hp hpa hok hz hv hfr hvn hR hc hpv hfr2 hR2 hc2 hpn
        have hpn0 : (0 : Int) < (pn : Int) := by omega
        go_simp
        have DA := Lib.hid (show Below WA.heap.size WA WA.drew from ((Mod.refl (fun _ => False) WA).drew).toBelow)
        have eD : (4611686018427387904 : Int) - p1 = D := ED.out.symm
        have d0 : 0 ≤ D := by have := HP.out; have := ED.out; omega
        have d1 : D ≤ 4611686018427387904 := by have := HP.out; have := ED.out; omega
        refine Fall2.wp_region_tree (C := fun w' => True) [] [] (.step 0 (.step 1 (.step 2 (.step 3 (.step 4 (.step 5 (.step 6 (.step 7 (.step 8 (.step 9 (.step 10 (.step 11 .leaf)))))))))))) (fun _ _ _ => False) (by kernel_rfl) (fun _ _ _ h => h.elim) (by kernel_rfl) trivial ?_
        refine Fall2.tree_still [0, 1, 2, 3, 4, 5, 6, 7, 8, 9, 10, 11] (by kernel_rfl) ?_
        simp only [pickL, nth]
        repeat (go_big_quiet_step (fail))
        refine wpQuiet_nil ?_
        refine Fall2.tree_nil ?_
        clear eD d0 d1
        by_cases gz : D < z
        · go_simp
          go_wp2_with fail
          go_ret
          exact ⟨rfl, XA.out.drew.low⟩
        go_simp
        have HS := Lib.hid (show -4611686018427387904 ≤ z + p1 ∧ z + p1 ≤ 4611686018427387904 ∧ 0 ≤ p1 from by have := HP.out; have := HZ.out; have := ED.out; omega)
        clear k1 k2 y13 u1
        obtain ⟨WB, hWB⟩ : ∃ s, s = WA.drew := ⟨_, rfl⟩
        have XB := Lib.hid (show At w WB [(q2, 31, C), (q3, 49, #[.int .i64 (k : Int), .int .i64 p1]), (b13, 31, V1.cells L)] from by rw [hWB]; exact XA.out.drew)
        have OWB := Lib.hid (show LedOwn WB w8.heap.size V1 L from by rw [hWB]; exact OWA.out.1.below DA.out)
        have KF := Lib.hid (show WB.cell? ⟨g, a * 4 + 1, none⟩ = some (.slice (some ⟨gp, 0, none⟩) pn pc) ∧ WB.cell? ⟨gp, 0, none⟩ = some (.int .i64 z) ∧ WB.frozen? ⟨gp, 0, none⟩ = false from by
          have hR := OWB.out.accts.row acccells_len (by decide)
          rw [V4.out] at hR
          obtain ⟨b', o', e', _, hc⟩ := hR.at_ HPP.out.1
          cases e'
          have h1 := hc 1 p.2 rfl
          rw [Nat.zero_add] at h1
          have hR2 := (OWB.out.cash p (List.mem_of_getElem? HPP.out.1)).row icell_len (by decide)
          obtain ⟨g', c', e2, _, _, _, hfr2⟩ := (OWB.out.cash p (List.mem_of_getElem? HPP.out.1)).block HPP.out.2.2.1
          rw [HPP.out.2.2.2.1] at hR2
          obtain ⟨b'', o'', e'', _, hc2⟩ := hR2.at_ HPP.out.2.2.1
          cases e''
          have h2 := hc2 0 (.int .i64 z) rfl
          have e3 := HPP.out.2.2.2.1.symm.trans e2
          injection e3 with e4 _ _
          injection e4 with e4
          injection e4 with e4
          exact ⟨by rw [h1]; exact congrArg some HPP.out.2.2.2.1, by simpa using h2, by rw [e4]; exact hfr2 0⟩)
        rw [← hWB]
        clear hWB
        have y13 : WB.cell? ⟨b13, 4, none⟩ = some (.slice (some ⟨g, 0, none⟩) n4 c) := XB.out.cell 2 rfl 4 (by rw [← V4n.out]; rfl)
        have u1 : WB.cell? ⟨q3, 1, none⟩ = some (.int .i64 p1) := XB.out.cell 1 rfl 1 rfl
        have k1 := KF.out.1
        have k2 := KF.out.2.1
        obtain ⟨S, hS⟩ : ∃ S, S = z + p1 := ⟨_, rfl⟩
        have ES := Lib.hid hS
        have eS : z + p1 = S := hS.symm
        have s0 : -4611686018427387904 ≤ S := by rw [hS]; exact HS.out.1
        have s1 : S ≤ 4611686018427387904 := by rw [hS]; exact HS.out.2.1
        clear hS
        go_upto_region 18 with (fail)
        refine Fall2.wp_region_tree (C := fun w' => True) [12] [] (.step 0 (.step 1 (.step 2 (.step 3 (.step 4 (.step 5 (.step 6 (.step 7 (.step 8 (.step 9 (.step 10 (.step 11 (.step 12 .leaf))))))))))))) (fun _ _ _ => False) (by kernel_rfl) (fun _ _ _ h => h.elim) (by kernel_rfl) trivial ?_
        refine Fall2.tree_still [0, 1, 2, 3, 4, 5, 6, 7, 8, 9, 10, 11] (by kernel_rfl) ?_
        simp only [pickL, nth]
        repeat (go_big_quiet_step (fail))
        refine wpQuiet_nil ?_
        have zf : WB.frozen? ⟨gp, 0, none⟩ = false := KF.out.2.2
        refine Fall2.tree_last (by kernel_rfl) rfl (by kernel_rfl) (fun K hK => ?_)
        simp only [pickL, nth]
        refine wpOne_one ?_
        go_simp
        refine hK _ _ ?_
        clear hK y13 u1 k1 k2 zf eS s0 s1
        refine Fall2.tree_nil ?_
        obtain ⟨WC, hWC⟩ : ∃ s, s = (WB.setCell ⟨gp, 0, none⟩ (.int .i64 S)).drew := ⟨_, rfl⟩
        obtain ⟨as2, has2⟩ : ∃ l, l = L.accts.set a { p.1 with cash := p.1.cash.set 0 S } := ⟨_, rfl⟩
        have SC := Lib.hid (OWB.out.setCash HPP.out.1 (g := gp) (c := pc) (by rw [HPP.out.2.2.2.1, HPP.out.2.2.2.2]) HPP.out.2.2.1 (x := S) (by have := HS.out; have := ES.out; omega))
        have OX := Lib.hid (show LedOwn WC w8.heap.size { V1 with ac := V1.ac.set a ({ p.1 with cash := p.1.cash.set 0 S }, p.2) } { L with accts := as2 } from by rw [hWC, has2]; exact SC.out.1.below ((Mod.refl (fun _ => False) _).drew).toBelow)
        have XC := Lib.hid (show At w WC [(q2, 31, C), (q3, 49, #[.int .i64 (k : Int), .int .i64 p1]), (b13, 31, V1.cells L)] from by
          rw [hWC]
          refine (XB.out.mod SC.out.2 (fun k e => ?_) (fun x hx e => ?_)).drew
          · have h1 := (OWB.out.lts p.2 (by
              simp only [LedV.rows, List.mem_cons, List.mem_map]
              exact Or.inr (Or.inr (Or.inr (Or.inr (Or.inr (Or.inr (Or.inr (Or.inr ⟨p, List.mem_of_getElem? HPP.out.1, rfl⟩)))))))) gp (by rw [HPP.out.2.2.2.1]; rfl)).1
            have := HSZ.out
            omega
          · have hn : ∀ b, V1.NotIn b → b ≠ gp := fun b hb e2 => hb p.2 (by
              simp only [LedV.rows, List.mem_cons, List.mem_map]
              exact Or.inr (Or.inr (Or.inr (Or.inr (Or.inr (Or.inr (Or.inr (Or.inr ⟨p, List.mem_of_getElem? HPP.out.1, rfl⟩)))))))) (by rw [HPP.out.2.2.2.1, e2]; rfl)
            simp at hx
            rcases hx with rfl | rfl | rfl
            · exact hn _ OWA.out.2.1 e
            · exact hn _ OWA.out.2.2.1 e
            · exact hn _ OWA.out.2.2.2 e)
        have hset : ∀ (k : Nat) q r, L.accts[k]? = some q → as2[k]? = some r → (k = a ∧ q = p.1 ∧ r = { p.1 with cash := p.1.cash.set 0 S }) ∨ r = q := fun k q r h1 h2 => by
          rw [has2] at h2
          by_cases e : a = k
          · subst e
            rw [List.getElem?_set_self (List.getElem?_eq_some_iff.1 HPP.out.2.1).1] at h2
            rw [HPP.out.2.1] at h1
            exact Or.inl ⟨rfl, (Option.some.inj h1).symm, (Option.some.inj h2).symm⟩
          · rw [List.getElem?_set_ne e, h1] at h2
            exact Or.inr (Option.some.inj h2).symm
        have hln : as2.length = L.accts.length := by rw [has2, List.length_set]
        have hmp : as2.map (·.parent) = L.accts.map (·.parent) := map_same _ hln (fun k q r h1 h2 => by exact (hset k q r h1 h2).elim (fun h => by rw [h.2.1, h.2.2]) (fun h => by rw [h]))
        have hml : as2.map (·.last) = L.accts.map (·.last) := map_same _ hln (fun k q r h1 h2 => by exact (hset k q r h1 h2).elim (fun h => by rw [h.2.1, h.2.2]) (fun h => by rw [h]))
        have GX := Lib.hid (show ({ L with accts := as2 } : Led).Good from HG.out.recash hmp hml (fun v r hr => by
          have hv : v < L.accts.length := by rw [← hln]; exact (List.getElem?_eq_some_iff.1 hr).1
          have hq := List.getElem?_eq_getElem hv
          have ok := HG.out.accounts.accts v _ hq
          rcases hset v _ r hq hr with ⟨e0, e1, e2⟩ | e
          · rw [e1] at ok
            rw [e2]
            obtain ⟨o1, o2, o3, o4, o5⟩ := ok
            refine ⟨by simpa using o1, o2, o3, o4, fun y hy => ?_⟩
            rcases List.mem_or_eq_of_mem_set hy with hy | rfl
            · exact o5 y hy
            · exact fitsA_true.2 (by have := HS.out; have := ES.out; omega)
          · rw [e]; exact ok))
        have MORE := Lib.hid (show ∀ y', haveO { L with accts := as2 } a = some y' → hy ≤ y' from fun y' h' => haveO_more HG.out hmp (fun k n q r h1 h2 => by
          rcases hset k q r h1 h2 with ⟨_, e1, e2⟩ | e
          · rw [e1, e2]
            show p.1.cash.getD n 0 ≤ (p.1.cash.set 0 S).getD n 0
            rw [List.getD_eq_getElem?_getD, List.getD_eq_getElem?_getD]
            by_cases hn : n = 0
            · subst hn
              rw [List.getElem?_set_self (List.getElem?_eq_some_iff.1 HPP.out.2.2.1).1, HPP.out.2.2.1]
              show z ≤ S
              have := HS.out; have := ES.out; omega
            · rw [List.getElem?_set_ne (fun e => hn e.symm)]; exact Int.le_refl _
          · rw [e]; exact Int.le_refl _) HHY.out h')
        have HX := Lib.hid (mhave_any WC _ _ OX.out.led (by show as2.length ≤ 1024; rw [hln]; exact HL.out) (GR.out WC XC.out.low) (a : Int))
        rw [ansA_in GX.out (by show a < as2.length; rw [hln]; exact AIN.out), Int.toNat_natCast] at HX
        have HX2 := Lib.hid (show Calls Tryz.prog 14 #[.agg (V1.cells L), .int .i64 (a : Int)] WC fun e w' => e = .returned (.tuple #[.int .i64 (retA (haveO { L with accts := as2 } a)).1, .int .i64 (retA (haveO { L with accts := as2 } a)).2]) ∧ Below WC.heap.size WC w' from HX.out)
        rw [← hWC]
        clear hWC has2 hset hln hmp hml HX OX SC
        cases hx2 : haveO { L with accts := as2 } a with
        | none =>
          rw [hx2] at HX2
          have RZ : retA (none : Option Int) = (0, 4) := rfl
          rw [RZ] at HX2
          clear RZ hx2
          go_wp2_with (refine led_load (XC.out.get 2 rfl) LU.out rfl rfl rfl ?_)
          refine HX2.out.mono ?_
          rintro e wD ⟨rfl, hb⟩
          have XD := Lib.hid (XC.out.go hb)
          clear hb
          go_wp2_with fail
          go_ret
          exact ⟨rfl, XD.out.low⟩
        | some v2 =>
          have hle : hy ≤ v2 := MORE.out v2 hx2
          rw [hx2] at HX2
          have RZ : retA (some v2) = (v2, 0) := rfl
          rw [RZ] at HX2
          clear RZ hx2 MORE
          go_wp2_with (refine led_load (XC.out.get 2 rfl) LU.out rfl rfl rfl ?_)
          refine HX2.out.mono ?_
          rintro e wD ⟨rfl, hb⟩
          have XD := Lib.hid (XC.out.go hb)
          clear hb
          go_wp2_with fail
          go_ret
          exact ⟨rfl, XD.out.low⟩

end Go.Proofs.YtcjbhgnlmmeeeaaGreatDoor

/- MarginNothing, walked (printed by tools/gen_lawz.py). -/
import Derived.Test.YtcjbhgnlmmeeeaaGreatDoorGl
import Derived.Test.YtcjbhgnlmmeeeaaGreatDoorZero
import Derived.Test.YtcjbhgnlmmeeeaaGreatDoorGk
import Derived.Test.YtcjbhgnlmmeeeaaGreatDoorGh
import Derived.Test.YtcjbhgnlmmeeeaaGreatDoorGb
namespace Go.Proofs.YtcjbhgnlmmeeeaaGreatDoor
open Go.RowKit Go.Bw Go.Maps Go.Shelf Go.Bw.Fall
set_option linter.unusedVariables false
set_option linter.unusedSimpArgs false
set_option maxRecDepth 100000 in
set_option maxHeartbeats 8000000 in
theorem nothing_law (w : World) (V : LedV) (L : Led) (h : LedAt w V L) (hs : L.Short) (hG : Grd w) (acct : Int) :
    Calls Tryz.prog 10 #[V.val L, .int .i64 acct] w fun e w' => e = .returned (.bool true) ∧ Below w.heap.size w w' := by
  classical
  have GR := Lib.hid (fun W (hb : Below w.heap.size w W) => hG.below hb)
  have HH := Lib.hid (fun W (hb : Below w.heap.size w W) => h.below hb)
  have WK := Lib.hid (fun W (hb : Below w.heap.size w W) => wakes_any W (hG.below hb))
  have WD := Lib.hid (fun W (hb : Below w.heap.size w W) => wide_any W V L (h.below hb) hs)
  have GD := Lib.hid (show ∀ W, Below w.heap.size w W → L.accts.length ≤ 1024 → ∀ B : Bool, decide L.Good = B → Calls Tryz.prog 22 #[V.val L] W fun e w' => e = .returned (.bool B) ∧ Below W.heap.size W w' from fun W hb hL B hB => good_to (h.below hb) hL hB)
  have CP := Lib.hid (fun W (hb : Below w.heap.size w W) (hg : L.Good) => copy_any W V L (h.below hb) (good_bulk hg).1 (fun a ha => by have := (good_bulk hg).2.1 a ha; omega))
  have HV := Lib.hid (fun W (hb : Below w.heap.size w W) (hL : L.accts.length ≤ 1024) => mhave_any W V L (h.below hb) hL (hG.below hb) acct)
  have LC := Lib.hid (ledc h)
  obtain ⟨a4, c4, hc4⟩ := cells4 h
  unfold LedV.val at WD GD CP HV ⊢
  obtain ⟨C, hC⟩ : ∃ C, C = V.cells L := ⟨_, rfl⟩
  rw [← hC] at WD GD CP HV LC hc4 ⊢
  obtain ⟨n4, hn4⟩ : ∃ n, n = L.accts.length := ⟨_, rfl⟩
  rw [← hn4] at hc4
  have LN := Lib.hid hn4
  have C4 := Lib.hid hc4
  have BK := Lib.hid (show ¬ 1024 < L.bulk → L.accts.length ≤ 1024 from fun hb => by unfold Led.bulk at hb; omega)
  have A0 := Lib.hid ((At.start w).alloc 31 C)
  obtain ⟨BB, hBB⟩ : ∃ B, B = decide (1024 < L.bulk) := ⟨_, rfl⟩
  rw [← hBB] at WD
  have HB := Lib.hid hBB
  clear h hs hG hC hBB hn4 hc4
  go_enter Tryz.func10, Tryz.ntmps10
  go_upto_region 1 with (fail)
  obtain ⟨W0, hW0⟩ : ∃ s, s = w.alloc (.cells C 31) := ⟨_, rfl⟩
  obtain ⟨q2, hq2⟩ : ∃ n, n = w.heap.size := ⟨_, rfl⟩
  have X0 := Lib.hid (show At w W0 [(q2, 31, C)] from by rw [hW0, hq2]; exact A0.out)
  rw [← hW0, ← hq2]
  clear A0 hW0 hq2
  go_wp2_with fail
  refine (WK.out W0 X0.out.low).mono ?_
  rintro e w1 ⟨rfl, hb⟩
  have X1 := Lib.hid (X0.out.go hb)
  clear hb
  go_wp2_with (refine led_load (X1.out.get 0 rfl) LC.out rfl rfl rfl ?_)
  refine (WD.out w1 X1.out.low).mono ?_
  rintro e w2 ⟨rfl, hb⟩
  have X2 := Lib.hid (X1.out.go hb)
  clear hb
  cases hbb : BB with
  | true =>
    subst hbb
    go_wp2_with fail
    go_ret
    exact ⟨rfl, X2.out.low⟩
  | false =>
    subst hbb
    have hL := BK.out (of_decide_eq_false HB.out.symm)
    have HL := Lib.hid hL
    by_cases hg : L.Good
    rotate_left
    · have hgd := decide_eq_false hg
      go_wp2_with (refine led_loadg (X2.out.get 0 rfl) LC.out (by rfl) rfl rfl ?_)
      refine (GD.out w2 X2.out.low hL false hgd).mono ?_
      rintro e w3 ⟨rfl, hb⟩
      have X3 := Lib.hid (X2.out.go hb)
      clear hb hg hgd
      go_wp2_with fail
      go_ret
      exact ⟨rfl, X3.out.low⟩
    have HG := Lib.hid hg
    have m4 : n4 ≤ 1024 := by rw [LN.out]; exact hL
    clear hg
    go_wp2_with (refine led_loadg (X2.out.get 0 rfl) LC.out (by rfl) rfl rfl ?_)
    refine (GD.out w2 X2.out.low hL true (decide_eq_true HG.out)).mono ?_
    rintro e w3 ⟨rfl, hb⟩
    have X3 := Lib.hid (X2.out.go hb)
    clear hb hL
    go_wp2_with (refine led_load (X3.out.get 0 rfl) LC.out rfl rfl rfl ?_)
    refine (CP.out w3 X3.out.low HG.out).mono ?_
    rintro e u ⟨V1, rfl, own, hb⟩
    have X4 := Lib.hid (X3.out.go hb)
    have OW := Lib.hid own
    have LU := Lib.hid (ledc own.led)
    unfold LedV.val
    clear own hb
    go_upto_region 6 with (refine led_store (heap_alloc_last _ _) ledc0 LU.out rfl rfl rfl rfl ?_; rw [World.setRow_alloc_new])
    obtain ⟨W5, hW5⟩ : ∃ s, s = u.alloc (.cells (V1.cells L) 31) := ⟨_, rfl⟩
    obtain ⟨b5, hb5⟩ : ∃ n, n = u.heap.size := ⟨_, rfl⟩
    have X5 := Lib.hid (show At w W5 [(q2, 31, C), (b5, 31, V1.cells L)] from by rw [hW5, hb5]; exact X4.out.alloc _ _)
    have OW5 := Lib.hid (show LedOwn W5 w3.heap.size V1 L ∧ V1.NotIn q2 ∧ V1.NotIn b5 from by
      have hq := X3.out.lt (q2, 31, C) (by simp)
      refine ⟨by rw [hW5]; exact OW.out.below ((Below.refl _ _).alloc (Nat.le_refl _) _), OW.out.notin (Or.inl hq), OW.out.notin (Or.inr (by omega))⟩)
    have SZ := Lib.hid (show w.heap.size ≤ w3.heap.size from X3.out.low.size)
    rw [← hW5, ← hb5]
    clear hW5 hb5 X4 OW
    have y5 : W5.cell? ⟨b5, 5, none⟩ = some V1.poss := X5.out.cell 1 rfl 5 rfl
    have z5 := X5.out.free 1 rfl 5
    go_upto_region 7 with (fail)
    obtain ⟨W6, hW6⟩ : ∃ s, s = W5.setCell ⟨b5, 5, none⟩ (.slice none 0 0) := ⟨_, rfl⟩
    have X6 := Lib.hid (X5.out.setCell 1 rfl 5 (.slice none 0 0))
    rw [← hW6] at X6 ⊢
    have HW6 := Lib.hid hW6
    clear hW6
    have y6 : W6.cell? ⟨b5, 6, none⟩ = some V1.orders := X6.out.cell 1 rfl 6 rfl
    have z6 := X6.out.free 1 rfl 6
    clear y5 z5
    go_upto_region 8 with (fail)
    obtain ⟨W7, hW7⟩ : ∃ s, s = W6.setCell ⟨b5, 6, none⟩ (.slice none 0 0) := ⟨_, rfl⟩
    obtain ⟨VB, hVB⟩ : ∃ v : LedV, v = { V1 with poss := .slice none 0 0, orders := .slice none 0 0 } := ⟨_, rfl⟩
    obtain ⟨LB, hLB⟩ : ∃ l : Led, l = { L with poss := [], orders := [] } := ⟨_, rfl⟩
    obtain ⟨C5, hC5⟩ : ∃ c, c = VB.cells LB := ⟨_, rfl⟩
    have X7 := Lib.hid (show At w W7 [(q2, 31, C), (b5, 31, C5)] from by rw [hW7, hC5, hVB, hLB]; exact X6.out.setCell 1 rfl 6 (.slice none 0 0))
    have M7 : Mod (fun k => k = b5) W5 W7 := by
      rw [hW7, HW6.out]; exact ((Mod.refl (fun k => k = b5) W5).setCell _ (fun _ => rfl)).setCell _ (fun _ => rfl)
    have OB := Lib.hid (show LedOwn W7 w3.heap.size VB LB from by rw [hVB, hLB]; exact (OW5.out.1.keep M7 (fun k e => by rw [e]; exact OW5.out.2.2)).bare)
    have NB := Lib.hid (show ∀ x ∈ [(q2, 31, C), (b5, 31, C5)], VB.NotIn x.1 from by
      have hn : ∀ b, V1.NotIn b → VB.NotIn b := fun b hb x hx e => by
        rw [hVB] at hx
        simp only [LedV.rows, List.mem_cons, List.mem_map] at hx
        have key : ∀ y, y ∈ V1.rows → y.ownBlock ≠ some b := hb
        rcases hx with rfl | rfl | rfl | rfl | rfl | rfl | rfl | rfl | ⟨p, hp, rfl⟩
        · exact key _ (by simp [LedV.rows]) e
        · exact key _ (by simp [LedV.rows]) e
        · exact key _ (by simp [LedV.rows]) e
        · exact key _ (by simp [LedV.rows]) e
        · simp [Value.ownBlock] at e
        · simp [Value.ownBlock] at e
        · exact key _ (by simp [LedV.rows]) e
        · exact key _ (by simp [LedV.rows]) e
        · refine key p.2 ?_ e
          simp only [LedV.rows, List.mem_cons, List.mem_map]
          exact Or.inr (Or.inr (Or.inr (Or.inr (Or.inr (Or.inr (Or.inr (Or.inr ⟨p, hp, rfl⟩)))))))
      intro x hx
      simp at hx
      rcases hx with rfl | rfl
      · exact hn _ OW5.out.2.1
      · exact hn _ OW5.out.2.2)
    have BG := Lib.hid (show LB.Good ∧ LB.poss = [] ∧ LB.orders = [] ∧ LB.curs = L.curs ∧ LB.accts = L.accts from by rw [hLB]; exact ⟨HG.out.fewer (List.nil_sublist _) (List.nil_sublist _), rfl, rfl, rfl, rfl⟩)
    have LB4 := Lib.hid (show n4 = LB.accts.length from by rw [BG.out.2.2.2.2]; exact LN.out)
    have LC5 := Lib.hid (show LedC C5 from by rw [hC5]; exact ledc OB.out.led)
    obtain ⟨x4, k4, hx4⟩ : ∃ x4 k4, VB.accts = .slice x4 n4 k4 := by
      obtain ⟨a, c, e⟩ := OB.out.led.accts.form
      exact ⟨a, c, by rw [e, LB4.out, OB.out.same, List.length_map]⟩
    have F4 := Lib.hid hx4
    have C54 := Lib.hid (show C5[4]? = some (.slice x4 n4 k4) from by rw [hC5, ← hx4]; rfl)
    have E5 := Lib.hid hC5
    rw [← hW7]
    clear hW7 HW6 hVB hLB hC5 hx4 M7 y6 z6 X6 X5 OW5
    have NE := Lib.hid (mneed_any W7 VB LB OB.out.led (by rw [← LB4.out]; exact m4) (GR.out W7 X7.out.low) acct)
    unfold LedV.val at NE
    rw [← E5.out] at NE
    by_cases ho : acct < 0 ∨ (n4 : Int) ≤ acct
    · rw [ansA_out BG.out.1 (by rw [← LB4.out]; exact ho)] at NE
      by_cases hneg : acct < 0
      · have dn : decide (acct < 0) = true := decide_eq_true hneg
        clear ho
        go_wp2_with (refine led_load (X7.out.get 1 rfl) LC5.out rfl rfl rfl ?_)
        refine NE.out.mono ?_
        rintro e w8 ⟨rfl, hb⟩
        have X8 := Lib.hid (X7.out.go hb)
        clear hb
        go_wp2_with fail
        go_ret
        exact ⟨rfl, X8.out.low⟩
      · have dn : decide (acct < 0) = false := decide_eq_false hneg
        have hge : (n4 : Int) ≤ acct := ho.resolve_left hneg
        clear ho
        go_wp2_with (refine led_load (X7.out.get 1 rfl) LC5.out rfl rfl rfl ?_)
        refine NE.out.mono ?_
        rintro e w8 ⟨rfl, hb⟩
        have X8 := Lib.hid (X7.out.go hb)
        have y4 : w8.cell? ⟨q2, 4, none⟩ = some (.slice a4 n4 c4) := X8.out.cell 0 rfl 4 C4.out
        clear hb
        go_wp2_with fail
        go_ret
        exact ⟨rfl, X8.out.low⟩
    rw [ansA_ok BG.out.1 (by rw [← LB4.out]; exact ho), needO_bare BG.out.1 BG.out.2.1 BG.out.2.2.1] at NE
    have RZ : retA (some 0) = (0, 0) := rfl
    rw [RZ] at NE
    obtain ⟨a, rfl⟩ := Int.eq_ofNat_of_zero_le (show 0 ≤ acct by omega)
    have dn : decide ((a : Int) < 0) = false := decide_eq_false (by omega)
    have dn2 : ¬ (n4 : Int) ≤ (a : Int) := by omega
    have dn3 : (a : Int) < (n4 : Int) := by omega
    have HO := Lib.hid ho
    clear ho RZ
    go_wp2_with (refine led_load (X7.out.get 1 rfl) LC5.out rfl rfl rfl ?_)
    refine NE.out.mono ?_
    rintro e w8 ⟨rfl, hb⟩
    have X8 := Lib.hid (X7.out.go hb)
    have OB8 := Lib.hid (OB.out.below hb)
    have y4 : w8.cell? ⟨q2, 4, none⟩ = some (.slice a4 n4 c4) := X8.out.cell 0 rfl 4 C4.out
    clear hb NE OB
    have HX := Lib.hid (mhave_any w8 VB LB OB8.out.led (by rw [← LB4.out]; exact m4) (GR.out w8 X8.out.low) (a : Int))
    unfold LedV.val at HX
    rw [← E5.out, ansA_ok BG.out.1 (by rw [← LB4.out]; exact HO.out), haveO_same BG.out.2.2.2.1 BG.out.2.2.2.2] at HX
    have HV' := Lib.hid (fun W hb => HV.out W hb HL.out)
    rw [ansA_ok HG.out (by rw [← LN.out]; exact HO.out)] at HV'
    obtain ⟨rh, hrh⟩ : ∃ r, r = retA (haveO L ((a : Int).toNat)) := ⟨_, rfl⟩
    rw [← hrh] at HX HV'
    clear hrh HV HO
    go_wp2_with (refine led_load (X8.out.get 1 rfl) LC5.out rfl rfl rfl ?_)
    refine HX.out.mono ?_
    rintro e w9 ⟨rfl, hb⟩
    have X9 := Lib.hid (X8.out.go hb)
    have OB9 := Lib.hid (OB8.out.below hb)
    clear hb y4 HX OB8
    go_wp2_with (refine led_load (X9.out.get 0 rfl) LC.out rfl rfl rfl ?_)
    refine (HV'.out w9 X9.out.low).mono ?_
    rintro e w10 ⟨rfl, hb⟩
    have XA := Lib.hid (X9.out.go hb)
    have OBA := Lib.hid (OB9.out.below hb)
    clear hb OB9
    have y4 : w10.cell? ⟨b5, 4, none⟩ = some (.slice x4 n4 k4) := XA.out.cell 1 rfl 4 C54.out
    go_wp2_with fail
    go_loopw [78] (fun i wr => ∃ k : Nat, k ≤ n4 ∧ i = .int .i64 k ∧ ∃ W, W = wr ∧ Hid (ZAt w w3.heap.size [(q2, 31, C), (b5, 31, C5)] VB LB (fun _ => True) k W)) (fun i _ => n4 - (intOf i).toNat)
    case atStart => exact ⟨0, Nat.zero_le _, rfl, _, rfl, Lib.hid (ZAt.start XA.out OBA.out)⟩
    case round =>
      clear y4 XA
      obtain ⟨k, hk, rfl, W, rfl, ZA⟩ := hrel
      by_cases hlt : k < n4
      · have hlt' : (k : Int) < (n4 : Int) := by omega
        have LT_ := Lib.hid hlt
        obtain ⟨a, ha⟩ : ∃ a, LB.accts[k]? = some a := ⟨_, List.getElem?_eq_getElem (by rw [← LB4.out]; exact hlt)⟩
        have HA := Lib.hid ha
        clear ha
        have y4 : W.cell? ⟨b5, 4, none⟩ = some (.slice x4 n4 k4) := ZA.out.at_.cell 1 rfl 4 C54.out
        have Z0 := Lib.hid ZA.out.inn
        obtain ⟨g, c, pa, pc, hv, yc⟩ := Z0.out.row HA.out
        have hv2 := hv.symm.trans F4.out
        obtain rfl : x4 = some ⟨g, 0, none⟩ := by injection hv2 with e _ _; exact e.symm
        have CL := Lib.hid (show a.cash.length ≤ 1000000 from by have := (good_bulk BG.out.1).2.1 a (List.mem_of_getElem? HA.out); omega)
        obtain ⟨m, hm⟩ : ∃ m, m = a.cash.length := ⟨_, rfl⟩
        have HM := Lib.hid hm
        rw [← hm] at yc CL
        have m6 : m ≤ 1000000 := CL.out
        clear hv hv2 hm
        go_wp2_with fail
        clear y4 yc
        obtain ⟨W5, hW5⟩ : ∃ W5, W5 = W := ⟨_, rfl⟩
        rw [← hW5] at Z0 ⊢
        clear hW5 ZA
        obtain ⟨w5, rfl⟩ : ∃ w5, w5 = W5 := ⟨_, rfl⟩
        go_loopw [88] (fun i wr => ∃ j : Nat, j ≤ m ∧ i = .int .i64 j ∧ ∃ W, W = wr ∧ Hid (ZIn w w3.heap.size [(q2, 31, C), (b5, 31, C5)] VB LB (fun _ => True) k j W)) (fun i _ => m - (intOf i).toNat)
        case atStart => exact ⟨0, Nat.zero_le _, rfl, _, rfl, Z0⟩
        case round =>
          clear Z0
          obtain ⟨j, hj, rfl, W, rfl, ZI⟩ := hrel
          by_cases hjt : j < m
          · have hjt' : (j : Int) < (m : Int) := by omega
            have JT := Lib.hid hjt
            obtain ⟨gp, pc2, y, z1, z2, z3, z4⟩ := ZI.out.put HA.out (by rw [← HM.out]; exact hjt) NB.out SZ.out F4.out
            rw [← HM.out] at z1
            have ZN := Lib.hid z4
            have y4 : W.cell? ⟨b5, 4, none⟩ = some (.slice (some ⟨g, 0, none⟩) n4 k4) := ZI.out.at_.cell 1 rfl 4 C54.out
            clear z4
            go_wp2_with fail
            go_roundw
            case rel => exact ⟨j + 1, by have := JT.out; omega, by go_num, _, rfl, ZN⟩
            case measure => have := JT.out; simp [intOf]; omega
          · have hjt' : ¬ (j : Int) < (m : Int) := by omega
            have ZQ := Lib.hid (show ZAt w w3.heap.size [(q2, 31, C), (b5, 31, C5)] VB LB (fun _ => True) (k + 1) W from ZI.out.out HA.out (by rw [← HM.out]; omega) trivial)
            go_wp2_with fail
            go_roundw
            case rel => exact ⟨k + 1, by have := LT_.out; omega, by go_num, _, rfl, ZQ⟩
            case measure => have := LT_.out; simp [intOf]; omega
      · have hlt' : ¬ (k : Int) < (n4 : Int) := by omega
        obtain rfl : n4 = k := by omega
        obtain ⟨ac, A, o, z, e⟩ := ZA.out.own
        have XB := Lib.hid ZA.out.at_
        obtain ⟨VZ, hVZ⟩ : ∃ v : LedV, v = { VB with ac := ac } := ⟨_, rfl⟩
        obtain ⟨LZ, hLZ⟩ : ∃ l : Led, l = { LB with accts := A } := ⟨_, rfl⟩
        have OZ := Lib.hid (show LedOwn W w3.heap.size VZ LZ from by rw [hVZ, hLZ]; exact o)
        have GZ := Lib.hid (show LZ.Good from by rw [hLZ]; exact z.good BG.out.1 (by rw [← LB4.out]; exact Nat.le_refl _))
        have EZ := Lib.hid (show C5 = VZ.cells LZ from by rw [E5.out, hVZ, hLZ]; rfl)
        have FZ := Lib.hid (show ∃ m, flagsO LZ = some m ∧ ∀ a ∈ m.accts, a.flag = false from by
          refine flagsO_bare GZ.out (by rw [hLZ]; exact BG.out.2.1) (by rw [hLZ]; exact BG.out.2.2.1) (fun b hb n => ?_)
          rw [hLZ] at hb
          obtain ⟨i, hi, e⟩ := List.mem_iff_getElem.1 hb
          have hi2 : i < LB.accts.length := by rw [← z.len]; exact hi
          have := (z.all (by rw [← LB4.out]; exact Nat.le_refl _) i _ _ (List.getElem?_eq_getElem hi2) (List.getElem?_eq_getElem hi)).1 trivial
          rw [← e]; exact this.getD n)
        clear o z e hVZ hLZ ZA
        obtain ⟨M, hM, hfl⟩ := FZ.out
        have FLG := Lib.hid hfl
        have FR := Lib.hid (flags_ret W VZ LZ OZ.out.led (by have := (good_bulk GZ.out).2.2; omega) (GR.out W XB.out.low))
        rw [flagsA_some GZ.out hM] at FR
        have MG := Lib.hid (flagsO_good GZ.out hM)
        unfold LedV.val at FR
        rw [← EZ.out] at FR
        clear hM hfl FZ
        go_wp2_with (refine led_load (XB.out.get 1 rfl) LC5.out rfl rfl rfl ?_)
        refine FR.out.mono ?_
        rintro e w11 ⟨U, rfl, own, hb⟩
        have XC := Lib.hid (XB.out.go hb)
        have OU := Lib.hid own.led
        have LUU := Lib.hid (ledc own.led)
        unfold LedV.val
        clear own hb
        go_upto_region 25 with (refine led_store (heap_alloc_last _ _) ledc0 LUU.out rfl rfl rfl rfl ?_; rw [World.setRow_alloc_new])
        obtain ⟨W12, hW12⟩ : ∃ s, s = w11.alloc (.cells (U.cells M) 31) := ⟨_, rfl⟩
        obtain ⟨b14, hb14⟩ : ∃ n, n = w11.heap.size := ⟨_, rfl⟩
        have XD := Lib.hid (show At w W12 [(q2, 31, C), (b5, 31, C5), (b14, 31, U.cells M)] from by rw [hW12, hb14]; exact XC.out.alloc _ _)
        have OU12 := Lib.hid (show LedAt W12 U M from by rw [hW12]; exact OU.out.below ((Below.refl _ _).alloc (Nat.le_refl _) _))
        rw [← hW12, ← hb14]
        clear hW12 hb14 XC OU
        obtain ⟨n5, hn5⟩ : ∃ n, n = M.accts.length := ⟨_, rfl⟩
        obtain ⟨a5, c5, hu5⟩ : ∃ a c, U.accts = .slice a n5 c := by
          obtain ⟨a, c, e⟩ := OU12.out.accts.form
          exact ⟨a, c, by rw [e, hn5, OU12.out.same, List.length_map]⟩
        have N5 := Lib.hid hn5
        have U5 := Lib.hid hu5
        have m5 : n5 ≤ 16 := by rw [hn5]; exact (good_bulk MG.out).2.2
        have y4 : W12.cell? ⟨b14, 4, none⟩ = some (.slice a5 n5 c5) := XD.out.cell 2 rfl 4 (by rw [← hu5]; rfl)
        clear hn5 hu5
        go_wp2_with fail
        go_loopw [111] (fun i wr => ∃ k : Nat, k ≤ n5 ∧ i = .int .i64 k ∧ ∃ W, W = wr ∧ Hid (LedAt W U M ∧ Below w.heap.size w W)) (fun i _ => n5 - (intOf i).toNat)
        case atStart => exact ⟨0, Nat.zero_le _, rfl, _, rfl, Lib.hid ⟨OU12.out, XD.out.low⟩⟩
        case round =>
          clear XD OU12 y4
          obtain ⟨k, hk, rfl, W, rfl, ZA⟩ := hrel
          by_cases hlt : k < n5
          · have hlt' : (k : Int) < (n5 : Int) := by omega
            have LT_ := Lib.hid hlt
            obtain ⟨p, hp⟩ : ∃ p, U.ac[k]? = some p := ⟨_, List.getElem?_eq_getElem (by have h := congrArg List.length ZA.out.1.same; simp at h; have := N5.out; omega)⟩
            have hfp : p.1.flag = false := FLG.out p.1 (by rw [ZA.out.1.same]; exact List.mem_map.2 ⟨p, List.mem_of_getElem? hp, rfl⟩)
            have hR := ZA.out.1.accts
            rw [U5.out] at hR
            obtain ⟨b, o, e, _, hc⟩ := hR.at_ hp
            subst e
            obtain ⟨pa, pc, hpv⟩ := (ZA.out.1.cash p (List.mem_of_getElem? hp)).form
            obtain ⟨x, pv⟩ := p
            obtain ⟨pn, hpn⟩ : ∃ n, n = x.cash.length := ⟨_, rfl⟩
            obtain rfl : pv = .slice pa pn pc := by rw [hpn]; exact hpv
            have c0 := hc 0 (.int .i64 x.parent) rfl
            have c1 := hc 1 (.slice pa pn pc) rfl
            have c2 := hc 2 (.bool x.flag) rfl
            have c3 := hc 3 (.int .i64 x.last) rfl
            rw [show x.flag = false from hfp] at c2
            rw [Nat.add_zero] at c0
            have ZB := Lib.hid (show LedAt (W.alloc (.cells #[.int .i64 x.parent, .slice pa pn pc, .bool false, .int .i64 x.last] 48)) U M ∧ Below w.heap.size w (W.alloc (.cells #[.int .i64 x.parent, .slice pa pn pc, .bool false, .int .i64 x.last] 48)) from ⟨ZA.out.1.below ((Below.refl _ _).alloc (Nat.le_refl _) _), ZA.out.2.alloc ZA.out.2.size _⟩)
            clear hR hc hp hpv hpn hfp
            go_wp2_with fail
            go_roundw
            case rel => exact ⟨k + 1, by have := LT_.out; omega, by go_num, _, rfl, ZB⟩
            case measure => have := LT_.out; simp [intOf]; omega
          · have hlt' : ¬ (k : Int) < (n5 : Int) := by omega
            obtain rfl : n5 = k := by omega
            go_wp2_with fail
            go_ret
            exact ⟨rfl, ZA.out.2⟩
end Go.Proofs.YtcjbhgnlmmeeeaaGreatDoor

/- MarginKeeps, walked (printed by tools/gen_lawk.py). -/
import Derived.Test.YtcjbhgnlmmeeeaaGreatDoorGl
import Derived.Test.YtcjbhgnlmmeeeaaGreatDoorKeep
import Derived.Test.YtcjbhgnlmmeeeaaGreatDoorGk
import Derived.Test.YtcjbhgnlmmeeeaaGreatDoorGh
namespace Go.Proofs.YtcjbhgnlmmeeeaaGreatDoor
open Go.RowKit Go.Bw Go.Maps Go.Shelf Go.Bw.Fall
set_option linter.unusedVariables false
set_option linter.unusedSimpArgs false
theorem _root_.Go.Bw.LedOwn.rows_lt {w : World} {B : Nat} {V : LedV} {l : Led} (h : LedOwn w B V l) : ∀ x ∈ V.rows, ∀ k, x.ownBlock = some k → k < w.heap.size := fun x hx k hk => (LedOwn.lts h x hx k hk).2
theorem _root_.Go.Bw.LedOwn.rows_ge {w : World} {B : Nat} {V : LedV} {l : Led} (h : LedOwn w B V l) : ∀ x ∈ V.rows, ∀ k, x.ownBlock = some k → B ≤ k := fun x hx k hk => (LedOwn.lts h x hx k hk).1
theorem slice_of {α : Type} {w : World} {n : Nat} {f : α → List Value} {v : Value} {l : List α} {m : Nat} (h : RowOf w n f v l) (hm : m = l.length) : ∃ a c, v = .slice a m c := by obtain ⟨a, c, e⟩ := h.form; exact ⟨a, c, by rw [hm]; exact e⟩
set_option maxRecDepth 100000 in
set_option maxHeartbeats 16000000 in
theorem keeps_law (w : World) (V : LedV) (L : Led) (h : LedAt w V L) (hs : L.Short) (hG : Grd w) (acct : Int) :
    Calls Tryz.prog 9 #[V.val L, .int .i64 acct] w fun e w' => e = .returned (.bool true) ∧ Below w.heap.size w w' := by
  classical
  have GR := Lib.hid (fun W (hb : Below w.heap.size w W) => hG.below hb)
  have HH := Lib.hid (fun W (hb : Below w.heap.size w W) => h.below hb)
  have SH := Lib.hid hs
  have WK := Lib.hid (fun W (hb : Below w.heap.size w W) => wakes_any W (hG.below hb))
  have WD := Lib.hid (fun W (hb : Below w.heap.size w W) => wide_any W V L (h.below hb) hs)
  have CP := Lib.hid (fun W (hb : Below w.heap.size w W) (hk : L.bulk ≤ 1000000) => rcopy_any W V L (h.below hb) hk hs.cash)
  have LC := Lib.hid (ledc h)
  unfold LedV.val at WD CP ⊢
  obtain ⟨C, hC⟩ : ∃ C, C = V.cells L := ⟨_, rfl⟩
  have EC := Lib.hid hC
  rw [← hC] at WD CP LC ⊢
  have A0 := Lib.hid ((At.start w).alloc 31 C)
  obtain ⟨BB, hBB⟩ : ∃ B, B = decide (1024 < L.bulk) := ⟨_, rfl⟩
  rw [← hBB] at WD
  have HB := Lib.hid hBB
  clear h hs hG hC hBB
  go_enter Tryz.func9, Tryz.ntmps9
  go_upto_region 1 with (fail)
  obtain ⟨W0, hW0⟩ : ∃ s, s = w.alloc (.cells C 31) := ⟨_, rfl⟩
  obtain ⟨q2, hq2⟩ : ∃ n, n = w.heap.size := ⟨_, rfl⟩
  have X0 := Lib.hid (show At w W0 [(q2, 31, C)] from by rw [hW0, hq2]; exact A0.out)
  rw [← hW0, ← hq2]
  clear A0 hW0 hq2
  go_wp2_with fail
  refine (WK.out W0 X0.out.low).mono ?_
  rintro e w1 ⟨rfl, hb⟩
  have X1 := Lib.hid (X0.out.go hb)
  clear hb
  go_wp2_with (refine led_load (X1.out.get 0 rfl) LC.out rfl rfl rfl ?_)
  refine (WD.out w1 X1.out.low).mono ?_
  rintro e w2 ⟨rfl, hb⟩
  have X2 := Lib.hid (X1.out.go hb)
  clear hb
  cases hbb : BB with
  | true =>
    subst hbb
    go_wp2_with fail
    go_ret
    exact ⟨rfl, X2.out.low⟩
  | false =>
    subst hbb
    have hbk : L.bulk ≤ 1024 := by have := of_decide_eq_false HB.out.symm; omega
    have HBK := Lib.hid (show L.bulk ≤ 1000000 ∧ L.accts.length ≤ 1024 from by unfold Led.bulk at hbk ⊢; omega)
    clear hbk
    go_wp2_with (refine led_load (X2.out.get 0 rfl) LC.out rfl rfl rfl ?_)
    refine (CP.out w2 X2.out.low HBK.out.1).mono ?_
    rintro e u ⟨V1, rfl, own, hb⟩
    have X3 := Lib.hid (X2.out.go hb)
    have OM := Lib.hid own
    have LM := Lib.hid (ledc own.led)
    unfold LedV.val
    obtain ⟨C5, hC5⟩ : ∃ c, c = V1.cells L := ⟨_, rfl⟩
    have E5 := Lib.hid hC5
    rw [← hC5] at LM ⊢
    clear own hb hC5
    go_upto_region 6 with (refine led_store (heap_alloc_last _ _) ledc0 LM.out rfl rfl rfl rfl ?_; rw [World.setRow_alloc_new])
    obtain ⟨W4, hW4⟩ : ∃ s, s = u.alloc (.cells C5 31) := ⟨_, rfl⟩
    obtain ⟨b5, hb5⟩ : ∃ n, n = u.heap.size := ⟨_, rfl⟩
    have X4 := Lib.hid (show At w W4 [(q2, 31, C), (b5, 31, C5)] from by rw [hW4, hb5]; exact X3.out.alloc _ _)
    have OM4 := Lib.hid (show LedOwn W4 w2.heap.size V1 L from by rw [hW4]; exact OM.out.below ((Below.refl _ _).alloc (Nat.le_refl _) _))
    rw [← hW4, ← hb5]
    clear hW4 hb5 X3 OM
    have NE := Lib.hid (mneed_any W4 V1 L OM4.out.led HBK.out.2 (GR.out W4 X4.out.low) acct)
    unfold LedV.val at NE
    rw [← E5.out] at NE
    go_wp2_with (refine led_load (X4.out.get 1 rfl) LM.out rfl rfl rfl ?_)
    refine NE.out.mono ?_
    rintro e w5 ⟨rfl, hb⟩
    have X5 := Lib.hid (X4.out.go hb)
    have OM5 := Lib.hid (OM4.out.below hb)
    clear hb NE OM4
    have EX := Lib.hid (mexcess_any w5 V1 L OM5.out.led HBK.out.2 (GR.out w5 X5.out.low) acct)
    unfold LedV.val at EX
    rw [← E5.out] at EX
    go_wp2_with (refine led_load (X5.out.get 1 rfl) LM.out rfl rfl rfl ?_)
    refine EX.out.mono ?_
    rintro e w6 ⟨rfl, hb⟩
    have X6 := Lib.hid (X5.out.go hb)
    have OM6 := Lib.hid (OM5.out.below hb)
    clear hb EX OM5
    obtain ⟨M, c, hM⟩ : ∃ M c, flagsA L = (M, c) := ⟨_, _, rfl⟩
    have SM := Lib.hid (show M.Short ∧ M.bulk ≤ 1000000 ∧ ∀ a ∈ M.accts, a.cash.length ≤ 4 from by have h1 := flagsA_short L; have h2 := flagsA_bulk L; rw [hM] at h1 h2; exact ⟨h1, h2⟩)
    have FL := Lib.hid (fun W (hb : Below w6.heap.size w6 W) => flags_ret W V1 L (OM6.out.led.below hb) HBK.out.2 (GR.out W (X6.out.go hb).low))
    rw [hM] at FL
    unfold LedV.val at FL
    rw [← E5.out] at FL
    clear hM
    go_wp2_with (refine led_load (X6.out.get 1 rfl) LM.out rfl rfl rfl ?_)
    refine (FL.out w6 (Below.refl _ _)).mono ?_
    rintro e w7 ⟨U1, rfl, own, hb⟩
    have X7 := Lib.hid (X6.out.go hb)
    have B7 := Lib.hid hb
    have OM7 := Lib.hid (OM6.out.below hb)
    have OA := Lib.hid own
    have LA := Lib.hid (ledc own.led)
    unfold LedV.val
    obtain ⟨C6, hC6⟩ : ∃ c, c = U1.cells M := ⟨_, rfl⟩
    have E6 := Lib.hid hC6
    rw [← hC6] at LA ⊢
    clear own hb hC6
    go_upto_region 9 with (refine led_store (heap_alloc_last _ _) ledc0 LA.out rfl rfl rfl rfl ?_; rw [World.setRow_alloc_new])
    obtain ⟨W8, hW8⟩ : ∃ s, s = w7.alloc (.cells C6 31) := ⟨_, rfl⟩
    obtain ⟨b6, hb6⟩ : ∃ n, n = w7.heap.size := ⟨_, rfl⟩
    have N8 := Lib.hid (show Below w7.heap.size w7 W8 from by rw [hW8]; exact (Below.refl _ _).alloc (Nat.le_refl _) _)
    have X8 := Lib.hid (show At w W8 [(q2, 31, C), (b5, 31, C5), (b6, 31, C6)] from by rw [hW8, hb6]; exact X7.out.alloc _ _)
    have OM8 := Lib.hid (OM7.out.below N8.out)
    have OA8 := Lib.hid (OA.out.below N8.out)
    have SZ := Lib.hid (show w.heap.size ≤ w6.heap.size ∧ q2 < w6.heap.size ∧ b5 < w6.heap.size ∧ b6 = w7.heap.size ∧ w7.heap.size ≤ W8.heap.size from ⟨X6.out.low.size, X6.out.lt (q2, 31, C) (by simp), X6.out.lt (b5, 31, C5) (by simp), hb6, N8.out.size⟩)
    rw [← hW8, ← hb6]
    clear hW8 hb6
    go_wp2_with (refine led_load (X8.out.get 1 rfl) LM.out rfl rfl rfl ?_)
    refine (FL.out W8 (B7.out.trans (N8.out.mono B7.out.size))).mono ?_
    rintro e w9 ⟨U2, rfl, own, hb⟩
    have X9 := Lib.hid (X8.out.go hb)
    have OM9 := Lib.hid (OM8.out.below hb)
    have OA9 := Lib.hid (OA8.out.below hb)
    have OB := Lib.hid own
    have LBB := Lib.hid (ledc own.led)
    unfold LedV.val
    obtain ⟨C8, hC8⟩ : ∃ c, c = U2.cells M := ⟨_, rfl⟩
    have E8 := Lib.hid hC8
    rw [← hC8] at LBB ⊢
    clear own hC8 OM8 OA8
    have S9 := Lib.hid hb.size
    clear hb
    go_upto_region 10 with (refine led_store (heap_alloc_last _ _) ledc0 LBB.out rfl rfl rfl rfl ?_; rw [World.setRow_alloc_new])
    obtain ⟨WA, hWA⟩ : ∃ s, s = w9.alloc (.cells C8 31) := ⟨_, rfl⟩
    obtain ⟨b8, hb8⟩ : ∃ n, n = w9.heap.size := ⟨_, rfl⟩
    have NA := Lib.hid (show Below w9.heap.size w9 WA from by rw [hWA]; exact (Below.refl _ _).alloc (Nat.le_refl _) _)
    have XA := Lib.hid (show At w WA [(q2, 31, C), (b5, 31, C5), (b6, 31, C6), (b8, 31, C8)] from by rw [hWA, hb8]; exact X9.out.alloc _ _)
    have OMA := Lib.hid (OM9.out.below NA.out)
    have OAA := Lib.hid (OA9.out.below NA.out)
    have OBA := Lib.hid (OB.out.below NA.out)
    have SZ2 := Lib.hid (show b8 = w9.heap.size ∧ W8.heap.size ≤ w9.heap.size from ⟨hb8, S9.out⟩)
    rw [← hWA, ← hb8]
    clear hWA hb8 X9 OM9 OA9
    have SL := Lib.hid (rsame_any WA V1 V L L OMA.out.led (HH.out WA XA.out.low) SH.out)
    rw [eqB_yes rfl] at SL
    unfold LedV.val at SL
    rw [← E5.out, ← EC.out] at SL
    go_wp2_with (first | refine led_load (XA.out.get 1 rfl) LM.out rfl rfl rfl ?_ | refine led_load (XA.out.get 0 rfl) LC.out rfl rfl rfl ?_)
    refine SL.out.mono ?_
    rintro e wB ⟨rfl, hb⟩
    have XB := Lib.hid (XA.out.go hb)
    have OMB := Lib.hid (OMA.out.below hb)
    have OAB := Lib.hid (OAA.out.below hb)
    have OBB := Lib.hid (OBA.out.below hb)
    clear hb SL OMA OAA OBA XA
    have SB := Lib.hid (rsame_any wB U1 U2 M M OAB.out.led OBB.out.led SM.out.1)
    rw [eqB_yes rfl] at SB
    unfold LedV.val at SB
    rw [← E6.out, ← E8.out] at SB
    go_wp2_with (first | refine led_loadg (XB.out.get 2 rfl) LA.out (by rfl) rfl rfl ?_ | refine led_loadg (XB.out.get 3 rfl) LBB.out (by rfl) rfl rfl ?_)
    refine SB.out.mono ?_
    rintro e wC ⟨rfl, hb⟩
    have XC := Lib.hid (XB.out.go hb)
    have OMC := Lib.hid (OMB.out.below hb)
    have OAC := Lib.hid (OAB.out.below hb)
    have OBC := Lib.hid (OBB.out.below hb)
    clear hb SB OMB OAB OBB XB
    have CW := Lib.hid (rcopy_any wC U2 M OBC.out.led SM.out.2.1 (fun a ha => by have := SM.out.2.2 a ha; omega))
    unfold LedV.val at CW
    rw [← E8.out] at CW
    go_wp2_with (refine led_load (XC.out.get 3 rfl) LBB.out rfl rfl rfl ?_)
    refine CW.out.mono ?_
    rintro e wD ⟨U3, rfl, own, hb⟩
    have XD := Lib.hid (XC.out.go hb)
    have OMD := Lib.hid (OMC.out.below hb)
    have OAD := Lib.hid (OAC.out.below hb)
    have OBD := Lib.hid (OBC.out.below hb)
    have OWD := Lib.hid own
    have LW := Lib.hid (ledc own.led)
    have SC := Lib.hid (show w9.heap.size ≤ wC.heap.size ∧ wC.heap.size ≤ wD.heap.size from ⟨by have := XC.out.lt (b8, 31, C8) (by simp); have := SZ2.out.1; simp at *; omega, hb.size⟩)
    unfold LedV.val
    obtain ⟨C10, hC10⟩ : ∃ c, c = U3.cells M := ⟨_, rfl⟩
    have E10 := Lib.hid hC10
    rw [← hC10] at LW ⊢
    clear own hC10 hb CW XC OMC OAC OBC
    go_upto_region 13 with (refine led_store (heap_alloc_last _ _) ledc0 LW.out rfl rfl rfl rfl ?_; rw [World.setRow_alloc_new])
    obtain ⟨WE, hWE⟩ : ∃ s, s = wD.alloc (.cells C10 31) := ⟨_, rfl⟩
    obtain ⟨b10, hb10⟩ : ∃ n, n = wD.heap.size := ⟨_, rfl⟩
    have NE := Lib.hid (show Below wD.heap.size wD WE from by rw [hWE]; exact (Below.refl _ _).alloc (Nat.le_refl _) _)
    have KZ := Lib.hid (show KAt w w6.heap.size w7.heap.size [(q2, 31, C), (b5, 31, C5), (b6, 31, C6), (b8, 31, C8), (b10, 31, C10)] V1 L U1 M U2 U3 WE from
      ⟨by rw [hWE, hb10]; exact XD.out.alloc _ _, OMD.out.led.below NE.out, OBD.out.led.below NE.out, OWD.out.led.below NE.out, U1, M, ⟨OAD.out.below NE.out, OA.out.rows_lt, rfl, rfl, rfl, rfl, rfl, rfl, rfl, rfl⟩⟩)
    have KK := Lib.hid (show KC w w6.heap.size w7.heap.size [(q2, 31, C), (b5, 31, C5), (b6, 31, C6), (b8, 31, C8), (b10, 31, C10)] V1 U2 U3 from by
      have h1 := SZ.out
      have h2 := SZ2.out
      have h3 := SC.out
      refine ⟨h1.1, fun x hx => ?_, OM6.out.rows_lt, fun x hx k hk => by have := OB.out.rows_ge x hx k hk; omega, fun x hx k hk => by have := OWD.out.rows_ge x hx k hk; omega⟩
      simp at hx
      rcases hx with rfl | rfl | rfl | rfl | rfl <;> simp <;> omega)
    rw [← hWE, ← hb10]
    clear hWE hb10 NE XD OMD OAD OBD OWD
    obtain ⟨n2, hn2⟩ : ∃ n, n = M.unders.length := ⟨_, rfl⟩
    obtain ⟨n4, hn4⟩ : ∃ n, n = M.accts.length := ⟨_, rfl⟩
    obtain ⟨n5, hn5⟩ : ∃ n, n = M.poss.length := ⟨_, rfl⟩
    obtain ⟨n6, hn6⟩ : ∃ n, n = M.orders.length := ⟨_, rfl⟩
    have hnm : n2 ≤ 1000000 ∧ n4 ≤ 1000000 ∧ n5 ≤ 1000000 ∧ n6 ≤ 1000000 := by have h := SM.out.2.1; unfold Led.bulk at h; omega
    obtain ⟨m2, m4, m5, m6⟩ := hnm
    obtain ⟨a2, c2, h2⟩ := slice_of OA.out.led.unders hn2
    obtain ⟨a4, c4, h4⟩ := slice_of OA.out.led.accts (hn4.trans (by rw [OA.out.same, List.length_map]))
    obtain ⟨a5, c5, h5⟩ := slice_of OA.out.led.poss hn5
    obtain ⟨a6, c6, h6⟩ := slice_of OA.out.led.orders hn6
    have N2 := Lib.hid hn2
    have N4 := Lib.hid hn4
    have N5 := Lib.hid hn5
    have N6 := Lib.hid hn6
    have F2 := Lib.hid h2
    have F4 := Lib.hid h4
    have F5 := Lib.hid h5
    have F6 := Lib.hid h6
    have G2 := Lib.hid (show C6[2]? = some (.slice a2 n2 c2) from by rw [E6.out, ← h2]; rfl)
    have G4 := Lib.hid (show C6[4]? = some (.slice a4 n4 c4) from by rw [E6.out, ← h4]; rfl)
    have G5 := Lib.hid (show C6[5]? = some (.slice a5 n5 c5) from by rw [E6.out, ← h5]; rfl)
    have G6 := Lib.hid (show C6[6]? = some (.slice a6 n6 c6) from by rw [E6.out, ← h6]; rfl)
    clear hn2 hn4 hn5 hn6 h2 h4 h5 h6 FL OM6 OM7 OA OB X0 X1 X2 X4 X5 X6 X7 X8
    have y4 : WE.cell? ⟨b6, 4, none⟩ = some (.slice a4 n4 c4) := KZ.out.at_.cell 2 rfl 4 G4.out
    go_wp2_with fail
    go_loopw [53] (fun i wr => ∃ k : Nat, k ≤ n4 ∧ i = .int .i64 k ∧ ∃ W, W = wr ∧ Hid (KAt w w6.heap.size w7.heap.size [(q2, 31, C), (b5, 31, C5), (b6, 31, C6), (b8, 31, C8), (b10, 31, C10)] V1 L U1 M U2 U3 W)) (fun i _ => n4 - (intOf i).toNat)
    case atStart => exact ⟨0, Nat.zero_le _, rfl, _, rfl, KZ⟩
    case round =>
      clear KZ y4
      obtain ⟨k, hk, rfl, W, rfl, KZ⟩ := hrel
      by_cases hlt : k < n4
      · have hlt' : (k : Int) < (n4 : Int) := by omega
        have LT_ := Lib.hid hlt
        obtain ⟨g, pa, n, pc, ea, yc, hn, KI⟩ := KZ.out.inn (a := a4) (c := c4) (by rw [← N4.out]; exact hlt) (by rw [← N4.out]; exact F4.out)
        subst ea
        have HI := Lib.hid KI
        have y4 : W.cell? ⟨b6, 4, none⟩ = some (.slice (some ⟨g, 0, none⟩) n4 c4) := KZ.out.at_.cell 2 rfl 4 G4.out
        have hn' : n ≤ 9223372036854775807 := hn
        clear KI KZ hn
        go_wp2_with fail
        clear yc y4
        go_loopw [63] (fun i wr => ∃ j : Nat, j ≤ n ∧ i = .int .i64 j ∧ ∃ pa W, W = wr ∧ Hid (KIn w w6.heap.size w7.heap.size [(q2, 31, C), (b5, 31, C5), (b6, 31, C6), (b8, 31, C8), (b10, 31, C10)] V1 L U1 M U2 U3 k n pa pc W)) (fun i _ => n - (intOf i).toNat)
        case atStart => exact ⟨0, Nat.zero_le _, rfl, _, _, rfl, HI⟩
        case round =>
          clear HI
          obtain ⟨j, hj, rfl, pa, W, rfl, KI⟩ := hrel
          by_cases hjt : j < n
          · have hjt' : (j : Int) < (n : Int) := by omega
            have JT := Lib.hid hjt
            obtain ⟨gp, y, e, z1, z2, z3, z4⟩ := KI.out.put (c := c4) (x := -9) KK.out hjt (by rw [← N4.out]; exact F4.out) (by omega)
            subst e
            have ZN := Lib.hid z4
            have y4 : W.cell? ⟨b6, 4, none⟩ = some (.slice (some ⟨g, 0, none⟩) n4 c4) := KI.out.1.at_.cell 2 rfl 4 G4.out
            clear z4
            go_wp2_with fail
            go_roundw
            case rel => exact ⟨j + 1, by have := JT.out; omega, by go_num, _, _, rfl, ZN⟩
            case measure => have := JT.out; simp [intOf]; omega
          · have hjt' : ¬ (j : Int) < (n : Int) := by omega
            obtain ⟨g', eg, ⟨u0, v1, v2, v3, u2, u3, d0, d1, d2, d3⟩, zf, KB⟩ := KI.out.1.blank (a := some ⟨g, 0, none⟩) (c := c4) KK.out (by rw [← N4.out]; exact LT_.out) (by rw [← N4.out]; exact F4.out)
            obtain rfl : g = g' := by injection eg with eg; injection eg
            have HBk := Lib.hid KB
            have y4 : W.cell? ⟨b6, 4, none⟩ = some (.slice (some ⟨g, 0, none⟩) n4 c4) := KI.out.1.at_.cell 2 rfl 4 G4.out
            clear KB eg
            go_wp2_with fail
            go_roundw
            case rel => exact ⟨k + 1, by have := LT_.out; omega, by go_num, _, rfl, HBk⟩
            case measure => have := LT_.out; simp [intOf]; omega
      · have hlt' : ¬ (k : Int) < (n4 : Int) := by omega
        obtain rfl : n4 = k := by omega
        have y5 : W.cell? ⟨b6, 5, none⟩ = some (.slice a5 n5 c5) := KZ.out.at_.cell 2 rfl 5 G5.out
        go_wp2_with fail
        go_loopw [84] (fun i wr => ∃ k : Nat, k ≤ n5 ∧ i = .int .i64 k ∧ ∃ W, W = wr ∧ Hid (KAt w w6.heap.size w7.heap.size [(q2, 31, C), (b5, 31, C5), (b6, 31, C6), (b8, 31, C8), (b10, 31, C10)] V1 L U1 M U2 U3 W)) (fun i _ => n5 - (intOf i).toNat)
        case atStart => exact ⟨0, Nat.zero_le _, rfl, _, rfl, KZ⟩
        case round =>
          clear KZ y5
          obtain ⟨k, hk, rfl, W, rfl, KZ⟩ := hrel
          by_cases hlt : k < n5
          · have hlt' : (k : Int) < (n5 : Int) := by omega
            have LT_ := Lib.hid hlt
            obtain ⟨g, ea, ⟨x, d0, d1, d2⟩, zf, KB⟩ := KZ.out.blank_poss (a := a5) (c := c5) KK.out (by rw [← N5.out]; exact hlt) (by rw [← N5.out]; exact F5.out)
            subst ea
            have HBk := Lib.hid KB
            have y5 : W.cell? ⟨b6, 5, none⟩ = some (.slice (some ⟨g, 0, none⟩) n5 c5) := KZ.out.at_.cell 2 rfl 5 G5.out
            clear KB
            go_wp2_with fail
            go_roundw
            case rel => exact ⟨k + 1, by have := LT_.out; omega, by go_num, _, rfl, HBk⟩
            case measure => have := LT_.out; simp [intOf]; omega
          · have hlt' : ¬ (k : Int) < (n5 : Int) := by omega
            obtain rfl : n5 = k := by omega
            have y5 : W.cell? ⟨b6, 6, none⟩ = some (.slice a6 n6 c6) := KZ.out.at_.cell 2 rfl 6 G6.out
            go_wp2_with fail
            go_loopw [96] (fun i wr => ∃ k : Nat, k ≤ n6 ∧ i = .int .i64 k ∧ ∃ W, W = wr ∧ Hid (KAt w w6.heap.size w7.heap.size [(q2, 31, C), (b5, 31, C5), (b6, 31, C6), (b8, 31, C8), (b10, 31, C10)] V1 L U1 M U2 U3 W)) (fun i _ => n6 - (intOf i).toNat)
            case atStart => exact ⟨0, Nat.zero_le _, rfl, _, rfl, KZ⟩
            case round =>
              clear KZ y5
              obtain ⟨k, hk, rfl, W, rfl, KZ⟩ := hrel
              by_cases hlt : k < n6
              · have hlt' : (k : Int) < (n6 : Int) := by omega
                have LT_ := Lib.hid hlt
                obtain ⟨g, ea, ⟨x, d0, d1, d2, d3, d4⟩, zf, KB⟩ := KZ.out.blank_orders (a := a6) (c := c6) KK.out (by rw [← N6.out]; exact hlt) (by rw [← N6.out]; exact F6.out)
                subst ea
                have HBk := Lib.hid KB
                have y5 : W.cell? ⟨b6, 6, none⟩ = some (.slice (some ⟨g, 0, none⟩) n6 c6) := KZ.out.at_.cell 2 rfl 6 G6.out
                clear KB
                go_wp2_with fail
                go_roundw
                case rel => exact ⟨k + 1, by have := LT_.out; omega, by go_num, _, rfl, HBk⟩
                case measure => have := LT_.out; simp [intOf]; omega
              · have hlt' : ¬ (k : Int) < (n6 : Int) := by omega
                obtain rfl : n6 = k := by omega
                have y5 : W.cell? ⟨b6, 2, none⟩ = some (.slice a2 n2 c2) := KZ.out.at_.cell 2 rfl 2 G2.out
                go_wp2_with fail
                go_loopw [108] (fun i wr => ∃ k : Nat, k ≤ n2 ∧ i = .int .i64 k ∧ ∃ W, W = wr ∧ Hid (KAt w w6.heap.size w7.heap.size [(q2, 31, C), (b5, 31, C5), (b6, 31, C6), (b8, 31, C8), (b10, 31, C10)] V1 L U1 M U2 U3 W)) (fun i _ => n2 - (intOf i).toNat)
                case atStart => exact ⟨0, Nat.zero_le _, rfl, _, rfl, KZ⟩
                case round =>
                  clear KZ y5
                  obtain ⟨k, hk, rfl, W, rfl, KZ⟩ := hrel
                  by_cases hlt : k < n2
                  · have hlt' : (k : Int) < (n2 : Int) := by omega
                    have LT_ := Lib.hid hlt
                    obtain ⟨g, ea, ⟨x, d0, d1, d2, d3⟩, zf, KB⟩ := KZ.out.blank_unders (a := a2) (c := c2) KK.out (by rw [← N2.out]; exact hlt) (by rw [← N2.out]; exact F2.out)
                    subst ea
                    have HBk := Lib.hid KB
                    have y5 : W.cell? ⟨b6, 2, none⟩ = some (.slice (some ⟨g, 0, none⟩) n2 c2) := KZ.out.at_.cell 2 rfl 2 G2.out
                    clear KB
                    go_wp2_with fail
                    go_roundw
                    case rel => exact ⟨k + 1, by have := LT_.out; omega, by go_num, _, rfl, HBk⟩
                    case measure => have := LT_.out; simp [intOf]; omega
                  · have hlt' : ¬ (k : Int) < (n2 : Int) := by omega
                    obtain rfl : n2 = k := by omega
                    have X := Lib.hid KZ.out.at_
                    have OM := Lib.hid KZ.out.mine
                    have OB := Lib.hid (And.intro KZ.out.b KZ.out.want)
                    clear KZ
                    have SL := Lib.hid (rsame_any W V1 V L L OM.out (HH.out W X.out.low) SH.out)
                    rw [eqB_yes rfl] at SL
                    unfold LedV.val at SL
                    rw [← E5.out, ← EC.out] at SL
                    go_wp2_with (first | refine led_load (X.out.get 1 rfl) LM.out rfl rfl rfl ?_ | refine led_load (X.out.get 0 rfl) LC.out rfl rfl rfl ?_)
                    refine SL.out.mono ?_
                    rintro e wF ⟨rfl, hb⟩
                    have XF := Lib.hid (X.out.go hb)
                    have OBF := Lib.hid (And.intro (OB.out.1.below hb) (OB.out.2.below hb))
                    clear hb SL OM OB X
                    have SB := Lib.hid (rsame_any wF U2 U3 M M OBF.out.1 OBF.out.2 SM.out.1)
                    rw [eqB_yes rfl] at SB
                    unfold LedV.val at SB
                    rw [← E8.out, ← E10.out] at SB
                    go_wp2_with (first | refine led_loadg (XF.out.get 3 rfl) LBB.out (by rfl) rfl rfl ?_ | refine led_loadg (XF.out.get 4 rfl) LW.out (by rfl) rfl rfl ?_)
                    refine SB.out.mono ?_
                    rintro e wG ⟨rfl, hb⟩
                    have XG := Lib.hid (XF.out.go hb)
                    clear hb
                    go_wp2_with fail
                    go_ret
                    exact ⟨rfl, XG.out.low⟩
end Go.Proofs.YtcjbhgnlmmeeeaaGreatDoor

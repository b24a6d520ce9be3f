/- MarginWorst, walked (printed by tools/gen_laww.py). -/
import Derived.Test.YtcjbhgnlmmeeeaaGreatDoorGk
import Derived.Test.YtcjbhgnlmmeeeaaGreatDoorFbs
import Derived.Test.YtcjbhgnlmmeeeaaGreatDoorGh
import Derived.Test.YtcjbhgnlmmeeeaaGreatDoorGb
namespace Go.Proofs.YtcjbhgnlmmeeeaaGreatDoor
open Go.RowKit Go.Bw Go.Maps Go.Shelf Go.Bw.Fall
set_option linter.unusedVariables false
set_option linter.unusedSimpArgs false
theorem ansA_zero {L : Led} {acct under s : Int} (h : (ansA L acct (lossA L acct.toNat under s)).2 ≠ 0) : (ansA L acct (lossA L acct.toNat under s)).1 = 0 := by
  by_cases hg : L.Good
  · by_cases ho : acct < 0 ∨ (L.accts.length : Int) ≤ acct
    · rw [ansA_out hg ho]
    · rw [ansA_ok hg ho] at h ⊢
      unfold lossA at h ⊢
      split
      · rfl
      · split
        · rfl
        · rename_i h1 h2
          rw [if_neg h1, if_neg h2] at h
          rw [(retA_bad h).2]
  · rw [ansA_bad hg]
theorem ansA_loss {L : Led} (hg : L.Good) {acct under s : Int} {M : Int} (h : ansA L acct (lossA L acct.toNat under s) = (M, 0)) :
    ∃ (a u : Nat) (k : Nat), acct = a ∧ a < L.accts.length ∧ under = u ∧ u < L.unders.length ∧ s = k ∧ k < 21 ∧ lossO L a under k = some M := by
  by_cases ho : acct < 0 ∨ (L.accts.length : Int) ≤ acct
  · rw [ansA_out hg ho] at h; cases h
  · rw [ansA_ok hg ho] at h
    unfold lossA at h
    by_cases h1 : under < 0 ∨ (L.unders.length : Int) ≤ under
    · rw [if_pos h1] at h; cases h
    · rw [if_neg h1] at h
      by_cases h2 : s < 0 ∨ 21 ≤ s
      · rw [if_pos h2] at h; cases h
      · rw [if_neg h2] at h
        refine ⟨acct.toNat, under.toNat, s.toNat, by omega, by omega, by omega, by omega, by omega, by omega, ?_⟩
        have h3 := retA_ok (o := lossO L acct.toNat under s.toNat) (by rw [h])
        rw [h] at h3; exact h3
theorem ansA_of {L : Led} (hg : L.Good) {a u k : Nat} (h1 : a < L.accts.length) (h2 : u < L.unders.length) (h3 : k < 21) {M : Int} (h : lossO L a (u : Int) k = some M) : ansA L (a : Int) (lossA L ((a : Int)).toNat (u : Int) (k : Int)) = (M, 0) := by
  rw [ansA_in hg h1, Int.toNat_natCast]
  unfold lossA
  rw [if_neg (by omega), if_neg (by omega), Int.toNat_natCast, h]; rfl
set_option maxRecDepth 100000 in
set_option maxHeartbeats 32000000 in
theorem worst_law (w : World) (V : LedV) (L : Led) (h : LedAt w V L) (hs : L.Short) (hG : Grd w) (p0 p1 p2 ch : Int) (hch : 0 ≤ ch ∧ ch < 4294967296) :
    Calls Tryz.prog 7 #[V.val L, .agg #[.int .i64 p0, .int .i64 p1, .int .i64 p2], .int .u32 ch] w fun e w' => e = .returned (.bool true) ∧ Below w.heap.size w w' := by
  classical
  have GR := Lib.hid (fun W (hb : Below w.heap.size w W) => hG.below hb)
  have HH := Lib.hid (fun W (hb : Below w.heap.size w W) => h.below hb)
  have WK := Lib.hid (fun W (hb : Below w.heap.size w W) => wakes_any W (hG.below hb))
  have WD := Lib.hid (fun W (hb : Below w.heap.size w W) => wide_any W V L (h.below hb) hs)
  have GD := Lib.hid (show ∀ W, Below w.heap.size w W → L.accts.length ≤ 1024 → ∀ B : Bool, decide L.Good = B → Calls Tryz.prog 22 #[V.val L] W fun e w' => e = .returned (.bool B) ∧ Below W.heap.size W w' from fun W hb hL B hB => good_to (h.below hb) hL hB)
  have CP := Lib.hid (fun W (hb : Below w.heap.size w W) (hg : L.Good) => copy_any W V L (h.below hb) (good_bulk hg).1 (fun a ha => by have := (good_bulk hg).2.1 a ha; omega))
  have LS := Lib.hid (fun W (hb : Below w.heap.size w W) (hL : L.accts.length ≤ 1024) => mloss_any W V L (h.below hb) hL (hG.below hb) p0 p1 p2)
  have LC := Lib.hid (ledc h)
  have CH := Lib.hid hch
  obtain ⟨aO, cO, hO⟩ := h.orders.form
  have RO := Lib.hid (fun W (hb : Below w.heap.size w W) => (h.below hb).orders)
  rw [hO] at RO
  unfold LedV.val at WD GD CP LS ⊢
  obtain ⟨C, hC⟩ : ∃ C, C = V.cells L := ⟨_, rfl⟩
  obtain ⟨nO, hnO⟩ : ∃ n, n = L.orders.length := ⟨_, rfl⟩
  rw [← hnO] at hO RO
  have CO6 := Lib.hid (show C[6]? = some (.slice aO nO cO) from by rw [hC, ← hO]; rfl)
  have NO := Lib.hid hnO
  rw [← hC] at WD GD CP LS LC ⊢
  have BK := Lib.hid (show ¬ 1024 < L.bulk → L.accts.length ≤ 1024 from fun hb => by unfold Led.bulk at hb; omega)
  have A0 := Lib.hid (((At.start w).alloc 31 C).alloc 38 #[.int .i64 p0, .int .i64 p1, .int .i64 p2])
  obtain ⟨BB, hBB⟩ : ∃ B, B = decide (1024 < L.bulk) := ⟨_, rfl⟩
  rw [← hBB] at WD
  have HB := Lib.hid hBB
  clear h hs hG hC hBB hO hnO
  go_enter Tryz.func7, Tryz.ntmps7
  go_upto_region 1 with (fail)
  obtain ⟨W0, hW0⟩ : ∃ s, s = (w.alloc (.cells C 31)).alloc (.cells #[.int .i64 p0, .int .i64 p1, .int .i64 p2] 38) := ⟨_, rfl⟩
  obtain ⟨q3, hq3⟩ : ∃ n, n = w.heap.size := ⟨_, rfl⟩
  obtain ⟨q4, hq4⟩ : ∃ n, n = w.heap.size + 1 := ⟨_, rfl⟩
  have X0 := Lib.hid (show At w W0 [(q3, 31, C), (q4, 38, #[.int .i64 p0, .int .i64 p1, .int .i64 p2])] from by
    have h := A0.out
    simp at h
    rw [hW0, hq3, hq4]; exact h)
  rw [← hW0, ← hq4, ← hq3]
  clear A0 hW0 hq3 hq4
  go_wp2_with fail
  refine (WK.out W0 X0.out.low).mono ?_
  rintro e w1 ⟨rfl, hb⟩
  have X1 := Lib.hid (X0.out.go hb)
  clear hb
  go_wp2_with (refine led_load (X1.out.get 0 rfl) LC.out rfl rfl rfl ?_)
  refine (WD.out w1 X1.out.low).mono ?_
  rintro e w2 ⟨rfl, hb⟩
  have X2 := Lib.hid (X1.out.go hb)
  clear hb
  cases hbb : BB with
  | true =>
    subst hbb
    go_wp2_with fail
    go_ret
    exact ⟨rfl, X2.out.low⟩
  | false =>
    subst hbb
    have hL := BK.out (of_decide_eq_false HB.out.symm)
    have HL := Lib.hid hL
    by_cases hg : L.Good
    rotate_left
    · have hgd := decide_eq_false hg
      go_wp2_with (refine led_loadg (X2.out.get 0 rfl) LC.out (by rfl) rfl rfl ?_)
      refine (GD.out w2 X2.out.low hL false hgd).mono ?_
      rintro e w3 ⟨rfl, hb⟩
      have X3 := Lib.hid (X2.out.go hb)
      clear hb hg hgd
      go_wp2_with fail
      go_ret
      exact ⟨rfl, X3.out.low⟩
    have HG := Lib.hid hg
    have mO : nO ≤ 32 := by rw [NO.out]; exact hg.orders.len
    clear hg
    go_wp2_with (refine led_loadg (X2.out.get 0 rfl) LC.out (by rfl) rfl rfl ?_)
    refine (GD.out w2 X2.out.low hL true (decide_eq_true HG.out)).mono ?_
    rintro e w3 ⟨rfl, hb⟩
    have X3 := Lib.hid (X2.out.go hb)
    clear hb hL
    have u0 : w3.cell? ⟨q4, 0, none⟩ = some (.int .i64 p0) := X3.out.cell 1 rfl 0 rfl
    have u1 : w3.cell? ⟨q4, 1, none⟩ = some (.int .i64 p1) := X3.out.cell 1 rfl 1 rfl
    have u2 : w3.cell? ⟨q4, 2, none⟩ = some (.int .i64 p2) := X3.out.cell 1 rfl 2 rfl
    have LS' := Lib.hid (fun W hb => LS.out W hb HL.out)
    have ZZ := Lib.hid (fun (h : (ansA L p0 (lossA L p0.toNat p1 p2)).2 ≠ 0) => ansA_zero h)
    obtain ⟨r, hr⟩ : ∃ r, r = ansA L p0 (lossA L p0.toNat p1 p2) := ⟨_, rfl⟩
    have HR := Lib.hid hr
    rw [← hr] at LS' ZZ
    obtain ⟨M, er⟩ := r
    clear hr LS
    go_wp2_with (refine led_load (X3.out.get 0 rfl) LC.out rfl rfl rfl ?_)
    refine (LS'.out w3 X3.out.low).mono ?_
    rintro e w4 ⟨rfl, hb⟩
    have X4 := Lib.hid (X3.out.go hb)
    clear hb u0 u1 u2 LS'
    by_cases he : er = 0
    rotate_left
    · obtain rfl : M = 0 := ZZ.out he
      have he' : (er == 0) = false := beq_false_of_ne he
      go_wp2_with fail
      go_ret
      exact ⟨rfl, X4.out.low⟩
    subst he
    obtain ⟨a, u, s, rfl, ha, rfl, hu, rfl, hs, hM⟩ := ansA_loss HG.out HR.out.symm
    obtain ⟨B, G, hB, fB, fM, hGn, hMB⟩ := worst_setup hM
    have IN := Lib.hid (And.intro ha (And.intro hu hs))
    have FBM := Lib.hid (show (-4611686018427387904 ≤ B ∧ B ≤ 4611686018427387904) ∧ (-4611686018427387904 ≤ M ∧ M ≤ 4611686018427387904) from ⟨fitsA_true.1 fB, fitsA_true.1 fM⟩)
    have GN := Lib.hid hGn
    have MB := Lib.hid (show M = B + lossT G nO from by rw [NO.out]; exact hMB)
    have BO := Lib.hid hB
    clear ha hu hs hM hB fB fM hGn hMB ZZ HR
    go_upto_region 9 with (fail)
    go_wp2_with fail
    go_loopw [9, 10] (fun b i wr => ∃ (k : Nat) (best : Bool), k ≤ 2 ∧ b = .bool best ∧ i = .int .i64 k ∧ (k = 2 → best = true) ∧ ∃ W, W = wr ∧ Hid (At w W [(q3, 31, C), (q4, 38, #[.int .i64 (a : Int), .int .i64 (u : Int), .int .i64 (s : Int)])])) (fun b i _ => 2 - (intOf i).toNat)
    case atStart => exact ⟨0, false, by omega, rfl, rfl, by omega, _, rfl, X4⟩
    case round =>
      clear X0 X1 X2 X3 X4
      obtain ⟨k, best, hk, rfl, rfl, hbest, W, rfl, X⟩ := hrel
      by_cases hlt : k < 2
      rotate_left
      · obtain rfl : k = 2 := by omega
        obtain rfl : best = true := hbest rfl
        have hlt' : ¬ ((2 : Nat) : Int) < 2 := by omega
        go_wp2_with fail
        go_ret
        exact ⟨rfl, X.out.low⟩
      have hlt' : (k : Int) < 2 := by omega
      have LT_ := Lib.hid hlt
      clear hbest
      go_wp2_with (refine led_load (X.out.get 0 rfl) LC.out rfl rfl rfl ?_)
      refine (CP.out W X.out.low HG.out).mono ?_
      rintro e u1 ⟨V1, rfl, own, hb⟩
      have X5 := Lib.hid (X.out.go hb)
      have OW := Lib.hid own
      have LU := Lib.hid (ledc own.led)
      have HSZ := Lib.hid (show W.heap.size ≤ u1.heap.size ∧ w.heap.size ≤ W.heap.size from ⟨hb.size, X.out.low.size⟩)
      unfold LedV.val
      clear own hb
      go_upto_region 14 with (refine led_store (heap_alloc_last _ _) ledc0 LU.out rfl rfl rfl rfl ?_; rw [World.setRow_alloc_new])
      obtain ⟨W6, hW6⟩ : ∃ s, s = u1.alloc (.cells (V1.cells L) 31) := ⟨_, rfl⟩
      obtain ⟨b12, hb12⟩ : ∃ n, n = u1.heap.size := ⟨_, rfl⟩
      have F6 := Lib.hid (show FBs w W.heap.size [(q3, 31, C), (q4, 38, #[.int .i64 (a : Int), .int .i64 (u : Int), .int .i64 (s : Int)]), (b12, 31, V1.cells L)] V1 L W6 from by
        have f0 : FBs w W.heap.size [(q3, 31, C), (q4, 38, #[.int .i64 (a : Int), .int .i64 (u : Int), .int .i64 (s : Int)])] V1 L u1 := ⟨X5.out, OW.out, fun x hx => OW.out.notin (Or.inl (X.out.lt x hx)), HSZ.out.1, HSZ.out.2⟩
        rw [hW6, hb12]; exact f0.box _ _)
      rw [← hW6, ← hb12]
      clear hW6 hb12 X5 OW
      have y6 : W6.cell? ⟨b12, 6, none⟩ = some V1.orders := F6.out.at_.cell 2 rfl 6 rfl
      have z6 := F6.out.at_.free 2 rfl 6
      go_upto_region 17 with (fail)
      obtain ⟨W7, hW7⟩ : ∃ s, s = W6.setCell ⟨b12, 6, none⟩ (.slice none 0 0) := ⟨_, rfl⟩
      obtain ⟨VF, hVF⟩ : ∃ v : LedV, v = { V1 with orders := .slice none 0 0 } := ⟨_, rfl⟩
      obtain ⟨LF, hLF⟩ : ∃ l : Led, l = { L with orders := [] } := ⟨_, rfl⟩
      obtain ⟨CF, hCF⟩ : ∃ c, c = VF.cells L := ⟨_, rfl⟩
      have F7 := Lib.hid (show FBs w W.heap.size [(q3, 31, C), (q4, 38, #[.int .i64 (a : Int), .int .i64 (u : Int), .int .i64 (s : Int)]), (b12, 31, CF)] VF LF W7 from by rw [hW7, hCF, hVF, hLF]; exact F6.out.orders0 2 rfl)
      have ECF := Lib.hid (show CF = VF.cells LF from by rw [hCF, hLF]; rfl)
      have LCF := Lib.hid (show LedC CF from by rw [ECF.out]; exact ledc F7.out.own.led)
      have GF := Lib.hid (show LF.Good ∧ LF.accts = L.accts ∧ LF.unders = L.unders ∧ lossO LF a (u : Int) s = some B from by rw [hLF]; exact ⟨HG.out.fewer (List.Sublist.refl _) (List.nil_sublist _), rfl, rfl, BO.out⟩)
      rw [← hW7]
      clear hW7 hVF hLF hCF F6 y6 z6
      have y7 : W7.cell? ⟨q3, 6, none⟩ = some (.slice aO nO cO) := F7.out.at_.cell 0 rfl 6 CO6.out
      go_wp2_with fail
      go_loopw [13, 14, 60] (fun x o i wr => ∃ (n : Nat) (xx : Int) (over : Bool), n ≤ nO ∧ x = .int .i64 xx ∧ o = .bool over ∧ i = .int .i64 n ∧ ∃ W', W' = wr ∧ Hid ((-9223372036854775808 ≤ xx ∧ xx ≤ 9223372036854775807) ∧ WAt G (decide (k = 1)) n xx over ∧ FBs w W.heap.size [(q3, 31, C), (q4, 38, #[.int .i64 (a : Int), .int .i64 (u : Int), .int .i64 (s : Int)]), (b12, 31, CF)] VF LF W')) (fun x o i _ => nO - (intOf i).toNat)
      case atStart => exact ⟨0, 0, false, Nat.zero_le _, rfl, rfl, rfl, _, rfl, Lib.hid ⟨by omega, WAt.start _ _, F7.out⟩⟩
      case round =>
        clear F7 y7
        obtain ⟨n, xx, over, hn, rfl, rfl, rfl, W', rfl, Z⟩ := hrel
        by_cases hnt : n < nO
        · have hnt' : (n : Int) < (nO : Int) := by omega
          have NT := Lib.hid hnt
          obtain ⟨o, ho⟩ : ∃ o, L.orders[n]? = some o := ⟨_, List.getElem?_eq_getElem (by rw [← NO.out]; exact hnt)⟩
          have HO := Lib.hid ho
          obtain ⟨gb, go, eo, _, hc⟩ := (RO.out W' Z.out.2.2.at_.low).at_ ho
          subst eo
          have c0 := hc 0 (.int .i64 o.acct) rfl
          have c1 := hc 1 (.int .i64 o.id) rfl
          have c2 := hc 2 (.int .i64 o.instr) rfl
          have c3 := hc 3 (.int .i64 o.qty) rfl
          have c4 := hc 4 (.int .i64 o.price) rfl
          rw [Nat.add_zero] at c0
          clear ho hc
          go_upto_region 20 with (fail)
          obtain ⟨b16, hb16⟩ : ∃ n, n = W'.heap.size := ⟨_, rfl⟩
          obtain ⟨W8, hW8⟩ : ∃ s, s = W'.alloc (.cells #[.int .i64 o.acct, .int .i64 o.id, .int .i64 o.instr, .int .i64 o.qty, .int .i64 o.price] 46) := ⟨_, rfl⟩
          have I8 := Lib.hid (show At W' W8 [(b16, 46, #[.int .i64 o.acct, .int .i64 o.id, .int .i64 o.instr, .int .i64 o.qty, .int .i64 o.price])] from by rw [hW8, hb16]; exact (At.start W').alloc _ _)
          have S8 := Lib.hid (show w.heap.size ≤ W'.heap.size from Z.out.2.2.at_.low.size)
          rw [← hW8, ← hb16]
          clear hW8 hb16 c0 c1 c2 c3 c4
          have n0 : (0 : Int) ≤ (n : Int) := by omega
          have n32 : n ≤ 32 := by omega
          go_upto_region 21 with (fail)
          obtain ⟨tk, htk⟩ : ∃ t : Bool, t = (bits BinOp.and IntKind.u32 (ch / 2 ^ min (IntKind.u64.wrap (bits BinOp.and IntKind.i64 (n : Int) 31)).toNat 32) 1 == 1) := ⟨_, rfl⟩
          rw [← htk]
          clear htk n0
          have XO8 := Lib.hid (Z.out.2.2.at_.go I8.out.low)
          go_wp2_with (refine led_load (XO8.out.get 0 rfl) LC.out rfl rfl rfl ?_)
          refine (CP.out W8 XO8.out.low HG.out).mono ?_
          rintro e u3 ⟨V3, rfl, own, hb⟩
          have F9 := Lib.hid (show FBs W' W8.heap.size [(b16, 46, #[.int .i64 o.acct, .int .i64 o.id, .int .i64 o.instr, .int .i64 o.qty, .int .i64 o.price])] V3 L u3 from ⟨I8.out.go hb, own, fun x hx => own.notin (Or.inl (I8.out.lt x hx)), hb.size, I8.out.low.size⟩)
          have LU3 := Lib.hid (ledc own.led)
          unfold LedV.val
          clear own hb XO8
          go_upto_region 22 with (refine led_store (heap_alloc_last _ _) ledc0 LU3.out rfl rfl rfl rfl ?_; rw [World.setRow_alloc_new])
          obtain ⟨W9, hW9⟩ : ∃ s, s = u3.alloc (.cells (V3.cells L) 31) := ⟨_, rfl⟩
          obtain ⟨b18, hb18⟩ : ∃ n, n = u3.heap.size := ⟨_, rfl⟩
          have FA := Lib.hid (show FBs W' W8.heap.size [(b16, 46, #[.int .i64 o.acct, .int .i64 o.id, .int .i64 o.instr, .int .i64 o.qty, .int .i64 o.price]), (b18, 31, V3.cells L)] V3 L W9 from by rw [hW9, hb18]; exact F9.out.box _ _)
          rw [← hW9, ← hb18]
          clear hW9 hb18 F9
          have y5 : W9.cell? ⟨b18, 5, none⟩ = some V3.poss := FA.out.at_.cell 1 rfl 5 rfl
          have z5 := FA.out.at_.free 1 rfl 5
          go_upto_region 23 with (fail)
          obtain ⟨WA, hWA⟩ : ∃ s, s = W9.setCell ⟨b18, 5, none⟩ (.slice none 0 0) := ⟨_, rfl⟩
          obtain ⟨V4, hV4⟩ : ∃ v : LedV, v = { V3 with poss := .slice none 0 0 } := ⟨_, rfl⟩
          have FB_ := Lib.hid (show FBs W' W8.heap.size [(b16, 46, #[.int .i64 o.acct, .int .i64 o.id, .int .i64 o.instr, .int .i64 o.qty, .int .i64 o.price]), (b18, 31, V4.cells L)] V4 { L with poss := [] } WA from by rw [hWA, hV4]; exact FA.out.poss0 1 rfl)
          rw [← hWA]
          clear hWA hV4 FA y5 z5
          have d0 : WA.cell? ⟨b16, 0, none⟩ = some (.int .i64 o.acct) := FB_.out.at_.cell 0 rfl 0 rfl
          have d1 : WA.cell? ⟨b16, 1, none⟩ = some (.int .i64 o.id) := FB_.out.at_.cell 0 rfl 1 rfl
          have d2 : WA.cell? ⟨b16, 2, none⟩ = some (.int .i64 o.instr) := FB_.out.at_.cell 0 rfl 2 rfl
          have d3 : WA.cell? ⟨b16, 3, none⟩ = some (.int .i64 o.qty) := FB_.out.at_.cell 0 rfl 3 rfl
          have d4 : WA.cell? ⟨b16, 4, none⟩ = some (.int .i64 o.price) := FB_.out.at_.cell 0 rfl 4 rfl
          have FBn := Lib.hid (FB_.out.at_.go (show Below WA.heap.size WA (WA.alloc (.cells #[.int .i64 o.acct, .int .i64 o.id, .int .i64 o.instr, .int .i64 o.qty, .int .i64 o.price] 46)) from (Below.refl _ _).alloc (Nat.le_refl _) _))
          have y6 : (WA.alloc (.cells #[.int .i64 o.acct, .int .i64 o.id, .int .i64 o.instr, .int .i64 o.qty, .int .i64 o.price] 46)).cell? ⟨b18, 6, none⟩ = some V4.orders := FBn.out.cell 1 rfl 6 rfl
          have z6 := FBn.out.free 1 rfl 6
          go_upto_region 24 with (fail)
          obtain ⟨WB, hWB⟩ : ∃ s, s = (WA.alloc (.cells #[.int .i64 o.acct, .int .i64 o.id, .int .i64 o.instr, .int .i64 o.qty, .int .i64 o.price] 46)).setCell ⟨b18, 6, none⟩ (.slice (some ⟨WA.heap.size, 0, none⟩) 1 1) := ⟨_, rfl⟩
          obtain ⟨V5, hV5⟩ : ∃ v : LedV, v = { V4 with orders := .slice (some ⟨WA.heap.size, 0, none⟩) 1 1 } := ⟨_, rfl⟩
          obtain ⟨L5, hL5⟩ : ∃ l : Led, l = { L with poss := [], orders := [o] } := ⟨_, rfl⟩
          obtain ⟨C5, hC5⟩ : ∃ c, c = V5.cells L := ⟨_, rfl⟩
          have FC := Lib.hid (show FBs W' W8.heap.size [(b16, 46, #[.int .i64 o.acct, .int .i64 o.id, .int .i64 o.instr, .int .i64 o.qty, .int .i64 o.price]), (b18, 31, V5.cells L)] V5 L5 WB from by rw [hWB, hV5, hL5]; exact FB_.out.orders1 1 rfl o #[.int .i64 o.acct, .int .i64 o.id, .int .i64 o.instr, .int .i64 o.qty, .int .i64 o.price] rfl)
          have L5E := Lib.hid hL5
          have EC5 := Lib.hid (show C5 = V5.cells L5 ∧ C5 = V5.cells L from ⟨by rw [hC5, hL5]; rfl, hC5⟩)
          have LC5 := Lib.hid (show LedC C5 from by rw [EC5.out.1]; exact ledc FC.out.own.led)
          have omem := List.mem_of_getElem? HO.out
          have G5 := Lib.hid (show L5.Good ∧ L5.accts = L.accts ∧ L5.unders = L.unders ∧ lossO L5 a (u : Int) s = some (max (-(G n)) 0) from by
            obtain ⟨h1, h2⟩ := GN.out n o HO.out
            rw [hL5]; exact ⟨HG.out.alone omem, rfl, rfl, alone_some h1 h2⟩)
          have GF_ := Lib.hid (show fitsA (G n) = true ∧ gainOf L a (u : Int) s o = some (G n) from by obtain ⟨h1, h2⟩ := GN.out n o HO.out; exact ⟨h2, h1⟩)
          have OM := Lib.hid omem
          have BB1 := Lib.hid (show WB.heap[b18]? = some (.cells C5 31 (0, 0)) from by rw [EC5.out.2]; exact FC.out.at_.get 1 rfl)
          have XOB := Lib.hid (Z.out.2.2.at_.go FC.out.at_.low)
          rw [← hWB]
          clear hWB hV5 hL5 hC5 omem d0 d1 d2 d3 d4 FBn y6 z6 FB_ I8
          have LO := Lib.hid (mloss_any WB V5 L5 FC.out.own.led (by rw [G5.out.2.1]; exact HL.out) (GR.out WB XOB.out.low) (a : Int) (u : Int) (s : Int))
          rw [ansA_of G5.out.1 (by rw [G5.out.2.1]; exact IN.out.1) (by rw [G5.out.2.2.1]; exact IN.out.2.1) IN.out.2.2 G5.out.2.2.2] at LO
          unfold LedV.val at LO
          rw [← EC5.out.1] at LO
          have u0 : WB.cell? ⟨q4, 0, none⟩ = some (.int .i64 (a : Int)) := XOB.out.cell 1 rfl 0 rfl
          have u1 : WB.cell? ⟨q4, 1, none⟩ = some (.int .i64 (u : Int)) := XOB.out.cell 1 rfl 1 rfl
          have u2 : WB.cell? ⟨q4, 2, none⟩ = some (.int .i64 (s : Int)) := XOB.out.cell 1 rfl 2 rfl
          obtain ⟨g, hg⟩ : ∃ g, g = G n := ⟨_, rfl⟩
          have EG := Lib.hid hg
          have fg : -4611686018427387904 ≤ g ∧ g ≤ 4611686018427387904 := by rw [hg]; exact fitsA_true.1 GF_.out.1
          rw [← hg] at LO
          clear hg
          by_cases gs : g < 0
          · obtain ⟨A, hA⟩ : ∃ A, A = -g := ⟨_, rfl⟩
            rw [show max (-g) 0 = A from by omega] at LO
            have EA := Lib.hid (show A = -(G n) ∧ G n < 0 from by rw [← EG.out]; exact ⟨hA, gs⟩)
            have A0_ : 0 < A := by omega
            have A1_ : A ≤ 4611686018427387904 := by omega
            clear hA gs fg
            go_wp2_with (refine led_load BB1.out LC5.out rfl rfl rfl ?_)
            refine LO.out.mono ?_
            rintro e wC ⟨rfl, hb⟩
            have FD := Lib.hid (FC.out.go hb)
            clear hb LO u0 u1 u2 BB1 XOB FC
            by_cases K1 : k = 1
            rotate_left
            · have KD := Lib.hid (show decide (k = 1) = false from decide_eq_false K1)
              have k1 : ((k : Int) == 1) = false := beq_false_of_ne (by omega)
              clear K1
              cases tk with
              | false =>
                have WN := Lib.hid (show WAt G (decide (k = 1)) (n + 1) xx over from Z.out.2.1.skip (fun h => by rw [KD.out] at h; cases h))
                have ZN := Lib.hid (show (-9223372036854775808 ≤ xx ∧ xx ≤ 9223372036854775807) ∧ WAt G (decide (k = 1)) (n + 1) xx over ∧ FBs w W.heap.size [(q3, 31, C), (q4, 38, #[.int .i64 (a : Int), .int .i64 (u : Int), .int .i64 (s : Int)]), (b12, 31, CF)] VF LF wC from ⟨Z.out.1, WN.out, Z.out.2.2.go FD.out.at_.low⟩)
                clear WN
                go_wp2_with fail
                go_roundw
                case rel => exact ⟨n + 1, xx, over, by have := NT.out; omega, rfl, rfl, by go_num, _, rfl, ZN⟩
                case measure => have := NT.out; simp [intOf]; omega
              | true =>
                obtain ⟨y, hy⟩ : ∃ y, y = RowKit.wrap64 (xx + A) := ⟨_, rfl⟩
                have YR := Lib.hid (show (-9223372036854775808 ≤ y ∧ y ≤ 9223372036854775807) ∧ (y = xx + A ∨ (9223372036854775807 < xx + A ∧ y = xx + A - 18446744073709551616)) from by
                  have h1 := Z.out.1
                  unfold RowKit.wrap64 at hy
                  omega)
                have ey : RowKit.wrap64 (xx + A) = y := hy.symm
                have EY := Lib.hid ey
                have FIN := Lib.hid (show ∀ ov : Bool, ov = (over || decide (4611686018427387904 < y) || decide (y < 0)) → (-9223372036854775808 ≤ y ∧ y ≤ 9223372036854775807) ∧ WAt G (decide (k = 1)) (n + 1) y ov ∧ FBs w W.heap.size [(q3, 31, C), (q4, 38, #[.int .i64 (a : Int), .int .i64 (u : Int), .int .i64 (s : Int)]), (b12, 31, CF)] VF LF wC from fun ov hov => ⟨YR.out.1, Z.out.2.1.lose GF_.out.1 EA.out.2 (YR.out.2.elim (fun h => Or.inl (by have := EA.out.1; omega)) (fun h => Or.inr (Or.inl (by have := EA.out.1; omega)))) hov, Z.out.2.2.go FD.out.at_.low⟩)
                clear hy
                cases over with
                | true =>
                  have ZN := Lib.hid (FIN.out true rfl)
                  go_wp2_with fail
                  go_roundw
                  case rel => exact ⟨n + 1, y, true, by have := NT.out; omega, by first | rfl | trivial | exact congrArg (Value.int .i64) EY.out | (simp [EY.out]; done), by first | rfl | trivial | (simp; done) | (simp; omega), by first | go_num | trivial | simp, _, rfl, ZN⟩
                  case measure => have := NT.out; simp [intOf]; omega
                | false =>
                  by_cases gy : 4611686018427387904 < y
                  · have ZN := Lib.hid (FIN.out true (by simp [gy]))
                    go_wp2_with fail
                    go_roundw
                    case rel => exact ⟨n + 1, y, true, by have := NT.out; omega, by first | rfl | trivial | exact congrArg (Value.int .i64) EY.out | (simp [EY.out]; done), by first | rfl | trivial | (simp; done) | (simp; omega), by first | go_num | trivial | simp, _, rfl, ZN⟩
                    case measure => have := NT.out; simp [intOf]; omega
                  · by_cases gz : y < 0
                    · have ZN := Lib.hid (FIN.out true (by simp [gz]))
                      have dz : decide (y < 0) = true := decide_eq_true gz
                      go_wp2_with fail
                      go_roundw
                      case rel => exact ⟨n + 1, y, true, by have := NT.out; omega, by first | rfl | trivial | exact congrArg (Value.int .i64) EY.out | (simp [EY.out]; done), by first | rfl | trivial | (simp; done) | (simp; omega), by first | go_num | trivial | simp, _, rfl, ZN⟩
                      case measure => have := NT.out; simp [intOf]; omega
                    · have ZN := Lib.hid (FIN.out false (by simp [gy, gz]))
                      have dz : decide (y < 0) = false := decide_eq_false gz
                      go_wp2_with fail
                      go_roundw
                      case rel => exact ⟨n + 1, y, false, by have := NT.out; omega, by first | rfl | trivial | exact congrArg (Value.int .i64) EY.out | (simp [EY.out]; done), by first | rfl | trivial | (simp; done) | (simp; omega), by first | go_num | trivial | simp, _, rfl, ZN⟩
                      case measure => have := NT.out; simp [intOf]; omega
            · have KD := Lib.hid (show decide (k = 1) = true from decide_eq_true K1)
              have k1 : ((k : Int) == 1) = true := by rw [beq_iff_eq]; omega
              clear K1
              obtain ⟨y, hy⟩ : ∃ y, y = RowKit.wrap64 (xx + A) := ⟨_, rfl⟩
              have YR := Lib.hid (show (-9223372036854775808 ≤ y ∧ y ≤ 9223372036854775807) ∧ (y = xx + A ∨ (9223372036854775807 < xx + A ∧ y = xx + A - 18446744073709551616)) from by
                have h1 := Z.out.1
                unfold RowKit.wrap64 at hy
                omega)
              have ey : RowKit.wrap64 (xx + A) = y := hy.symm
              have EY := Lib.hid ey
              have FIN := Lib.hid (show ∀ ov : Bool, ov = (over || decide (4611686018427387904 < y) || decide (y < 0)) → (-9223372036854775808 ≤ y ∧ y ≤ 9223372036854775807) ∧ WAt G (decide (k = 1)) (n + 1) y ov ∧ FBs w W.heap.size [(q3, 31, C), (q4, 38, #[.int .i64 (a : Int), .int .i64 (u : Int), .int .i64 (s : Int)]), (b12, 31, CF)] VF LF wC from fun ov hov => ⟨YR.out.1, Z.out.2.1.lose GF_.out.1 EA.out.2 (YR.out.2.elim (fun h => Or.inl (by have := EA.out.1; omega)) (fun h => Or.inr (Or.inl (by have := EA.out.1; omega)))) hov, Z.out.2.2.go FD.out.at_.low⟩)
              clear hy
              cases over with
              | true =>
                have ZN := Lib.hid (FIN.out true rfl)
                go_wp2_with fail
                go_roundw
                case rel => exact ⟨n + 1, y, true, by have := NT.out; omega, by first | rfl | trivial | exact congrArg (Value.int .i64) EY.out | (simp [EY.out]; done), by first | rfl | trivial | (simp; done) | (simp; omega), by first | go_num | trivial | simp, _, rfl, ZN⟩
                case measure => have := NT.out; simp [intOf]; omega
              | false =>
                by_cases gy : 4611686018427387904 < y
                · have ZN := Lib.hid (FIN.out true (by simp [gy]))
                  go_wp2_with fail
                  go_roundw
                  case rel => exact ⟨n + 1, y, true, by have := NT.out; omega, by first | rfl | trivial | exact congrArg (Value.int .i64) EY.out | (simp [EY.out]; done), by first | rfl | trivial | (simp; done) | (simp; omega), by first | go_num | trivial | simp, _, rfl, ZN⟩
                  case measure => have := NT.out; simp [intOf]; omega
                · by_cases gz : y < 0
                  · have ZN := Lib.hid (FIN.out true (by simp [gz]))
                    have dz : decide (y < 0) = true := decide_eq_true gz
                    go_wp2_with fail
                    go_roundw
                    case rel => exact ⟨n + 1, y, true, by have := NT.out; omega, by first | rfl | trivial | exact congrArg (Value.int .i64) EY.out | (simp [EY.out]; done), by first | rfl | trivial | (simp; done) | (simp; omega), by first | go_num | trivial | simp, _, rfl, ZN⟩
                    case measure => have := NT.out; simp [intOf]; omega
                  · have ZN := Lib.hid (FIN.out false (by simp [gy, gz]))
                    have dz : decide (y < 0) = false := decide_eq_false gz
                    go_wp2_with fail
                    go_roundw
                    case rel => exact ⟨n + 1, y, false, by have := NT.out; omega, by first | rfl | trivial | exact congrArg (Value.int .i64) EY.out | (simp [EY.out]; done), by first | rfl | trivial | (simp; done) | (simp; omega), by first | go_num | trivial | simp, _, rfl, ZN⟩
                    case measure => have := NT.out; simp [intOf]; omega
          · have EA := Lib.hid (show 0 ≤ G n from by rw [← EG.out]; omega)
            rw [show max (-g) 0 = 0 from by omega] at LO
            go_wp2_with (refine led_load BB1.out LC5.out rfl rfl rfl ?_)
            refine LO.out.mono ?_
            rintro e wC ⟨rfl, hb⟩
            have FD := Lib.hid (FC.out.go hb)
            clear hb LO u0 u1 u2 BB1 XOB FC
            by_cases K1 : k = 1
            rotate_left
            · have KD := Lib.hid (show decide (k = 1) = false from decide_eq_false K1)
              have k1 : ((k : Int) == 1) = false := beq_false_of_ne (by omega)
              clear K1
              cases tk with
              | false =>
                have WN := Lib.hid (show WAt G (decide (k = 1)) (n + 1) xx over from Z.out.2.1.skip (fun h => by rw [KD.out] at h; cases h))
                have ZN := Lib.hid (show (-9223372036854775808 ≤ xx ∧ xx ≤ 9223372036854775807) ∧ WAt G (decide (k = 1)) (n + 1) xx over ∧ FBs w W.heap.size [(q3, 31, C), (q4, 38, #[.int .i64 (a : Int), .int .i64 (u : Int), .int .i64 (s : Int)]), (b12, 31, CF)] VF LF wC from ⟨Z.out.1, WN.out, Z.out.2.2.go FD.out.at_.low⟩)
                clear WN
                go_wp2_with fail
                go_roundw
                case rel => exact ⟨n + 1, xx, over, by have := NT.out; omega, rfl, rfl, by go_num, _, rfl, ZN⟩
                case measure => have := NT.out; simp [intOf]; omega
              | true =>
                have hok := HG.out.orders.all o OM.out
                obtain ⟨j, hj⟩ := Int.eq_ofNat_of_zero_le (show 0 ≤ o.instr from by unfold Ord.Ok at hok; omega)
                have JL := Lib.hid (show j < L.instrs.length from by unfold Ord.Ok at hok; omega)
                have HJ := Lib.hid hj
                clear hok hj
                have y6 : wC.cell? ⟨b18, 6, none⟩ = some V5.orders := FD.out.at_.cell 1 rfl 6 rfl
                have z6 := FD.out.at_.free 1 rfl 6
                go_upto_region 34 with (fail)
                obtain ⟨WD, hWD⟩ : ∃ s, s = wC.setCell ⟨b18, 6, none⟩ (.slice none 0 0) := ⟨_, rfl⟩
                obtain ⟨V6, hV6⟩ : ∃ v : LedV, v = { V5 with orders := .slice none 0 0 } := ⟨_, rfl⟩
                have FE := Lib.hid (show FBs W' W8.heap.size [(b16, 46, #[.int .i64 o.acct, .int .i64 o.id, .int .i64 o.instr, .int .i64 o.qty, .int .i64 o.price]), (b18, 31, V6.cells L)] V6 { L5 with orders := [] } WD from by rw [hWD, hV6]; exact FD.out.orders0 1 rfl)
                rw [← hWD]
                clear hWD hV6 y6 z6
                have d0 : WD.cell? ⟨b16, 0, none⟩ = some (.int .i64 o.acct) := FE.out.at_.cell 0 rfl 0 rfl
                have d2 : WD.cell? ⟨b16, 2, none⟩ = some (.int .i64 (j : Int)) := by rw [← HJ.out]; exact FE.out.at_.cell 0 rfl 2 rfl
                have d3 : WD.cell? ⟨b16, 3, none⟩ = some (.int .i64 o.qty) := FE.out.at_.cell 0 rfl 3 rfl
                have FEn := Lib.hid (FE.out.at_.go (show Below WD.heap.size WD (WD.alloc (.cells #[.int .i64 o.acct, .int .i64 (j : Int), .int .i64 o.qty] 43)) from (Below.refl _ _).alloc (Nat.le_refl _) _))
                have y5 : (WD.alloc (.cells #[.int .i64 o.acct, .int .i64 (j : Int), .int .i64 o.qty] 43)).cell? ⟨b18, 5, none⟩ = some V6.poss := FEn.out.cell 1 rfl 5 rfl
                have z5 := FEn.out.free 1 rfl 5
                go_upto_region 35 with (fail)
                obtain ⟨WE, hWE⟩ : ∃ s, s = (WD.alloc (.cells #[.int .i64 o.acct, .int .i64 (j : Int), .int .i64 o.qty] 43)).setCell ⟨b18, 5, none⟩ (.slice (some ⟨WD.heap.size, 0, none⟩) 1 1) := ⟨_, rfl⟩
                obtain ⟨V7, hV7⟩ : ∃ v : LedV, v = { V6 with poss := .slice (some ⟨WD.heap.size, 0, none⟩) 1 1 } := ⟨_, rfl⟩
                obtain ⟨L7, hL7⟩ : ∃ l : Led, l = { L5 with orders := [], poss := [⟨o.acct, (j : Int), o.qty⟩] } := ⟨_, rfl⟩
                have FF := Lib.hid (show FBs W' W8.heap.size [(b16, 46, #[.int .i64 o.acct, .int .i64 o.id, .int .i64 o.instr, .int .i64 o.qty, .int .i64 o.price]), (b18, 31, V7.cells L)] V7 L7 WE from by rw [hWE, hV7, hL7]; exact FE.out.poss1 1 rfl ⟨o.acct, (j : Int), o.qty⟩ #[.int .i64 o.acct, .int .i64 (j : Int), .int .i64 o.qty] rfl)
                have E7 := Lib.hid (show L7 = { L with poss := [⟨o.acct, (j : Int), o.qty⟩], orders := [] } from by rw [hL7, L5E.out])
                rw [← hWE]
                clear hWE hV7 hL7 d0 d2 d3 FEn y5 z5 FE
                have hI7 : L7.instrs = L.instrs := by rw [E7.out]
                obtain ⟨x, hx⟩ : ∃ x, L.instrs[j]? = some x := ⟨_, List.getElem?_eq_getElem JL.out⟩
                have hx7 : L7.instrs[j]? = some x := by rw [hI7]; exact hx
                obtain ⟨nI, hnI⟩ : ∃ n, n = L.instrs.length := ⟨_, rfl⟩
                obtain ⟨g7, c7, hv7, _, _, _, hfr7⟩ := FF.out.own.instrs.block hx7
                have HV7 := Lib.hid hv7
                have hv7n : V7.instrs = .slice (some ⟨g7, 0, none⟩) nI c7 := by rw [hv7, hI7, hnI]
                have IROW := Lib.hid (show ∀ WW, LedOwn WW W8.heap.size V7 L7 → ∀ q u', (Ins.cells x)[q]? = some u' → WW.cell? ⟨g7, j * 7 + q, none⟩ = some u' from fun WW ow q u' hq => by
                  have hR := ow.instrs.row inscells_len (by decide)
                  rw [HV7.out] at hR
                  obtain ⟨b', o', e', _, hc⟩ := hR.at_ hx7
                  cases e'
                  have := hc q u' hq
                  rwa [Nat.zero_add] at this)
                have IFR := Lib.hid (show ∀ WW, LedOwn WW W8.heap.size V7 L7 → ∀ q, WW.frozen? ⟨g7, q, none⟩ = false from fun WW ow q => by
                  obtain ⟨g8, c8, hv8, _, _, _, hfr8⟩ := ow.instrs.block hx7
                  have e := HV7.out.symm.trans hv8
                  injection e with e1 _ _
                  injection e1 with e1
                  injection e1 with e1
                  rw [e1]; exact hfr8 q)
                have HX := Lib.hid (And.intro hx hx7)
                have y3 : WE.cell? ⟨b18, 3, none⟩ = some (.slice (some ⟨g7, 0, none⟩) nI c7) := FF.out.at_.cell 1 rfl 3 (by rw [← hv7n]; rfl)
                have d2 : WE.cell? ⟨b16, 2, none⟩ = some (.int .i64 (j : Int)) := by rw [← HJ.out]; exact FF.out.at_.cell 0 rfl 2 rfl
                have d4 : WE.cell? ⟨b16, 4, none⟩ = some (.int .i64 o.price) := FF.out.at_.cell 0 rfl 4 rfl
                have i0 : WE.cell? ⟨g7, j * 7, none⟩ = some (.int .i64 x.kind) := IROW.out WE FF.out.own 0 _ rfl
                have i1 : WE.cell? ⟨g7, j * 7 + 1, none⟩ = some (.int .i64 x.under) := IROW.out WE FF.out.own 1 _ rfl
                have i2 : WE.cell? ⟨g7, j * 7 + 2, none⟩ = some (.int .i64 x.mult) := IROW.out WE FF.out.own 2 _ rfl
                have i3 : WE.cell? ⟨g7, j * 7 + 3, none⟩ = some (.int .i64 x.strike) := IROW.out WE FF.out.own 3 _ rfl
                have i4 : WE.cell? ⟨g7, j * 7 + 4, none⟩ = some (.int .i64 x.expiry) := IROW.out WE FF.out.own 4 _ rfl
                have i5 : WE.cell? ⟨g7, j * 7 + 5, none⟩ = some (.bool x.call) := IROW.out WE FF.out.own 5 _ rfl
                have i6 : WE.cell? ⟨g7, j * 7 + 6, none⟩ = some (.int .i64 x.mark) := IROW.out WE FF.out.own 6 _ rfl
                have V7n := Lib.hid hv7n
                have jn : (j : Int) < (nI : Int) := by rw [hnI]; have := JL.out; omega
                have jn12 : nI ≤ 12 := by rw [hnI]; exact HG.out.things.i1
                clear hI7 hx hx7 hnI hv7 hfr7 hv7n
                go_upto_region 36 with (fail)
                obtain ⟨b21, hb21⟩ : ∃ n, n = WE.heap.size := ⟨_, rfl⟩
                obtain ⟨WG, hWG⟩ : ∃ s, s = WE.alloc (.cells #[.int .i64 x.kind, .int .i64 x.under, .int .i64 x.mult, .int .i64 x.strike, .int .i64 x.expiry, .bool x.call, .int .i64 x.mark] 54) := ⟨_, rfl⟩
                have FG := Lib.hid (show FBs W' W8.heap.size [(b16, 46, #[.int .i64 o.acct, .int .i64 o.id, .int .i64 o.instr, .int .i64 o.qty, .int .i64 o.price]), (b18, 31, V7.cells L), (b21, 54, #[.int .i64 x.kind, .int .i64 x.under, .int .i64 x.mult, .int .i64 x.strike, .int .i64 x.expiry, .bool x.call, .int .i64 x.mark])] V7 L7 WG from by rw [hWG, hb21]; exact FF.out.box _ _)
                rw [← hWG, ← hb21]
                clear hWG hb21 y3 d2 d4 i0 i1 i2 i3 i4 i5 i6 FF
                have d4 : WG.cell? ⟨b16, 4, none⟩ = some (.int .i64 o.price) := FG.out.at_.cell 0 rfl 4 rfl
                have e6 : WG.cell? ⟨b21, 6, none⟩ = some (.int .i64 x.mark) := FG.out.at_.cell 2 rfl 6 rfl
                have ez6 := FG.out.at_.free 2 rfl 6
                go_upto_region 37 with (fail)
                obtain ⟨WH, hWH⟩ : ∃ s, s = WG.setCell ⟨b21, 6, none⟩ (.int .i64 o.price) := ⟨_, rfl⟩
                have FH := Lib.hid (show FBs W' W8.heap.size [(b16, 46, #[.int .i64 o.acct, .int .i64 o.id, .int .i64 o.instr, .int .i64 o.qty, .int .i64 o.price]), (b18, 31, V7.cells L), (b21, 54, #[.int .i64 x.kind, .int .i64 x.under, .int .i64 x.mult, .int .i64 x.strike, .int .i64 x.expiry, .bool x.call, .int .i64 o.price])] V7 L7 WH from by rw [hWH]; exact FG.out.cell 2 rfl 6 _)
                rw [← hWH]
                clear hWH d4 e6 ez6 FG
                have y3 : WH.cell? ⟨b18, 3, none⟩ = some (.slice (some ⟨g7, 0, none⟩) nI c7) := FH.out.at_.cell 1 rfl 3 (by rw [← V7n.out]; rfl)
                have d2 : WH.cell? ⟨b16, 2, none⟩ = some (.int .i64 (j : Int)) := by rw [← HJ.out]; exact FH.out.at_.cell 0 rfl 2 rfl
                have i0 : WH.cell? ⟨g7, j * 7, none⟩ = some (.int .i64 x.kind) := IROW.out WH FH.out.own 0 _ rfl
                have i1 : WH.cell? ⟨g7, j * 7 + 1, none⟩ = some (.int .i64 x.under) := IROW.out WH FH.out.own 1 _ rfl
                have i2 : WH.cell? ⟨g7, j * 7 + 2, none⟩ = some (.int .i64 x.mult) := IROW.out WH FH.out.own 2 _ rfl
                have i3 : WH.cell? ⟨g7, j * 7 + 3, none⟩ = some (.int .i64 x.strike) := IROW.out WH FH.out.own 3 _ rfl
                have i4 : WH.cell? ⟨g7, j * 7 + 4, none⟩ = some (.int .i64 x.expiry) := IROW.out WH FH.out.own 4 _ rfl
                have i5 : WH.cell? ⟨g7, j * 7 + 5, none⟩ = some (.bool x.call) := IROW.out WH FH.out.own 5 _ rfl
                have i6 : WH.cell? ⟨g7, j * 7 + 6, none⟩ = some (.int .i64 x.mark) := IROW.out WH FH.out.own 6 _ rfl
                have e0 : WH.cell? ⟨b21, 0, none⟩ = some (.int .i64 x.kind) := FH.out.at_.cell 2 rfl 0 rfl
                have e1 : WH.cell? ⟨b21, 1, none⟩ = some (.int .i64 x.under) := FH.out.at_.cell 2 rfl 1 rfl
                have e2 : WH.cell? ⟨b21, 2, none⟩ = some (.int .i64 x.mult) := FH.out.at_.cell 2 rfl 2 rfl
                have e3 : WH.cell? ⟨b21, 3, none⟩ = some (.int .i64 x.strike) := FH.out.at_.cell 2 rfl 3 rfl
                have e4 : WH.cell? ⟨b21, 4, none⟩ = some (.int .i64 x.expiry) := FH.out.at_.cell 2 rfl 4 rfl
                have e5 : WH.cell? ⟨b21, 5, none⟩ = some (.bool x.call) := FH.out.at_.cell 2 rfl 5 rfl
                have e6 : WH.cell? ⟨b21, 6, none⟩ = some (.int .i64 o.price) := FH.out.at_.cell 2 rfl 6 rfl
                have zf := IFR.out WH FH.out.own
                have WEQ := Lib.hid (show ((((((WH.setCell ⟨g7, j * 7, none⟩ (.int .i64 x.kind)).setCell ⟨g7, j * 7 + 1, none⟩ (.int .i64 x.under)).setCell ⟨g7, j * 7 + 2, none⟩ (.int .i64 x.mult)).setCell ⟨g7, j * 7 + 3, none⟩ (.int .i64 x.strike)).setCell ⟨g7, j * 7 + 4, none⟩ (.int .i64 x.expiry)).setCell ⟨g7, j * 7 + 5, none⟩ (.bool x.call)).setCell ⟨g7, j * 7 + 6, none⟩ (.int .i64 o.price) = WH.setCell ⟨g7, j * 7 + 6, none⟩ (.int .i64 o.price) from by
                  rw [setCell_held i0, setCell_held i1, setCell_held i2, setCell_held i3, setCell_held i4, setCell_held i5])
                go_upto_region 38 with (fail)
                rw [WEQ.out]
                obtain ⟨WI, hWI⟩ : ∃ s, s = WH.setCell ⟨g7, j * 7 + 6, none⟩ (.int .i64 o.price) := ⟨_, rfl⟩
                obtain ⟨L8, hL8⟩ : ∃ l : Led, l = { L7 with instrs := L7.instrs.set j { x with mark := o.price } } := ⟨_, rfl⟩
                have FI := Lib.hid (show FBs W' W8.heap.size [(b16, 46, #[.int .i64 o.acct, .int .i64 o.id, .int .i64 o.instr, .int .i64 o.qty, .int .i64 o.price]), (b18, 31, V7.cells L), (b21, 54, #[.int .i64 x.kind, .int .i64 x.under, .int .i64 x.mult, .int .i64 x.strike, .int .i64 x.expiry, .bool x.call, .int .i64 o.price])] V7 L8 WI from by rw [hWI, hL8]; exact FH.out.mark HV7.out HX.out.2 o.price)
                obtain ⟨C8, hC8⟩ : ∃ c, c = V7.cells L := ⟨_, rfl⟩
                have EL := Lib.hid (show L8 = atLimit L o from by
                  rw [hL8, E7.out]
                  unfold atLimit Led.ins
                  rw [HJ.out, Int.toNat_natCast, List.getD_eq_getElem?_getD, HX.out.1]
                  rfl)
                have EC8 := Lib.hid (show C8 = V7.cells L8 ∧ C8 = V7.cells L from ⟨by rw [hC8, hL8, E7.out]; rfl, hC8⟩)
                have LC8 := Lib.hid (show LedC C8 from by rw [EC8.out.1]; exact ledc FI.out.own.led)
                have BB8 := Lib.hid (show WI.heap[b18]? = some (.cells C8 31 (0, 0)) from by rw [EC8.out.2]; exact FI.out.at_.get 1 rfl)
                have XOI := Lib.hid (Z.out.2.2.at_.go FI.out.at_.low)
                rw [← hWI]
                clear hWI hL8 hC8 y3 d2 i0 i1 i2 i3 i4 i5 i6 e0 e1 e2 e3 e4 e5 e6 zf WEQ FH
                have G8 := Lib.hid (show L8.Good ∧ L8.accts = L.accts ∧ L8.unders = L.unders ∧ lossO L8 a (u : Int) s = some (-(G n)) from by
                  rw [EL.out]
                  exact ⟨atLimit_good HG.out OM.out, rfl, rfl, atLimit_loss HG.out OM.out GF_.out.2 GF_.out.1⟩)
                have LO := Lib.hid (mloss_any WI V7 L8 FI.out.own.led (by rw [G8.out.2.1]; exact HL.out) (GR.out WI XOI.out.low) (a : Int) (u : Int) (s : Int))
                rw [ansA_of G8.out.1 (by rw [G8.out.2.1]; exact IN.out.1) (by rw [G8.out.2.2.1]; exact IN.out.2.1) IN.out.2.2 G8.out.2.2.2] at LO
                unfold LedV.val at LO
                rw [← EC8.out.1] at LO
                obtain ⟨A, hA⟩ : ∃ A, A = -(G n) := ⟨_, rfl⟩
                rw [← hA] at LO
                have HA := Lib.hid hA
                have A0_ : ¬ 0 < A := by have := EA.out; omega
                clear hA gs fg
                have u0 : WI.cell? ⟨q4, 0, none⟩ = some (.int .i64 (a : Int)) := XOI.out.cell 1 rfl 0 rfl
                have u1 : WI.cell? ⟨q4, 1, none⟩ = some (.int .i64 (u : Int)) := XOI.out.cell 1 rfl 1 rfl
                have u2 : WI.cell? ⟨q4, 2, none⟩ = some (.int .i64 (s : Int)) := XOI.out.cell 1 rfl 2 rfl
                go_wp2_with (refine led_load BB8.out LC8.out rfl rfl rfl ?_)
                refine LO.out.mono ?_
                rintro e wJ ⟨rfl, hb⟩
                have FJ := Lib.hid (FI.out.go hb)
                clear hb LO u0 u1 u2 BB8 XOI FI
                obtain ⟨y, hy⟩ : ∃ y, y = RowKit.wrap64 (xx + A) := ⟨_, rfl⟩
                have AG := Lib.hid (show A = -(G n) ∧ (-4611686018427387904 ≤ A ∧ A ≤ 4611686018427387904) from by
                  have h1 := fitsA_true.1 GF_.out.1
                  have h2 := HA.out
                  exact ⟨h2, by omega⟩)
                have YR := Lib.hid (show (-9223372036854775808 ≤ y ∧ y ≤ 9223372036854775807) ∧ ((-4611686018427387904 ≤ xx ∧ xx ≤ 4611686018427387904) → y = xx + A) from by
                  have h1 := Z.out.1
                  have h2 := AG.out.2
                  unfold RowKit.wrap64 at hy
                  omega)
                have ey : RowKit.wrap64 (xx + A) = y := hy.symm
                have EY := Lib.hid ey
                have FIN := Lib.hid (show ∀ ov : Bool, ov = (over || decide (y < -4611686018427387904)) → (-9223372036854775808 ≤ y ∧ y ≤ 9223372036854775807) ∧ WAt G (decide (k = 1)) (n + 1) y ov ∧ FBs w W.heap.size [(q3, 31, C), (q4, 38, #[.int .i64 (a : Int), .int .i64 (u : Int), .int .i64 (s : Int)]), (b12, 31, CF)] VF LF wJ from fun ov hov => by
                  refine ⟨YR.out.1, ?_, Z.out.2.2.go FJ.out.at_.low⟩
                  have hz := Z.out.2.1
                  rw [KD.out] at hz ⊢
                  refine hz.win GF_.out.1 EA.out ?_ hov
                  by_cases ho : over = true
                  · exact Or.inr ho
                  · rcases hz with h | ⟨h1, h2, _⟩
                    · exact absurd h ho
                    · exact Or.inl (by have h3 := YR.out.2 ⟨h1, h2⟩; have h4 := AG.out.1; omega))
                clear hy
                cases over with
                | true =>
                  have ZN := Lib.hid (FIN.out true rfl)
                  go_wp2_with fail
                  go_roundw
                  case rel => exact ⟨n + 1, y, true, by have := NT.out; omega, by first | rfl | trivial | exact congrArg (Value.int .i64) EY.out | (simp [EY.out]; done), by first | rfl | trivial | (simp; done) | (simp; omega), by first | go_num | trivial | simp, _, rfl, ZN⟩
                  case measure => have := NT.out; simp [intOf]; omega
                | false =>
                  by_cases gy : y < -4611686018427387904
                  · have ZN := Lib.hid (FIN.out true (by simp [gy]))
                    have dz : decide (y < -4611686018427387904) = true := decide_eq_true gy
                    go_wp2_with fail
                    go_roundw
                    case rel => exact ⟨n + 1, y, true, by have := NT.out; omega, by first | rfl | trivial | exact congrArg (Value.int .i64) EY.out | (simp [EY.out]; done), by first | rfl | trivial | (simp; done) | (simp; omega), by first | go_num | trivial | simp, _, rfl, ZN⟩
                    case measure => have := NT.out; simp [intOf]; omega
                  · have ZN := Lib.hid (FIN.out false (by simp [gy]))
                    have dz : decide (y < -4611686018427387904) = false := decide_eq_false gy
                    go_wp2_with fail
                    go_roundw
                    case rel => exact ⟨n + 1, y, false, by have := NT.out; omega, by first | rfl | trivial | exact congrArg (Value.int .i64) EY.out | (simp [EY.out]; done), by first | rfl | trivial | (simp; done) | (simp; omega), by first | go_num | trivial | simp, _, rfl, ZN⟩
                    case measure => have := NT.out; simp [intOf]; omega
            · have KD := Lib.hid (show decide (k = 1) = true from decide_eq_true K1)
              have k1 : ((k : Int) == 1) = true := by rw [beq_iff_eq]; omega
              clear K1
              have WN := Lib.hid (show WAt G (decide (k = 1)) (n + 1) xx over from Z.out.2.1.skip (fun _ => EA.out))
              have ZN := Lib.hid (show (-9223372036854775808 ≤ xx ∧ xx ≤ 9223372036854775807) ∧ WAt G (decide (k = 1)) (n + 1) xx over ∧ FBs w W.heap.size [(q3, 31, C), (q4, 38, #[.int .i64 (a : Int), .int .i64 (u : Int), .int .i64 (s : Int)]), (b12, 31, CF)] VF LF wC from ⟨Z.out.1, WN.out, Z.out.2.2.go FD.out.at_.low⟩)
              clear WN
              go_wp2_with fail
              go_roundw
              case rel => exact ⟨n + 1, xx, over, by have := NT.out; omega, rfl, rfl, by go_num, _, rfl, ZN⟩
              case measure => have := NT.out; simp [intOf]; omega
        · skip
          have hnt' : ¬ (n : Int) < (nO : Int) := by omega
          obtain rfl : nO = n := by omega
          cases over with
          | true =>
            go_wp2_with fail
            go_ret
            exact ⟨rfl, Z.out.2.2.at_.low⟩
          | false =>
            have ZX := Lib.hid (show -4611686018427387904 ≤ xx ∧ xx ≤ 4611686018427387904 ∧ xx ≤ lossT G nO ∧ (k = 1 → xx = lossT G nO) from by
              rcases Z.out.2.1 with h | ⟨h1, h2, h3, h4⟩
              · cases h
              · exact ⟨h1, h2, h3, fun e => h4 (decide_eq_true e)⟩)
            have XO := Lib.hid Z.out.2.2.at_
            have LO := Lib.hid (mloss_any W' VF LF Z.out.2.2.own.led (by rw [GF.out.2.1]; exact HL.out) (GR.out W' XO.out.low) (a : Int) (u : Int) (s : Int))
            rw [ansA_of GF.out.1 (by rw [GF.out.2.1]; exact IN.out.1) (by rw [GF.out.2.2.1]; exact IN.out.2.1) IN.out.2.2 GF.out.2.2.2] at LO
            unfold LedV.val at LO
            rw [← ECF.out] at LO
            obtain ⟨S, hS⟩ : ∃ S, S = B + xx := ⟨_, rfl⟩
            have ES := Lib.hid (show -9223372036854775808 ≤ S ∧ S ≤ M ∧ (k = 1 → S = M) ∧ S ≤ 9223372036854775807 from by
              have h1 := ZX.out
              have h2 := FBM.out
              have h3 := MB.out
              refine ⟨by omega, by omega, fun e => ?_, by omega⟩
              have := h1.2.2.2 e
              omega)
            have eS : B + xx = S := hS.symm
            have s0 : -9223372036854775808 ≤ S := ES.out.1
            have s1 : S ≤ 9223372036854775807 := ES.out.2.2.2
            have s2 : ¬ M < S := by have := ES.out.2.1; omega
            have u0 : W'.cell? ⟨q4, 0, none⟩ = some (.int .i64 (a : Int)) := XO.out.cell 1 rfl 0 rfl
            have u1 : W'.cell? ⟨q4, 1, none⟩ = some (.int .i64 (u : Int)) := XO.out.cell 1 rfl 1 rfl
            have u2 : W'.cell? ⟨q4, 2, none⟩ = some (.int .i64 (s : Int)) := XO.out.cell 1 rfl 2 rfl
            clear hS
            go_wp2_with (refine led_load (XO.out.get 2 rfl) LCF.out rfl rfl rfl ?_)
            refine LO.out.mono ?_
            rintro e wK ⟨rfl, hb⟩
            have XK := Lib.hid (show At w wK [(q3, 31, C), (q4, 38, #[.int .i64 (a : Int), .int .i64 (u : Int), .int .i64 (s : Int)])] from (XO.out.go hb).sub (List.Sublist.cons_cons _ (List.Sublist.cons_cons _ (List.Sublist.cons _ List.Sublist.slnil))))
            clear hb LO u0 u1 u2 XO Z
            cases best with
            | true =>
              go_wp2_with fail
              go_roundw
              case rel => exact ⟨k + 1, true, by have := LT_.out; omega, by first | rfl | trivial, by first | go_num | trivial, fun _ => rfl, _, rfl, XK⟩
              case measure => have := LT_.out; simp [intOf]; omega
            | false =>
              by_cases sm : S = M
              · have sm' : (S == M) = true := by rw [beq_iff_eq]; exact sm
                go_wp2_with fail
                go_roundw
                case rel => exact ⟨k + 1, true, by have := LT_.out; omega, by first | rfl | trivial | simp [sm], by first | go_num | trivial, fun _ => rfl, _, rfl, XK⟩
                case measure => have := LT_.out; simp [intOf]; omega
              · have sm' : (S == M) = false := beq_false_of_ne sm
                have NK := Lib.hid (show k + 1 = 2 → false = true from fun e => absurd (ES.out.2.2.1 (by omega)) sm)
                go_wp2_with fail
                go_roundw
                case rel => exact ⟨k + 1, false, by have := LT_.out; omega, by first | rfl | trivial | simp [sm], by first | go_num | trivial, NK.out, _, rfl, XK⟩
                case measure => have := LT_.out; simp [intOf]; omega
end Go.Proofs.YtcjbhgnlmmeeeaaGreatDoor

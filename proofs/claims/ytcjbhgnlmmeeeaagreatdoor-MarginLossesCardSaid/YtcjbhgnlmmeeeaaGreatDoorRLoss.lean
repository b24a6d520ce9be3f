/- bulwarkref16.Loss, walked (printed by tools/gen_rloss.py). -/
import Derived.Test.YtcjbhgnlmmeeeaaGreatDoorRGain
import Derived.Test.YtcjbhgnlmmeeeaaGreatDoorMgF
import Derived.Test.YtcjbhgnlmmeeeaaGreatDoorUnderR
namespace Go.Proofs.YtcjbhgnlmmeeeaaGreatDoor
open Go.RowKit Go.Bw Go.Maps Go.Shelf Go.Bw.Fall
set_option linter.unusedVariables false
set_option linter.unusedSimpArgs false

theorem under_ints {ps : List Int} {a v : Nat} : decide ((a : Int) ∈ ints (pathL ps v)) = underL ps a v := by
  unfold underL
  rw [Bool.eq_iff_iff]
  simp only [decide_eq_true_eq]
  exact mem_ints
theorem counts_any (w : World) (V : LedV) (L : Led) (h : LedAt w V L) (hg : L.Good) (v a : Nat) (hv : v < L.accts.length) :
    Calls Tryz.prog 47 #[V.val L, .int .i64 (v : Int), .int .i64 (a : Int)] w fun e w' => e = .returned (.bool (underL L.parents a v)) ∧ Below w.heap.size w w' := by
  have hl : L.parents.length = L.accts.length := by unfold Led.parents; rw [List.length_map]
  refine counts_from w V L h (by have := hg.accounts.tree.hi; simp only [List.length_map] at this; omega) v a _ (fun W vv hr => ?_)
  rw [← under_ints]
  exact runder_any W vv L.parents v a hr hg.accounts.tree (by omega)
set_option maxRecDepth 100000 in
set_option maxHeartbeats 8000000 in
theorem rloss_any (w : World) (V : LedV) (L : Led) (h : LedAt w V L) (hg : L.Good) (a : Nat) (under : Int) (s : Nat) (hs : s < 21) :
    Calls Tryz.prog 21 #[V.val L, .int .i64 (a : Int), .int .i64 under, .int .i64 (s : Int)] w fun e w' => e = .returned (.tuple #[.int .i64 (retA (lossO L a under s)).1, .int .i64 (retA (lossO L a under s)).2]) ∧ Below w.heap.size w w' := by
  have HL := Lib.hid h
  have HG := Lib.hid hg
  have S21 := Lib.hid hs
  obtain ⟨R, hR⟩ : ∃ R, R = lossO L a under s := ⟨_, rfl⟩
  have EQ := Lib.hid hR
  rw [← hR]
  have GAL := Lib.hid (fun W (hb : Below w.heap.size w W) j hj q f q0 q1 f0 f1 => rgain_any W V L (h.below hb) hg j hj s hs q f q0 q1 f0 f1)
  have CNT := Lib.hid (fun W (hb : Below w.heap.size w W) v hv => counts_any W V L (h.below hb) hg v a hv)
  obtain ⟨a1, c1, a2, c2, a3, c3, a4, c4, a5, c5, a6, c6, a7, c7, a8, c8, e1, e2, e3, e4, e5, e6, e7, e8⟩ := LedAt.opened h
  have EV := Lib.hid (And.intro e1 (And.intro e2 (And.intro e3 (And.intro e4 (And.intro e5 (And.intro e6 (And.intro e7 e8)))))))
  unfold LedV.val LedV.cells at GAL CNT ⊢
  rw [e1, e2, e3, e4, e5, e6, e7, e8] at GAL CNT ⊢
  obtain ⟨n1, hn1⟩ : ∃ n, n = L.curs.length := ⟨_, rfl⟩
  obtain ⟨n2, hn2⟩ : ∃ n, n = L.unders.length := ⟨_, rfl⟩
  obtain ⟨n3, hn3⟩ : ∃ n, n = L.instrs.length := ⟨_, rfl⟩
  obtain ⟨n4, hn4⟩ : ∃ n, n = L.accts.length := ⟨_, rfl⟩
  obtain ⟨n5, hn5⟩ : ∃ n, n = L.poss.length := ⟨_, rfl⟩
  obtain ⟨n6, hn6⟩ : ∃ n, n = L.orders.length := ⟨_, rfl⟩
  obtain ⟨n7, hn7⟩ : ∃ n, n = L.avail.length := ⟨_, rfl⟩
  obtain ⟨n8, hn8⟩ : ∃ n, n = L.locs.length := ⟨_, rfl⟩
  have p64 : n5 ≤ 64 := by have := hg.poss.len; omega
  have o32 : n6 ≤ 32 := by have := hg.orders.len; omega
  have L3 := Lib.hid hn3
  have L4 := Lib.hid hn4
  have L5 := Lib.hid hn5
  have L6 := Lib.hid hn6
  rw [← hn1, ← hn2, ← hn3, ← hn4, ← hn5, ← hn6, ← hn7, ← hn8] at GAL CNT EV ⊢
  have B0 := Lib.hid (show Below w.heap.size w (w.alloc (.cells #[.int .i64 L.day, .slice a1 n1 c1, .slice a2 n2 c2, .slice a3 n3 c3, .slice a4 n4 c4, .slice a5 n5 c5, .slice a6 n6 c6, .slice a7 n7 c7, .slice a8 n8 c8] 31)) ∧ BoxAt (w.alloc (.cells #[.int .i64 L.day, .slice a1 n1 c1, .slice a2 n2 c2, .slice a3 n3 c3, .slice a4 n4 c4, .slice a5 n5 c5, .slice a6 n6 c6, .slice a7 n7 c7, .slice a8 n8 c8] 31)) w.heap.size #[.int .i64 L.day, .slice a1 n1 c1, .slice a2 n2 c2, .slice a3 n3 c3, .slice a4 n4 c4, .slice a5 n5 c5, .slice a6 n6 c6, .slice a7 n7 c7, .slice a8 n8 c8] from ⟨(Below.refl _ _).alloc (Nat.le_refl _) _, BoxAt.new _ _ _⟩)
  clear h hg hs hR e1 e2 e3 e4 e5 e6 e7 e8 hn1 hn2 hn3 hn4 hn5 hn6 hn7 hn8
  go_enter Tryz.func21, Tryz.ntmps21
  go_upto_region 1 with (fail)
  obtain ⟨W0, hW0⟩ : ∃ W0, W0 = w.alloc (.cells #[.int .i64 L.day, .slice a1 n1 c1, .slice a2 n2 c2, .slice a3 n3 c3, .slice a4 n4 c4, .slice a5 n5 c5, .slice a6 n6 c6, .slice a7 n7 c7, .slice a8 n8 c8] 31) := ⟨_, rfl⟩
  rw [← hW0] at B0 ⊢
  obtain ⟨hb, hhb⟩ : ∃ n, n = w.heap.size := ⟨_, rfl⟩
  have C0 := Lib.hid (show Below w.heap.size w W0 ∧ BoxAt W0 hb #[.int .i64 L.day, .slice a1 n1 c1, .slice a2 n2 c2, .slice a3 n3 c3, .slice a4 n4 c4, .slice a5 n5 c5, .slice a6 n6 c6, .slice a7 n7 c7, .slice a8 n8 c8] from ⟨B0.out.1, by rw [hhb]; exact B0.out.2⟩)
  rw [← hhb]
  clear hW0 hhb B0
  have d5 := C0.out.2.at_ 5 _ rfl
  go_wp2_with fail
  clear d5
  go_loopw [10, 22] (fun al i wr => ∃ (k : Nat) (x : Int), k ≤ n5 ∧ i = .int .i64 k ∧ al = .int .i64 x ∧ Below w.heap.size w wr ∧ BoxAt wr hb #[.int .i64 L.day, .slice a1 n1 c1, .slice a2 n2 c2, .slice a3 n3 c3, .slice a4 n4 c4, .slice a5 n5 c5, .slice a6 n6 c6, .slice a7 n7 c7, .slice a8 n8 c8] ∧ Hid (R = (lossPos L a under s (L.poss.drop k) x).bind fun y => lossOrd L a under s L.orders y)) (fun _ i _ => n5 - (intOf i).toNat)
  case atStart => exact ⟨0, 0, Nat.zero_le _, rfl, rfl, C0.out.1, C0.out.2, Lib.hid (by rw [EQ.out]; rfl)⟩
  case round =>
    obtain ⟨k, x, hk, rfl, rfl, hbw, hbx, KEY⟩ := hrel
    have TT := Lib.hid (And.intro hbw hbx)
    clear hbw hbx
    by_cases hlt : k < n5
    · obtain ⟨p, hp⟩ : ∃ p, L.poss[k]? = some p := ⟨_, List.getElem?_eq_getElem (by have := L5.out; omega)⟩
      have row : RowOf wr 3 Pos.cells (.slice a5 n5 c5) L.poss := by have := (HL.out.below TT.out.1).poss; rw [EV.out.2.2.2.2.1] at this; exact this
      obtain ⟨pb, po, eav, hbl, hc⟩ := row.at_ hp
      have pok := HG.out.poss.all p (List.mem_of_getElem? hp)
      obtain ⟨v, hv⟩ : ∃ v : Nat, p.acct = v := ⟨p.acct.toNat, by have := pok.1; omega⟩
      obtain ⟨j, hj⟩ : ∃ j : Nat, p.instr = j := ⟨p.instr.toNat, by have := pok.2.2.1; omega⟩
      have cc0 := hc 0 (.int .i64 p.acct) rfl
      have cc1 := hc 1 (.int .i64 p.instr) rfl
      have cc2 := hc 2 (.int .i64 p.qty) rfl
      rw [Nat.add_zero] at cc0
      rw [hv] at cc0
      rw [hj] at cc1
      have hjl : j < L.instrs.length := by have := pok.2.2.2.1; omega
      have hvl : v < L.accts.length := by have := pok.2.1; omega
      obtain ⟨i, hi⟩ : ∃ i, L.instrs[j]? = some i := ⟨_, List.getElem?_eq_getElem hjl⟩
      have EI := Lib.hid (show L.ins (j : Int) = i from by unfold Led.ins; simp [hi])
      have iok := HG.out.things.instrs i (List.mem_of_getElem? hi)
      have GA := Lib.hid (fun W hb => GAL.out W hb j (by have := L3.out; omega) p.qty i.mark (by have := pok.2.2.2.2.2.1; omega) (by have := pok.2.2.2.2.2.2; omega) iok.2.2.2.2.1 iok.2.2.2.2.2.1)
      have HIT := Lib.hid (show L.hit a under p.instr p.acct = (decide (i.under = under) && underL L.parents a v) from by unfold Led.hit; rw [hj, hv, EI.out]; rfl)
      have CN := Lib.hid (fun W hb => CNT.out W hb v (by have := L4.out; omega))
      rw [hj, hv] at HIT
      obtain ⟨B2, hB2⟩ : ∃ B2, B2 = underL L.parents a v := ⟨_, rfl⟩
      rw [← hB2] at CN HIT
      have row3 : RowOf wr 7 Ins.cells (.slice a3 n3 c3) L.instrs := by have := (HL.out.below TT.out.1).instrs; rw [EV.out.2.2.1] at this; exact this
      obtain ⟨ib, io, ea3, ibl, ic⟩ := row3.at_ hi
      have i1 := ic 1 (.int .i64 i.under) rfl
      have i6 := ic 6 (.int .i64 i.mark) rfl
      have MK := Lib.hid (And.intro ibl (show ∀ W, Below wr.heap.size wr W → W.cell? ⟨ib, io + j * 7 + 1, none⟩ = some (.int .i64 i.under) ∧ W.cell? ⟨ib, io + j * 7 + 6, none⟩ = some (.int .i64 i.mark) from fun W hb => ⟨(Mod.of_below hb).cell i1 (fun h => h), (Mod.of_below hb).cell i6 (fun h => h)⟩))
      have HJ := Lib.hid hj
      have HV := Lib.hid hv
      have HP := Lib.hid hp
      have LT := Lib.hid hlt
      have hlt' : (k : Int) < (n5 : Int) := by omega
      have jn : (j : Int) < (n3 : Int) := by have := L3.out; omega
      have j0 : (0 : Int) ≤ (j : Int) := by omega
      subst eav ea3
      clear hB2 row row3 hc pok hv hj iok hi hp hbl hjl hvl ibl ic i1 i6
      obtain ⟨W1, hW1⟩ : ∃ W1, W1 = wr.alloc (.cells #[.int .i64 (v : Int), .int .i64 (j : Int), .int .i64 p.qty] 43) := ⟨_, rfl⟩
      have TB := Lib.hid (show Below w.heap.size w W1 ∧ BoxAt W1 hb #[.int .i64 L.day, .slice a1 n1 c1, .slice a2 n2 c2, .slice (some ⟨ib, io, none⟩) n3 c3, .slice a4 n4 c4, .slice (some ⟨pb, po, none⟩) n5 c5, .slice a6 n6 c6, .slice a7 n7 c7, .slice a8 n8 c8] ∧ BoxAt W1 wr.heap.size #[.int .i64 (v : Int), .int .i64 (j : Int), .int .i64 p.qty] ∧ Below wr.heap.size wr W1 from by
        rw [hW1]
        have b := (Below.refl wr.heap.size wr).alloc (Nat.le_refl _) (.cells #[.int .i64 (v : Int), .int .i64 (j : Int), .int .i64 p.qty] 43)
        exact ⟨TT.out.1.trans (b.mono TT.out.1.size), TT.out.2.below b, BoxAt.new _ _ _, b⟩)
      obtain ⟨wo, rfl⟩ : ∃ wo, wo = wr := ⟨_, rfl⟩
      go_upto_region 5 with (fail)
      rw [← hW1]
      obtain ⟨h12, hh12⟩ : ∃ h12, h12 = wo.heap.size := ⟨_, rfl⟩
      rw [← hh12] at ⊢
      have XB := Lib.hid (show BoxAt W1 h12 #[.int .i64 (v : Int), .int .i64 (j : Int), .int .i64 p.qty] from by rw [hh12]; exact TB.out.2.2.1)
      clear hW1 hh12 cc0 cc1 cc2
      have f1 := (MK.out.2 W1 TB.out.2.2.2).1
      have b0 : W1.cell? ⟨h12, 0, none⟩ = some (.int .i64 (v : Int)) := XB.out.at_ 0 _ rfl
      have b1 : W1.cell? ⟨h12, 1, none⟩ = some (.int .i64 (j : Int)) := XB.out.at_ 1 _ rfl
      have y0 : W1.cell? ⟨hb, 0, none⟩ = some (.int .i64 L.day) := TB.out.2.1.at_ 0 _ rfl
      have y1 : W1.cell? ⟨hb, 1, none⟩ = some (.slice a1 n1 c1) := TB.out.2.1.at_ 1 _ rfl
      have y2 : W1.cell? ⟨hb, 2, none⟩ = some (.slice a2 n2 c2) := TB.out.2.1.at_ 2 _ rfl
      have y3 : W1.cell? ⟨hb, 3, none⟩ = some (.slice (some ⟨ib, io, none⟩) n3 c3) := TB.out.2.1.at_ 3 _ rfl
      have y4 : W1.cell? ⟨hb, 4, none⟩ = some (.slice a4 n4 c4) := TB.out.2.1.at_ 4 _ rfl
      have y5 : W1.cell? ⟨hb, 5, none⟩ = some (.slice (some ⟨pb, po, none⟩) n5 c5) := TB.out.2.1.at_ 5 _ rfl
      have y6 : W1.cell? ⟨hb, 6, none⟩ = some (.slice a6 n6 c6) := TB.out.2.1.at_ 6 _ rfl
      have y7 : W1.cell? ⟨hb, 7, none⟩ = some (.slice a7 n7 c7) := TB.out.2.1.at_ 7 _ rfl
      have y8 : W1.cell? ⟨hb, 8, none⟩ = some (.slice a8 n8 c8) := TB.out.2.1.at_ 8 _ rfl
      by_cases hun : i.under = under
      · have hne : (i.under != under) = false := by rw [bne_eq_false_iff_eq]; exact hun
        have HD := Lib.hid (decide_eq_true hun)
        rw [HD.out] at HIT
        clear hun HD
        go_wp2_with fail
        refine (CN.out _ TB.out.1).mono ?_
        rintro e w2 ⟨rfl, hb2⟩
        have X2 := Lib.hid (show Below w.heap.size w w2 ∧ BoxAt w2 hb #[.int .i64 L.day, .slice a1 n1 c1, .slice a2 n2 c2, .slice (some ⟨ib, io, none⟩) n3 c3, .slice a4 n4 c4, .slice (some ⟨pb, po, none⟩) n5 c5, .slice a6 n6 c6, .slice a7 n7 c7, .slice a8 n8 c8] ∧ BoxAt w2 h12 #[.int .i64 (v : Int), .int .i64 (j : Int), .int .i64 p.qty] ∧ Below wo.heap.size wo w2 from ⟨TB.out.1.trans (hb2.mono TB.out.1.size), TB.out.2.1.below hb2, XB.out.below hb2, TB.out.2.2.2.trans (hb2.mono TB.out.2.2.2.size)⟩)
        clear hb2 f1 b0 b1 y0 y1 y2 y3 y4 y5 y6 y7 y8
        cases B2
        · go_wp2_with fail
          go_roundw
          case rel => exact ⟨k + 1, x, by have := LT.out; omega, by go_num, rfl, X2.out.1, X2.out.2.1, Lib.hid (by rw [KEY.out, lossPos_skip HP.out (by rw [HJ.out, HV.out]; exact HIT.out)])⟩
          case measure => have := LT.out; simp [intOf]; omega
        have b1 : w2.cell? ⟨h12, 1, none⟩ = some (.int .i64 (j : Int)) := X2.out.2.2.1.at_ 1 _ rfl
        have b2 : w2.cell? ⟨h12, 2, none⟩ = some (.int .i64 p.qty) := X2.out.2.2.1.at_ 2 _ rfl
        have f6 := (MK.out.2 w2 X2.out.2.2.2).2
        have y0 : w2.cell? ⟨hb, 0, none⟩ = some (.int .i64 L.day) := X2.out.2.1.at_ 0 _ rfl
        have y1 : w2.cell? ⟨hb, 1, none⟩ = some (.slice a1 n1 c1) := X2.out.2.1.at_ 1 _ rfl
        have y2 : w2.cell? ⟨hb, 2, none⟩ = some (.slice a2 n2 c2) := X2.out.2.1.at_ 2 _ rfl
        have y3 : w2.cell? ⟨hb, 3, none⟩ = some (.slice (some ⟨ib, io, none⟩) n3 c3) := X2.out.2.1.at_ 3 _ rfl
        have y4 : w2.cell? ⟨hb, 4, none⟩ = some (.slice a4 n4 c4) := X2.out.2.1.at_ 4 _ rfl
        have y5 : w2.cell? ⟨hb, 5, none⟩ = some (.slice (some ⟨pb, po, none⟩) n5 c5) := X2.out.2.1.at_ 5 _ rfl
        have y6 : w2.cell? ⟨hb, 6, none⟩ = some (.slice a6 n6 c6) := X2.out.2.1.at_ 6 _ rfl
        have y7 : w2.cell? ⟨hb, 7, none⟩ = some (.slice a7 n7 c7) := X2.out.2.1.at_ 7 _ rfl
        have y8 : w2.cell? ⟨hb, 8, none⟩ = some (.slice a8 n8 c8) := X2.out.2.1.at_ 8 _ rfl
        go_upto_region 6 with (fail)
        refine wp_region_tree (C := fun w' => ∃ z : Cls (fun _ => True), w' = z.w) [13] [] (.step 0 (.step 1 (.step 2 (.step 3 (.step 4 (.step 5 (.step 6 (.step 7 (.step 8 (.step 9 (.step 10 (.step 11 (.step 12 (.step 13 (.step 14 (.step 15 (.step 16 (.step 17 (.step 18 .leaf))))))))))))))))))) (fun _ _ _ => False) (by kernel_rfl) (fun _ _ _ h => h.elim) (by kernel_rfl) ⟨⟨w2.drew, trivial⟩, rfl⟩ ?_
        refine tree_still [0, 1, 2, 3, 4, 5, 6, 7, 8, 9, 10, 11, 12] (by kernel_rfl) ?_
        simp only [pickL, nth]
        repeat (go_big_quiet_step (fail))
        refine wpQuiet_nil ?_
        clear b1 b2 f6 y0 y1 y2 y3 y4 y5 y6 y7 y8
        refine tree_eff (by kernel_rfl) rfl (fun K hK => ?_)
        simp only [pickL, nth]
        refine wpOne_one ?_
        go_simp
        refine (GA.out _ (X2.out.1.trans (((Mod.refl (fun _ => False) w2).drew).toBelow.mono X2.out.1.size))).mono ?_
        rintro e w3 ⟨rfl, hb3⟩
        have X3 := Lib.hid (show Below w.heap.size w w3 ∧ BoxAt w3 hb #[.int .i64 L.day, .slice a1 n1 c1, .slice a2 n2 c2, .slice (some ⟨ib, io, none⟩) n3 c3, .slice a4 n4 c4, .slice (some ⟨pb, po, none⟩) n5 c5, .slice a6 n6 c6, .slice a7 n7 c7, .slice a8 n8 c8] from by
          have b := ((Mod.refl (fun _ => False) w2).drew.trans (T := fun _ => False) (Mod.of_below hb3) (fun _ _ h => h.elim)).toBelow
          exact ⟨X2.out.1.trans (b.mono X2.out.1.size), X2.out.2.1.below b⟩)
        clear hb3
        go_simp
        refine hK _ _ ⟨⟨w3, trivial⟩, rfl⟩ ?_
        clear hK
        have GE : ∃ g er, retA (gainO L j p.qty s i.mark) = (g, er) := ⟨_, _, rfl⟩
        refine tree_still [14, 15, 16, 17, 18] (by kernel_rfl) ?_
        simp only [pickL, nth]
        clear GE
        repeat (go_big_quiet_step (fail))
        refine wpQuiet_nil ?_
        refine tree_nil ?_
        cases hgo : gainO L j p.qty s i.mark with
        | none =>
          have HN := Lib.hid hgo
          clear hgo
          simp only [retA]
          go_wp2_with fail
          go_ret2
          exact ⟨by rw [KEY.out, lossPos_gone HP.out (by rw [HJ.out, HV.out]; exact HIT.out) (by rw [HJ.out, EI.out]; exact HN.out)]; rfl, X3.out.1⟩
        | some g =>
          have HN := Lib.hid hgo
          clear hgo
          simp only [retA]
          have FS := Lib.hid (fun W => rsub_any x g W)
          have SE := Lib.hid (subA_er x g)
          have SO := Lib.hid (show subO x g = optA (subA x g) from rfl)
          obtain ⟨SR, hSR⟩ : ∃ r, r = subA x g := ⟨_, rfl⟩
          rw [← hSR] at FS SE SO
          clear hSR
          go_wp2_with fail
          refine (FS.out _).mono ?_
          rintro e w' ⟨rfl, rfl⟩
          rcases SE.out with ⟨hz, hf⟩ | hz
          · have HZ := Lib.hid (show subO x g = some SR.1 from by rw [SO.out]; unfold optA; rw [if_pos hz])
            have hz' : (SR.2 != 0) = false := by rw [bne_eq_false_iff_eq]; exact hz
            clear hf hz
            go_wp2_with fail
            go_roundw
            case rel => exact ⟨k + 1, SR.1, by have := LT.out; omega, by go_num, rfl, X3.out.1, X3.out.2, Lib.hid (by rw [KEY.out, lossPos_next HP.out (by rw [HJ.out, HV.out]; exact HIT.out) (by rw [HJ.out, EI.out]; exact HN.out) HZ.out])⟩
            case measure => have := LT.out; simp [intOf]; omega
          · have HZ := Lib.hid (show subO x g = none from by rw [SO.out, hz]; rfl)
            subst hz
            go_wp2_with fail
            go_ret2
            exact ⟨by rw [KEY.out, lossPos_over HP.out (by rw [HJ.out, HV.out]; exact HIT.out) (by rw [HJ.out, EI.out]; exact HN.out) HZ.out]; rfl, X3.out.1⟩
      · have hne : (i.under != under) = true := by rw [bne_iff_ne]; exact hun
        have HF := Lib.hid (show L.hit a under p.instr p.acct = false from by rw [HJ.out, HV.out, HIT.out, decide_eq_false hun]; rfl)
        clear hun
        go_wp2_with fail
        go_roundw
        case rel => exact ⟨k + 1, x, by have := LT.out; omega, by go_num, rfl, TB.out.1, TB.out.2.1, Lib.hid (by rw [KEY.out, lossPos_skip HP.out HF.out])⟩
        case measure => have := LT.out; simp [intOf]; omega
    · have hlt' : ¬ (k : Int) < (n5 : Int) := by omega
      have d6 : wr.cell? ⟨hb, 6, none⟩ = some (.slice a6 n6 c6) := TT.out.2.at_ 6 _ rfl
      have KEY0 := Lib.hid (show R = lossOrd L a under s (L.orders.drop 0) x from by
        rw [KEY.out, List.drop_of_length_le (by have := L5.out; omega)]; rfl)
      obtain ⟨wo, rfl⟩ : ∃ wo, wo = wr := ⟨_, rfl⟩
      go_wp2_with fail
      clear d6 hlt'
      have T0 := TT
      clear TT KEY
      obtain ⟨x0, rfl⟩ : ∃ x0, x0 = x := ⟨_, rfl⟩
      go_loopw [10, 76] (fun al i wr => ∃ (k : Nat) (x : Int), k ≤ n6 ∧ i = .int .i64 k ∧ al = .int .i64 x ∧ Below w.heap.size w wr ∧ BoxAt wr hb #[.int .i64 L.day, .slice a1 n1 c1, .slice a2 n2 c2, .slice a3 n3 c3, .slice a4 n4 c4, .slice a5 n5 c5, .slice a6 n6 c6, .slice a7 n7 c7, .slice a8 n8 c8] ∧ Hid (R = lossOrd L a under s (L.orders.drop k) x)) (fun _ i _ => n6 - (intOf i).toNat)
      case atStart => exact ⟨0, x0, Nat.zero_le _, rfl, rfl, T0.out.1, T0.out.2, Lib.hid (by exact KEY0.out)⟩
      case round =>
        obtain ⟨k, x, hk, rfl, rfl, hbw, hbx, KEY⟩ := hrel
        have TT := Lib.hid (And.intro hbw hbx)
        clear hbw hbx
        by_cases hlt : k < n6
        · obtain ⟨p, hp⟩ : ∃ p, L.orders[k]? = some p := ⟨_, List.getElem?_eq_getElem (by have := L6.out; omega)⟩
          have row : RowOf wr 5 Ord.cells (.slice a6 n6 c6) L.orders := by have := (HL.out.below TT.out.1).orders; rw [EV.out.2.2.2.2.2.1] at this; exact this
          obtain ⟨pb, po, eav, hbl, hc⟩ := row.at_ hp
          have pok := HG.out.orders.all p (List.mem_of_getElem? hp)
          obtain ⟨v, hv⟩ : ∃ v : Nat, p.acct = v := ⟨p.acct.toNat, by have := pok.1; omega⟩
          obtain ⟨j, hj⟩ : ∃ j : Nat, p.instr = j := ⟨p.instr.toNat, by have := pok.2.2.2.2.1; omega⟩
          have cc0 := hc 0 (.int .i64 p.acct) rfl
          have cc1 := hc 1 (.int .i64 p.id) rfl
          have cc2 := hc 2 (.int .i64 p.instr) rfl
          have cc3 := hc 3 (.int .i64 p.qty) rfl
          have cc4 := hc 4 (.int .i64 p.price) rfl
          rw [Nat.add_zero] at cc0
          rw [hv] at cc0
          rw [hj] at cc2
          have hjl : j < L.instrs.length := by have := pok.2.2.2.2.2.1; omega
          have hvl : v < L.accts.length := by have := pok.2.1; omega
          obtain ⟨i, hi⟩ : ∃ i, L.instrs[j]? = some i := ⟨_, List.getElem?_eq_getElem hjl⟩
          have EI := Lib.hid (show L.ins (j : Int) = i from by unfold Led.ins; simp [hi])
          have iok := HG.out.things.instrs i (List.mem_of_getElem? hi)
          have GA := Lib.hid (fun W hb => GAL.out W hb j (by have := L3.out; omega) p.qty p.price (by have := pok.2.2.2.2.2.2.2.1; omega) (by have := pok.2.2.2.2.2.2.2.2.1; omega) (by have := pok.2.2.2.2.2.2.2.2.2.1; omega) pok.2.2.2.2.2.2.2.2.2.2)
          have HIT := Lib.hid (show L.hit a under p.instr p.acct = (decide (i.under = under) && underL L.parents a v) from by unfold Led.hit; rw [hj, hv, EI.out]; rfl)
          have CN := Lib.hid (fun W hb => CNT.out W hb v (by have := L4.out; omega))
          rw [hj, hv] at HIT
          obtain ⟨B2, hB2⟩ : ∃ B2, B2 = underL L.parents a v := ⟨_, rfl⟩
          rw [← hB2] at CN HIT
          have row3 : RowOf wr 7 Ins.cells (.slice a3 n3 c3) L.instrs := by have := (HL.out.below TT.out.1).instrs; rw [EV.out.2.2.1] at this; exact this
          obtain ⟨ib, io, ea3, ibl, ic⟩ := row3.at_ hi
          have i1 := ic 1 (.int .i64 i.under) rfl
          have i6 := ic 6 (.int .i64 i.mark) rfl
          have MK := Lib.hid (And.intro ibl (show ∀ W, Below wr.heap.size wr W → W.cell? ⟨ib, io + j * 7 + 1, none⟩ = some (.int .i64 i.under) ∧ W.cell? ⟨ib, io + j * 7 + 6, none⟩ = some (.int .i64 i.mark) from fun W hb => ⟨(Mod.of_below hb).cell i1 (fun h => h), (Mod.of_below hb).cell i6 (fun h => h)⟩))
          have HJ := Lib.hid hj
          have HV := Lib.hid hv
          have HP := Lib.hid hp
          have LT := Lib.hid hlt
          have hlt' : (k : Int) < (n6 : Int) := by omega
          have jn : (j : Int) < (n3 : Int) := by have := L3.out; omega
          have j0 : (0 : Int) ≤ (j : Int) := by omega
          subst eav ea3
          clear hB2 row row3 hc pok hv hj iok hi hp hbl hjl hvl ibl ic i1 i6
          obtain ⟨W1, hW1⟩ : ∃ W1, W1 = wr.alloc (.cells #[.int .i64 (v : Int), .int .i64 p.id, .int .i64 (j : Int), .int .i64 p.qty, .int .i64 p.price] 46) := ⟨_, rfl⟩
          have TB := Lib.hid (show Below w.heap.size w W1 ∧ BoxAt W1 hb #[.int .i64 L.day, .slice a1 n1 c1, .slice a2 n2 c2, .slice (some ⟨ib, io, none⟩) n3 c3, .slice a4 n4 c4, .slice a5 n5 c5, .slice (some ⟨pb, po, none⟩) n6 c6, .slice a7 n7 c7, .slice a8 n8 c8] ∧ BoxAt W1 wr.heap.size #[.int .i64 (v : Int), .int .i64 p.id, .int .i64 (j : Int), .int .i64 p.qty, .int .i64 p.price] ∧ Below wr.heap.size wr W1 from by
            rw [hW1]
            have b := (Below.refl wr.heap.size wr).alloc (Nat.le_refl _) (.cells #[.int .i64 (v : Int), .int .i64 p.id, .int .i64 (j : Int), .int .i64 p.qty, .int .i64 p.price] 46)
            exact ⟨TT.out.1.trans (b.mono TT.out.1.size), TT.out.2.below b, BoxAt.new _ _ _, b⟩)
          obtain ⟨wo, rfl⟩ : ∃ wo, wo = wr := ⟨_, rfl⟩
          go_upto_region 16 with (fail)
          rw [← hW1]
          obtain ⟨h12, hh12⟩ : ∃ h12, h12 = wo.heap.size := ⟨_, rfl⟩
          rw [← hh12] at ⊢
          have XB := Lib.hid (show BoxAt W1 h12 #[.int .i64 (v : Int), .int .i64 p.id, .int .i64 (j : Int), .int .i64 p.qty, .int .i64 p.price] from by rw [hh12]; exact TB.out.2.2.1)
          clear hW1 hh12 cc0 cc1 cc2 cc3 cc4
          have f1 := (MK.out.2 W1 TB.out.2.2.2).1
          have b0 : W1.cell? ⟨h12, 0, none⟩ = some (.int .i64 (v : Int)) := XB.out.at_ 0 _ rfl
          have b2 : W1.cell? ⟨h12, 2, none⟩ = some (.int .i64 (j : Int)) := XB.out.at_ 2 _ rfl
          have y0 : W1.cell? ⟨hb, 0, none⟩ = some (.int .i64 L.day) := TB.out.2.1.at_ 0 _ rfl
          have y1 : W1.cell? ⟨hb, 1, none⟩ = some (.slice a1 n1 c1) := TB.out.2.1.at_ 1 _ rfl
          have y2 : W1.cell? ⟨hb, 2, none⟩ = some (.slice a2 n2 c2) := TB.out.2.1.at_ 2 _ rfl
          have y3 : W1.cell? ⟨hb, 3, none⟩ = some (.slice (some ⟨ib, io, none⟩) n3 c3) := TB.out.2.1.at_ 3 _ rfl
          have y4 : W1.cell? ⟨hb, 4, none⟩ = some (.slice a4 n4 c4) := TB.out.2.1.at_ 4 _ rfl
          have y5 : W1.cell? ⟨hb, 5, none⟩ = some (.slice a5 n5 c5) := TB.out.2.1.at_ 5 _ rfl
          have y6 : W1.cell? ⟨hb, 6, none⟩ = some (.slice (some ⟨pb, po, none⟩) n6 c6) := TB.out.2.1.at_ 6 _ rfl
          have y7 : W1.cell? ⟨hb, 7, none⟩ = some (.slice a7 n7 c7) := TB.out.2.1.at_ 7 _ rfl
          have y8 : W1.cell? ⟨hb, 8, none⟩ = some (.slice a8 n8 c8) := TB.out.2.1.at_ 8 _ rfl
          by_cases hun : i.under = under
          · have hne : (i.under != under) = false := by rw [bne_eq_false_iff_eq]; exact hun
            have HD := Lib.hid (decide_eq_true hun)
            rw [HD.out] at HIT
            clear hun HD
            go_wp2_with fail
            refine (CN.out _ TB.out.1).mono ?_
            rintro e w2 ⟨rfl, hb2⟩
            have X2 := Lib.hid (show Below w.heap.size w w2 ∧ BoxAt w2 hb #[.int .i64 L.day, .slice a1 n1 c1, .slice a2 n2 c2, .slice (some ⟨ib, io, none⟩) n3 c3, .slice a4 n4 c4, .slice a5 n5 c5, .slice (some ⟨pb, po, none⟩) n6 c6, .slice a7 n7 c7, .slice a8 n8 c8] ∧ BoxAt w2 h12 #[.int .i64 (v : Int), .int .i64 p.id, .int .i64 (j : Int), .int .i64 p.qty, .int .i64 p.price] ∧ Below wo.heap.size wo w2 from ⟨TB.out.1.trans (hb2.mono TB.out.1.size), TB.out.2.1.below hb2, XB.out.below hb2, TB.out.2.2.2.trans (hb2.mono TB.out.2.2.2.size)⟩)
            clear hb2 f1 b0 b2 y0 y1 y2 y3 y4 y5 y6 y7 y8
            cases B2
            · go_wp2_with fail
              go_roundw
              case rel => exact ⟨k + 1, x, by have := LT.out; omega, by go_num, rfl, X2.out.1, X2.out.2.1, Lib.hid (by rw [KEY.out, lossOrd_skip HP.out (by rw [HJ.out, HV.out]; exact HIT.out)])⟩
              case measure => have := LT.out; simp [intOf]; omega
            have b2 : w2.cell? ⟨h12, 2, none⟩ = some (.int .i64 (j : Int)) := X2.out.2.2.1.at_ 2 _ rfl
            have b3 : w2.cell? ⟨h12, 3, none⟩ = some (.int .i64 p.qty) := X2.out.2.2.1.at_ 3 _ rfl
            have b4 : w2.cell? ⟨h12, 4, none⟩ = some (.int .i64 p.price) := X2.out.2.2.1.at_ 4 _ rfl
            have y0 : w2.cell? ⟨hb, 0, none⟩ = some (.int .i64 L.day) := X2.out.2.1.at_ 0 _ rfl
            have y1 : w2.cell? ⟨hb, 1, none⟩ = some (.slice a1 n1 c1) := X2.out.2.1.at_ 1 _ rfl
            have y2 : w2.cell? ⟨hb, 2, none⟩ = some (.slice a2 n2 c2) := X2.out.2.1.at_ 2 _ rfl
            have y3 : w2.cell? ⟨hb, 3, none⟩ = some (.slice (some ⟨ib, io, none⟩) n3 c3) := X2.out.2.1.at_ 3 _ rfl
            have y4 : w2.cell? ⟨hb, 4, none⟩ = some (.slice a4 n4 c4) := X2.out.2.1.at_ 4 _ rfl
            have y5 : w2.cell? ⟨hb, 5, none⟩ = some (.slice a5 n5 c5) := X2.out.2.1.at_ 5 _ rfl
            have y6 : w2.cell? ⟨hb, 6, none⟩ = some (.slice (some ⟨pb, po, none⟩) n6 c6) := X2.out.2.1.at_ 6 _ rfl
            have y7 : w2.cell? ⟨hb, 7, none⟩ = some (.slice a7 n7 c7) := X2.out.2.1.at_ 7 _ rfl
            have y8 : w2.cell? ⟨hb, 8, none⟩ = some (.slice a8 n8 c8) := X2.out.2.1.at_ 8 _ rfl
            go_wp2_with fail
            refine (GA.out _ X2.out.1).mono ?_
            rintro e w3 ⟨rfl, hb3⟩
            have X3 := Lib.hid (show Below w.heap.size w w3 ∧ BoxAt w3 hb #[.int .i64 L.day, .slice a1 n1 c1, .slice a2 n2 c2, .slice (some ⟨ib, io, none⟩) n3 c3, .slice a4 n4 c4, .slice a5 n5 c5, .slice (some ⟨pb, po, none⟩) n6 c6, .slice a7 n7 c7, .slice a8 n8 c8] from ⟨X2.out.1.trans (hb3.mono X2.out.1.size), X2.out.2.1.below hb3⟩)
            clear hb3 b2 b3 b4 y0 y1 y2 y3 y4 y5 y6 y7 y8
            cases hgo : gainO L j p.qty s p.price with
            | none =>
              have HN := Lib.hid hgo
              clear hgo
              simp only [retA]
              go_wp2_with fail
              go_ret2
              exact ⟨by rw [KEY.out, lossOrd_gone HP.out (by rw [HJ.out, HV.out]; exact HIT.out) (by rw [HJ.out]; exact HN.out)]; rfl, X3.out.1⟩
            | some g =>
              have HN := Lib.hid hgo
              clear hgo
              simp only [retA]
              obtain ⟨mg, hmg⟩ : ∃ mg, mg = min g 0 := ⟨_, rfl⟩
              have FS := Lib.hid (fun W => rsub_any x mg W)
              have SE := Lib.hid (subA_er x mg)
              have SO := Lib.hid (show subO x (min g 0) = optA (subA x mg) from by rw [hmg]; rfl)
              obtain ⟨SR, hSR⟩ : ∃ r, r = subA x mg := ⟨_, rfl⟩
              rw [← hSR] at FS SE SO
              clear hSR
              by_cases gp : 0 < g
              · have e0 : mg = 0 := by omega
                rw [e0] at FS
                clear e0 hmg
                go_wp2_with fail
                refine (FS.out _).mono ?_
                rintro e w' ⟨rfl, rfl⟩
                rcases SE.out with ⟨hz, hf⟩ | hz
                · have HZ := Lib.hid (show subO x (min g 0) = some SR.1 from by rw [SO.out]; unfold optA; rw [if_pos hz])
                  have hz' : (SR.2 != 0) = false := by rw [bne_eq_false_iff_eq]; exact hz
                  clear hf hz
                  go_wp2_with fail
                  go_roundw
                  case rel => exact ⟨k + 1, SR.1, by have := LT.out; omega, by go_num, rfl, X3.out.1, X3.out.2, Lib.hid (by rw [KEY.out, lossOrd_next HP.out (by rw [HJ.out, HV.out]; exact HIT.out) (by rw [HJ.out]; exact HN.out) HZ.out])⟩
                  case measure => have := LT.out; simp [intOf]; omega
                · have HZ := Lib.hid (show subO x (min g 0) = none from by rw [SO.out, hz]; rfl)
                  subst hz
                  go_wp2_with fail
                  go_ret2
                  exact ⟨by rw [KEY.out, lossOrd_over HP.out (by rw [HJ.out, HV.out]; exact HIT.out) (by rw [HJ.out]; exact HN.out) HZ.out]; rfl, X3.out.1⟩
              · have e0 : mg = g := by omega
                rw [e0] at FS
                clear e0 hmg
                go_wp2_with fail
                refine (FS.out _).mono ?_
                rintro e w' ⟨rfl, rfl⟩
                rcases SE.out with ⟨hz, hf⟩ | hz
                · have HZ := Lib.hid (show subO x (min g 0) = some SR.1 from by rw [SO.out]; unfold optA; rw [if_pos hz])
                  have hz' : (SR.2 != 0) = false := by rw [bne_eq_false_iff_eq]; exact hz
                  clear hf hz
                  go_wp2_with fail
                  go_roundw
                  case rel => exact ⟨k + 1, SR.1, by have := LT.out; omega, by go_num, rfl, X3.out.1, X3.out.2, Lib.hid (by rw [KEY.out, lossOrd_next HP.out (by rw [HJ.out, HV.out]; exact HIT.out) (by rw [HJ.out]; exact HN.out) HZ.out])⟩
                  case measure => have := LT.out; simp [intOf]; omega
                · have HZ := Lib.hid (show subO x (min g 0) = none from by rw [SO.out, hz]; rfl)
                  subst hz
                  go_wp2_with fail
                  go_ret2
                  exact ⟨by rw [KEY.out, lossOrd_over HP.out (by rw [HJ.out, HV.out]; exact HIT.out) (by rw [HJ.out]; exact HN.out) HZ.out]; rfl, X3.out.1⟩
          · have hne : (i.under != under) = true := by rw [bne_iff_ne]; exact hun
            have HF := Lib.hid (show L.hit a under p.instr p.acct = false from by rw [HJ.out, HV.out, HIT.out, decide_eq_false hun]; rfl)
            clear hun
            go_wp2_with fail
            go_roundw
            case rel => exact ⟨k + 1, x, by have := LT.out; omega, by go_num, rfl, TB.out.1, TB.out.2.1, Lib.hid (by rw [KEY.out, lossOrd_skip HP.out HF.out])⟩
            case measure => have := LT.out; simp [intOf]; omega
        · have hlt' : ¬ (k : Int) < (n6 : Int) := by omega
          go_wp2_with fail
          go_ret2
          exact ⟨by rw [KEY.out, List.drop_of_length_le (by have := L6.out; omega)]; rfl, TT.out.1⟩
end Go.Proofs.YtcjbhgnlmmeeeaaGreatDoor

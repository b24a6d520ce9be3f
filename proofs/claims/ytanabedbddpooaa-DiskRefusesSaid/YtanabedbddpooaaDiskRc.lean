/- DiskRefuses, walked. -/
import Derived.Test.YtanabedbddpooaaDiskRb
namespace Go.Proofs.Ytanabedbddpooaa
open Go.RowKit Go.Bw Go.Maps
set_option linter.unusedVariables false
set_option linter.unusedSimpArgs false

/-- The files that can be read. -/
theorem names_files {A : ADsk} (ho : A.Ok) : ∃ F : List (Nm × Cont), A.names = F.map (·.1) ∧ (∀ (j : Nat) (q : Nm × Cont), F[j]? = some q → A.read q.1 = (q.2.all, 0) ∧ namedB q.1 = true ∧ q.2.all.length ≤ 1048576) ∧ F.length ≤ 16 := by
  cases h : A.off with
  | true => exact ⟨[], by unfold ADsk.names; rw [h]; rfl, fun j q hq => by simp at hq, by simp⟩
  | false => exact ⟨A.files, by unfold ADsk.names; rw [h]; rfl, fun j q hq => ⟨read_at ho h hq, ho.names q (List.mem_of_getElem? hq), by have := ho.small q (List.mem_of_getElem? hq); unfold Cont.all; rw [List.length_append]; exact this⟩, ho.few⟩

set_option maxRecDepth 100000 in
set_option maxHeartbeats 16000000 in
theorem refuses_walk (w : World) (room : Int) (a : Option Addr) (n ca : Nat) (S : Nat → SOp) (hS : OpsIn w a n S) (hn : n ≤ 140737488351232) :
    Calls Try.prog 7 #[.int .i64 room, .slice a n ca] w (SaysOut w true) := by
  have HS := Lib.hid hS
  clear hS
  go_enter Try.func7, Try.ntmps7
  go_wp2_with fail
  refine (wakes_any w).mono ?_
  rintro e w1 ⟨rfl, hb⟩
  have B1 := Lib.hid hb
  clear hb
  go_wp2_with fail
  have HS1 := Lib.hid (show OpsIn w1 a n S from fun r hr => by
    obtain ⟨b, o, ha, hc, ho⟩ := HS.out r hr
    exact ⟨b, o, ha, fun j v hj => (B1.out.cell (World.block_lt_of_cell? w _ (hc j v hj))).trans (hc j v hj), ⟨ho.f, ho.g, ho.n0, ho.n1, ho.k0, ho.k1, reads_later ho.rd (Mod.ofBelow B1.out) (fun _ _ h => h), ho.bl⟩⟩)
  refine (long_any w1 a n ca S HS1.out hn).mono ?_
  rintro e w2 ⟨lg, rfl, hb⟩
  have B2 := Lib.hid (B1.out.trans (hb.mono B1.out.size))
  have L12 := Lib.hid hb.size
  clear hb HS1
  cases lg
  case true =>
    go_wp2_with fail
    go_ret
    exact ⟨rfl, B2.out⟩
  go_wp2_with fail
  refine (held_new w2 room).mono ?_
  rintro e w3 ⟨rfl, hH, hb, hsz⟩
  have B3 := Lib.hid (B2.out.trans (hb.mono B2.out.size))
  have H3 := Lib.hid hH
  clear hH hb hsz
  go_wp2_with fail
  go_loopw [36] (fun i wr => ∃ k : Nat, k ≤ n ∧ i = .int .i64 k ∧ (∃ A, Held (fun k => k < w2.heap.size) wr (w2.heap.size + 1) A) ∧ Below w.heap.size w wr) (fun i _ => n - (intOf i).toNat)
  case atStart => exact ⟨0, Nat.zero_le _, rfl, ⟨_, H3.out⟩, B3.out⟩
  case round =>
    obtain ⟨k, hk, rfl, ⟨A, hH⟩, hB⟩ := hrel
    have H := Lib.hid hH
    have B := Lib.hid hB
    clear hH hB
    by_cases hlt : k < n
    · obtain ⟨b', o', rfl, C0, C1, C2, C3, C4, C5, ⟨x, c, hv⟩, hbl⟩ := HS.out.at B.out hlt
      have OP := Lib.hid (show OpIn w (S k) from by obtain ⟨b, o, ha, hc, ho⟩ := HS.out k hlt; exact ho)
      clear hbl
      generalize S k = so at C0 C1 C2 C3 C4 C5 hv OP
      obtain ⟨kk, ff, gg, nn, kp, bb, vv⟩ := so
      dsimp only at C0 C1 C2 C3 C4 C5 hv
      subst hv
      obtain ⟨wo, rfl⟩ : ∃ wo : World, wo = wr := ⟨_, rfl⟩
      have BOX := Lib.hid (show (wo.alloc (.cells #[.int .i64 kk, .string ff, .string gg, .int .i64 nn, .int .i64 kp, .slice x bb.length c] 46)).heap[wo.heap.size]? = some (.cells #[.int .i64 kk, .string ff, .string gg, .int .i64 nn, .int .i64 kp, .slice x bb.length c] 46 (0, 0)) from by show (wo.heap.push _)[wo.heap.size]? = _; simp)
      have HR := Lib.hid (H.out.row (.cells #[.int .i64 kk, .string ff, .string gg, .int .i64 nn, .int .i64 kp, .slice x bb.length c] 46))
      go_wp2_with fail
      refine (held_writes HR.out).mono ?_
      rintro e w4 ⟨rfl, rfl⟩
      go_wp2_with fail
      refine (held_down HR.out).mono ?_
      rintro e w4 ⟨rfl, rfl⟩
      go_wp2_with fail
      refine (held_names HR.out).mono ?_
      rintro e w5 ⟨v5, rfl, ho, hb, hH⟩
      obtain ⟨F, hN0, hF0, hFl⟩ := names_files HR.out.ok
      rw [hN0, List.length_map] at ho
      have HF := Lib.hid hF0
      have HN := Lib.hid hN0
      clear hN0 hF0
      obtain ⟨a5, c5, hv5, hc5⟩ := ownsRow_slice ho
      subst hv5
      have NROW := Lib.hid ho
      have B5 := Lib.hid (show Below w.heap.size w w5 from (B.out.alloc B.out.size _).trans (hb.mono (Nat.le_trans B.out.size (by simp))))
      have L5 := Lib.hid (show wo.heap.size < w5.heap.size from by have := hb.size; simp at this; omega)
      have L2 := Lib.hid (show w.heap.size ≤ w2.heap.size from B2.out.size)
      have BX5 := Lib.hid ((Mod.ofBelow hb).heap BOX.out (fun h => h))
      obtain ⟨OO, hOO⟩ : ∃ OO : Nat → Prop, OO = fun k => (k < w2.heap.size ∨ k = wo.heap.size) ∨ ((wo.alloc (.cells #[.int .i64 kk, .string ff, .string gg, .int .i64 nn, .int .i64 kp, .slice x bb.length c] 46)).heap.size ≤ k ∧ k < w5.heap.size) := ⟨_, rfl⟩
      rw [← hOO] at hH
      have OO1 := Lib.hid (show ∀ k, k < w2.heap.size → OO k from fun k hk => by rw [hOO]; exact Or.inl (Or.inl hk))
      have OO2 := Lib.hid (show OO wo.heap.size from by rw [hOO]; exact Or.inl (Or.inr rfl))
      have OO3 := Lib.hid (show ∀ k, ((wo.alloc (.cells #[.int .i64 kk, .string ff, .string gg, .int .i64 nn, .int .i64 kp, .slice x bb.length c] 46)).heap.size ≤ k ∧ k < w5.heap.size) → OO k from fun k hk => by rw [hOO]; exact Or.inr hk)
      have WAS := Lib.hid (WasAt.start F hH)
      clear ho hb hH hOO BOX
      go_wp2_with fail
      go_loopw [11, 48] (fun v i wx => ∃ j : Nat, j ≤ F.length ∧ i = .int .i64 j ∧ WasAt OO w5 wx (w2.heap.size + 1) A F j v) (fun _ i _ => F.length - (intOf i).toNat)
      case atStart => exact ⟨0, Nat.zero_le _, rfl, WAS.out⟩
      case round =>
        obtain ⟨j, hj, rfl, hW⟩ := hrel
        have W := Lib.hid hW
        clear hW
        by_cases hjl : j < F.length
        · obtain ⟨q, hq⟩ : ∃ q, F[j]? = some q := ⟨_, List.getElem?_eq_getElem hjl⟩
          have HQ := Lib.hid hq
          have ROWJ := Lib.hid (ownsRow_kept NROW.out (fun k hk => W.out.mod.block k (NROW.out.lt k hk).2 (fun h => h)))
          have hcell := row_cell ROWJ.out (j := j) (u := .string ⟨q.1.toArray⟩) (by rw [List.getElem?_map, List.getElem?_map, hq]; rfl)
          obtain ⟨b3, rfl⟩ := hcell.1
          have hcell := hcell.2 _ rfl
          have QN := Lib.hid (nm_small (HF.out j q hq).2.1)
          clear hq
          go_wp2_with fail
          refine (held_read_to W.out.held _ QN.out (HF.out j q HQ.out).1).mono ?_
          rintro e w6 ⟨v6, rfl, ho, hb, hH⟩
          obtain ⟨a6, c6, hv6, hc6⟩ := ownsRow_slice ho
          subst hv6
          obtain ⟨v7, w7, R, S7, _⟩ := W.out.step HQ.out (by omega) ho hb hH (slice_oneCell _ _ _)
          have R7 := Lib.hid R
          have W7 := Lib.hid S7
          clear ho hb hH R S7
          go_wp2_with (at_builtin; refine wpList_append_run rfl (.tmp 58) (.tmp 60) 22 rfl rfl rfl R7.out ?_)
          go_roundw
          case rel => exact ⟨j + 1, by omega, by go_num, W7.out⟩
          case measure => simp [intOf]; omega
        · obtain rfl : j = F.length := by omega
          have bx := W.out.mod.heap BX5.out (fun h => h)
          have D0 := cell_of_heap bx 0
          have D1 := cell_of_heap bx 1
          have D2 := cell_of_heap bx 2
          have D3 := cell_of_heap bx 3
          have D4 := cell_of_heap bx 4
          have D5 := cell_of_heap bx 5
          simp at D0 D1 D2 D3 D4 D5
          obtain ⟨wx, rfl⟩ : ∃ wx : World, wx = wr := ⟨_, rfl⟩
          obtain ⟨cs, hcl, hown, hall⟩ := W.out.ex
          obtain ⟨a11, c11, hv11, hc11⟩ := ownsRow_slice hown
          subst hv11
          have HOWN := Lib.hid hown
          have HALL := Lib.hid hall
          clear hcl hown hall
          have BL := Lib.hid (show Below w.heap.size w wx from B5.out.trans ((W.out.mod.toBelow).mono B5.out.size))
          have D := does_any W.out.held ⟨kk, ff, gg, nn, kp, bb, .slice x bb.length c⟩
            ⟨OP.out.f, OP.out.g, OP.out.n0, OP.out.n1, OP.out.k0, OP.out.k1, reads_later OP.out.rd (Mod.ofBelow BL.out) (fun _ _ h => h), OP.out.bl⟩
            (fun hne k hk => Or.inl (OO1.out k (Nat.lt_of_lt_of_le (reads_lt OP.out.rd hne k hk) L2.out)))
          obtain ⟨p, hp⟩ : ∃ p, p = play A ⟨kk, ff, gg, nn, kp, bb, .slice x bb.length c⟩ := ⟨_, rfl⟩
          have REF := Lib.hid (show p.2.2 ≠ 0 → p.1.wr = A.wr → p.1 = A from fun h1 h2 => by rw [hp] at h1 h2 ⊢; exact play_refused h1 h2)
          rw [← hp] at D
          simp only [SOp.vals] at D
          clear hp
          obtain ⟨A', xs, er⟩ := p
          have DD := Lib.hid D
          clear D bx
          go_wp2_with fail
          refine DD.out.mono ?_
          rintro e w8 ⟨v8, rfl, ho8, hm8, hH8⟩
          obtain ⟨a8, c8, hv8, hc8⟩ := ownsRow_slice ho8
          subst hv8
          have H8 := Lib.hid hH8
          have M8 := Lib.hid hm8
          have B8 := Lib.hid (show Below w.heap.size w w8 from ((((Mod.refl (fun k => w.heap.size ≤ k) w).below BL.out (fun _ _ h => h)).trans hm8 (fun j _ h => Nat.le_of_not_lt (fun hlt => h (Or.inl (OO1.out j (Nat.lt_of_lt_of_le hlt L2.out)))))).mono (T := fun _ => False) (fun k hk h => by omega)).toBelow)
          clear ho8 hm8 hH8 D0 D1 D2 D3 D4 D5
          by_cases her : er = 0
          · subst her
            go_wp2_with fail
            go_roundw
            case rel => exact ⟨k + 1, by omega, by go_num, ⟨_, H8.out.weaken (fun k hk => Or.inl (Or.inl (OO1.out k hk)))⟩, B8.out⟩
            case measure => simp [intOf]; omega
          · have her' : (er == 0) = false := by simp [her]
            go_wp2_with fail
            refine (held_writes H8.out).mono ?_
            rintro e w9 ⟨rfl, rfl⟩
            by_cases hww : A'.wr = A.wr
            · have hA := REF.out her hww
              obtain rfl : A' = A := hA
              clear hww her her'
              go_wp2_with fail
              refine (held_names H8.out).mono ?_
              rintro e w9 ⟨v9, rfl, ho, hb, hH⟩
              rw [HN.out, List.length_map] at ho
              obtain ⟨a9, c9, hv9, hc9⟩ := ownsRow_slice ho
              subst hv9
              have NROW9 := Lib.hid ho
              have M9 := Lib.hid (M8.out.trans (Mod.ofBelow hb) (fun _ _ h => h.elim))
              have B9 := Lib.hid (B8.out.trans (hb.mono B8.out.size))
              have H9 := Lib.hid (hH.weaken (T := fun k => OO k ∨ (w5.heap.size ≤ k ∧ k < wx.heap.size)) (fun k hk => Or.inl (Or.inl hk)))
              have OROW := Lib.hid (ownsRow_kept (ownsRow_kept NROW.out (fun k hk => W.out.mod.block k (NROW.out.lt k hk).2 (fun h => h))) (fun k hk => M9.out.block k (Nat.lt_of_lt_of_le (NROW.out.lt k hk).2 W.out.mod.size) (fun h => h (Or.inl (OO3.out k (NROW.out.lt k hk))))))
              have HOWN9 := Lib.hid (ownsRow_kept HOWN.out (fun k hk => M9.out.block k (HOWN.out.lt k hk).2 (fun h => h (Or.inr (HOWN.out.lt k hk)))))
              clear ho hb hH
              go_wp2_with fail
              refine (held_down H9.out).mono ?_
              rintro e w10 ⟨rfl, rfl⟩
              go_wp2_with fail
              go_loopw [92] (fun i wy => ∃ j : Nat, j ≤ F.length ∧ i = .int .i64 j ∧ Held (fun k => OO k ∨ (w5.heap.size ≤ k ∧ k < wx.heap.size)) wy (w2.heap.size + 1) A' ∧ Mod (fun _ => False) w9 wy) (fun i _ => F.length - (intOf i).toNat)
              case atStart => exact ⟨0, Nat.zero_le _, rfl, H9.out, Mod.refl _ _⟩
              case round =>
                obtain ⟨j, hj, rfl, hH, hm⟩ := hrel
                have HJ := Lib.hid hH
                have MJ := Lib.hid hm
                clear hH hm
                by_cases hjl : j < F.length
                · obtain ⟨q, hq⟩ : ∃ q, F[j]? = some q := ⟨_, List.getElem?_eq_getElem hjl⟩
                  have HQ := Lib.hid hq
                  have r9 := ownsRow_kept NROW9.out (fun k hk => MJ.out.block k (NROW9.out.lt k hk).2 (fun h => h))
                  have h9 := row_cell r9 (j := j) (u := .string ⟨q.1.toArray⟩) (by rw [List.getElem?_map, List.getElem?_map, hq]; rfl)
                  obtain ⟨b9, rfl⟩ := h9.1
                  have h9 := h9.2 _ rfl
                  have ro := ownsRow_kept OROW.out (fun k hk => MJ.out.block k (OROW.out.lt k hk).2 (fun h => h))
                  have ho9 := row_cell ro (j := j) (u := .string ⟨q.1.toArray⟩) (by rw [List.getElem?_map, List.getElem?_map, hq]; rfl)
                  obtain ⟨bo, rfl⟩ := ho9.1
                  have ho9 := ho9.2 _ rfl
                  obtain ⟨u, hu, hr, huk⟩ := HALL.out j q hjl hq
                  obtain ⟨au, cu, hau⟩ := reads_form hr
                  subst hau
                  have HR9 := Lib.hid (Reads.kept (Reads.kept hr M9.out (fun k hk h => h (Or.inr ⟨(huk k hk).1, (huk k hk).2.1⟩))) MJ.out (fun k hk h => h))
                  have rw9 := ownsRow_kept HOWN9.out (fun k hk => MJ.out.block k (HOWN9.out.lt k hk).2 (fun h => h))
                  have hw9 := row_cell rw9 (j := j) hu
                  obtain ⟨bw, rfl⟩ := hw9.1
                  have hw9 := hw9.2 _ rfl
                  have QN := Lib.hid (nm_small (HF.out j q hq).2.1)
                  have QL := Lib.hid (HF.out j q hq).2.2
                  -- the cells later
                  have CO := Lib.hid (And.intro ho9 hw9)
                  clear hq r9 ro rw9 hr huk hu ho9 hw9
                  go_wp2_with fail
                  refine (held_read_to HJ.out _ QN.out (HF.out j q HQ.out).1).mono ?_
                  rintro e w11 ⟨v11, rfl, ho, hb, hH⟩
                  obtain ⟨a12, c12, hv12, hc12⟩ := ownsRow_slice ho
                  subst hv12
                  have R12 := Lib.hid (ownsRow_reads ho)
                  have HJ2 := Lib.hid (hH.weaken (T := fun k => OO k ∨ (w5.heap.size ≤ k ∧ k < wx.heap.size)) (fun k hk => Or.inl hk))
                  have MJ2 := Lib.hid (MJ.out.trans (Mod.ofBelow hb) (fun _ _ h => h))
                  have HR12 := Lib.hid (Reads.kept HR9.out (Mod.ofBelow hb) (fun k hk h => h))
                  have g1 := (hb.cell (World.block_lt_of_cell? _ _ CO.out.1)).trans CO.out.1
                  have g2 := (hb.cell (World.block_lt_of_cell? _ _ CO.out.2)).trans CO.out.2
                  clear ho hb hH h9
                  go_wp2_with fail
                  refine (same_yes w11 _ _ q.2.all R12.out HR12.out (Nat.le_trans QL.out (by decide))).mono ?_
                  rintro e w12 ⟨rfl, hb⟩
                  have HJ3 := Lib.hid (HJ2.out.mod (Mod.ofBelow hb) (fun _ _ h => h.elim))
                  have MJ3 := Lib.hid (MJ2.out.trans (Mod.ofBelow hb) (fun _ _ h => h))
                  clear hb g1 g2
                  go_wp2_with fail
                  go_roundw
                  case rel => exact ⟨j + 1, by omega, by go_num, HJ3.out, MJ3.out⟩
                  case measure => simp [intOf]; omega
                · obtain rfl : j = F.length := by omega
                  have BF := Lib.hid (B9.out.trans ((MJ.out.toBelow).mono B9.out.size))
                  go_wp2_with fail
                  go_roundw
                  case rel => exact ⟨k + 1, by omega, by go_num, ⟨_, HJ.out.weaken (fun k hk => Or.inl (OO1.out k hk))⟩, BF.out⟩
                  case measure => simp [intOf]; omega
            · have hww' : (A'.wr != A.wr) = true := by simp [hww]
              clear hww
              go_wp2_with fail
              go_roundw
              case rel => exact ⟨k + 1, by omega, by go_num, ⟨_, H8.out.weaken (fun k hk => Or.inl (Or.inl (OO1.out k hk)))⟩, B8.out⟩
              case measure => simp [intOf]; omega
    · obtain rfl : n = k := by omega
      clear hlt hk
      go_wp2_with fail
      refine (nil_arm _ _ _).mono ?_
      rintro e wq ⟨rfl, rfl⟩
      go_wp2_with fail
      refine (nil_off _ _).mono ?_
      rintro e wq ⟨rfl, rfl⟩
      go_wp2_with fail
      refine (nil_on _).mono ?_
      rintro e wq ⟨rfl, rfl⟩
      go_wp2_with fail
      refine (nil_room _ _).mono ?_
      rintro e wq ⟨rfl, rfl⟩
      go_wp2_with fail
      refine (nil_read _ _).mono ?_
      rintro e wq ⟨rfl, rfl⟩
      go_wp2_with fail
      refine (nil_append _ _ _).mono ?_
      rintro e wq ⟨rfl, rfl⟩
      go_wp2_with fail
      refine (nil_sync _ _).mono ?_
      rintro e wq ⟨rfl, rfl⟩
      go_wp2_with fail
      refine (nil_trunc _ _ _).mono ?_
      rintro e wq ⟨rfl, rfl⟩
      go_wp2_with fail
      refine (nil_rename _ _ _).mono ?_
      rintro e wq ⟨rfl, rfl⟩
      go_wp2_with fail
      refine (nil_remove _ _).mono ?_
      rintro e wq ⟨rfl, rfl⟩
      go_wp2_with fail
      refine (nil_down _).mono ?_
      rintro e wq ⟨rfl, rfl⟩
      go_wp2_with fail
      refine (nil_writes _).mono ?_
      rintro e wq ⟨rfl, rfl⟩
      go_wp2_with fail
      refine (nil_names _).mono ?_
      rintro e wq ⟨rfl, rfl⟩
      go_wp2_with fail
      go_ret
      exact ⟨rfl, B.out⟩
end Go.Proofs.Ytanabedbddpooaa

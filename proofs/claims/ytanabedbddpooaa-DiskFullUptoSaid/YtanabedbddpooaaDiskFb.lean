/- DiskFull, walked. -/
import Derived.Test.YtanabedbddpooaaDiskFa
namespace Go.Proofs.Ytanabedbddpooaa
open Go.RowKit Go.Bw Go.Maps
set_option linter.unusedVariables false
set_option linter.unusedSimpArgs false

/-- What the disk of DiskFull does not have for its own: what came in and the row of names. -/
def FullO (w1 : World) (B : Nat) (k : Nat) : Prop := k < w1.heap.size ∨ k = B

/-- How DiskFull stands: the disk holds 'used' bytes. -/
structure FullAt (w w1 : World) (B d : Nat) (room : Int) (used : Nat) (wr : World) : Prop where
  disk : ∃ A, Full2 A room used ∧ Held (FullO w1 B) wr d A
  nm : wr.heap[B]? = some (.cells #[.string ⟨#[97]⟩, .string ⟨#[98]⟩, .string ⟨#[99]⟩] 27 (0, 0))
  below : Below w.heap.size w wr

set_option maxRecDepth 100000 in
set_option maxHeartbeats 8000000 in
theorem full_walk (w : World) (room : Int) (a : Option Addr) (n ca : Nat) (P : Nat → List Int) (b : Option Addr) (m cb : Nat) (hR : RowsIn w a n P) (hF : IntsIn w b m)
    (hn : n ≤ 9223372036854775807) (hm : m ≤ 9223372036854775807) :
    Calls Try.prog 3 #[.int .i64 room, .slice a n ca, .slice b m cb] w (SaysOut w true) := by
  have HR := Lib.hid hR
  have HF := Lib.hid hF
  clear hR hF
  by_cases hbig : n ≤ 512
  case neg =>
    go_enter Try.func3, Try.ntmps3
    go_wp2_with fail
    refine (wakes_any w).mono ?_
    rintro e w1 ⟨rfl, hb⟩
    have B1 := Lib.hid hb
    clear hb
    go_wp2_with fail
    refine (held_new w1 room).mono ?_
    rintro e w2 ⟨rfl, hH, hb, hsz⟩
    have B2 := Lib.hid (B1.out.trans (hb.mono B1.out.size))
    clear hH hb hsz
    go_wp2_with fail
    go_ret
    exact ⟨rfl, B2.out⟩
  go_enter Try.func3, Try.ntmps3
  go_wp2_with fail
  refine (wakes_any w).mono ?_
  rintro e w1 ⟨rfl, hb⟩
  have B1 := Lib.hid hb
  clear hb
  go_wp2_with fail
  refine (held_new w1 room).mono ?_
  rintro e w2 ⟨rfl, hH, hb, hsz⟩
  have L01 := Lib.hid B1.out.size
  have START := Lib.hid (show FullAt w w1 w2.heap.size (w1.heap.size + 1) room 0 (w2.alloc (.cells #[.string ⟨#[97]⟩, .string ⟨#[98]⟩, .string ⟨#[99]⟩] 27)) from
    ⟨⟨_, full_new room, hH.row _⟩, by show (w2.heap.push _)[w2.heap.size]? = _; simp, (B1.out.trans (hb.mono B1.out.size)).alloc (Nat.le_trans B1.out.size hb.size) _⟩)
  clear hH hb hsz
  go_wp2_with fail
  go_loopw [8, 35] (fun u i wr => ∃ (k used : Nat), k ≤ n ∧ i = .int .i64 k ∧ u = .int .i64 used ∧ used ≤ 1024 * k ∧ FullAt w w1 w2.heap.size (w1.heap.size + 1) room used wr) (fun _ i _ => n - (intOf i).toNat)
  case atStart => exact ⟨0, 0, Nat.zero_le _, rfl, rfl, Nat.le_refl _, START.out⟩
  case round =>
    obtain ⟨k, used, hk, rfl, rfl, hus, hS⟩ := hrel
    have S := Lib.hid hS
    clear hS
    by_cases hlt : k < n
    · obtain ⟨a', x, c, rfl, hc0, hr, hp⟩ := HR.out k hlt
      have hc := (S.out.below.cell (World.block_lt_of_cell? w _ hc0)).trans hc0
      have HRd := Lib.hid hr
      clear hr hc0
      by_cases hlen : (P k).length ≤ 1024
      case neg =>
        go_wp2_with fail
        go_ret
        exact ⟨rfl, S.out.below⟩
      obtain ⟨A, hA, hH⟩ := S.out.disk
      have FA := Lib.hid (fun nm hnm => full_append hH.ok hA (p := P k) (by omega) nm hnm)
      have hb0 := cell_of_heap S.out.nm 0
      have hb1 := cell_of_heap S.out.nm 1
      simp at hb0 hb1
      have FLG := Lib.hid (show k < m → ∃ b' y, b = some b' ∧ wr.cell? (b'.add k) = some (.int .i64 y) from fun h => by
        obtain ⟨b', y, e, hcb⟩ := HF.out k h
        exact ⟨b', y, e, (S.out.below.cell (World.block_lt_of_cell? w _ hcb)).trans hcb⟩)
      have RD := Lib.hid (reads_later HRd.out ((Mod.refl (fun k => w.heap.size ≤ k) w).below S.out.below (fun _ _ h => h)) (fun k hk h => by omega))
      have RO := Lib.hid (show P k ≠ [] → ∀ j, Value.ownBlock (.slice x (P k).length c) = some j → FullO w1 w2.heap.size j from fun hne j hj => Or.inl (Nat.lt_of_lt_of_le (reads_lt HRd.out hne j hj) L01.out))
      have HH := Lib.hid hH
      have HA := Lib.hid hA
      clear hA hH
      by_cases hfull : room < (used : Int) + ((P k).length : Int)
      · have A22 := Lib.hid (fun nm hnm => (FA.out nm hnm).1 (by omega))
        by_cases hkm : k < m
        · obtain ⟨b', y, rfl, hcb⟩ := FLG.out hkm
          rcases bit_or y with hy | hy
          all_goals
            go_wp2_with fail
            refine (held_append_to HH.out _ (by unfold maxLen; decide) _ (P k) RD.out RO.out (by omega) (A22.out _ (by first | exact Or.inl rfl | exact Or.inr rfl))).mono ?_
            rintro e w5 ⟨rfl, hH5, hm5⟩
            have S5 := Lib.hid (show FullAt w w1 w2.heap.size (w1.heap.size + 1) room used w5 from
              ⟨⟨_, HA.out, hH5⟩, hm5.heap S.out.nm (fun h => h (Or.inr rfl)), ((((Mod.refl (fun k => w.heap.size ≤ k) w).below S.out.below (fun _ _ h => h)).trans hm5 (fun j _ h => Nat.le_of_not_lt (fun hlt => h (Or.inl (Nat.lt_of_lt_of_le hlt L01.out))))).mono (T := fun _ => False) (fun k hk h => by omega)).toBelow⟩)
            clear hH5 hm5
            go_wp2_with fail
            go_roundw
            case rel => exact ⟨k + 1, used, by omega, by go_num, rfl, by omega, S5.out⟩
            case measure => simp [intOf]; omega
        · skip
          go_wp2_with fail
          refine (held_append_to HH.out _ (by unfold maxLen; decide) _ (P k) RD.out RO.out (by omega) (A22.out _ (by first | exact Or.inl rfl | exact Or.inr rfl))).mono ?_
          rintro e w5 ⟨rfl, hH5, hm5⟩
          have S5 := Lib.hid (show FullAt w w1 w2.heap.size (w1.heap.size + 1) room used w5 from
            ⟨⟨_, HA.out, hH5⟩, hm5.heap S.out.nm (fun h => h (Or.inr rfl)), ((((Mod.refl (fun k => w.heap.size ≤ k) w).below S.out.below (fun _ _ h => h)).trans hm5 (fun j _ h => Nat.le_of_not_lt (fun hlt => h (Or.inl (Nat.lt_of_lt_of_le hlt L01.out))))).mono (T := fun _ => False) (fun k hk h => by omega)).toBelow⟩)
          clear hH5 hm5
          go_wp2_with fail
          go_roundw
          case rel => exact ⟨k + 1, used, by omega, by go_num, rfl, by omega, S5.out⟩
          case measure => simp [intOf]; omega
      · have A0 := Lib.hid (fun nm hnm => (FA.out nm hnm).2 (by omega))
        by_cases hkm : k < m
        · obtain ⟨b', y, rfl, hcb⟩ := FLG.out hkm
          rcases bit_or y with hy | hy
          all_goals
            go_wp2_with fail
            refine (held_append_to HH.out _ (by unfold maxLen; decide) _ (P k) RD.out RO.out (by omega) ((A0.out _ (by first | exact Or.inl rfl | exact Or.inr rfl)).1)).mono ?_
            rintro e w5 ⟨rfl, hH5, hm5⟩
            have S5 := Lib.hid (show FullAt w w1 w2.heap.size (w1.heap.size + 1) room (used + (P k).length) w5 from
              ⟨⟨_, (A0.out _ (by first | exact Or.inl rfl | exact Or.inr rfl)).2, hH5⟩, hm5.heap S.out.nm (fun h => h (Or.inr rfl)), ((((Mod.refl (fun k => w.heap.size ≤ k) w).below S.out.below (fun _ _ h => h)).trans hm5 (fun j _ h => Nat.le_of_not_lt (fun hlt => h (Or.inl (Nat.lt_of_lt_of_le hlt L01.out))))).mono (T := fun _ => False) (fun k hk h => by omega)).toBelow⟩)
            clear hH5 hm5
            go_wp2_with fail
            go_roundw
            case rel => exact ⟨k + 1, used + (P k).length, by omega, by go_num, by go_num, by omega, S5.out⟩
            case measure => simp [intOf]; omega
        · skip
          go_wp2_with fail
          refine (held_append_to HH.out _ (by unfold maxLen; decide) _ (P k) RD.out RO.out (by omega) ((A0.out _ (by first | exact Or.inl rfl | exact Or.inr rfl)).1)).mono ?_
          rintro e w5 ⟨rfl, hH5, hm5⟩
          have S5 := Lib.hid (show FullAt w w1 w2.heap.size (w1.heap.size + 1) room (used + (P k).length) w5 from
            ⟨⟨_, (A0.out _ (by first | exact Or.inl rfl | exact Or.inr rfl)).2, hH5⟩, hm5.heap S.out.nm (fun h => h (Or.inr rfl)), ((((Mod.refl (fun k => w.heap.size ≤ k) w).below S.out.below (fun _ _ h => h)).trans hm5 (fun j _ h => Nat.le_of_not_lt (fun hlt => h (Or.inl (Nat.lt_of_lt_of_le hlt L01.out))))).mono (T := fun _ => False) (fun k hk h => by omega)).toBelow⟩)
          clear hH5 hm5
          go_wp2_with fail
          go_roundw
          case rel => exact ⟨k + 1, used + (P k).length, by omega, by go_num, by go_num, by omega, S5.out⟩
          case measure => simp [intOf]; omega
    · obtain rfl : n = k := by omega
      obtain ⟨wo, rfl⟩ : ∃ wo : World, wo = wr := ⟨_, rfl⟩
      obtain ⟨A, hA, hH⟩ := S.out.disk
      obtain ⟨F, hF⟩ : ∃ F, F = A.files := ⟨_, rfl⟩
      have HF2 := Lib.hid hF
      have HN := Lib.hid (show A.names = F.map (·.1) from by unfold ADsk.names; rw [hA.on, hF]; rfl)
      have HOK := Lib.hid hH.ok
      have HON := Lib.hid hA.on
      have HUS := Lib.hid (show total F = used from by rw [hF]; exact hA.used)
      have HH := Lib.hid hH
      have hfl : F.length ≤ 16 := by rw [hF]; exact hH.ok.few
      have hus2 : used ≤ 524288 := by omega
      clear hA hH hF hus hlt hk
      go_wp2_with fail
      refine (held_names HH.out).mono ?_
      rintro e w3 ⟨v3, rfl, ho, hb, hH⟩
      rw [HN.out, List.length_map] at ho
      obtain ⟨a3, c3, hv3, hc3⟩ := ownsRow_slice ho
      subst hv3
      have NROW := Lib.hid ho
      have B3 := Lib.hid (S.out.below.trans (hb.mono S.out.below.size))
      have H3 := Lib.hid (hH.weaken (T := fun k => wo.heap.size ≤ k ∧ k < w3.heap.size) (fun k hk => Or.inr hk))
      have HUP0 := Lib.hid (show upTo F 0 = 0 from rfl)
      clear ho hb hH
      go_wp2_with fail
      go_loopw [14, 85] (fun u i wx => ∃ j : Nat, j ≤ F.length ∧ i = .int .i64 j ∧ u = .int .i64 (upTo F j) ∧ Held (fun k => wo.heap.size ≤ k ∧ k < w3.heap.size) wx (w1.heap.size + 1) A ∧ Below w3.heap.size w3 wx) (fun _ i _ => F.length - (intOf i).toNat)
      case atStart => exact ⟨0, Nat.zero_le _, rfl, by rw [HUP0.out]; rfl, H3.out, Below.refl _ _⟩
      case round =>
        obtain ⟨j, hj, rfl, rfl, hH, hB⟩ := hrel
        have HJ := Lib.hid hH
        have BJ := Lib.hid hB
        clear hH hB
        have hup : upTo F j ≤ 524288 := Nat.le_trans (upTo_le F j) (by rw [HUS.out]; exact hus2)
        by_cases hlt : j < F.length
        · obtain ⟨q, hq⟩ : ∃ q, F[j]? = some q := ⟨_, List.getElem?_eq_getElem hlt⟩
          have HQ := Lib.hid hq
          have ROWJ := Lib.hid (ownsRow_kept NROW.out (fun k hk => BJ.out.block k (NROW.out.lt k hk).2))
          have hcell := row_cell ROWJ.out (j := j) (u := .string ⟨q.1.toArray⟩) (by rw [List.getElem?_map, List.getElem?_map, hq]; rfl)
          obtain ⟨b3, rfl⟩ := hcell.1
          have hcell := hcell.2 _ rfl
          have UP := Lib.hid (upTo_succ hq)
          have hup1 : upTo F j + q.2.len ≤ 524288 := by rw [← UP.out]; exact Nat.le_trans (upTo_le F _) (by rw [HUS.out]; exact hus2)
          have QLEN := Lib.hid (show (q.2.safe ++ q.2.wait).length = q.2.len from by rw [List.length_append]; rfl)
          have hns := HOK.out.names q (by rw [← HF2.out]; exact List.mem_of_getElem? hq)
          have HRDS := Lib.hid (read_at HOK.out HON.out (by rw [← HF2.out]; exact hq))
          have QN := Lib.hid (nm_small hns)
          clear hq hns
          go_wp2_with fail
          refine (held_read_to HJ.out _ QN.out (by exact HRDS.out)).mono ?_
          rintro e w6 ⟨v6, rfl, ho, hb, hH⟩
          rw [QLEN.out] at ho
          obtain ⟨a6, c6, hv6, hc6⟩ := ownsRow_slice ho
          subst hv6
          have H6 := Lib.hid (hH.weaken (T := fun k => wo.heap.size ≤ k ∧ k < w3.heap.size) (fun k hk => Or.inl hk))
          have B6 := Lib.hid (BJ.out.trans (hb.mono BJ.out.size))
          clear ho hb hH
          go_wp2_with fail
          go_roundw
          case rel => exact ⟨j + 1, by omega, by go_num, by rw [UP.out]; go_num, H6.out, B6.out⟩
          case measure => simp [intOf]; omega
        · obtain rfl : j = F.length := by omega
          have hfin : upTo F F.length = used := by rw [upTo_all]; exact HUS.out
          have HB := Lib.hid (B3.out.trans (BJ.out.mono B3.out.size))
          rw [hfin]
          clear hfin
          go_wp2_with fail
          go_ret
          exact ⟨rfl, HB.out⟩
end Go.Proofs.Ytanabedbddpooaa

/- DiskSafe, walked: the loops. -/
import Derived.Test.YtanabedbddpooaaDiskSt
namespace Go.Proofs.Ytanabedbddpooaa
open Go.RowKit Go.Bw Go.Maps
set_option linter.unusedVariables false
set_option linter.unusedSimpArgs false

theorem reads_front {w : World} {B n c : Nat} {a : Option Addr} {xs ys : List Int} (h : w.ownsRow B 5 1 (.slice a n c) n (bcells (xs ++ ys))) : Reads w 1 (.slice a xs.length c) xs.length (bcells xs) := by
  rcases h.2 with ⟨e, h0⟩ | ⟨g, cap, cur, e, _⟩
  · cases e
    have hx : xs.length = 0 := by
      have := h.1
      simp only [bcells, List.length_map, List.length_append] at this
      omega
    exact ⟨by simp [bcells], Or.inl ⟨_, by rw [hx], hx⟩⟩
  · cases e
    exact reads_prefix h

set_option maxRecDepth 100000 in
set_option maxHeartbeats 8000000 in
theorem safe_walk (w : World) (a : Option Addr) (n ca : Nat) (P : Nat → List Int) (b : Option Addr) (m cb : Nat) (keep : Int) (hR : RowsIn w a n P) (hF : FlagsIn w b m)
    (hn : n ≤ 9223372036854775807) (hm : m ≤ 9223372036854775807) (hk0 : -9223372036854775808 ≤ keep) (hk1 : keep ≤ 9223372036854775807) :
    Calls Try.prog 5 #[.slice a n ca, .slice b m cb, .int .i64 keep] w (SaysOut w true) := by
  have HR := Lib.hid hR
  have HF := Lib.hid hF
  clear hR hF
  go_enter Try.func5, Try.ntmps5
  go_wp2_with fail
  refine (wakes_any w).mono ?_
  rintro e w1 ⟨rfl, hb⟩
  have B1 := Lib.hid hb
  clear hb
  go_wp2_with fail
  go_loop [7, 22] (fun t i => ∃ k : Nat, k ≤ n ∧ i = .int .i64 k ∧ t = .int .i64 (flat P k).length ∧ (flat P k).length ≤ 524288) (fun _ i => n - (intOf i).toNat)
  case atStart => exact ⟨0, Nat.zero_le _, rfl, rfl, by simp [flat]⟩
  case round =>
    obtain ⟨k, hk, rfl, rfl, hl⟩ := hrel
    by_cases hlt : k < n
    · obtain ⟨a', x, c, rfl, hc0, hr, hp⟩ := HR.out k hlt
      have hc := (B1.out.cell (World.block_lt_of_cell? w _ hc0)).trans hc0
      have FL := Lib.hid (flat_len P k)
      clear hc0 hr
      by_cases hgt : (flat P k).length + (P k).length ≤ 524288
      · go_wp2
        go_round
        case rel => exact ⟨k + 1, by omega, by go_num, by rw [FL.out]; go_num, by rw [FL.out]; omega⟩
        case measure => simp [intOf]; omega
      · have hgt' : (524288 : Int) < ((flat P k).length : Int) + (P k).length := by omega
        go_wp2
        go_ret
        exact ⟨rfl, B1.out⟩
    · obtain rfl : n = k := by omega
      have HT := Lib.hid hl
      clear hlt hk hl
      by_cases hbig : n ≤ 1024
      case neg =>
        go_wp2_with fail
        go_ret
        exact ⟨rfl, B1.out⟩
      go_wp2_with fail
      refine (held_new w1 1048576).mono ?_
      rintro e w2 ⟨rfl, hH, hb, hsz⟩
      have H2 := Lib.hid hH
      have B2 := Lib.hid hb
      clear hH hb hsz
      have L01 := Lib.hid B1.out.size
      have START := Lib.hid (show SafeAt w w1 w2.heap.size (w1.heap.size + 1) P 0 [] [] (.slice none 0 0) w2 from
        ⟨rfl, ⟨rfl, Or.inl ⟨rfl, rfl⟩⟩, ⟨_, _, Or.inl ⟨rfl, rfl, rfl, rfl⟩, H2.out, fun _ h => h, fun j h => by cases h⟩, (B1.out.trans (B2.out.mono B1.out.size)), Nat.le_refl _⟩)
      go_wp2_with fail
      go_loopw [11, 12, 41] (fun v sv i wr => ∃ (k : Nat) (s t : List Int), k ≤ n ∧ i = .int .i64 k ∧ sv = .int .i64 s.length ∧ SafeAt w w1 w2.heap.size (w1.heap.size + 1) P k s t v wr) (fun _ _ i _ => n - (intOf i).toNat)
      case atStart => exact ⟨0, [], [], Nat.zero_le _, rfl, rfl, START.out⟩
      case round =>
        obtain ⟨k, s, t, hk, rfl, rfl, hS⟩ := hrel
        have S := Lib.hid hS
        clear hS
        by_cases hlt : k < n
        · obtain ⟨a', x, c, rfl, hc0, hr, hp⟩ := HR.out k hlt
          have hc := (S.out.below.cell (World.block_lt_of_cell? w _ hc0)).trans hc0
          have hlen : (flat P k).length + (P k).length ≤ 524288 := by
            rw [← flat_len]; exact Nat.le_trans (flat_mono P hlt) HT.out
          obtain ⟨A, O, hA, hH, hO1, hO2⟩ := S.out.disk
          obtain ⟨A', hA1, hA2⟩ := hA.append (P k) (by have := congrArg List.length S.out.both; rw [List.length_append] at this; omega)
          have HA := Lib.hid hA2
          have HO := Lib.hid (And.intro hO1 hO2)
          have HRd := Lib.hid hr
          clear hA hA2 hr hO1 hO2
          go_wp2_with fail
          refine (held_append_to hH ⟨#[102]⟩ (by unfold maxLen; decide) _ (P k) (reads_later HRd.out ((Mod.refl (fun k => w.heap.size ≤ k) w).below S.out.below (fun _ _ h => h)) (fun k hk h => by omega))
            (fun hne j hj => HO.out.1 j (Nat.lt_of_lt_of_le (reads_lt HRd.out hne j hj) L01.out)) (by omega) hA1).mono ?_
          rintro e w5 ⟨rfl, hH5, hm5⟩
          have Q5 := Lib.hid ((Mod.refl (fun k => w.heap.size ≤ k) w).below S.out.below (fun _ _ h => h) |>.trans hm5 (fun j hj h => Nat.le_of_not_lt (fun hlt => h (HO.out.1 j (Nat.lt_of_lt_of_le hlt L01.out)))))
          obtain ⟨v', w6, R, O6, M6, N6⟩ := app_run2 w5 w2.heap.size _ (.slice x (P k).length c) (flat P k) (P k) (ownsRow_kept S.out.row (fun j hj => hm5.block j (S.out.row.lt j hj).2 (fun h => h (HO.out.2 j hj)))) (Nat.le_trans S.out.size hm5.size)
            (reads_later HRd.out Q5.out (fun k hk h => by omega)) (by omega)
          have R' := Lib.hid R
          have S6 := Lib.hid (show SafeAt w w1 w2.heap.size (w1.heap.size + 1) P (k + 1) s (t ++ P k) v' w6 from
            ⟨by rw [← List.append_assoc, S.out.both]; rfl, O6,
             ⟨A', _, HA.out, hH5.fresh M6 (fun j _ h => HO.out.2 j h), fun j hj => Or.inl (HO.out.1 j hj), fun j hj => (N6 j hj).elim (fun h => Or.inl (HO.out.2 j h)) (fun h => Or.inr ⟨h, (O6.lt j hj).2⟩)⟩,
             ((Q5.out.trans M6 (fun j _ h => Nat.le_trans (Nat.le_trans L01.out B2.out.size) (S.out.row.lt j h).1)).mono (T := fun _ => False) (fun k hk h => by omega)).toBelow,
             Nat.le_trans (Nat.le_trans S.out.size hm5.size) M6.size⟩)
          obtain ⟨a6, c6, hv6, hc6⟩ := ownsRow_slice O6
          rw [List.length_append] at hv6
          subst hv6
          clear R O6 M6 N6 hH hH5 hm5 hA1
          have FLG : k < m → ∃ b' y, b = some b' ∧ w6.cell? (b'.add k) = some (.bool y) := fun h => by
            obtain ⟨b', y, e, hcb⟩ := HF.out k h
            exact ⟨b', y, e, (S6.out.below.cell (World.block_lt_of_cell? w _ hcb)).trans hcb⟩
          have FLG := Lib.hid FLG
          by_cases hkm : k < m
          · obtain ⟨b', y, rfl, hcb⟩ := FLG.out hkm
            cases y
            · go_wp2_with (at_builtin; refine wpList_append_run rfl (.tmp 50) (.tmp 51) 28 rfl rfl rfl R'.out ?_)
              go_roundw
              case rel => exact ⟨k + 1, s, t ++ P k, by omega, by go_num, rfl, S6.out⟩
              case measure => simp [intOf]; omega
            · obtain ⟨A, O, hA, hH, hO1, hO2⟩ := S6.out.disk
              obtain ⟨A7, hA1, hA2⟩ := hA.sync
              go_wp2_with (at_builtin; refine wpList_append_run rfl (.tmp 50) (.tmp 51) 28 rfl rfl rfl R'.out ?_)
              refine (held_sync_to hH ⟨#[102]⟩ (by unfold maxLen; decide) hA1).mono ?_
              rintro e w7 ⟨rfl, hH7, hm7⟩
              have S7 := Lib.hid (show SafeAt w w1 w2.heap.size (w1.heap.size + 1) P (k + 1) (s ++ (t ++ P k)) [] _ w7 from
                ⟨by rw [List.append_nil]; exact S6.out.both, ownsRow_kept S6.out.row (fun j hj => hm7.block j (S6.out.row.lt j hj).2 (fun h => h (hO2 j hj))),
                 ⟨_, _, hA2, hH7, hO1, hO2⟩, ((((Mod.refl (fun k => w.heap.size ≤ k) w).below S6.out.below (fun _ _ h => h)).trans hm7 (fun j _ h => Nat.le_of_not_lt (fun hlt => h (hO1 j (Nat.lt_of_lt_of_le hlt L01.out))))).mono (T := fun _ => False) (fun k hk h => by omega)).toBelow,
                 Nat.le_trans S6.out.size hm7.size⟩)
              clear hH7 hm7 hA2 hO1 hO2 hA hH hA1
              go_wp2_with fail
              go_roundw
              case rel => exact ⟨k + 1, s ++ (t ++ P k), [], by omega, by go_num, by rw [S6.out.both, flat_len]; go_num, S7.out⟩
              case measure => simp [intOf]; omega
          · go_wp2_with (at_builtin; refine wpList_append_run rfl (.tmp 50) (.tmp 51) 28 rfl rfl rfl R'.out ?_)
            go_roundw
            case rel => exact ⟨k + 1, s, t ++ P k, by omega, by go_num, rfl, S6.out⟩
            case measure => simp [intOf]; omega
        · obtain rfl : n = k := by omega
          obtain ⟨A, O, hA, hH, hO1, hO2⟩ := S.out.disk
          obtain ⟨off1, off2, off3, off4⟩ := hA.off keep
          have hlen : s.length + t.length = (flat P n).length := by rw [← S.out.both, List.length_append]
          have OFF := Lib.hid (And.intro off2 (And.intro off3 off4))
          have HO := Lib.hid (And.intro hO1 hO2)
          obtain ⟨av, cv, hv, hcv⟩ := ownsRow_slice S.out.row
          subst hv
          have HT' := Lib.hid hlen
          clear hA off2 off3 off4 hO1 hO2 hlen hlt hk
          go_wp2_with fail
          refine (held_off hH keep hk0 hk1).mono ?_
          rintro e w8 ⟨rfl, hH8, hm8⟩
          have H8 := Lib.hid hH8
          have M8 := Lib.hid hm8
          clear hH hH8 hm8
          go_wp2_with fail
          refine (held_down H8.out).mono ?_
          rintro e w9 ⟨rfl, rfl⟩
          rw [off1]
          clear off1
          go_wp2_with fail
          refine (held_names H8.out).mono ?_
          rintro e w10 ⟨v10, rfl, ho0, hb, hH⟩
          rw [OFF.out.1] at ho0
          obtain ⟨a10, c10, hv10, _⟩ := ownsRow_slice ho0
          subst hv10
          have H10 := Lib.hid hH
          have B10 := Lib.hid hb
          clear ho0 hb hH
          go_wp2_with fail
          refine (held_on H10.out).mono ?_
          rintro e w11 ⟨rfl, hH, hm⟩
          have H11 := Lib.hid hH
          have M11 := Lib.hid hm
          clear hH hm
          go_wp2_with fail
          have P11 := Lib.hid (show Mod (fun k => w.heap.size ≤ k) w w11 from
            ((((Mod.refl (fun k => w.heap.size ≤ k) w).below S.out.below (fun _ _ h => h)).trans M8.out (fun j _ h => Nat.le_of_not_lt (fun hlt => h (HO.out.1 j (Nat.lt_of_lt_of_le hlt L01.out))))).trans (Mod.ofBelow B10.out) (fun _ _ h => h.elim)).trans M11.out
              (fun j _ h => Nat.le_of_not_lt (fun hlt => h (Or.inl (HO.out.1 j (Nat.lt_of_lt_of_le hlt L01.out))))))
          have m11 := ((M8.out.trans (Mod.ofBelow B10.out) (fun _ _ h => h.elim)).trans M11.out (fun j _ h hj => h (Or.inl hj)))
          have ROW11 := Lib.hid (ownsRow_kept S.out.row (fun j hj => m11.block j (S.out.row.lt j hj).2 (fun h => h (HO.out.2 j hj))))
          clear m11
          by_cases hn0 : n = 0
          · subst hn0
            refine (held_read_to (xs := []) (r := 21) H11.out ⟨#[102]⟩ (by unfold maxLen; decide) (OFF.out.2.1 rfl)).mono ?_
            rintro e w12 ⟨v12, rfl, ho, hb, hH⟩
            have HB := Lib.hid (show Below w.heap.size w w12 from ((P11.out.trans (Mod.ofBelow hb) (fun _ _ h => h.elim)).mono (T := fun _ => False) (fun k hk h => by omega)).toBelow)
            clear ho hb hH
            go_wp2_with fail
            go_ret
            exact ⟨rfl, HB.out⟩
          · have hn1 : 0 < n := by omega
            obtain ⟨z, hz⟩ : ∃ z, z = s ++ t.take keep.toNat := ⟨_, rfl⟩
            obtain ⟨q, hq⟩ : ∃ q : Nat, q = min keep.toNat t.length := ⟨_, rfl⟩
            have hzl : z.length = s.length + q := by rw [hz, hq]; simp
            have hall : s ++ t = z ++ t.drop keep.toNat := by rw [hz, List.append_assoc, List.take_append_drop]
            have HL := HT'.out
            have HT2 := HT.out
            have E1 := Lib.hid (show RowKit.wrap64 (((flat P n).length : Int) - (s.length : Int)) = (t.length : Int) from safe_e1 _ _ _ HL HT2)
            have E2 := Lib.hid (show min (max keep 0) (t.length : Int) = (q : Int) from safe_e2 _ _ _ hq)
            have E3 := Lib.hid (show RowKit.wrap64 ((s.length : Int) + (q : Int)) = (z.length : Int) from safe_e3 _ _ _ hzl (by omega))
            have e4 : RowKit.wrap64 ((s.length : Int) + min (max keep 0) (RowKit.wrap64 (((flat P n).length : Int) - (s.length : Int)))) = (z.length : Int) := by rw [E1.out, E2.out, E3.out]
            have hzc : z.length ≤ cv := by omega
            have hz524 : z.length ≤ 524288 := by omega
            have HZ := Lib.hid hz
            have HALL := Lib.hid hall
            clear hz hall hq hzl HL HT2
            refine (held_read_to (xs := z) (r := 0) H11.out ⟨#[102]⟩ (by unfold maxLen; decide) (by rw [HZ.out]; exact OFF.out.2.2 hn1)).mono ?_
            rintro e w12 ⟨v12, rfl, ho, hb, hH⟩
            obtain ⟨a12, c12, hv12, _⟩ := ownsRow_slice ho
            subst hv12
            have X12 := Lib.hid (ownsRow_reads ho)
            have ROW12 := Lib.hid (ownsRow_kept ROW11.out (fun j hj => hb.block j (ROW11.out.lt j hj).2))
            have P12 := Lib.hid (P11.out.trans (Mod.ofBelow hb) (fun _ _ h => h.elim))
            clear ho hb hH
            go_wp2_with fail
            refine (same_yes w12 _ _ z X12.out (reads_front (ys := t.drop keep.toNat) (by rw [← HALL.out, S.out.both]; exact ROW12.out)) (by omega)).mono ?_
            rintro e w13 ⟨rfl, hb⟩
            have HB := Lib.hid (show Below w.heap.size w w13 from ((P12.out.trans (Mod.ofBelow hb) (fun _ _ h => h.elim)).mono (T := fun _ => False) (fun k hk h => by omega)).toBelow)
            clear hb
            go_wp2_with fail
            go_ret
            exact ⟨rfl, HB.out⟩
end Go.Proofs.Ytanabedbddpooaa

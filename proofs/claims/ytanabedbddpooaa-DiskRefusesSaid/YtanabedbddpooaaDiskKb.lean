/- DiskKeeps, walked. -/
import Derived.Test.YtanabedbddpooaaDiskKa
namespace Go.Proofs.Ytanabedbddpooaa
open Go.RowKit Go.Bw Go.Maps
set_option linter.unusedVariables false
set_option linter.unusedSimpArgs false

theorem same_yes (w : World) (v1 v2 : Value) (xs : List Int) (h1 : Reads w 1 v1 xs.length (bcells xs)) (h2 : Reads w 1 v2 xs.length (bcells xs)) (hl : xs.length ≤ 140737488355328) :
    Calls Try.prog 14 #[v1, v2] w (SaysOut w true) := by
  have := same_any w v1 v2 xs xs h1 h2 hl hl
  rwa [show decide (xs = xs) = true from by simp] at this

theorem own_cell {w : World} {B : Nat} {e : TypeId} {g n c : Nat} {cs : List Value} (h : w.ownsRow B e 1 (.slice (some ⟨g, 0, none⟩) n c) n cs) {k : Nat} {u : Value} (hk : cs[k]? = some u) : w.cell? ⟨g, k, none⟩ = some u := by
  rcases (ownsRow_reads h).2 with ⟨c', e, h0⟩ | ⟨a', c', e, hc⟩
  · cases e
  · cases e
    have := hc k u hk
    rwa [addr_add, Nat.zero_add] at this

theorem bcells_set (zs : List Int) (k : Nat) (x : Int) : bcells (zs.set k x) = (bcells zs).set k (.int .u8 x) := by simp [bcells, List.map_set]
theorem bcells_len (zs : List Int) : (bcells zs).length = zs.length := by simp [bcells]

/-- What is neither of w nor the second disk's may turn. -/
def Free (w w4 w5 : World) (k : Nat) : Prop := w.heap.size ≤ k ∧ ¬ (w4.heap.size ≤ k ∧ k < w5.heap.size)

theorem keeps_great (w : World) (a0 : Option Addr) (c0 : Nat) (xs : List Int) (a1 : Option Addr) (c1 : Nat) (ys : List Int)
    (lx : xs.length ≤ 140737488351232) (ly : ys.length ≤ 140737488351232) (hbig : 65536 < xs.length + ys.length) :
    Calls Try.prog 4 #[.slice a0 xs.length c0, .slice a1 ys.length c1] w (SaysOut w true) := by
  have hbig' : (65536 : Int) < xs.length + ys.length := by omega
  go_enter Try.func4, Try.ntmps4
  go_wp2_with fail
  refine (wakes_any w).mono ?_
  rintro e w1 ⟨rfl, hb⟩
  go_wp2_with fail
  go_ret
  exact ⟨rfl, hb⟩

set_option maxRecDepth 100000 in
set_option maxHeartbeats 8000000 in
theorem keeps_small (w : World) (a0 : Option Addr) (c0 : Nat) (xs : List Int) (a1 : Option Addr) (c1 : Nat) (ys : List Int)
    (hx : Reads w 1 (.slice a0 xs.length c0) xs.length (bcells xs)) (hy : Reads w 1 (.slice a1 ys.length c1) ys.length (bcells ys)) (hs : xs.length + ys.length ≤ 65536) :
    Calls Try.prog 4 #[.slice a0 xs.length c0, .slice a1 ys.length c1] w (SaysOut w true) := by
  have HX := Lib.hid hx
  have HY := Lib.hid hy
  have hs' : (xs.length : Int) + ys.length ≤ 65536 := by omega
  clear hx hy
  go_enter Try.func4, Try.ntmps4
  go_wp2_with fail
  refine (wakes_any w).mono ?_
  rintro e w1 ⟨rfl, hb⟩
  have B1 := Lib.hid hb
  clear hb
  -- mine
  obtain ⟨v1, w2, R1, O1, M1⟩ := app_run (w1.alloc (.cells #[] 5)) w1.heap.size (.slice (some ⟨w1.heap.size, 0, none⟩) 0 0) (.slice a0 xs.length c0) [] xs (row_empty w1) (by simp)
    (reads_later HX.out (((Mod.refl (fun k => w.heap.size ≤ k) w).below B1.out (fun _ _ h => h)).alloc _) (fun k hk h => by omega)) (by simp; omega)
  obtain ⟨v2, w3, R2, O2, M2⟩ := app_run (w2.alloc (.cells (bcells [71, 72]).toArray 5)) w1.heap.size v1 (.slice (some ⟨w2.heap.size, 0, none⟩) 2 2) xs [71, 72]
    (ownsRow_kept O1 (fun k hk => ((Mod.refl (fun _ => False) w2).alloc _).block k (O1.lt k hk).2 (fun h => h))) (by have := M1.size; simp at this ⊢; omega) (reads_const w2 [71, 72] (0, 0)) (by simp; omega)
  have hlen2 : (xs ++ [71, 72]).length = xs.length + 2 := by simp
  rw [hlen2] at O2
  obtain ⟨g, c, hv2, hg1, hgc⟩ : ∃ g c, v2 = .slice (some ⟨g, 0, none⟩) (xs.length + 2) c ∧ w1.heap.size ≤ g ∧ xs.length + 2 ≤ c := by
    rcases O2.2 with ⟨_, h0⟩ | ⟨g, cap, cur, hv, hb, _, hn, _⟩
    · omega
    · exact ⟨g, cap, hv, hb, hn⟩
  subst hv2
  have hg3 : g < w3.heap.size := (O2.lt g rfl).2
  have G := Lib.hid (show w.heap.size ≤ w1.heap.size ∧ w1.heap.size ≤ g ∧ g < w3.heap.size from ⟨B1.out.size, hg1, hg3⟩)
  have P3 := Lib.hid (show Mod (fun k => w.heap.size ≤ k) w w3 from by
    have m1 := ((Mod.refl (fun k => w.heap.size ≤ k) w).below B1.out (fun _ _ h => h)).alloc (.cells #[] 5)
    have m2 := (m1.trans M1 (fun k hk h => by cases h; exact B1.out.size)).alloc (.cells (bcells [71, 72]).toArray 5)
    exact m2.trans M2 (fun k hk h => Nat.le_trans B1.out.size (O1.lt k h).1))
  have MINE := Lib.hid O2
  have R1' := Lib.hid R1
  have R2' := Lib.hid R2
  have hgc' := hgc
  clear R1 R2 O1 O2 M1 M2 hlen2 hg1 hg3 hgc
  go_wp2_with (at_builtin; first | refine wpList_append_run rfl (.tmp 25) (.tmp 26) 28 rfl rfl rfl R1'.out ?_ | refine wpList_append_run rfl (.tmp 27) (.tmp 28) 28 rfl rfl rfl R2'.out ?_)
  obtain ⟨zs, hzs⟩ : ∃ zs, zs = xs ++ ys := ⟨_, rfl⟩
  have hzl : zs.length ≤ 65536 := by rw [hzs, List.length_append]; exact hs
  have HZ := Lib.hid hzs
  clear hzs
  -- the two disks
  refine (held_new w3 1048576).mono ?_
  rintro e w4 ⟨rfl, hH, hb, hsz⟩
  have HD4 := Lib.hid hH
  have B4 := Lib.hid hb
  have S4 := Lib.hid hsz
  clear hH hb hsz
  go_wp2_with fail
  refine (held_new w4 1048576).mono ?_
  rintro e w5 ⟨rfl, hH, hb, hsz⟩
  have HO5 := Lib.hid hH
  have B5 := Lib.hid hb
  have S5 := Lib.hid hsz
  have HD5 := Lib.hid (HD4.out.fresh (Mod.ofBelow hb) (fun _ _ h => h.elim))
  have OD := Lib.hid (show ∀ k, ¬ (k < w3.heap.size ∨ (w4.heap.size ≤ k ∧ k < w5.heap.size)) → Free w w4 w5 k from fun k h => by
    have := G.out; have := S4.out; have := S5.out; unfold Free; omega)
  clear hH hb hsz
  go_wp2_with fail
  have m35 := ((Mod.ofBelow B4.out).trans (Mod.ofBelow B5.out) (fun _ _ h => h))
  have r5 := reads_prefix (ownsRow_kept MINE.out (fun k hk => by cases hk; exact m35.block g G.out.2.2 (fun h => h)))
  refine (held_append_to HD5.out ⟨#[102]⟩ (by unfold maxLen; decide) _ xs r5 (fun _ k hk => Or.inl (by cases hk; exact G.out.2.2)) (by omega) (kp1 xs (by omega))).mono ?_
  rintro e w6 ⟨rfl, hH, hm⟩
  have HD6 := Lib.hid hH
  have M6 := Lib.hid hm
  clear hH hm r5 m35
  go_wp2_with fail
  refine (held_sync_to HD6.out ⟨#[102]⟩ (by unfold maxLen; decide) (kp2 xs)).mono ?_
  rintro e w7 ⟨rfl, hH, hm⟩
  have HD7 := Lib.hid hH
  have M7 := Lib.hid (M6.out.trans hm (fun _ _ h => h))
  have P5 := Lib.hid (show Mod (fun k => w.heap.size ≤ k) w w5 from (P3.out.trans (Mod.ofBelow B4.out) (fun _ _ h => h.elim)).trans (Mod.ofBelow B5.out) (fun _ _ h => h.elim))
  have P7 := Lib.hid (P5.out.trans M7.out (fun k _ h => (OD.out k h).1))
  clear hH hm
  go_wp2_with fail
  refine (held_append_to HD7.out ⟨#[102]⟩ (by unfold maxLen; decide) _ ys (reads_later HY.out P7.out (fun k hk h => by omega)) (fun hne k hk => Or.inl (by have := reads_lt HY.out hne k hk; have := G.out; omega)) (by omega) (kp3 xs ys hs)).mono ?_
  rintro e w8 ⟨rfl, hH, hm⟩
  have HD8 := Lib.hid hH
  have M8 := Lib.hid (M7.out.trans hm (fun _ _ h => h))
  have P8 := Lib.hid (P5.out.trans M8.out (fun k _ h => (OD.out k h).1))
  clear hH hm
  go_wp2_with fail
  have m38 := (((Mod.ofBelow B4.out).trans (Mod.ofBelow B5.out) (fun _ _ h => h)).mono (T := fun k => ¬ k < w3.heap.size) (fun _ _ h => h.elim)).trans M8.out (fun k _ h hk => h (Or.inl hk))
  have MINE8 := Lib.hid (ownsRow_kept MINE.out (fun k hk => by cases hk; exact m38.block g G.out.2.2 (fun h => h G.out.2.2)))
  clear m38
  refine (same_yes w8 _ _ xs (reads_prefix MINE8.out) (reads_later HX.out P8.out (fun k hk h => by omega)) (by omega)).mono ?_
  rintro e w9 ⟨rfl, hb⟩
  have B9 := Lib.hid hb
  have MINE9 := Lib.hid (ownsRow_kept MINE8.out (fun k hk => hb.block k (MINE8.out.lt k hk).2))
  have P9 := Lib.hid (P8.out.trans (Mod.ofBelow hb) (fun _ _ h => h.elim))
  have HD9 := Lib.hid (HD8.out.mod (Mod.ofBelow hb) (fun _ _ h => h.elim))
  have M9 := Lib.hid (M8.out.trans (Mod.ofBelow hb) (fun _ _ h => h.elim))
  clear hb
  have c71 := own_cell MINE9.out (k := xs.length) (u := .int .u8 71) (by simp [bcells])
  have c72 := own_cell MINE9.out (k := xs.length + 1) (u := .int .u8 72) (by simp [bcells])
  go_wp2_with fail
  clear c71 c72
  go_loopw [84] (fun i wr => ∃ k : Nat, k ≤ xs.length + 2 ∧ i = .int .i64 k ∧ (∃ qs : List Int, wr.ownsRow w1.heap.size 5 1 (.slice (some ⟨g, 0, none⟩) (xs.length + 2) c) (xs.length + 2) (bcells qs)) ∧ Mod (fun k => k = g) w9 wr) (fun i _ => xs.length + 2 - (intOf i).toNat)
  case atStart => exact ⟨0, Nat.zero_le _, rfl, ⟨_, MINE9.out⟩, Mod.refl _ _⟩
  case round =>
    obtain ⟨k, hk, rfl, ⟨qs, ho⟩, hm⟩ := hrel
    have Ho := Lib.hid ho
    have Hm := Lib.hid hm
    clear ho hm
    by_cases hlt : k < xs.length + 2
    · obtain ⟨u, hu, hcell, hfz⟩ := ownsRow_cell Ho.out hlt
      clear hu
      go_wp2
      go_roundw
      case rel => exact ⟨k + 1, by omega, by go_num, ⟨qs.set k 1, by rw [bcells_set]; exact ownsRow_set Ho.out rfl hlt _⟩, Hm.out.setCell _ (fun _ => rfl)⟩
      case measure => simp [intOf]; omega
    · obtain rfl : k = xs.length + 2 := by omega
      have P10 := Lib.hid (P9.out.trans Hm.out (fun k _ h => by have := G.out; omega))
      have HD10 := Lib.hid (HD9.out.mod Hm.out (fun k _ h => Or.inl (by have := G.out; omega)))
      have M10 := Lib.hid ((M9.out.mono (fun k _ h => OD.out k h)).trans Hm.out (fun k _ h => by have := G.out; have := S4.out; unfold Free; omega))
      clear Ho
      obtain ⟨v3, w11, R3, O3, M3⟩ := app_run (wr.alloc (.cells #[] 5)) wr.heap.size (.slice (some ⟨wr.heap.size, 0, none⟩) 0 0) (.slice a0 xs.length c0) [] xs (row_empty wr) (by simp)
        (reads_later HX.out (P10.out.alloc _) (fun k hk h => by omega)) (by simp; omega)
      have m11 := ((Mod.refl (fun _ => False) wr).alloc (.cells #[] 5)).trans (T := fun k => Value.ownBlock (.slice (some ⟨wr.heap.size, 0, none⟩) 0 0) = some k) M3 (fun k hk h => absurd ((Option.some.inj h) : wr.heap.size = k) (Nat.ne_of_gt hk))
      obtain ⟨v4, w12, R4, O4, M4⟩ := app_run w11 wr.heap.size v3 (.slice a1 ys.length c1) xs ys O3 m11.size
        (reads_later HY.out (P10.out.trans m11 (fun _ _ h => h.elim)) (fun k hk h => by omega)) (by omega)
      have m12 := m11.trans M4 (fun k hk h => by have := (O3.lt k h).1; omega)
      rw [← HZ.out] at O4
      obtain ⟨a4, c4, hv4, hc4⟩ := ownsRow_slice O4
      subst hv4
      have WANT := Lib.hid O4
      have M12 := Lib.hid m12
      have R3' := Lib.hid R3
      have R4' := Lib.hid R4
      have HD12 := Lib.hid (HD10.out.mod m12 (fun _ _ h => h.elim))
      clear R3 R4 O3 O4 M3 M4 m11 m12
      go_wp2_with (at_builtin; first | refine wpList_append_run rfl (.tmp 91) (.tmp 92) 28 rfl rfl rfl R3'.out ?_ | refine wpList_append_run rfl (.tmp 93) (.tmp 94) 28 rfl rfl rfl R4'.out ?_)
      refine (held_read_to (xs := zs) (r := 0) HD12.out ⟨#[102]⟩ (by unfold maxLen; decide) (by rw [HZ.out]; exact kp4 xs ys)).mono ?_
      rintro e w13 ⟨v5, rfl, ho, hb, hH⟩
      obtain ⟨a5, c5, hv5, hc5⟩ := ownsRow_slice ho
      subst hv5
      have X13 := Lib.hid ho
      have B13 := Lib.hid hb
      have HD13 := Lib.hid hH
      have WANT13 := Lib.hid (ownsRow_kept WANT.out (fun k hk => hb.block k (WANT.out.lt k hk).2))
      clear ho hb hH
      go_wp2_with fail
      refine (same_yes w13 _ _ zs (ownsRow_reads X13.out) (ownsRow_reads WANT13.out) (by omega)).mono ?_
      rintro e w14 ⟨rfl, hb⟩
      have B14 := Lib.hid hb
      have X14 := Lib.hid (ownsRow_kept X13.out (fun k hk => hb.block k (X13.out.lt k hk).2))
      have WANT14 := Lib.hid (ownsRow_kept WANT13.out (fun k hk => hb.block k (WANT13.out.lt k hk).2))
      clear hb
      go_wp2_with fail
      go_loopw [111] (fun i wq => ∃ k : Nat, k ≤ zs.length ∧ i = .int .i64 k ∧ (∃ qs : List Int, qs.length = zs.length ∧ wq.ownsRow w12.heap.size 5 1 (.slice a5 zs.length c5) zs.length (bcells qs)) ∧ Mod (fun k => Value.ownBlock (.slice a5 zs.length c5) = some k) w14 wq) (fun i _ => zs.length - (intOf i).toNat)
      case atStart => exact ⟨0, Nat.zero_le _, rfl, ⟨zs, rfl, X14.out⟩, Mod.refl _ _⟩
      case round =>
        obtain ⟨k, hk, rfl, ⟨qs, hql, ho⟩, hm⟩ := hrel
        have Ho := Lib.hid ho
        have Hm2 := Lib.hid hm
        clear ho hm
        by_cases hlt : k < zs.length
        · obtain ⟨g5, e5⟩ : ∃ g5, a5 = some ⟨g5, 0, none⟩ := by
            rcases Ho.out.2 with ⟨e, h0⟩ | ⟨g5, cap, cur, e, _⟩
            · omega
            · cases e; exact ⟨g5, rfl⟩
          subst e5
          obtain ⟨u, hu, hcell, hfz⟩ := ownsRow_cell Ho.out hlt
          clear hu
          go_wp2
          go_roundw
          case rel => exact ⟨k + 1, by omega, by go_num, ⟨qs.set k 2, by simp [hql], by rw [bcells_set]; exact ownsRow_set Ho.out rfl hlt _⟩, Hm2.out.setCell _ (fun _ => rfl)⟩
          case measure => simp [intOf]; omega
        · obtain rfl : k = zs.length := by omega
          have Ho' : wr.ownsRow w12.heap.size 5 1 (.slice a5 zs.length c5) qs.length (bcells qs) := by rw [hql]; exact Ho.out
          have s12 : w12.heap.size ≤ wr.heap.size := Nat.le_trans (Nat.le_trans B13.out.size B14.out.size) Hm2.out.size
          obtain ⟨v6, w16, R5, O5, M5⟩ := app_run (wr.alloc (.cells (bcells [3, 4, 5]).toArray 5)) w12.heap.size (.slice a5 zs.length c5) (.slice (some ⟨wr.heap.size, 0, none⟩) 3 3) qs [3, 4, 5]
            (ownsRow_kept Ho' (fun k hk => ((Mod.refl (fun _ => False) wr).alloc _).block k (Ho'.lt k hk).2 (fun h => h))) (by simp; omega) (reads_const wr [3, 4, 5] (0, 0)) (by simp; omega)
          have hl3 : (qs ++ [3, 4, 5]).length = zs.length + 3 := by simp [hql]
          rw [hl3] at O5
          obtain ⟨a6, c6, hv6, hc6⟩ := ownsRow_slice O5
          subst hv6
          have m16 := (Hm2.out.alloc (.cells (bcells [3, 4, 5]).toArray 5)).trans M5 (fun _ _ h => h)
          have HD14 := HD13.out.mod (Mod.ofBelow B14.out) (fun _ _ h => h.elim)
          have HD16 := Lib.hid (HD14.mod m16 (fun k _ h => Or.inr ⟨(X13.out.lt k h).1, (X13.out.lt k h).2⟩))
          have WANT16 := Lib.hid (ownsRow_kept WANT14.out (fun k hk => m16.block k (WANT14.out.lt k hk).2 (fun h => by
            have h1 := (WANT.out.lt k hk).2; have h2 := (X13.out.lt k h).1; omega)))
          have m10 := M10.out.trans M12.out (fun _ _ h => h.elim)
          have M16 := Lib.hid (((m10.trans (Mod.ofBelow B13.out) (fun _ _ h => h.elim)).trans (Mod.ofBelow B14.out) (fun _ _ h => h.elim)).trans m16 (fun k _ h => by
            have h1 := (X13.out.lt k h).1; have h2 := m10.size; have h3 := P5.out.size; unfold Free; omega))
          have L16 := Lib.hid (show w5.heap.size ≤ w16.heap.size from M16.out.size)
          have R5' := Lib.hid R5
          clear Ho Ho' hl3 s12 R5 O5 M5 m16 HD14 m10 hql
          go_wp2_with (at_builtin; refine wpList_append_run rfl (.tmp 118) (.tmp 119) 28 rfl rfl rfl R5'.out ?_)
          refine (held_read_to (xs := zs) (r := 0) HD16.out ⟨#[102]⟩ (by unfold maxLen; decide) (by rw [HZ.out]; exact kp4 xs ys)).mono ?_
          rintro e w17 ⟨v7, rfl, ho, hb, hH⟩
          obtain ⟨a7, c7, hv7, hc7⟩ := ownsRow_slice ho
          subst hv7
          have Y17 := Lib.hid ho
          have B17 := Lib.hid hb
          have HD17 := Lib.hid hH
          clear ho hb hH
          go_wp2_with fail
          refine (held_names HD17.out).mono ?_
          rintro e w18 ⟨v8, rfl, ho0, hb, hH⟩
          have ho : w18.ownsRow w17.heap.size 9 1 v8 1 [Value.string ⟨#[102]⟩] := ho0
          obtain ⟨g8, c8, hv8, hg8, hc8⟩ : ∃ g8 c8, v8 = .slice (some ⟨g8, 0, none⟩) 1 c8 ∧ w17.heap.size ≤ g8 ∧ 1 ≤ c8 := by
            rcases ho.2 with ⟨_, h0⟩ | ⟨g8, cap, cur, hv, hb, _, hn, _⟩
            · cases h0
            · exact ⟨g8, cap, hv, hb, hn⟩
          subst hv8
          have G8 := Lib.hid (show w17.heap.size ≤ g8 ∧ g8 < w18.heap.size from ⟨hg8, (ho.lt g8 rfl).2⟩)
          have B18 := Lib.hid hb
          have HD18 := Lib.hid hH
          obtain ⟨u8, hu8, hcell8, hfz8⟩ := ownsRow_cell ho (k := 0) (by decide)
          clear ho0 ho hb hH hu8 hg8
          go_wp2_with fail
          refine (held_names (HD18.out.mod ((Mod.refl (fun k => k = g8) w18).setCell _ (fun _ => rfl)) (fun k _ h => Or.inr (by rw [h]; exact G8.out)))).mono ?_
          rintro e w20 ⟨v9, rfl, ho0, hb, hH⟩
          have ho : w20.ownsRow (w18.setCell ⟨g8, 0, none⟩ (.string ⟨#[122]⟩)).heap.size 9 1 v9 1 [Value.string ⟨#[102]⟩] := ho0
          obtain ⟨g9, c9, hv9⟩ : ∃ g9 c9, v9 = .slice (some ⟨g9, 0, none⟩) 1 c9 := by
            rcases ho.2 with ⟨_, h0⟩ | ⟨g9, cap, cur, hv, _⟩
            · cases h0
            · exact ⟨g9, cap, hv⟩
          subst hv9
          have hcell9 := Lib.hid (own_cell ho (k := 0) (u := .string ⟨#[102]⟩) rfl)
          have M20 := Lib.hid (show Mod (fun k => k = g8) w17 w20 from
            (((Mod.ofBelow B18.out).mono (T := fun k => k = g8) (fun _ _ h => h.elim)).setCell _ (fun _ => rfl)).trans (Mod.ofBelow hb) (fun _ _ h => h.elim))
          have Y20 := Lib.hid (ownsRow_kept Y17.out (fun k hk => M20.out.block k (Y17.out.lt k hk).2 (fun e => by have := (Y17.out.lt k hk).2; have := G8.out; omega)))
          have WANT17 := ownsRow_kept WANT16.out (fun k hk => B17.out.block k (WANT16.out.lt k hk).2)
          have WANT20 := Lib.hid (ownsRow_kept WANT17 (fun k hk => M20.out.block k (WANT17.lt k hk).2 (fun e => by have := (WANT17.lt k hk).2; have := G8.out; omega)))
          clear ho0 ho hb hH WANT17
          go_wp2_with fail
          refine (same_yes w20 _ _ zs (ownsRow_reads Y20.out) (ownsRow_reads WANT20.out) (by omega)).mono ?_
          rintro e w21 ⟨rfl, hb⟩
          have B21 := Lib.hid hb
          have hc9' := (hb.cell (World.block_lt_of_cell? w20 _ hcell9.out)).trans hcell9.out
          clear hb
          go_wp2_with fail
          have M21 := Lib.hid (((M16.out.trans (Mod.ofBelow B17.out) (fun _ _ h => h.elim)).trans M20.out (fun k _ h => by
            have := G8.out; have := L16.out; have := B17.out.size; have := P5.out.size; unfold Free; omega)).trans (Mod.ofBelow B21.out) (fun _ _ h => h.elim))
          refine (held_names (HO5.out.mod M21.out (fun k hk h => by unfold Free at h; omega))).mono ?_
          rintro e w22 ⟨v10, rfl, ho0, hb, hH⟩
          have ho : w22.ownsRow w21.heap.size 9 1 v10 0 [] := ho0
          obtain ⟨a10, c10, hv10, _⟩ := ownsRow_slice ho
          subst hv10
          have HB := Lib.hid (show Below w.heap.size w w22 from
            (((P5.out.trans M21.out (fun k _ h => h.1)).trans (Mod.ofBelow hb) (fun _ _ h => h.elim)).mono (T := fun _ => False) (fun k hk h => by omega)).toBelow)
          clear ho0 ho hb hH
          go_wp2_with fail
          go_ret
          exact ⟨rfl, HB.out⟩
end Go.Proofs.Ytanabedbddpooaa

/- SnapBack, walked. -/
import Derived.Test.YtmpdmejlpicdlaaDoorSnapW
import Derived.Test.YtmpdmejlpicdlaaDoorSnapP
namespace Go.Proofs.YtmpdmejlpicdlaaDoor
open Go.RowKit Go.Bw Go.Maps
set_option linter.unusedVariables false
set_option linter.unusedSimpArgs false

/-- The slice's form, with room. -/
theorem own_form {w : World} {B : Nat} {e : TypeId} {v : Value} {n : Nat} {xs : List Value} (h : w.ownsRow B e 1 v n xs) (hn : 0 < n) : ∃ g c, v = .slice (some ⟨g, 0, none⟩) n c ∧ n ≤ c ∧ B ≤ g ∧ g < w.heap.size := by
  have hl := h.lt
  rcases h.2 with ⟨e, h0⟩ | ⟨g, cap, cur, e, hb, _, hc, _⟩
  · have := h.1; rw [h0] at this; simp at this; omega
  · exact ⟨g, cap, e, hc, hb, (hl g (by rw [e]; rfl)).2⟩

set_option maxRecDepth 100000 in
set_option maxHeartbeats 8000000 in
theorem back_great (w : World) (n k : Int) (a : Option Addr) (len c : Nat) (hL : Laid w) (hbig : 4096 < len) (hlen : len ≤ 140737488351232) :
    Calls Tryd.prog 4 #[.int .i64 n, .slice a len c, .int .i64 k] w (SaysOut w true) := by
  have hbig' : (4096 : Int) < len := by omega
  go_enter Tryd.func4, Tryd.ntmps4
  go_wp2_with fail
  refine (swakes_any w hL).mono ?_
  rintro e w1 ⟨rfl, hb⟩
  go_wp2_with fail
  go_ret
  exact ⟨rfl, hb⟩

set_option maxRecDepth 100000 in
set_option maxHeartbeats 8000000 in
theorem back_small (w : World) (n k : Int) (hn0 : -9223372036854775808 ≤ n) (hn1 : n ≤ 9223372036854775807) (hk0 : -9223372036854775808 ≤ k) (hk1 : k ≤ 9223372036854775807) (a : Option Addr) (c : Nat) (body : List Int)
    (hR : Reads w 1 (.slice a body.length c) body.length (bcells body)) (hB : Bytes body) (hL : Laid w) (hs : body.length ≤ 4096) :
    Calls Tryd.prog 4 #[.int .i64 n, .slice a body.length c, .int .i64 k] w (SaysOut w true) := by
  have HR := Lib.hid hR
  have HB := Lib.hid hB
  have HL := Lib.hid hL
  have hl32 : body.length < 4294967296 := by omega
  have HL32 := Lib.hid hl32
  clear hR hB hL hl32
  go_enter Tryd.func4, Tryd.ntmps4
  go_wp2_with fail
  refine (swakes_any w HL.out).mono ?_
  rintro e w1 ⟨rfl, hb⟩
  have B1 := Lib.hid hb
  have L1 := Lib.hid (HL.out.below hb)
  clear hb
  go_wp2_with fail
  refine (encode_any w1 n _ body (reads_later HR.out (Mod.ofBelow B1.out) (fun _ _ h => h)) (by omega) L1.out).mono ?_
  rintro e w2 ⟨v2, rfl, ho, hb⟩
  obtain ⟨ys, hys⟩ : ∃ ys, ys = encode n body := ⟨_, rfl⟩
  have hyl : ys.length = body.length + 12 := by rw [hys, encode_length]
  have YB := Lib.hid (show Bytes ys from by rw [hys]; exact encode_bytes HB.out)
  rw [← hys] at ho
  have YS := Lib.hid hys
  obtain ⟨g, c2, hv2, hc2, hg1, hg2⟩ := own_form ho (by omega)
  subst hv2
  have R2 := Lib.hid (ownsRow_reads ho)
  have B2 := Lib.hid (B1.out.trans (hb.mono B1.out.size))
  have L2 := Lib.hid (L1.out.below hb)
  have G2 := Lib.hid hg2
  have hy4 : ys.length ≤ 4108 := by omega
  have YL := Lib.hid hyl
  clear ho hb hys hyl hg1 hg2
  go_wp2_with fail
  refine (decode_any w2 n hn0 hn1 _ ys R2.out (fun a k c e => by cases e; exact hc2) YB.out (by omega) L2.out).mono ?_
  rintro e w3 ⟨v3, rfl, ho, hb⟩
  have B3 := Lib.hid (B2.out.trans (hb.mono B2.out.size))
  have L3 := Lib.hid (L2.out.below hb)
  have R3 := Lib.hid (reads_later R2.out (Mod.ofBelow hb) (fun _ _ h => h))
  have BR3 := Lib.hid (reads_later HR.out (Mod.ofBelow B3.out) (fun _ _ h => h))
  have X3 := Lib.hid (ownsRow_reads ho)
  clear ho hb
  by_cases hnm : nm9 115 0 n = []
  · have D := Lib.hid (show decode n ys = ([], 11) from by rw [YS.out]; exact decode_bad hnm HL32.out)
    have hnm' := Lib.hid hnm
    rw [D.out]
    clear hnm
    go_wp2_with fail
    refine (snapName_any w3 n hn0 hn1 L3.out).mono ?_
    rw [hnm'.out]
    rintro e w4 ⟨rfl, hb⟩
    have B4 := Lib.hid (B3.out.trans (hb.mono B3.out.size))
    clear hb
    go_wp2_with fail
    go_ret
    exact ⟨rfl, B4.out⟩
  · obtain ⟨hn2, hn3⟩ := nm9_bounds hnm
    have D := Lib.hid (show decode n ys = (body, 0) from by rw [YS.out]; exact decode_self hn2 hn3 HL32.out)
    have NE := Lib.hid hnm
    rw [D.out] at X3
    rw [D.out]
    clear hnm
    go_wp2_with fail
    refine (snapName_any w3 n hn0 hn1 L3.out).mono ?_
    obtain ⟨nm, hnm⟩ : ∃ nm, nm = nm9 115 0 n := ⟨_, rfl⟩
    rw [← hnm]
    have hne : (⟨nm.toArray⟩ : ByteArray).toList.isEmpty = false := by
      rw [ByteArray.toList_eq]
      cases h : nm with
      | nil => exact absurd (hnm.symm.trans h) NE.out
      | cons x y => rfl
    clear hnm
    rintro e w4 ⟨rfl, hb⟩
    generalize (⟨nm.toArray⟩ : ByteArray) = nms at hne
    have B4 := Lib.hid (B3.out.trans (hb.mono B3.out.size))
    have L4 := Lib.hid (L3.out.below hb)
    have R4 := Lib.hid (reads_later R3.out (Mod.ofBelow hb) (fun _ _ h => h))
    have BR4 := Lib.hid (reads_later BR3.out (Mod.ofBelow hb) (fun _ _ h => h))
    have X4 := Lib.hid (reads_later X3.out (Mod.ofBelow hb) (fun _ _ h => h))
    clear hb
    go_wp2_with fail
    refine (same_yes w4 _ _ body X4.out BR4.out (by omega)).mono ?_
    rintro e w5 ⟨rfl, hb⟩
    have B5 := Lib.hid (B4.out.trans (hb.mono B4.out.size))
    have L5 := Lib.hid (L4.out.below hb)
    have R5 := Lib.hid (reads_later R4.out (Mod.ofBelow hb) (fun _ _ h => h))
    clear hb
    go_wp2_with fail
    go_loopw [10] (fun i wr => ∃ j : Nat, j ≤ ys.length ∧ i = .int .i64 j ∧ Below w5.heap.size w5 wr) (fun i _ => ys.length - (intOf i).toNat)
    case atStart => exact ⟨0, Nat.zero_le _, rfl, Below.refl _ _⟩
    case round =>
      obtain ⟨j, hj, rfl, hb⟩ := hrel
      have BJ := Lib.hid hb
      have LJ := Lib.hid (L5.out.below hb)
      have RJ := Lib.hid (reads_later R5.out (Mod.ofBelow hb) (fun _ _ h => h))
      clear hb
      by_cases hjl : j < ys.length
      · have hjc : j ≤ c2 := by omega
        have ej : (ys.take j).length = j := by rw [List.length_take]; omega
        have DJ := Lib.hid (show decode n (ys.take j) = ([], 10) from by rw [YS.out]; exact decode_take HL32.out (by rw [← YS.out]; exact hjl))
        have RT := Lib.hid (show Reads wr 1 (.slice (some ⟨g, 0, none⟩) j c2) (ys.take j).length (bcells (ys.take j)) from by
          have := reads_start (c' := c2) RJ.out (show j ≤ ys.length by omega)
          rw [ej] at this ⊢; exact this)
        have YT := Lib.hid (show Bytes (ys.take j) from fun x hx => YB.out x (List.mem_of_mem_take hx))
        have EJ := Lib.hid ej
        clear ej
        go_wp2_with fail
        refine (decode_any wr n hn0 hn1 _ (ys.take j) RT.out (fun a k c e => by cases e; exact hjc) YT.out (by rw [EJ.out]; omega) LJ.out).mono ?_
        rw [DJ.out]
        rintro e w6 ⟨v6, rfl, ho, hb⟩
        have B6 := Lib.hid (BJ.out.trans (hb.mono BJ.out.size))
        clear ho hb
        go_wp2_with fail
        go_roundw
        case rel => exact ⟨j + 1, by omega, by go_num, B6.out⟩
        case measure => simp [intOf]; omega
      · obtain rfl : j = ys.length := by omega
        obtain ⟨v7, w7, R7, O7, M7, _⟩ := app_run2 (wr.alloc (.cells #[] 5)) wr.heap.size (.slice (some ⟨wr.heap.size, 0, none⟩) 0 0) (.slice (some ⟨g, 0, none⟩) ys.length c2) [] ys (row_empty wr) (by simp) (reads_later RJ.out ((Mod.refl (fun _ => False) wr).alloc _) (fun _ _ h => h)) (by simp; omega)
        rw [List.nil_append] at O7
        have M7' := ((Mod.refl (fun _ => False) wr).alloc (.cells #[] 5)).trans (T := fun k => Value.ownBlock (.slice (some ⟨wr.heap.size, 0, none⟩) 0 0) = some k) M7 (fun k hk h => absurd ((Option.some.inj h) : wr.heap.size = k) (Nat.ne_of_gt hk))
        have O7b := ownsRow_kept (w' := w7.alloc (.cells #[.int .u8 0] 5)) O7 (fun k hk => ((Mod.refl (fun _ => False) w7).alloc _).block k (O7.lt k hk).2 (fun h => h))
        obtain ⟨v8, w8, R8, O8, M8, _⟩ := app_run2 (w7.alloc (.cells #[.int .u8 0] 5)) wr.heap.size v7 (.slice (some ⟨w7.heap.size, 0, none⟩) 1 1) ys [0] O7b (by have := M7'.size; simp; omega) (reads_const w7 [0] (0, 0)) (by simp; omega)
        have M8' := (M7'.alloc (.cells #[.int .u8 0] 5)).trans M8 (fun k hk h => by have := (O7.lt k h).1; omega)
        obtain ⟨zs, hzs⟩ : ∃ zs, zs = ys ++ [0] := ⟨_, rfl⟩
        rw [← hzs] at O8
        have hzl : zs.length ≤ 140737488351232 := by rw [hzs, List.length_append, List.length_singleton]; omega
        have ZB := Lib.hid (show Bytes zs from fun x hx => by
          rw [hzs] at hx
          rcases List.mem_append.1 hx with h | h
          · exact YB.out x h
          · rw [List.mem_singleton.1 h]; decide)
        have DZ := Lib.hid (show decode n zs = ([], 11) from by rw [hzs, YS.out]; exact decode_more HL32.out 0)
        obtain ⟨a8, c8, hv8, hc8⟩ := ownsRow_slice O8
        subst hv8
        have R7' := Lib.hid R7
        have R8' := Lib.hid R8
        have RZ := Lib.hid (ownsRow_reads O8)
        have B8 := Lib.hid (BJ.out.trans (M8'.toBelow.mono BJ.out.size))
        have L8 := Lib.hid (LJ.out.below M8'.toBelow)
        have RY := Lib.hid (reads_later RJ.out M8' (fun _ _ h => h))
        clear R7 R8 O7 O8 M7 M8 M7' M8' O7b hzs
        go_wp2_with (at_builtin; first | refine wpList_append_run rfl (.tmp 58) (.tmp 59) 22 rfl rfl rfl R7'.out ?_ | refine wpList_append_run rfl (.tmp 60) (.tmp 61) 22 rfl rfl rfl R8'.out ?_)
        refine (decode_any w8 n hn0 hn1 _ zs RZ.out (fun a k c e => by cases e; exact hc8) ZB.out hzl L8.out).mono ?_
        rw [DZ.out]
        rintro e w9 ⟨v9, rfl, ho, hb⟩
        have B9 := Lib.hid (B8.out.trans (hb.mono B8.out.size))
        have L9 := Lib.hid (L8.out.below hb)
        have R9 := Lib.hid (reads_later RY.out (Mod.ofBelow hb) (fun _ _ h => h))
        clear ho hb
        go_wp2_with fail
        refine (decode_any w9 k hk0 hk1 _ ys R9.out (fun a k c e => by cases e; exact hc2) YB.out (by omega) L9.out).mono ?_
        obtain ⟨dd, hdd⟩ : ∃ dd, dd = decode k ys := ⟨_, rfl⟩
        rw [← hdd]
        have hdk : (dd.2 == 0) = (k == n) := by rw [hdd, YS.out]; exact decode_other hn2 hn3 HL32.out
        have HDK := Lib.hid hdk
        clear hdd hdk
        rintro e w10 ⟨v10, rfl, ho, hb⟩
        have B10 := Lib.hid (B5.out.trans ((B9.out.trans (hb.mono B9.out.size)).mono B5.out.size))
        clear ho hb
        go_wp2_with fail
        go_ret
        refine ⟨?_, B10.out⟩
        show Ending.returned (.bool ((dd.2 == 0) == (k == n))) = _
        rw [HDK.out]; simp
end Go.Proofs.YtmpdmejlpicdlaaDoor

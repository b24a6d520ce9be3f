/- The document's names and frames of the journal: Name, four, Frame. -/
import Derived.Test.YtmpdmejlpicdlaaDoorSnapR
import Derived.Test.YtmpdmejlpicdlaaDoorWalF
namespace Go.Proofs.YtmpdmejlpicdlaaDoor
open Go.RowKit Go.Bw Go.Maps
set_option linter.unusedVariables false
set_option linter.unusedSimpArgs false

set_option maxRecDepth 100000 in
set_option maxHeartbeats 2000000 in
theorem wrname_any (w : World) (n : Int) : Calls Tryd.prog 33 #[.int .i64 n] w (StrOut w (nm9 106 1 n)) := by
  by_cases hb : n < 1 ∨ n > 999999999
  · have E := Lib.hid (show nm9 106 1 n = [] from by unfold nm9; rw [if_pos hb])
    rcases hb with hb | hb
    all_goals
      go_enter Tryd.func33, Tryd.ntmps33
      go_wp2_with fail
      go_ret
      rw [E.out]
      exact ⟨rfl, Below.refl _ _⟩
  · obtain ⟨N, rfl⟩ := Int.eq_ofNat_of_zero_le (show 0 ≤ n by omega)
    have hhi : N ≤ 999999999 := by omega
    have hlo : 1 ≤ N := by omega
    have E := Lib.hid (show nm9 106 1 (N : Int) = 106 :: dig 9 N from by unfold nm9; rw [if_neg hb]; simp)
    clear hb
    go_enter Tryd.func33, Tryd.ntmps33
    go_wp2_with fail
    go_loopw [0, 3, 4] (fun x v i wr => ∃ (j m : Nat) (s : ByteArray), j ≤ 9 ∧ i = .int .i64 j ∧ x = .int .i64 m ∧ v = .string s ∧ m ≤ 999999999 ∧ s.size ≤ 9 ∧ Hid (m = N / 10 ^ j ∧ s = ⟨(dig j N).toArray⟩ ∧ s.size = j) ∧ Below w.heap.size w wr) (fun _ _ i _ => 9 - (intOf i).toNat)
    case atStart => exact ⟨0, N, _, by omega, rfl, rfl, rfl, hhi, by decide, Lib.hid ⟨by simp, rfl, rfl⟩, Below.refl _ _⟩
    case round =>
      obtain ⟨j, m, s, hj, rfl, rfl, rfl, hm, hsz, H, hb⟩ := hrel
      have HB := Lib.hid hb
      clear hb
      by_cases hjl : j < 9
      · obtain ⟨ds, hds⟩ : ∃ ds : ByteArray, ds = ⟨[UInt8.ofNat (48 + m % 10)].toArray⟩ := ⟨_, rfl⟩
        have kv := convert_reads (w := wr.alloc (.cells (bcells [48 + (m : Int) % 10]).toArray 5 (0, 0))) (reads_const wr [48 + (m : Int) % 10] (0, 0))
        rw [one_str m, ← hds] at kv
        have kv2 : (convert 22 9 (.slice (some ⟨wr.heap.size, 0, none⟩) 1 1)).run Tryd.prog (wr.alloc (.cells #[.int .u8 (48 + (m : Int) % 10)] 5 (0, 0))) = .ok (.string ds) (wr.alloc (.cells #[.int .u8 (48 + (m : Int) % 10)] 5 (0, 0))) := kv
        have DS := Lib.hid hds
        have hd1 : ds.size ≤ 1 := by rw [hds]; exact Nat.le_refl _
        clear kv hds
        go_wp2_with fail
        have hm10 : m % 10 < 10 := Nat.mod_lt _ (by decide)
        have hz : (ds ++ s).size = j + 1 := by
          rw [ByteArray.size_append, DS.out, H.out.2.2]
          show 1 + j = j + 1; omega
        have he : ds ++ s = ⟨(dig (j + 1) N).toArray⟩ := by
          rw [DS.out, H.out.2.1, dig_front, ← H.out.1]
          apply ByteArray.ext
          rw [ByteArray.data_append]
          show [UInt8.ofNat (48 + m % 10)].toArray ++ (dig j N).toArray = (UInt8.ofNat (48 + m % 10) :: dig j N).toArray
          simp
        have hq : m / 10 = N / 10 ^ (j + 1) := by rw [H.out.1, Nat.div_div_eq_div_mul, Nat.pow_succ]
        go_roundw
        case rel => exact ⟨j + 1, m / 10, ds ++ s, by omega, rfl, rfl, rfl, by omega, by omega, Lib.hid ⟨hq, he, hz⟩, HB.out.alloc HB.out.size _⟩
        case measure => simp [intOf]; omega
      · obtain rfl : j = 9 := by omega
        go_wp2_with fail
        go_ret
        refine ⟨?_, HB.out⟩
        have he : ({ data := #[106] } : ByteArray) ++ s = ⟨(106 :: dig 9 N).toArray⟩ := by
          rw [H.out.2.1]
          apply ByteArray.ext
          rw [ByteArray.data_append]
          show #[106] ++ (dig 9 N).toArray = (106 :: dig 9 N).toArray
          simp
        rw [E.out, ← he]
        rfl

set_option maxHeartbeats 1000000 in
theorem wfour_any (w : World) (x : Int) (h0 : 0 ≤ x) (h1 : x < 4294967296) :
    Calls Tryd.prog 53 #[.int .u32 x] w fun e w' => e = .returned (.slice (some ⟨w.heap.size, 0, none⟩) 4 4) ∧ w' = w.alloc (.cells (bcells (le4 x)).toArray 5) := by
  go_enter Tryd.func53, Tryd.ntmps53
  go_wp2_with fail
  go_ret
  exact ⟨rfl, rfl⟩

set_option maxRecDepth 100000 in
set_option maxHeartbeats 3000000 in
theorem wrframe_any (w : World) (v : Value) (r : List Int) (hR : Reads w 1 v r.length (bcells r)) (hl : r.length ≤ 140737488351232) :
    Calls Tryd.prog 29 #[v] w (DecOut w (frameA r)) := by
  obtain ⟨a, c, rfl⟩ := reads_form hR
  have HR := Lib.hid hR
  clear hR
  by_cases hbig : 65536 < r.length
  · have E := Lib.hid (show frameA r = ([], 3) from by unfold frameA; rw [if_pos hbig])
    have hbig' : (65536 : Int) < r.length := by omega
    go_enter Tryd.func29, Tryd.ntmps29
    go_wp2_with fail
    go_ret2
    exact decOut_nil E.out (Below.refl _ _)
  · have E := Lib.hid (show frameA r = (le4 (r.length : Int) ++ le4 (crc r) ++ r, 0) from by unfold frameA frame; rw [if_neg hbig])
    obtain ⟨n, hn⟩ : ∃ n : Int, n = (r.length : Int) := ⟨_, rfl⟩
    have hn0 : 0 ≤ n := by omega
    have hn1 : n ≤ 65536 := by omega
    have hnm : n % 4294967296 = n := by omega
    have hnl : (r.length : Int) = n := hn.symm
    rw [← hn] at E
    have HN := Lib.hid hn
    clear hn
    go_enter Tryd.func29, Tryd.ntmps29
    go_wp2_with fail
    refine (wfour_any w n hn0 (by omega)).mono ?_
    rintro e w1 ⟨rfl, hw1⟩
    have O1 := Lib.hid (show w1.ownsRow w.heap.size 5 1 (.slice (some ⟨w.heap.size, 0, none⟩) 4 4) (le4 n).length (bcells (le4 n)) from by rw [hw1]; exact row_four w n)
    have M1 := Lib.hid (show Mod (fun _ => False) w w1 from by rw [hw1]; exact (Mod.refl _ _).alloc _)
    clear hw1
    go_wp2_with fail
    refine (rcrc_any w1 _ r (reads_later HR.out M1.out (fun _ _ h => h)) (by omega)).mono ?_
    rintro e w1' ⟨rfl, rfl⟩
    obtain ⟨cc, hcc⟩ : ∃ cc, cc = crc r := ⟨_, rfl⟩
    rw [← hcc] at E ⊢
    have hc0 : 0 ≤ cc := by rw [hcc]; exact crc_lo r
    have hc1 : cc < 4294967296 := by rw [hcc]; exact crc_hi r
    clear hcc
    go_wp2_with fail
    refine (wfour_any w1 cc hc0 hc1).mono ?_
    rintro e w2 ⟨rfl, hw2⟩
    have O2 := Lib.hid (show w2.ownsRow w1.heap.size 5 1 (.slice (some ⟨w1.heap.size, 0, none⟩) 4 4) (le4 cc).length (bcells (le4 cc)) from by rw [hw2]; exact row_four w1 cc)
    have M2 := Lib.hid (show Mod (fun _ => False) w1 w2 from by rw [hw2]; exact (Mod.refl _ _).alloc _)
    clear hw2
    have M12 := Lib.hid (M1.out.trans M2.out (fun _ _ h => h))
    have G2 := Lib.hid (M12.out.mono (T := fun k => w.heap.size ≤ k) (fun _ _ h => h.elim))
    obtain ⟨v3, w3, R, O, M, _⟩ := app_run2 w2 w.heap.size _ _ _ _ (ownsRow_kept O1.out (fun k hk => M2.out.block k (O1.out.lt k hk).2 (fun h => h))) M12.out.size (ownsRow_reads O2.out) (by simp [le4])
    have e8 : (le4 n ++ le4 cc).length = 8 := rfl
    have R3 := Lib.hid R
    have O3 := Lib.hid O
    have G3 := Lib.hid (G2.out.trans M (fun k _ h => (O1.out.lt k h).1))
    clear R O M
    obtain ⟨v4, w4, R, O, M, _⟩ := app_run2 w3 w.heap.size _ (.slice a r.length c) _ r O3.out G3.out.size (reads_later HR.out G3.out (fun k hk h => by omega)) (by rw [e8]; omega)
    have R4 := Lib.hid R
    have O4 := Lib.hid O
    have G4 := Lib.hid (G3.out.trans M (fun k _ h => (O3.out.lt k h).1))
    clear R O M
    obtain ⟨a3, c3, hv3, _⟩ := ownsRow_slice O3.out
    subst hv3
    rw [e8] at R3 R4
    go_wp2_with (at_builtin; first | refine wpList_append_run rfl (.tmp 11) (.tmp 14) 22 rfl rfl rfl R3.out ?_ | refine wpList_append_run rfl (.tmp 16) (.tmp 17) 22 rfl rfl rfl R4.out ?_)
    go_ret2
    rw [E.out]
    exact ⟨_, rfl, O4.out, (G4.out.mono (T := fun _ => False) (fun k hk h => by omega)).toBelow⟩
end Go.Proofs.YtmpdmejlpicdlaaDoor

/- wal.Frame. -/
import Derived.Test.YtmpdmejlpicdlaaDoorSnapC
import Derived.Test.YtmpdmejlpicdlaaDoorWalD
namespace Go.Proofs.YtmpdmejlpicdlaaDoor
open Go.RowKit Go.Bw Go.Maps
set_option linter.unusedVariables false
set_option linter.unusedSimpArgs false

/-- A slice that is built of given bytes. -/
theorem ownsRow_lit (wr : World) (B : Nat) (hB : B ≤ wr.heap.size) (cs : Array Value) (xs : List Int) (hc : cs.toList = bcells xs) (hl : xs.length ≤ maxLen) :
    (wr.alloc (.cells cs 5)).ownsRow B 5 1 (.slice (some ⟨wr.heap.size, 0, none⟩) xs.length xs.length) xs.length (bcells xs) := by
  have hbl : (bcells xs).length = xs.length := by simp [bcells]
  have hsz : cs.size = xs.length := by rw [← hbl, ← hc]; simp
  refine ⟨by rw [hbl]; omega, Or.inr ⟨wr.heap.size, xs.length, cs, rfl, hB, by show (wr.heap.push _)[wr.heap.size]? = _; simp, Nat.le_refl _, hl, by omega, ?_⟩⟩
  rw [hc, List.take_of_length_le (by omega)]

set_option maxRecDepth 100000 in
set_option maxHeartbeats 3000000 in
theorem frame_any (w : World) (v : Value) (r : List Int) (hR : Reads w 1 v r.length (bcells r)) (hl : r.length ≤ 140737488351232) (hL : Laid w) :
    Calls Tryd.prog 28 #[v] w (DecOut w (frameA r)) := by
  obtain ⟨a, c, rfl⟩ := reads_form hR
  have HR := Lib.hid hR
  have HL := Lib.hid hL
  clear hR hL
  by_cases hbig : 65536 < r.length
  · have E := Lib.hid (show frameA r = ([], 3) from by unfold frameA; rw [if_pos hbig])
    have hbig' : (65536 : Int) < r.length := by omega
    go_enter Tryd.func28, Tryd.ntmps28
    go_wp2_with fail
    go_ret2
    exact decOut_nil E.out (Below.refl _ _)
  · have E := Lib.hid (show frameA r = (le4 (r.length : Int) ++ le4 (crc r) ++ r, 0) from by unfold frameA frame; rw [if_neg hbig])
    obtain ⟨n, hn⟩ : ∃ n : Int, n = (r.length : Int) := ⟨_, rfl⟩
    have hn0 : 0 ≤ n := by omega
    have hn1 : n ≤ 65536 := by omega
    have hnm : n % 4294967296 = n := by omega
    have hnl : (r.length : Int) = n := hn.symm
    rw [← hn] at E
    have HN := Lib.hid hn
    clear hn
    go_enter Tryd.func28, Tryd.ntmps28
    go_wp2_with fail
    refine (crc_any w _ r HR.out (by omega) HL.out.halfAt).mono ?_
    rintro e w5 ⟨rfl, rfl⟩
    obtain ⟨cc, hcc⟩ : ∃ cc, cc = crc r := ⟨_, rfl⟩
    rw [← hcc] at E ⊢
    have hc0 : 0 ≤ cc := by rw [hcc]; exact crc_lo r
    have hc1 : cc < 4294967296 := by rw [hcc]; exact crc_hi r
    clear hcc
    have HW := (Mod.refl (fun _ => False) w).alloc (.cells #[.int .u8 (n % 256), .int .u8 (n / 256 % 256), .int .u8 (n / 65536), .int .u8 (n / 16777216), .int .u8 (cc % 256), .int .u8 (cc / 256 % 256), .int .u8 (cc / 65536 % 256), .int .u8 (cc / 16777216)] 5)
    obtain ⟨v3, w3, R, O, M, _⟩ := app_run2 (w.alloc (.cells #[.int .u8 (n % 256), .int .u8 (n / 256 % 256), .int .u8 (n / 65536), .int .u8 (n / 16777216), .int .u8 (cc % 256), .int .u8 (cc / 256 % 256), .int .u8 (cc / 65536 % 256), .int .u8 (cc / 16777216)] 5)) w.heap.size
      (.slice (some ⟨w.heap.size, 0, none⟩) 8 8) (.slice a r.length c) (le4 n ++ le4 cc) r (ownsRow_lit w w.heap.size (Nat.le_refl _) _ (le4 n ++ le4 cc) (by show _ = bcells [n % 256, n / 256 % 256, n / 65536 % 256, n / 16777216, cc % 256, cc / 256 % 256, cc / 65536 % 256, cc / 16777216]; rw [show n / 65536 % 256 = n / 65536 from by omega]; rfl) (by simp [le4, maxLen])) (by simp) (reads_later HR.out HW (fun _ _ h => h)) (by simp [le4]; omega)
    have R' := Lib.hid R
    have O' := Lib.hid O
    have M' := Lib.hid ((HW.trans M (fun k hk h => by simp [Value.ownBlock] at h; omega)).toBelow)
    clear R O M HW
    go_wp2_with (at_builtin; refine wpList_append_run rfl (.tmp 38) (.tmp 39) 22 rfl rfl rfl R'.out ?_)
    go_ret2
    rw [E.out]
    exact ⟨_, rfl, O'.out, M'.out⟩
end Go.Proofs.YtmpdmejlpicdlaaDoor

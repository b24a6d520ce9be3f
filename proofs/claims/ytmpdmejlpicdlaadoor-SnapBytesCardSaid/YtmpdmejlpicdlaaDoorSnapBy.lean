/- SnapBytes, walked. -/
import Derived.Test.YtmpdmejlpicdlaaDoorDiskIn
import Derived.Test.YtmpdmejlpicdlaaDoorSnapW
import Derived.Test.YtmpdmejlpicdlaaDoorSnapRd
namespace Go.Proofs.YtmpdmejlpicdlaaDoor
open Go.RowKit Go.Bw Go.Maps
set_option linter.unusedVariables false
set_option linter.unusedSimpArgs false

set_option maxRecDepth 100000 in
set_option maxHeartbeats 3000000 in
theorem bytes_walk (w : World) (n : Int) (hn0 : -9223372036854775808 ≤ n) (hn1 : n ≤ 9223372036854775807) (a : Option Addr) (c : Nat) (xs : List Int)
    (hR : Reads w 1 (.slice a xs.length c) xs.length (bcells xs)) (hc : xs.length ≤ c) (hB : Bytes xs) (hL : Laid w) (hl : xs.length ≤ 140737488351232) :
    Calls Tryd.prog 3 #[.int .i64 n, .slice a xs.length c] w (SaysOut w true) := by
  have HR := Lib.hid hR
  have HB := Lib.hid hB
  have HL := Lib.hid hL
  have HC := Lib.hid hc
  clear hR hB hL hc
  go_enter Tryd.func3, Tryd.ntmps3
  go_wp2_with fail
  refine (swakes_any w HL.out).mono ?_
  rintro e w1 ⟨rfl, hb⟩
  have B1 := Lib.hid hb
  have L1 := Lib.hid (HL.out.below hb)
  have R1 := Lib.hid (reads_later HR.out (Mod.ofBelow hb) (fun _ _ h => h))
  clear hb
  go_wp2_with fail
  refine (decode_any w1 n hn0 hn1 _ xs R1.out (fun a k c e => by cases e; exact HC.out) HB.out hl L1.out).mono ?_
  rintro e w2 ⟨v2, rfl, ho, hb⟩
  have O2 := Lib.hid ho
  have B2 := Lib.hid (B1.out.trans (hb.mono B1.out.size))
  have L2 := Lib.hid (L1.out.below hb)
  have R2 := Lib.hid (reads_later R1.out (Mod.ofBelow hb) (fun _ _ h => h))
  clear ho hb
  obtain ⟨d1, d2, hd⟩ : ∃ d1 d2, decode n xs = (d1, d2) := ⟨_, _, rfl⟩
  have HD := Lib.hid hd
  have O2' := O2.out
  rw [hd] at O2' ⊢
  have O2 := Lib.hid O2'
  have hdl : d1.length ≤ 140737488351232 := by
    have e : d1 = (decode n xs).1 := by rw [hd]
    rw [e]; unfold decode
    split
    · simp
    split
    · simp
    split
    · simp
    split
    · simp
    · simp; omega
  clear O2' hd
  go_wp2_with fail
  refine (rdecode_any w2 n hn0 hn1 _ xs R2.out (fun a k c e => by cases e; exact HC.out) HB.out hl).mono ?_
  rw [HD.out]
  rintro e w3 ⟨v3, rfl, ho, hb⟩
  have O3 := Lib.hid ho
  have B3 := Lib.hid (B2.out.trans (hb.mono B2.out.size))
  have L3 := Lib.hid (L2.out.below hb)
  have R3 := Lib.hid (reads_later R2.out (Mod.ofBelow hb) (fun _ _ h => h))
  have X3 := Lib.hid (reads_later (ownsRow_reads O2.out) (Mod.ofBelow hb) (fun _ _ h => h))
  have Y3 := Lib.hid (ownsRow_reads ho)
  clear ho hb
  go_wp2_with fail
  refine (snapName_any w3 n hn0 hn1 L3.out).mono ?_
  rintro e w4 ⟨rfl, hb⟩
  have B4 := Lib.hid (B3.out.trans (hb.mono B3.out.size))
  have L4 := Lib.hid (L3.out.below hb)
  have R4 := Lib.hid (reads_later R3.out (Mod.ofBelow hb) (fun _ _ h => h))
  have X4 := Lib.hid (reads_later X3.out (Mod.ofBelow hb) (fun _ _ h => h))
  have Y4 := Lib.hid (reads_later Y3.out (Mod.ofBelow hb) (fun _ _ h => h))
  obtain ⟨S, hS⟩ : ∃ S : ByteArray, S = ⟨(nm9 115 0 n).toArray⟩ := ⟨_, rfl⟩
  rw [← hS]
  have HS := Lib.hid hS
  clear hb hS
  go_wp2_with fail
  refine (rname_any w4 n).mono ?_
  rintro e w5 ⟨rfl, hb⟩
  rw [← HS.out]
  have B5 := Lib.hid (B4.out.trans (hb.mono B4.out.size))
  have L5 := Lib.hid (L4.out.below hb)
  have R5 := Lib.hid (reads_later R4.out (Mod.ofBelow hb) (fun _ _ h => h))
  have X5 := Lib.hid (reads_later X4.out (Mod.ofBelow hb) (fun _ _ h => h))
  have Y5 := Lib.hid (reads_later Y4.out (Mod.ofBelow hb) (fun _ _ h => h))
  clear hb
  go_wp2_with fail
  refine (encode_any w5 n _ xs R5.out hl L5.out).mono ?_
  rintro e w6 ⟨v6, rfl, ho, hb⟩
  have O6 := Lib.hid (ownsRow_reads ho)
  have B6 := Lib.hid (B5.out.trans (hb.mono B5.out.size))
  have R6 := Lib.hid (reads_later R5.out (Mod.ofBelow hb) (fun _ _ h => h))
  have X6 := Lib.hid (reads_later X5.out (Mod.ofBelow hb) (fun _ _ h => h))
  have Y6 := Lib.hid (reads_later Y5.out (Mod.ofBelow hb) (fun _ _ h => h))
  clear ho hb
  go_wp2_with fail
  refine (rencode_any w6 n _ xs hn0 hn1 R6.out hl).mono ?_
  rintro e w7 ⟨v7, rfl, ho, hb⟩
  have O7 := Lib.hid (ownsRow_reads ho)
  have P7 := Lib.hid (reads_later O6.out (Mod.ofBelow hb) (fun _ _ h => h))
  have B7 := Lib.hid (B6.out.trans (hb.mono B6.out.size))
  have X7 := Lib.hid (reads_later X6.out (Mod.ofBelow hb) (fun _ _ h => h))
  have Y7 := Lib.hid (reads_later Y6.out (Mod.ofBelow hb) (fun _ _ h => h))
  clear ho hb
  go_wp2_with fail
  refine (same_yes w7 _ _ (encode n xs) P7.out O7.out (by rw [encode_length]; omega)).mono ?_
  rintro e w8 ⟨rfl, hb⟩
  have B8 := Lib.hid (B7.out.trans (hb.mono B7.out.size))
  have X8 := Lib.hid (reads_later X7.out (Mod.ofBelow hb) (fun _ _ h => h))
  have Y8 := Lib.hid (reads_later Y7.out (Mod.ofBelow hb) (fun _ _ h => h))
  clear hb
  go_wp2_with fail
  refine (same_yes w8 _ _ d1 X8.out Y8.out (by omega)).mono ?_
  rintro e w9 ⟨rfl, hb⟩
  have B9 := Lib.hid (B8.out.trans (hb.mono B8.out.size))
  clear hb
  go_wp2_with fail
  go_ret
  exact ⟨rfl, B9.out⟩

theorem snapBytes_in (w : World) (n : Int) (a : Option Addr) (len c : Nat) (h0 : HasVal Tryd.prog w 3 [.int .i64 n]) (h1 : HasVal Tryd.prog w 22 [.slice a len c]) (hL : Laid w) :
    Calls Tryd.prog 3 #[.int .i64 n, .slice a len c] w (SaysOut w true) := by
  obtain ⟨m, hm, hw⟩ := h0.int Tryd.underlying3
  cases hm
  have b1 := bounds_i64 hw
  obtain ⟨x, c', xs, hv, hR, hl, hc, hB⟩ := bytesIn2 h1
  cases hv
  exact bytes_walk w n b1.1 b1.2 a c xs hR hc hB hL hl
end Go.Proofs.YtmpdmejlpicdlaaDoor

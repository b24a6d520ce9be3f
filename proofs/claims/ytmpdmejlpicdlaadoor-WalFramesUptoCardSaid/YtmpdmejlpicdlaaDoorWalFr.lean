/- The law WalFrames, walked. -/
import Derived.Test.YtmpdmejlpicdlaaDoorWalRg
import Derived.Test.YtmpdmejlpicdlaaDoorWalW
import Derived.Test.YtmpdmejlpicdlaaDoorWalIn
namespace Go.Proofs.YtmpdmejlpicdlaaDoor
open Go.RowKit Go.Bw Go.Maps
set_option linter.unusedVariables false
set_option linter.unusedSimpArgs false

theorem recsGo_small : ∀ (f : Nat) (b : List Int), ∀ x ∈ recsGo f b, x.length ≤ 65536
  | 0, _ => by intro x hx; cases hx
  | f + 1, b => by
    intro x hx
    unfold recsGo at hx
    cases hr : rec1 b with
    | none => rw [hr] at hx; cases hx
    | some r =>
      rw [hr] at hx
      rcases List.mem_cons.1 hx with h | h
      · subst h
        unfold rec1 at hr
        split at hr
        · cases hr
        · split at hr
          · cases hr
          · split at hr
            · cases hr
              rw [List.length_take]; omega
            · cases hr
      · exact recsGo_small f _ x h
theorem recsGo_few : ∀ (f : Nat) (b : List Int), (recsGo f b).length ≤ f
  | 0, _ => Nat.le_refl _
  | f + 1, b => by
    unfold recsGo
    split
    · simp
    · have := recsGo_few f
      simp only [List.length_cons]
      have := this (b.drop (8 + (by assumption : List Int).length))
      omega

set_option maxRecDepth 100000 in
set_option maxHeartbeats 2000000 in
theorem walFrames_in (W : World) (n : Int) (ad : Option Addr) (len cap : Nat) (V0 : HasVal Tryd.prog W 3 [.int .i64 n]) (V1 : HasVal Tryd.prog W 22 [.slice ad len cap]) (HL : Laid W) (hlen : len ≤ 1048576) :
    Calls Tryd.prog 7 #[.int .i64 n, .slice ad len cap] W (SaysOut W true) := by
  obtain ⟨n', hn', hn0, hn1⟩ := intIn V0
  cases hn'
  obtain ⟨x, c, xs, hv, hR, _, hcl, hB⟩ := bytesIn2 V1
  obtain ⟨a', len', cap', hv', _, _, hnil, _, _⟩ := V1.slice Tryd.underlying22
  cases hv
  cases hv'
  have HR := Lib.hid hR
  have HLL := Lib.hid HL
  have HLEN := Lib.hid hlen
  have HN := Lib.hid (And.intro hn0 hn1)
  have HC := Lib.hid (show ∀ a k c', Value.slice ad xs.length cap = .slice a k c' → k ≤ c' from fun _ _ _ e => by cases e; exact hcl)
  have HZ := Lib.hid (show ∀ k c', Value.slice ad xs.length cap = .slice none k c' → c' = 0 from fun _ _ e => by cases e; exact hnil rfl)
  have HB := Lib.hid (show Bytes xs from hB)
  clear V0 V1 hR HL hlen hn0 hn1 hcl hnil hB
  obtain ⟨FA, hFA⟩ : ∃ FA, FA = frameA xs := ⟨_, rfl⟩
  obtain ⟨fb, fe⟩ := FA
  obtain ⟨L, hLr⟩ : ∃ L, L = recs xs := ⟨_, rfl⟩
  obtain ⟨en, hen⟩ : ∃ e, e = ends (recs xs) := ⟨_, rfl⟩
  have FBL := Lib.hid (show fb.length ≤ 140737488355328 from by
    have h : fb = (frameA xs).1 := by rw [← hFA]
    rw [h]; unfold frameA
    split
    · simp
    · simp only []; rw [frame_length]; have := HLEN.out; omega)
  have LL := Lib.hid (show L.length ≤ 140737488351232 ∧ ∀ x ∈ L, x.length ≤ 140737488351232 from by
    rw [hLr]
    refine ⟨?_, fun y hy => ?_⟩
    · have := recsGo_few (xs.length + 1) xs; unfold recs; have := HLEN.out; omega
    · have := recsGo_small (xs.length + 1) xs y hy; omega)
  have EF := Lib.hid hFA
  have EL := Lib.hid hLr
  have EN := Lib.hid hen
  clear hFA hLr hen
  go_enter Tryd.func7, Tryd.ntmps7
  go_wp2_with fail
  refine (wwakes_any W HLL.out).mono ?_
  rintro e w1 ⟨rfl, hb1⟩
  have B1 := Lib.hid hb1
  have L1 := Lib.hid (HLL.out.below hb1)
  have R1 := Lib.hid (reads_later HR.out (Mod.ofBelow hb1) (fun _ _ h => h))
  clear hb1
  go_wp2_with fail
  refine (frame_any w1 _ xs R1.out (by have := HLEN.out; omega) L1.out).mono ?_
  unfold DecOut
  rw [← EF.out]
  rintro e w2 ⟨v2, rfl, ho2, hb2⟩
  have F2 := Lib.hid (ownsRow_reads ho2)
  have B2 := Lib.hid (B1.out.trans (hb2.mono B1.out.size))
  have R2 := Lib.hid (reads_later R1.out (Mod.ofBelow hb2) (fun _ _ h => h))
  have L2 := Lib.hid (L1.out.below hb2)
  clear ho2 hb2
  go_wp2_with fail
  refine (wrframe_any w2 _ xs R2.out (by have := HLEN.out; omega)).mono ?_
  unfold DecOut
  rw [← EF.out]
  rintro e w3 ⟨v3, rfl, ho3, hb3⟩
  have G3 := Lib.hid (ownsRow_reads ho3)
  have F3 := Lib.hid (Reads.kept F2.out (Mod.ofBelow hb3) (fun _ _ h => h))
  have B3 := Lib.hid (B2.out.trans (hb3.mono B2.out.size))
  have R3 := Lib.hid (reads_later R2.out (Mod.ofBelow hb3) (fun _ _ h => h))
  have L3 := Lib.hid (L2.out.below hb3)
  clear ho3 hb3
  go_wp2_with fail
  refine (records_any w3 _ xs R3.out HC.out HB.out (by have := HLEN.out; omega) L3.out).mono ?_
  unfold RecsOut
  rw [← EL.out, show ends L = en from by rw [EL.out, EN.out]]
  rintro e w4 ⟨v4, rfl, hr4, hb4⟩
  have A4 := Lib.hid hr4
  have F4 := Lib.hid (Reads.kept F3.out (Mod.ofBelow hb4) (fun _ _ h => h))
  have G4 := Lib.hid (Reads.kept G3.out (Mod.ofBelow hb4) (fun _ _ h => h))
  have B4 := Lib.hid (B3.out.trans (hb4.mono B3.out.size))
  have R4 := Lib.hid (reads_later R3.out (Mod.ofBelow hb4) (fun _ _ h => h))
  have L4 := Lib.hid (L3.out.below hb4)
  clear hr4 hb4
  go_wp2_with fail
  refine (wrrecords_any w4 _ xs R4.out HC.out HZ.out HB.out (by have := HLEN.out; omega)).mono ?_
  unfold RecsOut
  rw [← EL.out, show ends L = en from by rw [EL.out, EN.out]]
  rintro e w5 ⟨v5, rfl, hr5, hb5⟩
  have C5 := Lib.hid hr5
  have A5 := Lib.hid (A4.out.below hb5)
  have F5 := Lib.hid (Reads.kept F4.out (Mod.ofBelow hb5) (fun _ _ h => h))
  have G5 := Lib.hid (Reads.kept G4.out (Mod.ofBelow hb5) (fun _ _ h => h))
  have B5 := Lib.hid (B4.out.trans (hb5.mono B4.out.size))
  have L5 := Lib.hid (L4.out.below hb5)
  clear hr5 hb5
  obtain ⟨S, hS⟩ : ∃ S : ByteArray, S = ⟨(nm9 106 1 n).toArray⟩ := ⟨_, rfl⟩
  have ES := Lib.hid hS
  clear hS
  go_wp2_with fail
  refine (walName_any w5 n HN.out.1 HN.out.2 L5.out).mono ?_
  unfold StrOut
  rw [← ES.out]
  rintro e w6 ⟨rfl, hb6⟩
  have B6 := Lib.hid (B5.out.trans (hb6.mono B5.out.size))
  have A6 := Lib.hid (A5.out.below hb6)
  have C6 := Lib.hid (C5.out.below hb6)
  have F6 := Lib.hid (Reads.kept F5.out (Mod.ofBelow hb6) (fun _ _ h => h))
  have G6 := Lib.hid (Reads.kept G5.out (Mod.ofBelow hb6) (fun _ _ h => h))
  clear hb6
  go_wp2_with fail
  refine (wrname_any w6 n).mono ?_
  unfold StrOut
  rw [← ES.out]
  rintro e w7 ⟨rfl, hb7⟩
  have B7 := Lib.hid (B6.out.trans (hb7.mono B6.out.size))
  have A7 := Lib.hid (A6.out.below hb7)
  have C7 := Lib.hid (C6.out.below hb7)
  have F7 := Lib.hid (Reads.kept F6.out (Mod.ofBelow hb7) (fun _ _ h => h))
  have G7 := Lib.hid (Reads.kept G6.out (Mod.ofBelow hb7) (fun _ _ h => h))
  clear hb7
  go_wp2_with fail
  refine (same5_yes w7 _ _ fb F7.out G7.out FBL.out).mono ?_
  rintro e w8 ⟨rfl, hb8⟩
  have B8 := Lib.hid (B7.out.trans (hb8.mono B7.out.size))
  have A8 := Lib.hid (A7.out.below hb8)
  have C8 := Lib.hid (C7.out.below hb8)
  clear hb8
  go_wp2_with fail
  refine (alike_yes w8 _ _ L A8.out.rd C8.out.rd LL.out.1 LL.out.2).mono ?_
  rintro e w9 ⟨rfl, hb9⟩
  have B9 := Lib.hid (B8.out.trans (hb9.mono B8.out.size))
  clear hb9
  go_wp2_with fail
  go_ret
  exact ⟨by first | rfl | simp, B9.out⟩
end Go.Proofs.YtmpdmejlpicdlaaDoor

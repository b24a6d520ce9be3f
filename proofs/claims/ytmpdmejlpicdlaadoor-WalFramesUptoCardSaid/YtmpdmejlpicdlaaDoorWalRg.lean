/- The document's Records. -/
import Derived.Test.YtmpdmejlpicdlaaDoorWalRf
import Derived.Test.YtmpdmejlpicdlaaDoorWalRb
import Derived.Test.YtmpdmejlpicdlaaDoorSnapRd
namespace Go.Proofs.YtmpdmejlpicdlaaDoor
open Go.RowKit Go.Bw Go.Maps
set_option linter.unusedVariables false
set_option linter.unusedSimpArgs false

theorem slice_from2 (w : World) (b o n c k : Nat) (x : Int) (hx : x = k) (h : k ≤ n) (hc : n ≤ c) :
    (Instr.slice 22 (.slice (some ⟨b, o, none⟩) n c) (some (.int .i64 x)) none none).run Tryd.prog w = .ok (.slice (if c = k then some ⟨b, o, none⟩ else some ⟨b, o + k, none⟩) (n - k) (c - k)) w := by
  subst hx
  obtain ⟨m, rfl⟩ : ∃ m, n = m + k := ⟨n - k, by omega⟩
  have := slice_from w b o m c k hc
  rw [show m + k - k = m from by omega]
  exact this
theorem slice_nil0 (w : World) : (Instr.slice 22 (.slice none 0 0) (some (.int .i64 0)) none none).run Tryd.prog w = .ok (.slice none 0 0) w := by
  have ht := Tryd.underlying22
  simp [Instr.slice, go_sem, run_underlying ht]
/-- A frame and what it is read from. -/
theorem frame_iff {h : List Int} (hB : Bytes h) {k : Nat} (hk : k ≤ 65536) (hl : 8 + k ≤ h.length) (h0 : num4 h 0 = k) : (frame ((h.drop 8).take k) = h.take (8 + k)) ↔ crc ((h.drop 8).take k) = num4 h 4 := by
  have hrl : ((h.drop 8).take k).length = k := by rw [List.length_take, List.length_drop]; omega
  have e0 := le4_num hB (show 0 + 4 ≤ h.length by omega)
  have e4 := le4_num hB (show 4 + 4 ≤ h.length by omega)
  rw [List.drop_zero, h0] at e0
  have et : h.take (8 + k) = le4 (k : Int) ++ (le4 (num4 h 4) ++ (h.drop 8).take k) := by
    have a1 : h.take (8 + k) = h.take 4 ++ (h.drop 4).take (4 + k) := by rw [show 8 + k = 4 + (4 + k) from by omega, List.take_add]
    have a2 : (h.drop 4).take (4 + k) = (h.drop 4).take 4 ++ ((h.drop 4).drop 4).take k := by rw [List.take_add]
    rw [a1, a2, e0, e4, List.drop_drop]
  rw [et]
  unfold frame
  rw [hrl, List.append_assoc, List.append_cancel_left_eq, List.append_cancel_right_eq]
  constructor
  · intro h
    have b := num4_bounds hB 4 (by omega)
    exact le4_inj (crc_lo _) (crc_hi _) b.1 b.2 (by assumption)
  · intro h; rw [h]

theorem slice_zero (w : World) (a : Addr) (c : Nat) : (Instr.slice 22 (.slice (some a) 0 c) (some (.int .i64 0)) none none).run Tryd.prog w = .ok (.slice (some a) 0 c) w := by
  have ht := Tryd.underlying22
  have ha : a.add 0 = a := by cases a; simp [Addr.add]
  by_cases hc : c = 0
  · subst hc; simp [Instr.slice, go_sem, run_underlying ht]
  · simp [Instr.slice, go_sem, run_underlying ht, hc, ha]
theorem slice_to2 (w : World) (b o n c k : Nat) (x : Int) (hx : x = k) (h : k ≤ c) :
    (Instr.slice 22 (.slice (some ⟨b, o, none⟩) n c) none (some (.int .i64 x)) none).run Tryd.prog w = .ok (.slice (some ⟨b, o, none⟩) k c) w := by
  subst hx; exact slice_to w b o n c k h
theorem convert_to {w : World} {v : Value} {xs : List Int} (hR : Reads w 1 v xs.length (bcells xs)) (h0 : xs ≠ []) : (convert 22 9 v).run Tryd.prog w = .ok (.string (strOfNums xs)) w := by
  cases xs with
  | nil => exact absurd rfl h0
  | cons x xs => exact convert_reads hR

set_option maxRecDepth 100000 in
set_option maxHeartbeats 3000000 in
theorem wrrecords_any (w : World) (v : Value) (b : List Int) (hR : Reads w 1 v b.length (bcells b)) (hc : ∀ a k c, v = .slice a k c → k ≤ c) (hnil : ∀ k c, v = .slice none k c → c = 0) (hB : Bytes b) (hl : b.length ≤ 1099511627776) :
    Calls Tryd.prog 31 #[v] w (RecsOut w b) := by
  obtain ⟨a, c, rfl⟩ := reads_form hR
  have hcl := hc _ _ _ rfl
  by_cases hz : b.length = 0
  · have hbn : b = [] := List.eq_nil_of_length_eq_zero hz
    subst hbn
    have hs0 : ∀ w, (Instr.slice 22 (.slice a 0 c) (some (.int .i64 0)) none none).run Tryd.prog w = .ok (.slice a 0 c) w := fun w => by
      cases a with
      | none => rw [hnil _ _ rfl]; exact slice_nil0 w
      | some a => exact slice_zero w a c
    clear hR hB hc hnil hcl hz hl
    go_enter Tryd.func31, Tryd.ntmps31
    go_wp2_with fail
    go_loopw [4, 5] (fun ov at_ wr => ov = .slice none 0 0 ∧ at_ = .int .i64 0 ∧ wr = w) (fun _ _ _ => 0)
    case atStart => exact ⟨rfl, rfl, rfl⟩
    case round =>
      obtain ⟨rfl, rfl, rfl⟩ := hrel
      go_wp2_with fail
      go_ret2
      exact ⟨_, rfl, RowsAt.nil _ _, Below.refl _ _⟩
  obtain ⟨bb, oo, rfl⟩ : ∃ bb oo, a = some ⟨bb, oo, none⟩ := by
    cases a with
    | none => exact absurd (reads_empty hR).2 (fun h => hz (by rw [h]; rfl))
    | some a =>
      have h0 := reads_at hR (k := 0) (by omega)
      obtain ⟨bb, o, sp⟩ := a
      cases sp with
      | none => exact ⟨bb, o, rfl⟩
      | some s => simp [World.cell?, Addr.add] at h0; split at h0 <;> cases h0
  have HR := Lib.hid hR
  have HB := Lib.hid hB
  have HCL := Lib.hid hcl
  clear hR hB hc hcl hnil hz
  obtain ⟨R, hRR⟩ : ∃ R, R = recs b := ⟨_, rfl⟩
  have RR := Lib.hid hRR
  clear hRR
  go_enter Tryd.func31, Tryd.ntmps31
  go_wp2_with fail
  go_loopw [4, 5] (fun ov at_ wr => ∃ (L : List (List Int)) (f : Nat), at_ = .int .i64 (ends L : Nat) ∧ ends L ≤ b.length ∧ b.length - ends L < f ∧ RowsAt wr (fun k => w.heap.size ≤ k) ov L ∧ Hid (R = L ++ recsGo f (b.drop (ends L))) ∧ Below w.heap.size w wr) (fun _ i _ => b.length - (intOf i).toNat)
  case atStart => exact ⟨[], b.length + 1, rfl, Nat.zero_le _, by simp [ends], RowsAt.nil _ _, RR, Below.refl _ _⟩
  case round =>
    obtain ⟨L, f, rfl, he, hf, hrow, EJ, hb⟩ := hrel
    have ROW := Lib.hid hrow
    have BW := Lib.hid hb
    have MW := Lib.hid (Mod.ofBelow hb)
    clear hrow hb
    obtain ⟨E, hE⟩ : ∃ E, E = ends L := ⟨_, rfl⟩
    rw [← hE] at he hf EJ ⊢
    have HE := Lib.hid hE
    clear hE
    have stop : ∀ W, Mod (fun _ => False) wr W → rec1 (b.drop E) = none → RecsOut w b (.returned (.tuple #[u4, .int .i64 (E : Nat)])) W := fun W hW hn => by
      have e1 : recs b = L := by rw [← RR.out, EJ.out, recsGo_none hn, List.append_nil]
      unfold RecsOut
      rw [e1, ← HE.out]
      exact ⟨_, rfl, ROW.out.mod hW (fun _ _ h => h), BW.out.trans (hW.toBelow.mono BW.out.size)⟩
    obtain ⟨lb, hlb⟩ : ∃ lb, lb = b.length - E := ⟨_, rfl⟩
    obtain ⟨A, hA⟩ : ∃ A, A = (if c = E then some ⟨bb, oo, none⟩ else some ⟨bb, oo + E, none⟩ : Option Addr) := ⟨_, rfl⟩
    have hsl : ∀ w, (Instr.slice 22 (.slice (some ⟨bb, oo, none⟩) b.length c) (some (.int .i64 (E : Int))) none none).run Tryd.prog w = .ok (.slice A lb (c - E)) w := fun w => by
      rw [hA, hlb]; exact slice_from2 w bb oo b.length c E (E : Int) rfl he HCL.out
    have RD := Lib.hid (reads_later HR.out MW.out (fun _ _ h => h))
    by_cases h8 : lb < 8
    · have h8' : (lb : Int) < 8 := by omega
      have ST := Lib.hid (stop wr (Mod.refl _ _) (by unfold rec1; rw [if_pos (by rw [List.length_drop]; omega)]))
      clear stop h8 hA
      go_wp2_with fail
      go_ret2
      exact ST.out
    obtain ⟨p, hp⟩ : ∃ p, p = oo + E := ⟨_, rfl⟩
    rw [if_neg (by have := HCL.out; omega), ← hp] at hA
    subst hA
    -- the four bytes ahead
    have cell : ∀ i, i < 4 → ∃ y : Int, wr.cell? ⟨bb, p + i, none⟩ = some (.int .u8 y) ∧ (0 ≤ y ∧ y ≤ 255) ∧ (b.drop E).getD i 0 = y := fun i hi => by
      have h1 := reads_at RD.out (k := E + i) (by omega)
      rw [addr_add, ← Nat.add_assoc, ← hp] at h1
      exact ⟨_, h1, HB.out _ (List.getElem_mem _), by rw [List.getD_eq_getElem?_getD, List.getElem?_drop, List.getElem?_eq_getElem (by omega)]; rfl⟩
    obtain ⟨y0, c0, g0, e0⟩ := cell 0 (by omega)
    obtain ⟨y1, c1, g1, e1⟩ := cell 1 (by omega)
    obtain ⟨y2, c2, g2, e2⟩ := cell 2 (by omega)
    obtain ⟨y3, c3, g3, e3⟩ := cell 3 (by omega)
    obtain ⟨k1, hk1⟩ : ∃ k : Int, k = y1 * 256 := ⟨_, rfl⟩
    obtain ⟨k2, hk2⟩ : ∃ k : Int, k = y2 * 65536 := ⟨_, rfl⟩
    obtain ⟨k3, hk3⟩ : ∃ k : Int, k = y3 * 16777216 := ⟨_, rfl⟩
    obtain ⟨z1, hz1⟩ : ∃ k : Int, k = y0 + k1 := ⟨_, rfl⟩
    obtain ⟨z2, hz2⟩ : ∃ k : Int, k = z1 + k2 := ⟨_, rfl⟩
    obtain ⟨n, hn⟩ : ∃ n : Int, n = z2 + k3 := ⟨_, rfl⟩
    have N0 := Lib.hid (show num4 (b.drop E) 0 = n from by unfold num4; rw [e0, show 0 + 1 = 1 from rfl, show 0 + 2 = 2 from rfl, show 0 + 3 = 3 from rfl, e1, e2, e3]; omega)
    have n0 : 0 ≤ n := by omega
    have n1 : n ≤ 4294967295 := by omega
    have q1 : IntKind.i64.wrap (y1 * 256) = k1 := by rw [← hk1]; exact IntWalk.i64_in _ (by omega)
    have q2 : IntKind.i64.wrap (y2 * 65536) = k2 := by rw [← hk2]; exact IntWalk.i64_in _ (by omega)
    have q3 : IntKind.i64.wrap (y3 * 16777216) = k3 := by rw [← hk3]; exact IntWalk.i64_in _ (by omega)
    have q4 : IntKind.i64.wrap (y0 + k1) = z1 := by rw [← hz1]; exact IntWalk.i64_in _ (by omega)
    have q5 : IntKind.i64.wrap (z1 + k2) = z2 := by rw [← hz2]; exact IntWalk.i64_in _ (by omega)
    have q6 : IntKind.i64.wrap (z2 + k3) = n := by rw [← hn]; exact IntWalk.i64_in _ (by omega)
    rw [Nat.add_zero] at c0
    clear cell e0 e1 e2 e3 hk1 hk2 hk3 hz1 hz2 hn
    have h8' : ¬ (lb : Int) < 8 := by omega
    have l0 : (0 : Int) < (lb : Int) := by omega
    have l1 : (1 : Int) < (lb : Int) := by omega
    have l2 : (2 : Int) < (lb : Int) := by omega
    have l3 : (3 : Int) < (lb : Int) := by omega
    have HSTOP := Lib.hid stop
    have HLB := Lib.hid hlb
    have HP := Lib.hid hp
    clear stop hlb hp
    go_wp2_with fail
    go_quiet (fail)
    have MD := Lib.hid ((Mod.refl (fun _ => False) wr).drewN nq)
    have ROW2 := Lib.hid (ROW.out.mod MD.out (fun _ _ h => h))
    have MW2 := Lib.hid (MW.out.trans MD.out (fun _ _ h => h))
    have RD2 := Lib.hid (Reads.kept RD.out MD.out (fun _ _ h => h))
    generalize wr.drewN nq = w2 at MD ROW2 MW2 RD2 ⊢
    clear c0 c1 c2 c3 hsl g0 g1 g2 g3 l0 l1 l2 l3 q1 q2 q3 q4 q5 q6
    have hdl : (b.drop E).length = b.length - E := List.length_drop
    have R1 := Lib.hid (show rec1 (b.drop E) = if 65536 < n ∨ (lb : Int) - 8 < n then none else if crc (((b.drop E).drop 8).take n.toNat) = num4 (b.drop E) 4 then some (((b.drop E).drop 8).take n.toNat) else none from by
      unfold rec1
      rw [if_neg (by have := HLB.out; omega), hdl, N0.out, ← HLB.out])
    by_cases hbig : 65536 < n
    · have ST := Lib.hid (HSTOP.out w2 MD.out (by rw [R1.out, if_pos (Or.inl hbig)]))
      go_wp2_with fail
      go_ret2
      exact ST.out
    by_cases hlong : (lb : Int) - 8 < n
    · have ST := Lib.hid (HSTOP.out w2 MD.out (by rw [R1.out, if_pos (Or.inr hlong)]))
      have hlong' : (lb : Int) < 8 + n := by omega
      clear hlong
      go_wp2_with fail
      go_ret2
      exact ST.out
    obtain ⟨k, rfl⟩ := Int.eq_ofNat_of_zero_le n0
    have hkl : 8 + k ≤ lb := by omega
    have hk6 : k ≤ 65536 := by omega
    have hlong' : ¬ (lb : Int) < 8 + (k : Int) := by omega
    obtain ⟨h, hh⟩ : ∃ h, h = b.drop E := ⟨_, rfl⟩
    have hhl : h.length = lb := by rw [hh, hdl]; have := HLB.out; omega
    rw [← hh] at R1 N0 hdl
    have RH := Lib.hid (show Reads w2 1 (.slice (some ⟨bb, p, none⟩) lb (c - E)) lb (bcells h) from by
      have := reads_mid (c' := c - E) (k := lb) (lo := E) RD2.out HCL.out (by have := HLB.out; omega)
      rw [if_neg (by have := HCL.out; have := HLB.out; omega), ← HP.out, ← hh, List.take_of_length_le (by omega)] at this
      exact this)
    have BH := Lib.hid (show Bytes h from by rw [hh]; exact bytes_drop HB.out E)
    have HH := Lib.hid hh
    have HHL := Lib.hid hhl
    have hcap : lb ≤ c - E := by have := HCL.out; have := HLB.out; omega
    have CAP := Lib.hid hcap
    clear hh hhl hdl
    obtain ⟨A2, hA2⟩ : ∃ A, A = (if c - E = 8 then some ⟨bb, p, none⟩ else some ⟨bb, p + 8, none⟩ : Option Addr) := ⟨_, rfl⟩
    have hsl2 : ∀ w, (Instr.slice 22 (.slice (some ⟨bb, p, none⟩) lb (c - E)) (some (.int .i64 8)) (some (.int .i64 (8 + (k : Int)))) none).run Tryd.prog w = .ok (.slice A2 k (c - E - 8)) w := fun w => by
      have := slice_mid w bb p lb (c - E) 8 (8 + k) 8 (8 + (k : Int)) (by omega) (by omega) (by omega) (by omega)
      rw [← hA2, show 8 + k - 8 = k from by omega] at this
      exact this
    obtain ⟨r, hr⟩ : ∃ r, r = (h.drop 8).take k := ⟨_, rfl⟩
    have hrl : r.length = k := by rw [hr, List.length_take, List.length_drop]; have := HHL.out; omega
    have RA := Lib.hid (show Reads w2 1 (.slice A2 k (c - E - 8)) r.length (bcells r) from by
      have := reads_mid (c' := c - E - 8) (k := k) (lo := 8) RH.out hcap (by omega)
      rw [← hA2, ← hr] at this
      rw [hrl]; exact this)
    have R2 := Lib.hid (show rec1 h = if crc r = num4 h 4 then some r else none from by
      rw [R1.out, if_neg (by omega), show ((k : Nat) : Int).toNat = k from by omega, ← hr])
    have IFF := Lib.hid (show frame r = h.take (8 + k) ↔ crc r = num4 h 4 from by rw [hr]; exact frame_iff BH.out hk6 (by rw [HHL.out]; omega) N0.out)
    have BR := Lib.hid (show Bytes r from by rw [hr]; intro y hy; exact BH.out y (List.mem_of_mem_drop (List.mem_of_mem_take hy)))
    have HRL := Lib.hid hrl
    clear hA2 hr hrl n0 n1
    obtain ⟨v5, w5, R5, O5, M5, N5⟩ := app_run2 (w2.alloc (.cells #[] 5)) w2.heap.size (.slice (some ⟨w2.heap.size, 0, none⟩) 0 0) (.slice A2 k (c - E - 8)) [] r (row_empty w2) (by simp) (Reads.kept RA.out ((Mod.refl (fun _ => False) w2).alloc _) (fun _ _ h => h)) (by rw [HRL.out]; simp; omega)
    rw [List.nil_append] at O5
    have M25 := Lib.hid (show Mod (fun _ => False) w2 w5 from ((Mod.refl (fun _ => False) w2).alloc _).trans M5 (fun k hk h => by simp [Value.ownBlock] at h; omega))
    obtain ⟨a5, c5, hv5, _⟩ := ownsRow_slice O5
    have R5' := Lib.hid R5
    have O5' := Lib.hid O5
    clear R5 O5 M5 N5
    subst hv5
    go_wp2_with (at_builtin; refine wpList_append_run rfl (.tmp 52) (.tmp 56) 22 rfl rfl rfl R5'.out ?_)
    refine (wrframe_any w5 _ r (ownsRow_reads O5'.out) (by rw [HRL.out]; omega)).mono ?_
    unfold DecOut
    rw [show frameA r = (frame r, 0) from by unfold frameA; rw [if_neg (by rw [HRL.out]; omega)]]
    rintro e w7 ⟨v7, rfl, ho7, hb7⟩
    have O7 := Lib.hid ho7
    have M57 := Lib.hid (Mod.ofBelow hb7)
    have M27 := Lib.hid (M25.out.trans M57.out (fun _ _ h => h))
    clear ho7 hb7 hsl2
    obtain ⟨S1, hS1⟩ : ∃ S, S = strOfNums (frame r) := ⟨_, rfl⟩
    obtain ⟨S2, hS2⟩ : ∃ S, S = strOfNums (h.take (8 + k)) := ⟨_, rfl⟩
    have frl := frame_length r
    have tkl : (h.take (8 + k)).length = 8 + k := by rw [List.length_take, HHL.out]; omega
    have CMP := Lib.hid (show (S1.toList == S2.toList) = decide (frame r = h.take (8 + k)) from by
      rw [hS1, hS2]; exact strOf_beq (frame_bytes (by rw [HRL.out]; omega) BR.out) (bytes_take BH.out _))
    have cv1 : ∀ n, (convert 22 9 v7).run Tryd.prog (w7.drewN n) = .ok (.string S1) (w7.drewN n) := fun n => by
      rw [hS1]
      exact convert_to (Reads.kept (ownsRow_reads O7.out) ((Mod.refl (fun _ => False) w7).drewN n) (fun _ _ h => h)) (fun h => by rw [h] at frl; simp at frl)
    have cv2 : ∀ n, (convert 22 9 (.slice (some ⟨bb, p, none⟩) (8 + k) (c - E))).run Tryd.prog (w7.drewN n) = .ok (.string S2) (w7.drewN n) := fun n => by
      rw [hS2]
      have h1 := reads_start (k := 8 + k) (c' := c - E) (Reads.kept (Reads.kept RH.out M27.out (fun _ _ h => h)) ((Mod.refl (fun _ => False) w7).drewN n) (fun _ _ h => h)) (by omega)
      have := convert_to (w := w7.drewN n) (v := .slice (some ⟨bb, p, none⟩) (8 + k) (c - E)) (xs := h.take (8 + k)) (by rw [tkl] at h1 ⊢; exact h1) (fun e => by rw [e] at tkl; simp at tkl; omega)
      exact this
    have hsl3 : ∀ w, (Instr.slice 22 (.slice (some ⟨bb, p, none⟩) lb (c - E)) none (some (.int .i64 (8 + (k : Int)))) none).run Tryd.prog w = .ok (.slice (some ⟨bb, p, none⟩) (8 + k) (c - E)) w := fun w => slice_to2 w bb p lb (c - E) (8 + k) _ (by omega) (by omega)
    clear hS1 hS2 frl tkl
    have ROW7 := Lib.hid (ROW2.out.mod M27.out (fun _ _ h => h))
    have MW7 := Lib.hid (MW2.out.trans M27.out (fun _ _ h => h))
    by_cases hne : crc r = num4 h 4
    case neg =>
      have hc : (S1.toList == S2.toList) = false := by rw [CMP.out]; exact decide_eq_false (fun h => hne (IFF.out.1 h))
      have R3 := Lib.hid (R2.out.trans (if_neg hne))
      clear hne
      go_wp2_with fail
      go_quiet (fail)
      have ST := Lib.hid (HSTOP.out (w7.drewN nq) ((MD.out.trans M27.out (fun _ _ h => h)).drewN nq) (by rw [← HH.out, R3.out]))
      go_wp2_with fail
      go_ret2
      exact ST.out
    have hc : (S1.toList == S2.toList) = true := by rw [CMP.out]; exact decide_eq_true (IFF.out.2 hne)
    have R3 := Lib.hid (R2.out.trans (if_pos hne))
    clear hne
    go_wp2_with fail
    go_quiet (fail)
    clear cv1 cv2 hsl3
    have M78 := Lib.hid ((Mod.refl (fun _ => False) w7).drewN nq)
    have ROW8 := Lib.hid (ROW7.out.mod M78.out (fun _ _ h => h))
    have MW8 := Lib.hid (MW7.out.trans M78.out (fun _ _ h => h))
    have O8 := Lib.hid (ownsRow_kept O5'.out (fun k hk => (M57.out.trans M78.out (fun _ _ h => h)).block k (O5'.out.lt k hk).2 (fun h => h)))
    generalize w7.drewN nq = w8 at M78 ROW8 MW8 O8 ⊢
    have B3 := Lib.hid MW2.out.size
    have SZ8 := Lib.hid (show w2.heap.size ≤ w8.heap.size from by have := M27.out.size; have := M78.out.size; omega)
    have O9 := ownsRow_kept O8.out (w' := w8.alloc (.cells #[.slice a5 r.length c5] 22)) (fun k hk => ((Mod.refl (fun _ => False) w8).alloc _).block k (O8.out.lt k hk).2 (fun h => h))
    obtain ⟨v6, w6, R6, ROW6, M6, _⟩ := app_rows (w8.alloc (.cells #[.slice a5 r.length c5] 22)) (fun k => w.heap.size ≤ k) u4 (.slice (some ⟨w8.heap.size, 0, none⟩) 1 1) L [r] [.slice a5 r.length c5]
      (ROW8.out.mod ((Mod.refl (fun _ => False) w8).alloc _) (fun _ _ h => h)) (reads_one w8 _ _) (fun i x hi => by
        have hi0 : i = 0 := by have := (List.getElem?_eq_some_iff.1 hi).1; simpa using this
        subst hi0
        have hx : r = x := by simpa using hi
        subst hx
        exact ⟨_, rfl, ownsRow_base O9 (fun _ _ => Nat.zero_le _), fun k hk => Nat.le_trans B3.out (O9.lt k hk).1⟩)
      (by have := ends_ge L; have := HE.out; have := HLB.out; simp; omega) (fun k hk => by have h2 := B3.out; have := SZ8.out; simp at hk; omega)
    have R6' := Lib.hid R6
    have ROW6' := Lib.hid ROW6
    have M6' := Lib.hid (show Below w.heap.size w w6 from (((MW8.out.alloc (.cells #[.slice a5 r.length c5] 22)).mono (T := fun k => w.heap.size ≤ k) (fun _ _ h => h.elim)).trans M6 (fun k _ h => by
      obtain ⟨vs, _, hq, _⟩ := ROW.out.ex
      exact hq k h)).mono (T := fun _ => False) (fun k hk h => by omega) |>.toBelow)
    have EJ2 := Lib.hid (show R = (L ++ [r]) ++ recsGo (f - 1) (b.drop (E + (8 + k))) from by
      rw [EJ.out, ← HH.out, recsGo_some R3.out (by omega), HRL.out, HH.out, List.drop_drop]
      simp)
    have HE2 := Lib.hid (show ends (L ++ [r]) = E + (8 + k) from by rw [ends_append, ← HE.out]; simp [ends, HRL.out])
    have LBE := Lib.hid (show E + (8 + k) ≤ b.length ∧ b.length - (E + (8 + k)) < f - 1 from by have := HLB.out; omega)
    clear R6 O9 M6 ROW6
    go_wp2_with (at_builtin; refine wpList_append_run rfl (.tmp 73) (.tmp 75) 37 rfl rfl rfl R6'.out ?_)
    go_roundw
    case rel => exact ⟨L ++ [r], f - 1, by rw [HE2.out]; go_num, by rw [HE2.out]; exact LBE.out.1, by rw [HE2.out]; exact LBE.out.2, ROW6'.out, by rw [HE2.out]; exact EJ2, M6'.out⟩
    case measure => have := LBE.out; simp [intOf]; omega
end Go.Proofs.YtmpdmejlpicdlaaDoor

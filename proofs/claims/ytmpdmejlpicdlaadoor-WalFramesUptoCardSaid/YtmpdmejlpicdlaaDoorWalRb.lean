/- wal.Records, walked. -/
import Derived.Test.YtmpdmejlpicdlaaDoorWalR
namespace Go.Proofs.YtmpdmejlpicdlaaDoor
open Go.RowKit Go.Bw Go.Maps
set_option linter.unusedVariables false
set_option linter.unusedSimpArgs false

theorem recsGo_none {b : List Int} (h : rec1 b = none) (f : Nat) : recsGo f b = [] := by
  cases f with
  | zero => rfl
  | succ f => unfold recsGo; rw [h]
theorem recsGo_some {b r : List Int} (h : rec1 b = some r) {f : Nat} (hf : 0 < f) : recsGo f b = r :: recsGo (f - 1) (b.drop (8 + r.length)) := by
  cases f with
  | zero => omega
  | succ f => rw [recsGo, h]; rfl
theorem quiet_crc {w : World} {v : Value} {xs : List Int} (hR : Reads w 1 v xs.length (bcells xs)) (hl : xs.length ≤ 140737488355328) (hH : Half w) (n : Nat) :
    Calls Tryd.prog 41 #[v] (w.drewN n) fun e w'' => e = .returned (.int .u32 (crc xs)) ∧ ∃ m, w'' = w.drewN m :=
  Calls.quiet_of_same ((crc_any (w.drewN n) v xs (Reads.kept hR ((Mod.refl (fun _ => False) w).drewN n) (fun _ _ h => h)) hl (fun i hi => (((Mod.refl (fun _ => False) w).drewN n).cell (hH i hi) (fun h => h)))).mono (fun e w' h => ⟨h.1, h.2.symm⟩))

theorem reads_one (w : World) (u : Value) (e : TypeId) : Reads (w.alloc (.cells #[u] e)) 1 (.slice (some ⟨w.heap.size, 0, none⟩) 1 1) 1 [u] :=
  ⟨rfl, Or.inr ⟨_, _, rfl, fun j v hj => by
    have hj0 : j = 0 := by have := (List.getElem?_eq_some_iff.1 hj).1; simpa using this
    subst hj0
    rw [addr_add, Nat.zero_add, cell_of_heap (heap_alloc_new w _)]
    simpa using hj⟩⟩
set_option maxRecDepth 100000 in
set_option maxHeartbeats 3000000 in
theorem records_any (w : World) (v : Value) (b : List Int) (hR : Reads w 1 v b.length (bcells b)) (hc : ∀ a k c, v = .slice a k c → k ≤ c) (hB : Bytes b) (hl : b.length ≤ 1099511627776) (hL : Laid w) :
    Calls Tryd.prog 30 #[v] w (RecsOut w b) := by
  obtain ⟨a, c, rfl⟩ := reads_form hR
  have hcl := hc _ _ _ rfl
  have HR := Lib.hid hR
  have HL := Lib.hid hL
  have HB := Lib.hid hB
  have HCL := Lib.hid hcl
  clear hR hL hB hc hcl
  obtain ⟨R, hRR⟩ : ∃ R, R = recs b := ⟨_, rfl⟩
  have RR := Lib.hid hRR
  clear hRR
  go_enter Tryd.func30, Tryd.ntmps30
  go_wp2_with fail
  go_loopw [4, 5] (fun ov at_ wr => ∃ (L : List (List Int)) (f : Nat), at_ = .int .i64 (ends L : Nat) ∧ ends L ≤ b.length ∧ b.length - ends L < f ∧ RowsAt wr (fun k => w.heap.size ≤ k) ov L ∧ Hid (R = L ++ recsGo f (b.drop (ends L))) ∧ Below w.heap.size w wr) (fun _ i _ => b.length - (intOf i).toNat)
  case atStart => exact ⟨[], b.length + 1, rfl, Nat.zero_le _, by simp [ends], RowsAt.nil _ _, RR, Below.refl _ _⟩
  case round =>
    obtain ⟨L, f, rfl, he, hf, hrow, EJ, hb⟩ := hrel
    have ROW := Lib.hid hrow
    have BW := Lib.hid hb
    have MW := Lib.hid (Mod.ofBelow hb)
    clear hrow hb
    obtain ⟨E, hE⟩ : ∃ E, E = ends L := ⟨_, rfl⟩
    rw [← hE] at he hf EJ ⊢
    have HE := Lib.hid hE
    clear hE
    have stop : ∀ W, Mod (fun _ => False) wr W → rec1 (b.drop E) = none → RecsOut w b (.returned (.tuple #[u4, .int .i64 (E : Nat)])) W := fun W hW hn => by
      have e1 : recs b = L := by rw [← RR.out, EJ.out, recsGo_none hn, List.append_nil]
      unfold RecsOut
      rw [e1, ← HE.out]
      exact ⟨_, rfl, ROW.out.mod hW (fun _ _ h => h), BW.out.trans (hW.toBelow.mono BW.out.size)⟩
    by_cases h8 : b.length < E + 8
    · have h8' : ¬ (8 : Int) ≤ (b.length : Int) - E := by omega
      have ST := Lib.hid (stop wr (Mod.refl _ _) (by unfold rec1; rw [if_pos (by rw [List.length_drop]; omega)]))
      clear stop h8
      go_wp2_with fail
      go_ret2
      exact ST.out
    cases a with
    | none => have := (reads_empty HR.out).2; rw [this] at h8; simp at h8
    | some a =>
    obtain ⟨bb, oo, rfl⟩ : ∃ bb oo, a = ⟨bb, oo, none⟩ := by
      have h0 := reads_at HR.out (k := 0) (by omega)
      obtain ⟨bb, o, sp⟩ := a
      cases sp with
      | none => exact ⟨bb, o, rfl⟩
      | some s => simp [World.cell?, Addr.add] at h0; split at h0 <;> cases h0
    have RD := Lib.hid (reads_later HR.out MW.out (fun _ _ h => h))
    obtain ⟨p, hp⟩ : ∃ p, p = oo + E := ⟨_, rfl⟩
    -- the eight bytes ahead
    have cell : ∀ i, i < 8 → ∃ y : Int, wr.cell? ⟨bb, p + i, none⟩ = some (.int .u8 y) ∧ (0 ≤ y ∧ y ≤ 255) ∧ (b.drop E).getD i 0 = y := fun i hi => by
      have h1 := reads_at RD.out (k := E + i) (by omega)
      rw [addr_add, ← Nat.add_assoc, ← hp] at h1
      exact ⟨_, h1, HB.out _ (List.getElem_mem _), by rw [List.getD_eq_getElem?_getD, List.getElem?_drop, List.getElem?_eq_getElem (by omega)]; rfl⟩
    obtain ⟨y0, c0, g0, e0⟩ := cell 0 (by omega)
    obtain ⟨y1, c1, g1, e1⟩ := cell 1 (by omega)
    obtain ⟨y2, c2, g2, e2⟩ := cell 2 (by omega)
    obtain ⟨y3, c3, g3, e3⟩ := cell 3 (by omega)
    obtain ⟨y4, c4, g4, e4⟩ := cell 4 (by omega)
    obtain ⟨y5, c5, g5, e5⟩ := cell 5 (by omega)
    obtain ⟨y6, c6, g6, e6⟩ := cell 6 (by omega)
    obtain ⟨y7, c7, g7, e7⟩ := cell 7 (by omega)
    have HO := or_bytes64 g0 g1 g2 g3
    have HO2 := Lib.hid (or_bytes g4 g5 g6 g7)
    obtain ⟨n, hn⟩ : ∃ n : Int, n = y0 + 256 * y1 + 65536 * y2 + 16777216 * y3 := ⟨_, rfl⟩
    obtain ⟨q, hq⟩ : ∃ n : Int, n = y4 + 256 * y5 + 65536 * y6 + 16777216 * y7 := ⟨_, rfl⟩
    have N0 := Lib.hid (show num4 (b.drop E) 0 = n from by unfold num4; rw [e0, show 0 + 1 = 1 from rfl, show 0 + 2 = 2 from rfl, show 0 + 3 = 3 from rfl, e1, e2, e3, hn])
    have N4 := Lib.hid (show num4 (b.drop E) 4 = q from by unfold num4; rw [e4, show 4 + 1 = 5 from rfl, show 4 + 2 = 6 from rfl, show 4 + 3 = 7 from rfl, e5, e6, e7, hq])
    have n0 : 0 ≤ n := by omega
    rw [← hn] at HO
    rw [← hq] at HO2
    clear cell e0 e1 e2 e3 e4 e5 e6 e7 hn hq
    rw [Nat.add_zero] at c0
    have hsl : ∀ w, (Instr.slice 22 (.slice (some ⟨bb, oo, none⟩) b.length c) (some (.int .i64 (E : Int))) (some (.int .i64 ((E : Int) + 8))) none).run Tryd.prog w = .ok (.slice (some ⟨bb, p, none⟩) 8 (c - E)) w := fun w => by
      have := slice_mid w bb oo b.length c E (E + 8) (E : Int) ((E : Int) + 8) rfl (by omega) (by omega) (by have := HCL.out; omega)
      rw [if_neg (by have := HCL.out; omega), ← hp, show E + 8 - E = 8 from by omega] at this
      exact this
    have h8' : (8 : Int) ≤ (b.length : Int) - E := by omega
    have hwa : IntKind.i64.wrap ((E : Int) + 8) = (E : Int) + 8 := IntWalk.i64_in _ (by omega)
    have HSTOP := Lib.hid stop
    have HP := Lib.hid hp
    clear stop hp
    go_wp2_with fail
    go_quiet (fail)
    have MD := Lib.hid ((Mod.refl (fun _ => False) wr).drewN nq)
    have ROW2 := Lib.hid (ROW.out.mod MD.out (fun _ _ h => h))
    have MW2 := Lib.hid (MW.out.trans MD.out (fun _ _ h => h))
    have RD2 := Lib.hid (Reads.kept RD.out MD.out (fun _ _ h => h))
    replace c4 := MD.out.cell c4 (fun h => h)
    replace c5 := MD.out.cell c5 (fun h => h)
    replace c6 := MD.out.cell c6 (fun h => h)
    replace c7 := MD.out.cell c7 (fun h => h)
    generalize wr.drewN nq = w2 at MD ROW2 MW2 RD2 c4 c5 c6 c7 ⊢
    clear c0 c1 c2 c3 HO hsl
    have hdl : (b.drop E).length = b.length - E := List.length_drop
    have R1 := Lib.hid (show rec1 (b.drop E) = if 65536 < n ∨ (b.length : Int) - E - 8 < n then none else if crc ((b.drop (E + 8)).take n.toNat) = q then some ((b.drop (E + 8)).take n.toNat) else none from by
      unfold rec1
      rw [if_neg (by omega), hdl, N0.out, N4.out, List.drop_drop, show ((b.length - E : Nat) : Int) = (b.length : Int) - E from by omega])
    clear hdl
    by_cases hbig : 65536 < n
    · have ST := Lib.hid (HSTOP.out w2 MD.out (by rw [R1.out, if_pos (Or.inl hbig)]))
      go_wp2_with fail
      go_ret2
      exact ST.out
    by_cases hlong : (b.length : Int) - E - 8 < n
    · have ST := Lib.hid (HSTOP.out w2 MD.out (by rw [R1.out, if_pos (Or.inr hlong)]))
      go_wp2_with fail
      go_ret2
      exact ST.out
    obtain ⟨k, rfl⟩ := Int.eq_ofNat_of_zero_le n0
    have hkl : E + 8 + k ≤ b.length := by omega
    obtain ⟨A, hA⟩ : ∃ A, A = (if c = E + 8 then some ⟨bb, oo, none⟩ else some ⟨bb, oo + (E + 8), none⟩ : Option Addr) := ⟨_, rfl⟩
    have hsl2 : ∀ w, (Instr.slice 22 (.slice (some ⟨bb, oo, none⟩) b.length c) (some (.int .i64 ((E : Int) + 8))) (some (.int .i64 ((E : Int) + 8 + (k : Int)))) none).run Tryd.prog w = .ok (.slice A k (c - (E + 8))) w := fun w => by
      have := slice_mid w bb oo b.length c (E + 8) (E + 8 + k) ((E : Int) + 8) ((E : Int) + 8 + (k : Int)) (by omega) (by omega) (by omega) (by have := HCL.out; omega)
      rw [← hA, show E + 8 + k - (E + 8) = k from by omega] at this
      exact this
    obtain ⟨r, hr⟩ : ∃ r, r = (b.drop (E + 8)).take k := ⟨_, rfl⟩
    have hrl : r.length = k := by rw [hr, List.length_take, List.length_drop]; omega
    have RA := Lib.hid (show Reads w2 1 (.slice A k (c - (E + 8))) r.length (bcells r) from by
      have := reads_mid (c' := c - (E + 8)) (k := k) (lo := E + 8) RD2.out HCL.out (by omega)
      rw [← hA, ← hr] at this
      rw [hrl]; exact this)
    have R2 := Lib.hid (show rec1 (b.drop E) = if crc r = q then some r else none from by
      rw [R1.out, if_neg (by omega), show ((k : Nat) : Int).toNat = k from by omega, ← hr])
    have HRL := Lib.hid hrl
    have LW2 := Lib.hid (HL.out.mod MW2.out (fun _ _ h => h))
    obtain ⟨cr, hcr⟩ : ∃ x, x = crc r := ⟨_, rfl⟩
    have QC := Lib.hid (fun n => quiet_crc RA.out (show r.length ≤ 140737488355328 by omega) LW2.out.halfAt n)
    rw [← hcr] at R2 QC
    have CB := Lib.hid (And.intro (show 0 ≤ cr by rw [hcr]; exact crc_lo r) (show cr < 4294967296 by rw [hcr]; exact crc_hi r))
    clear hA hr hrl hcr n0
    have HO2' := HO2.out
    go_wp2_with fail
    go_quiet (exact QC.out _)
    have MD2 := Lib.hid (MD.out.trans ((Mod.refl (fun _ => False) w2).drewN nq) (fun _ _ h => h))
    have MD3 := Lib.hid ((Mod.refl (fun _ => False) w2).drewN nq)
    have ROW3 := Lib.hid (ROW2.out.mod MD3.out (fun _ _ h => h))
    have MW3 := Lib.hid (MW2.out.trans MD3.out (fun _ _ h => h))
    have RA3 := Lib.hid (Reads.kept RA.out MD3.out (fun _ _ h => h))
    generalize w2.drewN nq = w3 at MD2 MD3 ROW3 MW3 RA3 ⊢
    clear c4 c5 c6 c7 HO2' hsl2
    by_cases hne : cr = q
    case neg =>
      have hne' : (cr != q) = true := by rw [bne_iff_ne]; exact hne
      have ST := Lib.hid (HSTOP.out w3 MD2.out (by rw [R2.out, if_neg hne]))
      clear hne
      go_wp2_with fail
      go_ret2
      exact ST.out
    have hne' : (cr != q) = false := by rw [hne]; simp
    have R3 := Lib.hid (R2.out.trans (if_pos hne))
    clear hne
    obtain ⟨v5, w5, R5, O5, M5, N5⟩ := app_run2 (w3.alloc (.cells #[] 5)) w3.heap.size (.slice (some ⟨w3.heap.size, 0, none⟩) 0 0) (.slice A k (c - (E + 8))) [] r (row_empty w3) (by simp) (Reads.kept RA3.out ((Mod.refl (fun _ => False) w3).alloc _) (fun _ _ h => h)) (by rw [HRL.out]; simp; omega)
    rw [List.nil_append] at O5
    have M35 := Lib.hid (show Mod (fun _ => False) w3 w5 from ((Mod.refl (fun _ => False) w3).alloc _).trans M5 (fun k hk h => by simp [Value.ownBlock] at h; omega))
    obtain ⟨a5, c5, hv5, _⟩ := ownsRow_slice O5
    have B3 := Lib.hid MW3.out.size
    have O6 := ownsRow_kept O5 (w' := w5.alloc (.cells #[v5] 22)) (fun k hk => ((Mod.refl (fun _ => False) w5).alloc _).block k (O5.lt k hk).2 (fun h => h))
    obtain ⟨v6, w6, R6, ROW6, M6, _⟩ := app_rows (w5.alloc (.cells #[v5] 22)) (fun k => w.heap.size ≤ k) u4 (.slice (some ⟨w5.heap.size, 0, none⟩) 1 1) L [r] [v5]
      (ROW3.out.mod (M35.out.alloc _) (fun _ _ h => h)) (reads_one w5 v5 _) (fun i x hi => by
        have hi0 : i = 0 := by have := (List.getElem?_eq_some_iff.1 hi).1; simpa using this
        subst hi0
        have hx : r = x := by simpa using hi
        subst hx
        exact ⟨v5, rfl, ownsRow_base O6 (fun _ _ => Nat.zero_le _), fun k hk => Nat.le_trans B3.out (O6.lt k hk).1⟩)
      (by have := ends_ge L; have := HE.out; simp; omega) (fun k hk => by have h1 := M35.out.size; have h2 := B3.out; simp at hk; omega)
    have R5' := Lib.hid R5
    have R6' := Lib.hid R6
    have ROW6' := Lib.hid ROW6
    have M6' := Lib.hid (show Below w.heap.size w w6 from ((((MW3.out.trans M35.out (fun _ _ h => h)).alloc (.cells #[v5] 22)).mono (T := fun k => w.heap.size ≤ k) (fun _ _ h => h.elim)).trans M6 (fun k _ h => by
      obtain ⟨vs, _, hq, _⟩ := ROW.out.ex
      exact hq k h)).mono (T := fun _ => False) (fun k hk h => by omega) |>.toBelow)
    have EJ2 := Lib.hid (show R = (L ++ [r]) ++ recsGo (f - 1) (b.drop (E + (8 + k))) from by
      rw [EJ.out, recsGo_some R3.out (by omega), HRL.out, List.drop_drop]
      simp)
    have HE2 := Lib.hid (show ends (L ++ [r]) = E + (8 + k) from by rw [ends_append, ← HE.out]; simp [ends, HRL.out])
    subst hv5
    clear R5 R6 O5 O6 M5 M6 ROW6 N5
    go_wp2_with (at_builtin; first | refine wpList_append_run rfl (.tmp 86) (.tmp 87) 22 rfl rfl rfl R5'.out ?_ | refine wpList_append_run rfl (.tmp 85) (.tmp 89) 37 rfl rfl rfl R6'.out ?_)
    go_roundw
    case rel => exact ⟨L ++ [r], f - 1, by rw [HE2.out]; go_num, by rw [HE2.out]; omega, by rw [HE2.out]; omega, ROW6'.out, by rw [HE2.out]; exact EJ2, M6'.out⟩
    case measure => simp [intOf]; omega
end Go.Proofs.YtmpdmejlpicdlaaDoor

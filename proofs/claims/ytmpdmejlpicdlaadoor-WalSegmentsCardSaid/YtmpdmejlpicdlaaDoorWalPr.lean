/- wal's Prune. -/
import Derived.Test.YtmpdmejlpicdlaaDoorWalA
namespace Go.Proofs.YtmpdmejlpicdlaaDoor
open Go.RowKit Go.Bw Go.Maps
set_option linter.unusedVariables false
set_option linter.unusedSimpArgs false

theorem TInt.info : (Tryd.prog.info? 3).map (fun i => (i.zero, i.size, i.bytes)) = some (some (.int .i64 0), 1, 8) := by kernel_rfl
def icells (xs : List Int) : List Value := xs.map (Value.int .i64)
theorem app_int (wr : World) (B : Nat) (v : Value) (S : List Int) (x : Int) (h : wr.ownsRow B 3 1 v S.length (icells S)) (hB : B ≤ wr.heap.size) (hl : S.length ≤ 1000000) :
    ∃ v' w3, (Builtin.append_ #[38, 38] 38 #[v, .slice (some ⟨wr.heap.size, 0, none⟩) 1 1]).run Tryd.prog (wr.alloc (.cells #[.int .i64 x] 3)) = .ok v' w3 ∧ w3.ownsRow B 3 1 v' (S ++ [x]).length (icells (S ++ [x])) ∧ Mod (fun k => v.ownBlock = some k) wr w3 := by
  have m0 := (Mod.refl (fun _ => False) wr).alloc (.cells #[.int .i64 x] 3)
  have h1 := ownsRow_kept h (fun k hk => m0.block k (h.lt k hk).2 (fun h => h))
  obtain ⟨i0, hi, hz0, hz1, hz2⟩ := info_parts TInt.info
  obtain ⟨v', w3, hrun, ho3, hm3, hb3, _⟩ := run_append_to (P := Tryd.prog) 38 38 3 i0 (.int .i64 0) 1 8 Tryd.underlying38 hi hz0 hz1 hz2 rfl (by decide) v _ _ (ownsRow_base h1 (base' := 0) (fun _ _ => Nat.zero_le _)) _ 1 [.int .i64 x] (reads_one wr _ _) (fun y hy => by rcases List.mem_singleton.1 hy with rfl; rfl) (by unfold maxLen; omega) (by omega)
  refine ⟨v', w3, hrun, ?_, (m0.mono (T := fun k => v.ownBlock = some k) (fun _ _ h => h.elim)).trans hm3 (fun _ _ h => h)⟩
  rw [List.length_append]
  have e : icells (S ++ [x]) = icells S ++ [.int .i64 x] := by simp [icells]
  rw [e]
  exact ownsRow_base ho3 (fun j hj => by
    rcases hb3 j hj with h5 | h5
    · exact (h.lt j h5).1
    · simp at h5; omega)

set_option maxRecDepth 100000 in
set_option maxHeartbeats 3000000 in
theorem walPrune_any {Q : Nat → Prop} {w : World} {wp d : Nat} {W : AWal} (h : WalAt Q w wp d W) (hs : W.sick = 0) (below : Int) (hb0 : -9223372036854775808 ≤ below) (hb1 : below ≤ 9223372036854775807) (hL : Laid w) (hLQ : ∀ k, Lk k → Q k) :
    Calls Tryd.prog 39 #[.pointer (some ⟨wp, 0, none⟩), .int .i64 below] w (WStep Q w wp d (W.prune below)) := by
  obtain ⟨A, per, first, next, sick⟩ := W
  simp only at hs
  subst hs
  have HL := Lib.hid hL
  have H := Lib.hid h.disk
  have OWN := Lib.hid h.own
  have CC := Lib.hid h.cells
  obtain ⟨NS, hNS⟩ : ∃ NS, NS = A.names := ⟨_, rfl⟩
  have NB := Lib.hid (show ∀ nm ∈ NS, namedB nm = true from fun nm hnm => by
    rw [hNS] at hnm
    unfold ADsk.names at hnm
    split at hnm
    · cases hnm
    · obtain ⟨q, hq, rfl⟩ := List.mem_map.1 hnm
      exact h.disk.ok.names q hq)
  have NL := Lib.hid (show NS.length ≤ 16 from by
    rw [hNS]; unfold ADsk.names
    split
    · simp
    · rw [List.length_map]; exact h.disk.ok.few)
  obtain ⟨ST, hST⟩ : ∃ ST, ST = starts A := ⟨_, rfl⟩
  have EST := Lib.hid (show ST = (NS.map walNo).filter (fun n => decide (0 < n)) from by rw [hST, hNS]; rfl)
  obtain ⟨R, hR⟩ : ∃ R, R = pruneGo below ST A 0 := ⟨_, rfl⟩
  have ER := Lib.hid (show AWal.prune ⟨A, per, first, next, 0⟩ below = (⟨R.1, per, first, next, R.2.2⟩, R.2.1, R.2.2) from by
    unfold AWal.prune
    rw [if_neg (by simp), hR, hST])
  rw [ER.out]
  have HRR := Lib.hid hR
  have ENS := Lib.hid hNS
  have HLQ := Lib.hid hLQ
  clear h hL hR hST hNS hLQ
  have p0 := cell_of_heap CC.out 0
  have p4 := cell_of_heap CC.out 4
  go_enter Tryd.func39, Tryd.ntmps39
  go_wp2_with fail
  refine (held_names H.out).mono ?_
  rw [← ENS.out]
  rintro e w3 ⟨v3, rfl, ho, hb, hH⟩
  obtain ⟨a3, c3, hv3, _⟩ := ownsRow_slice ho
  subst hv3
  have NROW := Lib.hid ho
  have H3 := Lib.hid hH
  have B3 := Lib.hid hb
  have L3 := Lib.hid (HL.out.below hb)
  clear ho hb hH p0 p4
  go_wp2_with fail
  go_loopw [6, 30] (fun v i wr => ∃ (j : Nat) (S : List Int), j ≤ NS.length ∧ i = .int .i64 j ∧ wr.ownsRow w3.heap.size 3 1 v S.length (icells S) ∧ Hid (S = ((NS.take j).map walNo).filter (fun n => decide (0 < n))) ∧ S.length ≤ j ∧ Below w3.heap.size w3 wr) (fun _ i _ => NS.length - (intOf i).toNat)
  case atStart => exact ⟨0, [], Nat.zero_le _, rfl, World.ownsRow_nil _ _ _ _, Lib.hid rfl, Nat.le_refl _, Below.refl _ _⟩
  case round =>
    obtain ⟨j, S, hj, rfl, ho, ES, hsl, hb⟩ := hrel
    have O := Lib.hid ho
    have BJ := Lib.hid hb
    have LJ := Lib.hid (L3.out.below hb)
    clear ho hb
    by_cases hjl : j < NS.length
    · obtain ⟨q, hq⟩ : ∃ q, NS[j]? = some q := ⟨_, List.getElem?_eq_getElem hjl⟩
      have hcell := row_cell (ownsRow_kept NROW.out (fun k hk => BJ.out.block k (NROW.out.lt k hk).2)) (j := j) (u := .string ⟨q.toArray⟩) (by rw [List.getElem?_map, hq]; rfl)
      obtain ⟨b3, rfl⟩ := hcell.1
      have hcell := hcell.2 _ rfl
      have QNm := Lib.hid (nm_small (NB.out q (List.mem_of_getElem? hq)))
      have ES2 := Lib.hid (show ((NS.take (j + 1)).map walNo).filter (fun n => decide (0 < n)) = S ++ (if 0 < walNo q then [walNo q] else []) from by
        rw [List.take_add_one, hq, ES.out]
        simp only [Option.toList_some, List.map_append, List.map_cons, List.map_nil, List.filter_append]
        congr 1
        by_cases h0 : 0 < walNo q
        · simp [h0]
        · simp [h0])
      have hnl := NL.out
      clear hq
      go_wp2_with fail
      refine (walNumber_any _ ⟨q.toArray⟩ QNm.out LJ.out).mono ?_
      rintro e w4 ⟨rfl, hb⟩
      obtain ⟨nn, hnn⟩ : ∃ nn, nn = walNo q := ⟨_, rfl⟩
      rw [show num9 106 1 0 (⟨q.toArray⟩ : ByteArray).data.toList = nn from hnn.symm]
      rw [← hnn] at ES2
      have hn1 : nn ≤ 999999999 := by rw [hnn]; exact (walNo_bounds q).2
      have B4 := Lib.hid (BJ.out.trans (hb.mono BJ.out.size))
      have O4 := Lib.hid (ownsRow_kept O.out (fun k hk => hb.block k (O.out.lt k hk).2))
      clear hnn hb hcell
      by_cases hpos : 0 < nn
      · obtain ⟨v5, w5, R5, O5, M5⟩ := app_int w4 w3.heap.size _ S nn O4.out B4.out.size (by omega)
        have R5' := Lib.hid R5
        have ES3 := Lib.hid (show S ++ [nn] = ((NS.take (j + 1)).map walNo).filter (fun n => decide (0 < n)) from by rw [ES2.out, if_pos hpos])
        have B5 := Lib.hid (show Below w3.heap.size w3 w5 from (((Mod.ofBelow B4.out).mono (T := fun k => w3.heap.size ≤ k) (fun _ _ h => h.elim)).trans M5 (fun k _ hk => (O4.out.lt k hk).1) |>.mono (T := fun _ => False) (fun k h1 h2 => by omega)).toBelow)
        have O5' := Lib.hid O5
        clear R5 O5 M5
        go_wp2_with (at_builtin; refine wpList_append_run rfl (.tmp 38) (.tmp 40) 38 rfl rfl rfl R5'.out ?_)
        go_roundw
        case rel => exact ⟨j + 1, S ++ [nn], by omega, by go_num, O5'.out, ES3, by simp; omega, B5.out⟩
        case measure => simp [intOf]; omega
      · have ES3 := Lib.hid (show S = ((NS.take (j + 1)).map walNo).filter (fun n => decide (0 < n)) from by rw [ES2.out, if_neg hpos, List.append_nil])
        go_wp2_with fail
        go_roundw
        case rel => exact ⟨j + 1, S, by omega, by go_num, O4.out, ES3, by omega, B4.out⟩
        case measure => simp [intOf]; omega
    · obtain rfl : j = NS.length := by omega
      have EE := Lib.hid (show S = ST from by rw [ES.out, EST.out, List.take_length])
      obtain rfl := EE.out
      have WB := Lib.hid (B3.out.trans (BJ.out.mono B3.out.size))
      have HF := Lib.hid (H.out.fresh (Mod.ofBelow WB.out) (fun _ _ h => h.elim))
      obtain ⟨as4, cs4, hv4, _⟩ := ownsRow_slice O.out
      subst hv4
      have hsl2 : S.length ≤ 16 := by have := NL.out; omega
      have C0 := Lib.hid ((Mod.ofBelow WB.out).heap CC.out (fun h => h))
      have QG := Lib.hid (show ∀ k, w3.heap.size ≤ k → k < wr.heap.size → (Q k ∨ (w.heap.size ≤ k ∧ k < wr.heap.size)) from fun k h1 h2 => Or.inr ⟨Nat.le_trans B3.out.size h1, h2⟩)
      clear hsl hj hjl
      go_wp2_with fail
      obtain ⟨wo, hwo⟩ : ∃ wo, wo = wr := ⟨_, rfl⟩
      have START := Lib.hid (show Held (fun k => Q k ∨ (w.heap.size ≤ k ∧ k < wo.heap.size)) wr d A ∧ Mod (fun k => ¬ (Q k ∨ (w.heap.size ≤ k ∧ k < wo.heap.size))) wo wr from by rw [hwo]; exact ⟨HF.out, Mod.refl _ _⟩)
      rw [← hwo] at O WB HF C0 QG LJ
      clear hwo BJ
      go_loopw [10, 11] (fun g i wr => ∃ (k : Nat) (A' : ADsk), i = .int .i64 k ∧ g = .int .i64 k ∧ k ≤ S.length ∧ Hid (R = pruneGo below (S.drop k) A' k) ∧ Held (fun k => Q k ∨ (w.heap.size ≤ k ∧ k < wo.heap.size)) wr d A' ∧ Mod (fun k => ¬ (Q k ∨ (w.heap.size ≤ k ∧ k < wo.heap.size))) wo wr) (fun _ i _ => S.length - (intOf i).toNat)
      case atStart => exact ⟨0, A, rfl, rfl, Nat.zero_le _, HRR, START.out.1, START.out.2⟩
      case round =>
        obtain ⟨k, A', rfl, rfl, hk, EQ, hH, hM⟩ := hrel
        have HK := Lib.hid hH
        have MK := Lib.hid hM
        have LK := Lib.hid (LJ.out.mod hM (fun k hk h => h (Or.inl (HLQ.out k hk))))
        have CK := Lib.hid (hM.heap C0.out (fun h => h (Or.inl OWN.out)))
        have OK := Lib.hid (ownsRow_kept O.out (fun k hk => hM.block k (O.out.lt k hk).2 (fun h => h (QG.out k (O.out.lt k hk).1 (O.out.lt k hk).2))))
        have MW := Lib.hid (show Mod (fun k => ¬ Q k ∨ k = wp) w wr from ((Mod.ofBelow WB.out).mono (T := fun k => ¬ Q k ∨ k = wp) (fun _ _ h => h.elim)).trans hM (fun k _ h => Or.inl (fun hq => h (Or.inl hq))))
        have stop : R = (A', (k : Int), 0) → WStep Q w wp d (⟨R.1, per, first, next, R.2.2⟩, R.2.1, R.2.2) (.returned (.tuple #[.int .i64 (k : Int), .int .i64 0])) wr := fun e => by
          rw [e]
          exact ⟨rfl, ⟨CK.out, OWN.out, HK.out.weaken (fun k hk => Or.inl hk)⟩, MW.out⟩
        have STOP := Lib.hid stop
        clear hH hM stop
        by_cases h2 : k + 1 < S.length
        · obtain ⟨x, hx⟩ : ∃ x, S[k]? = some x := ⟨_, List.getElem?_eq_getElem (by omega)⟩
          obtain ⟨y, hy⟩ : ∃ y, S[k + 1]? = some y := ⟨_, List.getElem?_eq_getElem h2⟩
          have hdrop : S.drop k = x :: y :: S.drop (k + 2) := by
            rw [List.drop_eq_getElem_cons (by omega), List.drop_eq_getElem_cons h2, (List.getElem?_eq_some_iff.1 hx).2, (List.getElem?_eq_some_iff.1 hy).2]
          have c1 := row_cell OK.out (j := k) (u := .int .i64 x) (by unfold icells; rw [List.getElem?_map, hx]; rfl)
          obtain ⟨b4, rfl⟩ := c1.1
          have c1 := c1.2 _ rfl
          have c2 := (row_cell OK.out (j := k + 1) (u := .int .i64 y) (by unfold icells; rw [List.getElem?_map, hy]; rfl)).2 _ rfl
          have hd1 : S.drop (k + 1) = y :: S.drop (k + 2) := by rw [List.drop_eq_getElem_cons h2, (List.getElem?_eq_some_iff.1 hy).2]
          have xb : 0 < x ∧ x ≤ 999999999 := by
            have hm := List.mem_of_getElem? hx
            rw [EST.out] at hm
            obtain ⟨h1, h2⟩ := List.mem_filter.1 hm
            obtain ⟨z, _, rfl⟩ := List.mem_map.1 h1
            exact ⟨by simpa using h2, (walNo_bounds z).2⟩
          have EQ2 := Lib.hid (EQ.out.trans (show _ = (if y ≤ below then (if (A'.remove (walNm x)).2 ≠ 0 then ((A'.remove (walNm x)).1, 0, (A'.remove (walNm x)).2) else pruneGo below (S.drop (k + 1)) (A'.remove (walNm x)).1 ((k : Int) + 1)) else (A', (k : Int), 0)) from by rw [hdrop, hd1, pruneGo]))
          clear hx hy hdrop hd1
          by_cases hle : y ≤ below
          · have EQ3 := Lib.hid (EQ2.out.trans (if_pos hle))
            obtain ⟨s, hs⟩ : ∃ s : ByteArray, s = ⟨(walNm x).toArray⟩ := ⟨_, rfl⟩
            have hsn : s.data.toList = walNm x := by rw [hs]
            have hsz : s.size ≤ maxLen := by
              have h1 : s.size = (walNm x).length := by rw [← hsn]; rfl
              have h10 := nm9_length (c := 106) (lo := 1) (n := x) (by unfold nm9; rw [if_neg (by omega)]; simp)
              rw [h1, show (walNm x).length = 10 from h10]; decide
            have SC := Lib.hid (show ∀ z : Cls (Below wr.heap.size wr), Calls Tryd.prog 32 #[.int .i64 x] z.w fun e w' => e = .returned (.string s) ∧ ∃ y : Cls (Below wr.heap.size wr), w' = y.w from fun z => by
              refine (walName_any z.w x (by omega) (by omega) (LK.out.below z.ok)).mono ?_
              rw [show nm9 106 1 x = walNm x from rfl]
              rintro e w' ⟨rfl, hb⟩
              exact ⟨by rw [hs], ⟨w', z.ok.trans (hb.mono z.ok.size)⟩, rfl⟩)
            have G0 := Lib.hid (show ∀ z : Cls (Below wr.heap.size wr), z.w.cell? ⟨wp, 0, none⟩ = some (.pointer (some ⟨d, 0, none⟩)) from fun z => cell_of_heap ((Mod.ofBelow z.ok).heap CK.out (fun h => h)) 0)
            have G1 := Lib.hid (show ∀ z : Cls (Below wr.heap.size wr), z.w.cell? ⟨b4, k, none⟩ = some (.int .i64 x) from fun z => (Mod.ofBelow z.ok).cell c1 (fun h => h))
            have HSN := Lib.hid hsn
            have HSZ := Lib.hid hsz
            clear hs hsn hsz
            go_wp2_with fail
            refine wp_region_quiet_tail (C := Below wr.heap.size wr) 9 (by kernel_rfl) (by kernel_rfl) ⟨rfl, rfl, rfl, Nat.le_refl _, fun _ _ => rfl⟩ (fun _ => ?_)
            simp only [List.take_succ_cons, List.take_zero, List.drop_succ_cons, List.drop_zero]
            have q0 := G0.out
            have q1 := G1.out
            have hkl : (k : Int) < S.length := by omega
            repeat (go_big_quiet_step (exact SC.out _))
            refine wpQuiet_nil ?_
            intro z
            have hz := z.ok
            have HZ := Lib.hid (HK.out.mod (Mod.ofBelow hz) (fun _ _ h => h.elim))
            have MZ := Lib.hid (MK.out.trans (Mod.ofBelow hz) (fun _ _ h => h.elim))
            have MWZ := Lib.hid (MW.out.trans (Mod.ofBelow hz) (fun _ _ h => h.elim))
            have CZ := Lib.hid ((Mod.ofBelow hz).heap CK.out (fun h => h))
            clear q0 q1 c1 c2
            generalize z.w = wz at HZ MZ MWZ CZ hz ⊢
            clear hz z
            go_wp2_with fail
            refine (held_remove HZ.out s HSZ.out).mono ?_
            obtain ⟨T, hT⟩ : ∃ T, T = A'.remove (walNm x) := ⟨_, rfl⟩
            rw [HSN.out, ← hT]
            rw [← hT] at EQ3
            clear hT
            rintro e w6 ⟨rfl, hH, hm⟩
            have H6 := Lib.hid hH
            have M6 := Lib.hid (MZ.out.trans hm (fun k _ h => h))
            have MW6 := Lib.hid (MWZ.out.trans hm (fun k _ h => Or.inl (fun hq => h (Or.inl hq))))
            have C6 := Lib.hid (hm.heap CZ.out (fun h => h (Or.inl OWN.out)))
            clear hH hm
            obtain ⟨A6, e6⟩ := T
            by_cases h0 : e6 = 0
            · subst h0
              have EQ4 := Lib.hid (EQ3.out.trans (if_neg (by simp)))
              go_wp2_with fail
              go_roundw
              case rel => exact ⟨k + 1, A6, by go_num, by go_num, by omega, EQ4, H6.out, M6.out⟩
              case measure => simp [intOf]; omega
            · have EQ4 := Lib.hid (EQ3.out.trans (if_pos (by simpa using h0)))
              have h0' : (e6 != 0) = true := by rw [bne_iff_ne]; exact h0
              have z4 := free_of_heap C6.out 4
              have p4 := cell_of_heap C6.out 4
              have C7 := Lib.hid (heap_setCell_at C6.out 4 (.int .i64 e6))
              clear h0
              go_wp2_with fail
              go_ret2
              rw [EQ4.out]
              exact ⟨rfl, ⟨C7.out, OWN.out, (H6.out.weaken (fun k hk => Or.inl hk)).mod ((Mod.refl (fun k => k = wp) w6).setCell (p := ⟨wp, 4, none⟩) _ (fun _ => rfl)) (fun k _ e => by rw [e]; exact OWN.out)⟩, MW6.out.setCell (p := ⟨wp, 4, none⟩) _ (fun _ => Or.inr rfl)⟩
          · have ST2 := Lib.hid (STOP.out (EQ2.out.trans (if_neg hle)))
            go_wp2_with fail
            go_ret2
            exact ST2.out
        · have ST2 := Lib.hid (STOP.out (EQ.out.trans (by
            match hd : S.drop k with
            | [] => rfl
            | [x] => rfl
            | x :: y :: r =>
              exfalso
              have := congrArg List.length hd
              rw [List.length_drop] at this
              simp at this; omega)))
          go_wp2_with fail
          go_ret2
          exact ST2.out
end Go.Proofs.YtmpdmejlpicdlaaDoor

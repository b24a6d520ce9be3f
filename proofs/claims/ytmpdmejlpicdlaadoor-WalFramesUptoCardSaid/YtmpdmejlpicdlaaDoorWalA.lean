/- wal's Append. -/
import Derived.Test.YtmpdmejlpicdlaaDoorWalO
namespace Go.Proofs.YtmpdmejlpicdlaaDoor
open Go.RowKit Go.Bw Go.Maps
set_option linter.unusedVariables false
set_option linter.unusedSimpArgs false

/-- An open journal at wp, its disk at d; Q's blocks are not the disk's. -/
structure WalAt (Q : Nat → Prop) (w : World) (wp d : Nat) (W : AWal) : Prop where
  cells : w.heap[wp]? = some (walCells d W.per W.first W.next W.sick)
  own : Q wp
  disk : Held Q w d W.dsk
theorem WalAt.mod {Q T : Nat → Prop} {w w' : World} {wp d : Nat} {W : AWal} (h : WalAt Q w wp d W) (hm : Mod T w w') (hT : ∀ k, k < w.heap.size → T k → Q k ∧ k ≠ wp) : WalAt Q w' wp d W :=
  ⟨hm.heap h.cells (fun ht => (hT wp (lt_of_heap h.cells) ht).2 rfl), h.own, h.disk.mod hm (fun k h1 h2 => (hT k h1 h2).1)⟩
def WStep (Q : Nat → Prop) (w : World) (wp d : Nat) (R : AWal × Int × Int) (e : Ending) (w' : World) : Prop := e = .returned (.tuple #[.int .i64 R.2.1, .int .i64 R.2.2]) ∧ WalAt Q w' wp d R.1 ∧ Mod (fun k => ¬ Q k ∨ k = wp) w w'
theorem app_out {Q : Nat → Prop} {w w' : World} {wp d : Nat} {R : AWal × Int × Int} {A : ADsk} {per first next sick n er : Int} (hR : R = (⟨A, per, first, next, sick⟩, n, er)) (hc : w'.heap[wp]? = some (walCells d per first next sick)) (ho : Q wp) (hd : Held Q w' d A) (hm : Mod (fun k => ¬ Q k ∨ k = wp) w w') :
    WStep Q w wp d R (.returned (.tuple #[.int .i64 n, .int .i64 er])) w' := by subst hR; exact ⟨rfl, ⟨hc, ho, hd⟩, hm⟩

set_option maxRecDepth 100000 in
set_option maxHeartbeats 3000000 in
theorem walAppend_any {Q : Nat → Prop} {w : World} {wp d : Nat} {W : AWal} (h : WalAt Q w wp d W) (hf : 0 ≤ W.first ∧ W.first ≤ 2000000000) (hn : 0 ≤ W.next ∧ W.next ≤ 2000000000) (v : Value) (r : List Int)
    (hR : Reads w 1 v r.length (bcells r)) (hl : r.length ≤ 140737488351232) (hL : Laid w) :
    Calls Tryd.prog 38 #[.pointer (some ⟨wp, 0, none⟩), v] w (WStep Q w wp d (W.append r)) := by
  obtain ⟨A, per, first, next, sick⟩ := W
  obtain ⟨a, c, rfl⟩ := reads_form hR
  have HR := Lib.hid hR
  have HL := Lib.hid hL
  have H := Lib.hid h.disk
  have OWN := Lib.hid h.own
  have CC := Lib.hid h.cells
  obtain ⟨hf0, hf1⟩ : 0 ≤ first ∧ first ≤ 2000000000 := hf
  obtain ⟨hn0, hn1⟩ : 0 ≤ next ∧ next ≤ 2000000000 := hn
  clear h hR hL
  obtain ⟨R, hRR⟩ : ∃ R, R = AWal.append ⟨A, per, first, next, sick⟩ r := ⟨_, rfl⟩
  rw [← hRR]
  go_enter Tryd.func38, Tryd.ntmps38
  go_wp2_with fail
  refine (frame_any w _ r HR.out hl HL.out).mono ?_
  rintro e w1 ⟨v1, rfl, ho, hb⟩
  have M1 := Lib.hid (Mod.ofBelow hb)
  have CC1 := Lib.hid ((Mod.ofBelow hb).heap CC.out (fun h => h))
  have H1 := Lib.hid (H.out.fresh (Mod.ofBelow hb) (fun _ _ h => h.elim))
  have L1 := Lib.hid (HL.out.below hb)
  obtain ⟨a1, c1, rfl, _⟩ := ownsRow_slice ho
  by_cases hbig : 65536 < r.length
  · have ER := Lib.hid (show R = (⟨A, per, first, next, sick⟩, 0, 3) from by rw [hRR]; unfold AWal.append; rw [if_pos hbig])
    rw [show frameA r = ([], 3) from if_pos hbig]
    clear hRR ho hb
    go_wp2_with fail
    go_ret2
    exact app_out ER.out CC1.out OWN.out (H1.out.weaken (fun k hk => Or.inl hk)) (M1.out.mono (fun _ _ h => h.elim))
  rw [show frameA r = (frame r, 0) from if_neg hbig] at ho ⊢
  have V2 := Lib.hid ho
  have EA := Lib.hid (show R = if sick ≠ 0 then (⟨A, per, first, next, sick⟩, 0, sick) else (AWal.append ⟨A, per, first, next, 0⟩ r) from by
    rw [hRR]
    by_cases hs : sick = 0
    · subst hs; rw [if_neg (by simp)]
    · unfold AWal.append; rw [if_neg hbig, if_pos hs, if_pos hs])
  clear hRR ho hb
  have p1 := cell_of_heap CC1.out 1
  have p2 := cell_of_heap CC1.out 2
  have p3 := cell_of_heap CC1.out 3
  have p4 := cell_of_heap CC1.out 4
  by_cases hsick : sick = 0
  case neg =>
    have hsick' : (sick != 0) = true := by rw [bne_iff_ne]; exact hsick
    have ER := Lib.hid (EA.out.trans (if_pos hsick))
    clear hsick
    go_wp2_with fail
    go_quiet (fail)
    go_wp2_with fail
    go_ret2
    exact app_out ER.out (((Mod.refl (fun _ => False) w1).drewN _).heap CC1.out (fun h => h)) OWN.out ((H1.out.weaken (fun k hk => Or.inl hk)).mod ((Mod.refl (fun _ => False) w1).drewN _) (fun _ _ h => h.elim)) ((M1.out.trans ((Mod.refl (fun _ => False) w1).drewN _) (fun _ _ h => h)).mono (fun _ _ h => h.elim))
  subst hsick
  have EE := Lib.hid (EA.out.trans (show _ = (if walNm (AWal.seg ⟨A, per, first, next, 0⟩) = [] then ((⟨A, per, first, next, 0⟩, 0, 22) : AWal × Int × Int) else _) from by
    rw [if_neg (by simp)]
    unfold AWal.append
    rw [if_neg hbig, if_neg (by simp)]))
  clear EA
  go_wp2_with fail
  go_quiet (fail)
  have M2 := Lib.hid (M1.out.trans ((Mod.refl (fun _ => False) w1).drewN nq) (fun _ _ h => h))
  have MD := Lib.hid ((Mod.refl (fun _ => False) w1).drewN nq)
  have CC2 := Lib.hid (MD.out.heap CC1.out (fun h => h))
  have H2 := Lib.hid (H1.out.mod MD.out (fun _ _ h => h.elim))
  have L2 := Lib.hid (L1.out.mod MD.out (fun _ _ h => h))
  have VB := Lib.hid (fun k hk => V2.out.lt k hk)
  have V2' := Lib.hid (ownsRow_kept V2.out (fun k hk => MD.out.block k (V2.out.lt k hk).2 (fun h => h)))
  clear V2 M1 CC1 H1 L1 p1 p2 p3 p4
  have V2 := V2'
  have M1 := M2
  clear V2'
  generalize w1.drewN nq = w2 at MD M2 M1 CC2 H2 L2 V2 ⊢
  have p3 := cell_of_heap CC2.out 3
  by_cases hseg : per ≤ next - first
  · have SEG := Lib.hid (show AWal.seg ⟨A, per, first, next, 0⟩ = next from if_pos hseg)
    go_wp2_with fail
    refine (walName_any _ next (by omega) (by omega) L2.out).mono ?_
    obtain ⟨nm, hnm⟩ : ∃ nm, nm = walNm next := ⟨_, rfl⟩
    rw [show nm9 106 1 next = nm from hnm.symm]
    rintro e w3 ⟨rfl, hb⟩
    have NM := Lib.hid hnm
    have M3 := Lib.hid (Mod.ofBelow hb)
    have CC3 := Lib.hid ((Mod.ofBelow hb).heap CC2.out (fun h => h))
    have H3 := Lib.hid (H2.out.mod (Mod.ofBelow hb) (fun _ _ h => h.elim))
    have V3 := Lib.hid (ownsRow_kept V2.out (fun k hk => hb.block k (V2.out.lt k hk).2))
    have EE2 := Lib.hid (EE.out.trans (show _ = (if nm = [] then (⟨A, per, first, next, 0⟩, 0, 22) else if (A.append nm (frame r)).2 = 3 ∨ (A.append nm (frame r)).2 = 22 then (⟨(A.append nm (frame r)).1, per, first, next, 0⟩, 0, 22)
      else if (if (A.append nm (frame r)).2 = 0 then (A.append nm (frame r)).1.sync nm else A.append nm (frame r)).2 ≠ 0 then (⟨(if (A.append nm (frame r)).2 = 0 then (A.append nm (frame r)).1.sync nm else A.append nm (frame r)).1, per, first, next, (if (A.append nm (frame r)).2 = 0 then (A.append nm (frame r)).1.sync nm else A.append nm (frame r)).2⟩, 0, (if (A.append nm (frame r)).2 = 0 then (A.append nm (frame r)).1.sync nm else A.append nm (frame r)).2)
      else (⟨(if (A.append nm (frame r)).2 = 0 then (A.append nm (frame r)).1.sync nm else A.append nm (frame r)).1, per, next, next + 1, 0⟩, next, 0) : AWal × Int × Int) from by rw [show AWal.seg ⟨A, per, first, next, 0⟩ = next from SEG.out, ← hnm]))
    clear hnm hb
    by_cases hnil : nm = []
    · have ER := Lib.hid (EE2.out.trans (if_pos hnil))
      subst hnil
      go_wp2_with fail
      go_ret2
      exact app_out ER.out CC3.out OWN.out ((H3.out.weaken (fun k hk => Or.inl hk))) ((M1.out.trans M3.out (fun _ _ h => h)).mono (fun _ _ h => h.elim))
    have EE3 := Lib.hid (EE2.out.trans (if_neg hnil))
    obtain ⟨s, hs⟩ : ∃ s : ByteArray, s = ⟨nm.toArray⟩ := ⟨_, rfl⟩
    have hsn : s.data.toList = nm := by rw [hs]
    have hs0 : (s.toList == ([] : List UInt8)) = false := by
      rw [ByteArray.toList_eq, hsn, beq_eq_false_iff_ne]; exact hnil
    have hs1 : (s.toList == (⟨#[]⟩ : ByteArray).toList) = false := by
      rw [ByteArray.toList_eq, ByteArray.toList_eq, hsn, beq_eq_false_iff_ne]; exact hnil
    have hsz : s.size ≤ maxLen := by
      have : s.size = nm.length := by rw [← hsn]; rfl
      have h10 := nm9_length (c := 106) (lo := 1) (n := next) (by rw [show nm9 106 1 next = nm from NM.out.symm]; exact hnil)
      rw [show nm9 106 1 next = nm from NM.out.symm] at h10
      rw [this, h10]; decide
    rw [← hs]
    have HSN := Lib.hid hsn
    have HSZ := Lib.hid hsz
    clear hs hsn hsz hnil
    have p0 := cell_of_heap CC3.out 0
    go_wp2_with fail
    clear hs0 hs1
    refine (held_append H3.out s HSZ.out _ (frame r) (ownsRow_reads V3.out) (fun _ k hk => Or.inr (VB.out k hk)) (by rw [frame_length]; omega)).mono ?_
    obtain ⟨T, hT⟩ : ∃ T, T = A.append nm (frame r) := ⟨_, rfl⟩
    rw [HSN.out, ← hT]
    rw [← hT] at EE3
    clear hT
    rintro e w4 ⟨rfl, hH, hm⟩
    have H4 := Lib.hid hH
    have M4 := Lib.hid (show Mod (fun k => ¬ Q k ∨ k = wp) w w4 from ((M1.out.trans M3.out (fun _ _ h => h)).mono (T := fun k => ¬ Q k ∨ k = wp) (fun _ _ h => h.elim)).trans hm (fun k _ h => Or.inl (fun hq => h (Or.inl hq))))
    have CC4 := Lib.hid (hm.heap CC3.out (fun h => h (Or.inl OWN.out)))
    clear hH hm p0
    obtain ⟨A4, e4⟩ := T
    by_cases h3 : e4 = 3
    · subst h3
      have ER := Lib.hid (EE3.out.trans (if_pos (Or.inl rfl)))
      go_wp2_with fail
      go_ret2
      exact app_out ER.out CC4.out OWN.out (H4.out.weaken (fun k hk => Or.inl hk)) M4.out
    by_cases h22 : e4 = 22
    · subst h22
      have ER := Lib.hid (EE3.out.trans (if_pos (Or.inr rfl)))
      go_wp2_with fail
      go_ret2
      exact app_out ER.out CC4.out OWN.out (H4.out.weaken (fun k hk => Or.inl hk)) M4.out
    have EE4 := Lib.hid (EE3.out.trans (if_neg (show ¬ (((A4, e4) : ADsk × Int).2 = 3 ∨ ((A4, e4) : ADsk × Int).2 = 22) from fun h => h.elim h3 h22)))
    have h3' : (e4 == 3) = false := by simp [h3]
    have h22' : (e4 == 22) = false := by simp [h22]
    clear h3 h22
    by_cases h0 : e4 = 0
    · subst h0
      have EE5 := Lib.hid (EE4.out.trans (show _ = (if (A4.sync nm).2 ≠ 0 then (⟨(A4.sync nm).1, per, first, next, (A4.sync nm).2⟩, 0, (A4.sync nm).2) else (⟨(A4.sync nm).1, per, next, next + 1, 0⟩, next, 0) : AWal × Int × Int) from by rfl))
      have p0 := cell_of_heap CC4.out 0
      go_wp2_with fail
      refine (held_sync H4.out s HSZ.out).mono ?_
      obtain ⟨T, hT⟩ : ∃ T, T = A4.sync nm := ⟨_, rfl⟩
      rw [HSN.out, ← hT]
      rw [← hT] at EE5
      clear hT
      rintro e w5 ⟨rfl, hH, hm⟩
      have H5 := Lib.hid hH
      have M5 := Lib.hid (M4.out.trans hm (fun k _ h => Or.inl (fun hq => h (Or.inl hq))))
      have CC5 := Lib.hid (hm.heap CC4.out (fun h => h (Or.inl OWN.out)))
      clear hH hm p0 h3' h22'
      obtain ⟨A5, e5⟩ := T
      have z2 := free_of_heap CC5.out 2
      have z3 := free_of_heap CC5.out 3
      have z4 := free_of_heap CC5.out 4
      have p3 := cell_of_heap CC5.out 3
      have p2 := cell_of_heap CC5.out 2
      have p4 := cell_of_heap CC5.out 4
      by_cases h0 : e5 = 0
      · subst h0
        have ER := Lib.hid (EE5.out.trans (if_neg (by simp)))
        have C6 := heap_setCell_at CC5.out 2 (.int .i64 next)
        have q3 := cell_of_heap C6 3
        have y3 := free_of_heap C6 3
        have C7 := Lib.hid (heap_setCell_at C6 3 (.int .i64 (next + 1)))
        have q7 := cell_of_heap C7.out 3
        clear C6
        go_wp2_with fail
        go_ret2
        refine app_out ER.out C7.out OWN.out ((H5.out.weaken (fun k hk => Or.inl hk)).mod (((Mod.refl (fun k => k = wp) w5).setCell (p := ⟨wp, 2, none⟩) _ (fun _ => rfl)).setCell (p := ⟨wp, 3, none⟩) _ (fun _ => rfl)) (fun k _ e => by rw [e]; exact OWN.out)) ((M5.out.setCell (p := ⟨wp, 2, none⟩) _ (fun _ => Or.inr rfl)).setCell (p := ⟨wp, 3, none⟩) _ (fun _ => Or.inr rfl))
      · have ER := Lib.hid (EE5.out.trans (if_pos (by simpa using h0)))
        have h0' : (e5 != 0) = true := by rw [bne_iff_ne]; exact h0
        have C6 := Lib.hid (heap_setCell_at CC5.out 4 (.int .i64 e5))
        clear h0
        go_wp2_with fail
        go_ret2
        exact app_out ER.out C6.out OWN.out ((H5.out.weaken (fun k hk => Or.inl hk)).mod ((Mod.refl (fun k => k = wp) w5).setCell (p := ⟨wp, 4, none⟩) _ (fun _ => rfl)) (fun k _ e => by rw [e]; exact OWN.out)) (M5.out.setCell (p := ⟨wp, 4, none⟩) _ (fun _ => Or.inr rfl))
    · have EE5 := Lib.hid (EE4.out.trans (show _ = ((⟨A4, per, first, next, e4⟩, 0, e4) : AWal × Int × Int) from by
        simp only [if_neg h0]
        rw [if_pos (by simpa using h0)]))
      have h0' : (e4 != 0) = true := by rw [bne_iff_ne]; exact h0
      have h0'' : (e4 == 0) = false := by simp [h0]
      have z4 := free_of_heap CC4.out 4
      have p4 := cell_of_heap CC4.out 4
      have C6 := Lib.hid (heap_setCell_at CC4.out 4 (.int .i64 e4))
      clear h0
      go_wp2_with fail
      go_ret2
      exact app_out EE5.out C6.out OWN.out ((H4.out.weaken (fun k hk => Or.inl hk)).mod ((Mod.refl (fun k => k = wp) w4).setCell (p := ⟨wp, 4, none⟩) _ (fun _ => rfl)) (fun k _ e => by rw [e]; exact OWN.out)) (M4.out.setCell (p := ⟨wp, 4, none⟩) _ (fun _ => Or.inr rfl))
  · have SEG := Lib.hid (show AWal.seg ⟨A, per, first, next, 0⟩ = first from if_neg hseg)
    go_wp2_with fail
    refine (walName_any _ first (by omega) (by omega) L2.out).mono ?_
    obtain ⟨nm, hnm⟩ : ∃ nm, nm = walNm first := ⟨_, rfl⟩
    rw [show nm9 106 1 first = nm from hnm.symm]
    rintro e w3 ⟨rfl, hb⟩
    have NM := Lib.hid hnm
    have M3 := Lib.hid (Mod.ofBelow hb)
    have CC3 := Lib.hid ((Mod.ofBelow hb).heap CC2.out (fun h => h))
    have H3 := Lib.hid (H2.out.mod (Mod.ofBelow hb) (fun _ _ h => h.elim))
    have V3 := Lib.hid (ownsRow_kept V2.out (fun k hk => hb.block k (V2.out.lt k hk).2))
    have EE2 := Lib.hid (EE.out.trans (show _ = (if nm = [] then (⟨A, per, first, next, 0⟩, 0, 22) else if (A.append nm (frame r)).2 = 3 ∨ (A.append nm (frame r)).2 = 22 then (⟨(A.append nm (frame r)).1, per, first, next, 0⟩, 0, 22)
      else if (if (A.append nm (frame r)).2 = 0 then (A.append nm (frame r)).1.sync nm else A.append nm (frame r)).2 ≠ 0 then (⟨(if (A.append nm (frame r)).2 = 0 then (A.append nm (frame r)).1.sync nm else A.append nm (frame r)).1, per, first, next, (if (A.append nm (frame r)).2 = 0 then (A.append nm (frame r)).1.sync nm else A.append nm (frame r)).2⟩, 0, (if (A.append nm (frame r)).2 = 0 then (A.append nm (frame r)).1.sync nm else A.append nm (frame r)).2)
      else (⟨(if (A.append nm (frame r)).2 = 0 then (A.append nm (frame r)).1.sync nm else A.append nm (frame r)).1, per, first, next + 1, 0⟩, next, 0) : AWal × Int × Int) from by rw [show AWal.seg ⟨A, per, first, next, 0⟩ = first from SEG.out, ← hnm]))
    clear hnm hb
    by_cases hnil : nm = []
    · have ER := Lib.hid (EE2.out.trans (if_pos hnil))
      subst hnil
      go_wp2_with fail
      go_ret2
      exact app_out ER.out CC3.out OWN.out ((H3.out.weaken (fun k hk => Or.inl hk))) ((M1.out.trans M3.out (fun _ _ h => h)).mono (fun _ _ h => h.elim))
    have EE3 := Lib.hid (EE2.out.trans (if_neg hnil))
    obtain ⟨s, hs⟩ : ∃ s : ByteArray, s = ⟨nm.toArray⟩ := ⟨_, rfl⟩
    have hsn : s.data.toList = nm := by rw [hs]
    have hs0 : (s.toList == ([] : List UInt8)) = false := by
      rw [ByteArray.toList_eq, hsn, beq_eq_false_iff_ne]; exact hnil
    have hs1 : (s.toList == (⟨#[]⟩ : ByteArray).toList) = false := by
      rw [ByteArray.toList_eq, ByteArray.toList_eq, hsn, beq_eq_false_iff_ne]; exact hnil
    have hsz : s.size ≤ maxLen := by
      have : s.size = nm.length := by rw [← hsn]; rfl
      have h10 := nm9_length (c := 106) (lo := 1) (n := first) (by rw [show nm9 106 1 first = nm from NM.out.symm]; exact hnil)
      rw [show nm9 106 1 first = nm from NM.out.symm] at h10
      rw [this, h10]; decide
    rw [← hs]
    have HSN := Lib.hid hsn
    have HSZ := Lib.hid hsz
    clear hs hsn hsz hnil
    have p0 := cell_of_heap CC3.out 0
    go_wp2_with fail
    clear hs0 hs1
    refine (held_append H3.out s HSZ.out _ (frame r) (ownsRow_reads V3.out) (fun _ k hk => Or.inr (VB.out k hk)) (by rw [frame_length]; omega)).mono ?_
    obtain ⟨T, hT⟩ : ∃ T, T = A.append nm (frame r) := ⟨_, rfl⟩
    rw [HSN.out, ← hT]
    rw [← hT] at EE3
    clear hT
    rintro e w4 ⟨rfl, hH, hm⟩
    have H4 := Lib.hid hH
    have M4 := Lib.hid (show Mod (fun k => ¬ Q k ∨ k = wp) w w4 from ((M1.out.trans M3.out (fun _ _ h => h)).mono (T := fun k => ¬ Q k ∨ k = wp) (fun _ _ h => h.elim)).trans hm (fun k _ h => Or.inl (fun hq => h (Or.inl hq))))
    have CC4 := Lib.hid (hm.heap CC3.out (fun h => h (Or.inl OWN.out)))
    clear hH hm p0
    obtain ⟨A4, e4⟩ := T
    by_cases h3 : e4 = 3
    · subst h3
      have ER := Lib.hid (EE3.out.trans (if_pos (Or.inl rfl)))
      go_wp2_with fail
      go_ret2
      exact app_out ER.out CC4.out OWN.out (H4.out.weaken (fun k hk => Or.inl hk)) M4.out
    by_cases h22 : e4 = 22
    · subst h22
      have ER := Lib.hid (EE3.out.trans (if_pos (Or.inr rfl)))
      go_wp2_with fail
      go_ret2
      exact app_out ER.out CC4.out OWN.out (H4.out.weaken (fun k hk => Or.inl hk)) M4.out
    have EE4 := Lib.hid (EE3.out.trans (if_neg (show ¬ (((A4, e4) : ADsk × Int).2 = 3 ∨ ((A4, e4) : ADsk × Int).2 = 22) from fun h => h.elim h3 h22)))
    have h3' : (e4 == 3) = false := by simp [h3]
    have h22' : (e4 == 22) = false := by simp [h22]
    clear h3 h22
    by_cases h0 : e4 = 0
    · subst h0
      have EE5 := Lib.hid (EE4.out.trans (show _ = (if (A4.sync nm).2 ≠ 0 then (⟨(A4.sync nm).1, per, first, next, (A4.sync nm).2⟩, 0, (A4.sync nm).2) else (⟨(A4.sync nm).1, per, first, next + 1, 0⟩, next, 0) : AWal × Int × Int) from by rfl))
      have p0 := cell_of_heap CC4.out 0
      go_wp2_with fail
      refine (held_sync H4.out s HSZ.out).mono ?_
      obtain ⟨T, hT⟩ : ∃ T, T = A4.sync nm := ⟨_, rfl⟩
      rw [HSN.out, ← hT]
      rw [← hT] at EE5
      clear hT
      rintro e w5 ⟨rfl, hH, hm⟩
      have H5 := Lib.hid hH
      have M5 := Lib.hid (M4.out.trans hm (fun k _ h => Or.inl (fun hq => h (Or.inl hq))))
      have CC5 := Lib.hid (hm.heap CC4.out (fun h => h (Or.inl OWN.out)))
      clear hH hm p0 h3' h22'
      obtain ⟨A5, e5⟩ := T
      have z2 := free_of_heap CC5.out 2
      have z3 := free_of_heap CC5.out 3
      have z4 := free_of_heap CC5.out 4
      have p3 := cell_of_heap CC5.out 3
      have p2 := cell_of_heap CC5.out 2
      have p4 := cell_of_heap CC5.out 4
      by_cases h0 : e5 = 0
      · subst h0
        have ER := Lib.hid (EE5.out.trans (if_neg (by simp)))
        have C6 := heap_setCell_at CC5.out 2 (.int .i64 first)
        have q3 := cell_of_heap C6 3
        have y3 := free_of_heap C6 3
        have C7 := Lib.hid (heap_setCell_at C6 3 (.int .i64 (next + 1)))
        have q7 := cell_of_heap C7.out 3
        clear C6
        go_wp2_with fail
        go_ret2
        refine app_out ER.out C7.out OWN.out ((H5.out.weaken (fun k hk => Or.inl hk)).mod (((Mod.refl (fun k => k = wp) w5).setCell (p := ⟨wp, 2, none⟩) _ (fun _ => rfl)).setCell (p := ⟨wp, 3, none⟩) _ (fun _ => rfl)) (fun k _ e => by rw [e]; exact OWN.out)) ((M5.out.setCell (p := ⟨wp, 2, none⟩) _ (fun _ => Or.inr rfl)).setCell (p := ⟨wp, 3, none⟩) _ (fun _ => Or.inr rfl))
      · have ER := Lib.hid (EE5.out.trans (if_pos (by simpa using h0)))
        have h0' : (e5 != 0) = true := by rw [bne_iff_ne]; exact h0
        have C6 := Lib.hid (heap_setCell_at CC5.out 4 (.int .i64 e5))
        clear h0
        go_wp2_with fail
        go_ret2
        exact app_out ER.out C6.out OWN.out ((H5.out.weaken (fun k hk => Or.inl hk)).mod ((Mod.refl (fun k => k = wp) w5).setCell (p := ⟨wp, 4, none⟩) _ (fun _ => rfl)) (fun k _ e => by rw [e]; exact OWN.out)) (M5.out.setCell (p := ⟨wp, 4, none⟩) _ (fun _ => Or.inr rfl))
    · have EE5 := Lib.hid (EE4.out.trans (show _ = ((⟨A4, per, first, next, e4⟩, 0, e4) : AWal × Int × Int) from by
        simp only [if_neg h0]
        rw [if_pos (by simpa using h0)]))
      have h0' : (e4 != 0) = true := by rw [bne_iff_ne]; exact h0
      have h0'' : (e4 == 0) = false := by simp [h0]
      have z4 := free_of_heap CC4.out 4
      have p4 := cell_of_heap CC4.out 4
      have C6 := Lib.hid (heap_setCell_at CC4.out 4 (.int .i64 e4))
      clear h0
      go_wp2_with fail
      go_ret2
      exact app_out EE5.out C6.out OWN.out ((H4.out.weaken (fun k hk => Or.inl hk)).mod ((Mod.refl (fun k => k = wp) w4).setCell (p := ⟨wp, 4, none⟩) _ (fun _ => rfl)) (fun k _ e => by rw [e]; exact OWN.out)) (M4.out.setCell (p := ⟨wp, 4, none⟩) _ (fun _ => Or.inr rfl))
end Go.Proofs.YtmpdmejlpicdlaaDoor

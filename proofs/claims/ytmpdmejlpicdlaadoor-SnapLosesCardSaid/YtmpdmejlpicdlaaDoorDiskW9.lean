/- Truncate, Rename, Remove, walked. -/
import Derived.Test.YtmpdmejlpicdlaaDoorDiskW8
namespace Go.Proofs.YtmpdmejlpicdlaaDoor
open Go.RowKit Go.Bw Go.Maps
set_option linter.unusedVariables false
set_option linter.unusedSimpArgs false

section
variable {w : World} {d : Nat} {D : Dsk}

/-- A file of which the first bytes stay. -/
theorem FileAt.cut {w : World} {f : Fil} (h : FileAt w f) {a1 a2 : Option Addr} {k1 k2 : Nat} (e1 : f.sv = .slice a1 f.c.safe.length k1) (e2 : f.wv = .slice a2 f.c.wait.length k2) (i j : Nat) (hi : i ≤ f.c.safe.length) (hj : j ≤ f.c.wait.length) (hnd : f.blocks.Nodup) :
    let w2 := (w.setCell ⟨f.blk, 1, none⟩ (.slice a2 j k2)).setCell ⟨f.blk, 0, none⟩ (.slice a1 i k1)
    let f' : Fil := ⟨f.blk, .slice a1 i k1, .slice a2 j k2, ⟨f.c.safe.take i, f.c.wait.take j⟩⟩
    FileAt w2 f' ∧ Mod (fun k => k ∈ f.blocks) w w2 ∧ (∀ k ∈ f'.blocks, k ∈ f.blocks ∨ w.heap.size ≤ k) ∧ f'.blocks.Nodup := by
  intro w2 f'
  have ob1 : Value.ownBlock (.slice a1 i k1) = f.sv.ownBlock := by rw [e1]; cases a1 <;> rfl
  have ob2 : Value.ownBlock (.slice a2 j k2) = f.wv.ownBlock := by rw [e2]; cases a2 <;> rfl
  have hb : f'.blocks = f.blocks := by show f.blk :: (Value.ownBlock (.slice a1 i k1)).toList ++ (Value.ownBlock (.slice a2 j k2)).toList = _; rw [ob1, ob2]; rfl
  have hnd' : f.blk ∉ f.sv.ownBlock.toList ++ f.wv.ownBlock.toList := (List.nodup_cons.1 hnd).1
  have hns : f.sv.ownBlock ≠ some f.blk := fun e => hnd' (by simp [e])
  have hnw : f.wv.ownBlock ≠ some f.blk := fun e => hnd' (by simp [e])
  have h2 : w2.heap[f.blk]? = some (.cells #[.slice a1 i k1, .slice a2 j k2] 78 (0, 0)) := by
    have := heap_setCell_at (heap_setCell_at h.cells 1 (.slice a2 j k2)) 0 (.slice a1 i k1)
    simpa using this
  have hne : ∀ b, b ≠ f.blk → w2.heap[b]? = w.heap[b]? := fun b e => by rw [heap_setCell_ne e, heap_setCell_ne e]
  have hs : w.ownsRow 0 5 1 (.slice a1 f.c.safe.length k1) f.c.safe.length (bcells f.c.safe) := by rw [← e1]; exact h.safe
  have hw : w.ownsRow 0 5 1 (.slice a2 f.c.wait.length k2) f.c.wait.length (bcells f.c.wait) := by rw [← e2]; exact h.wait
  refine ⟨⟨h2, ?_, ?_⟩, ?_, fun k hk => Or.inl (by rw [← hb]; exact hk), by rw [hb]; exact hnd⟩
  · have := ownsRow_kept (ownsRow_take hs i hi) (fun b e => hne b (fun e' => hns (by rw [← ob1, ← e']; exact e)))
    have el : f'.c.safe.length = i := by simp [f']; omega
    have ec : bcells f'.c.safe = (bcells f.c.safe).take i := by simp [f', bcells, List.map_take]
    rw [el, ec]; exact this
  · have := ownsRow_kept (ownsRow_take hw j hj) (fun b e => hne b (fun e' => hnw (by rw [← ob2, ← e']; exact e)))
    have el : f'.c.wait.length = j := by simp [f']; omega
    have ec : bcells f'.c.wait = (bcells f.c.wait).take j := by simp [f', bcells, List.map_take]
    rw [el, ec]; exact this
  · exact ((Mod.refl (fun k => k ∈ f.blocks) w).setCell _ (fun _ => by simp [Fil.blocks])).setCell _ (fun _ => by simp [Fil.blocks])

theorem DStep.drew {w' : World} {A : ADsk} (h : DStep w d D w' A) : DStep w d D w'.drew A := by
  obtain ⟨D', h1, h2, h3, h4⟩ := h
  exact ⟨D', h1.drewN 1, h2, h3.drew, h4⟩

set_option maxRecDepth 10000 in
set_option maxHeartbeats 1000000 in
theorem trunc_any (h : DiskAt w d D) (s : ByteArray) (hs : s.size ≤ maxLen) (n : Int) (hn0 : -9223372036854775808 ≤ n) (hn1 : n ≤ 9223372036854775807) :
    Calls Tryd.prog 71 #[.pointer (some ⟨d, 0, none⟩), .string s, .int .i64 n] w fun e w' => e = .returned (.int .i64 (D.abs.trunc s.data.toList n).2) ∧ DStep w d D w' (D.abs.trunc s.data.toList n).1 := by
  by_cases hz : D.abs.there s.data.toList = 0
  · obtain ⟨hr, f, hf⟩ := there_zero h _ hz
    have T := Lib.hid (there_yes h s hs f hf hr)
    have R := Lib.hid (raw_any h)
    have hp := look_some hf
    have hF := h.files _ hp
    obtain ⟨a1, k1, a2, k2, e3, e4, f1, f2⟩ := hF.shape
    have hlen : f.c.safe.length + f.c.wait.length ≤ 1048576 := h.ok.small (s.data.toList, f.c) (List.mem_map.2 ⟨_, hp, rfl⟩)
    have habs : lookF D.abs.files s.data.toList = some f.c := by rw [look_abs, hf]; rfl
    have ev0 : ∀ (b : Prop) [Decidable b], (n < 0 ∨ (f.c.len : Int) < n ↔ b) → D.abs.trunc s.data.toList n = if b then (D.abs, 3) else D.abs.does (ADsk.onFile s.data.toList (fun c => ⟨c.safe.take n.toNat, c.wait.take (n.toNat - c.safe.length)⟩)) := by
      intro b _ hb
      unfold ADsk.trunc
      rw [if_neg (fun hx => hx hz), habs]
      simp only [Option.getD_some]
      by_cases hb' : b
      · rw [if_pos (hb.2 hb'), if_pos hb']
      · rw [if_neg (fun hx => hb' (hb.1 hx)), if_neg hb']
    by_cases hlong : n < 0 ∨ (f.c.len : Int) < n
    · -- refused
      have ev : D.abs.trunc s.data.toList n = (D.abs, 3) := by rw [ev0 _ Iff.rfl, if_pos hlong]
      rw [ev]
      have Hs := Lib.hid (h)
      have hc : f.c.len = f.c.safe.length + f.c.wait.length := rfl
      rw [hc] at hlong
      rcases hlong with hneg | hgt
      · clear ev0 ev hs hr hf habs h hF hc e3 e4 hp R hz
        have hd : decide (n < 0) = true := by simpa using hneg
        go_enter Tryd.func71, Tryd.ntmps71
        go_wp2_with fail
        refine T.out.mono ?_
        rintro e w1 ⟨rfl, rfl⟩
        go_wp2_with fail
        go_quiet (fail)
        go_wp2_with fail
        go_ret
        exact ⟨rfl, ⟨D, Hs.out.drewN _, rfl, (Mod.refl _ _).drewN _, fun k hk => Or.inl hk⟩⟩
      · have hnn : ¬ n < 0 := by omega
        have hd : decide (n < 0) = false := by simpa using hnn
        clear ev0 ev hs hr hf habs h hF hc e3 e4 hp R hz
        go_enter Tryd.func71, Tryd.ntmps71
        go_wp2_with fail
        refine T.out.mono ?_
        rintro e w1 ⟨rfl, rfl⟩
        go_wp2_with fail
        go_quiet (fail)
        go_wp2_with fail
        go_ret
        exact ⟨rfl, ⟨D, Hs.out.drewN _, rfl, (Mod.refl _ _).drewN _, fun k hk => Or.inl hk⟩⟩
    · have ev : D.abs.trunc s.data.toList n = D.abs.does (ADsk.onFile s.data.toList (fun c => ⟨c.safe.take n.toNat, c.wait.take (n.toNat - c.safe.length)⟩)) := by rw [ev0 _ Iff.rfl, if_neg hlong]
      have hc : f.c.len = f.c.safe.length + f.c.wait.length := rfl
      rw [hc] at hlong
      have hnn : ¬ n < 0 := fun hx => hlong (Or.inl hx)
      have hle : n ≤ (f.c.safe.length : Int) + (f.c.wait.length : Int) := by omega
      obtain ⟨N, rfl⟩ := Int.eq_ofNat_of_zero_le (Int.not_lt.1 hnn)
      rw [ev]
      clear ev ev0 hlong
      have hd : decide ((N : Int) < 0) = false := by simp
      obtain ⟨V1, V2⟩ := ADsk.does_eqs D.abs (ADsk.onFile s.data.toList (fun c => ⟨c.safe.take (N : Int).toNat, c.wait.take ((N : Int).toNat - c.safe.length)⟩))
      have hNle : N ≤ f.c.safe.length + f.c.wait.length := by omega
      rw [Int.toNat_natCast] at V1 V2 ⊢
      have H := Lib.hid h
      have E4 := Lib.hid e4
      have E3 := Lib.hid e3
      clear h hF
      go_enter Tryd.func71, Tryd.ntmps71
      go_wp2_with fail
      refine T.out.mono ?_
      rintro e w1 ⟨rfl, rfl⟩
      go_wp2_with fail
      go_quiet (fail)
      go_wp2_with fail
      obtain ⟨w3, hw⟩ : ∃ w3, w3 = w.drewN nq := ⟨_, rfl⟩
      have h3 : DiskAt w3 d D := by rw [hw]; exact H.out.drewN nq
      have hw3 := Lib.hid (show Mod (fun k => k ∈ D.blocks d) w w3 ∧ True from ⟨by rw [hw]; exact (Mod.refl _ _).drewN nq, trivial⟩)
      rw [← hw]
      clear hw
      have R3 := Lib.hid (raw_any h3)
      by_cases har : D.ar = 1
      · have e1 : (D.ar == 1) = true := by simpa using har
        have V := Lib.hid (V1 har)
        rw [e1] at R3
        have E := Lib.hid (ends_any h3.raw)
        have H3 := Lib.hid h3
        clear e3 e4 hp habs hf hr hz V1 V2 h3 e1 har R hd
        refine R3.out.mono ?_
        rintro e w1 ⟨rfl, rfl⟩
        go_wp2_with fail
        refine E.out.mono ?_
        rintro e w2 ⟨rfl, hst⟩
        have Hst := Lib.hid (DStep.trans (D1 := D) hw3.out.1 (fun k hk => Or.inl hk) (does_off (A' := D.abs) H3.out hst))
        clear hst
        go_wp2_with fail
        go_ret
        exact ⟨by rw [V.out]; rfl, by rw [V.out]; exact Hst.out⟩
      · have e1 : (D.ar == 1) = false := by simpa using har
        have V := Lib.hid (V2 har)
        rw [e1] at R3
        have hF3 := h3.raw.files _ hp
        obtain ⟨b1, l1, b2, l2, x1, x2, f13, f23⟩ := hF3.shape
        have fz := free_of_heap hF3.cells
        have hk1 : f.c.safe.length ≤ l1 := by have h0 := hF3.safe; rw [x1] at h0; obtain ⟨_, _, e, hx⟩ := ownsRow_slice h0; cases e; omega
        have hk2 : f.c.wait.length ≤ l2 := by have h0 := hF3.wait; rw [x2] at h0; obtain ⟨_, _, e, hx⟩ := ownsRow_slice h0; cases e; omega
        have e3 := x1
        have e4 := x2
        clear x1 x2 V1 V2 e1 har R hd f1 f2
        refine R3.out.mono ?_
        rintro e w1 ⟨rfl, rfl⟩
        by_cases hNs : N ≤ f.c.safe.length
        · -- all that stays is safe
          obtain ⟨s1, s2, s3, s4⟩ := hF3.cut e3 e4 (N) (0) (by omega) (by omega) (file_nodup h3.raw.apart hp)
          have hst := DStep.after_raw (file_step h3.raw hp _ (fun c => ⟨c.safe.take N, c.wait.take (N - c.safe.length)⟩) (by simp; omega) (by simp [Cont.len]; omega) s1 rfl s2 s3 s4)
          have Hst := Lib.hid (DStep.trans (D1 := D) hw3.out.1 (fun k hk => Or.inl hk) hst)
          clear h3 hF3 e3 e4 s1 s2 s3 s4 hst hp habs hf hr hz
          go_wp2_with fail
          refine wp_region_lex [16] [] (by kernel_rfl) (by kernel_rfl) ?_
          refine LexG_still 16 (by kernel_rfl) ?_
          simp only [List.take_succ_cons, List.take_zero, List.drop_succ_cons, List.drop_zero, Nat.reduceAdd]
          repeat (go_big_quiet_step (fail))
          refine wpQuiet_nil ?_
          refine LexG_eff (by kernel_rfl) rfl (fun K hK => ?_)
          go_simp
          refine hK _ _ ?_
          clear hK
          refine LexG_nil ?_
          go_wp2_with fail
          refine wp_region_lex [15] [] (by kernel_rfl) (by kernel_rfl) ?_
          refine LexG_still 15 (by kernel_rfl) ?_
          simp only [List.take_succ_cons, List.take_zero, List.drop_succ_cons, List.drop_zero, Nat.reduceAdd]
          repeat (go_big_quiet_step (fail))
          refine wpQuiet_nil ?_
          refine LexG_eff (by kernel_rfl) rfl (fun K hK => ?_)
          go_simp
          refine hK _ _ ?_
          clear hK
          refine LexG_nil ?_
          go_wp2_with fail
          go_ret
          exact ⟨by rw [V.out]; rfl, by rw [V.out]; exact Hst.out.drew.drew⟩
        · -- some that waits stays
          obtain ⟨s1, s2, s3, s4⟩ := hF3.cut e3 e4 (f.c.safe.length) (N - f.c.safe.length) (Nat.le_refl _) (by show N - f.c.safe.length ≤ f.c.wait.length; omega) (file_nodup h3.raw.apart hp)
          have hst := DStep.after_raw (file_step h3.raw hp _ (fun c => ⟨c.safe.take N, c.wait.take (N - c.safe.length)⟩) (by simp [List.take_of_length_le (Nat.le_of_lt (Nat.lt_of_not_le hNs))]) (by simp [Cont.len]; omega) s1 rfl s2 s3 s4)
          have Hst := Lib.hid (DStep.trans (D1 := D) hw3.out.1 (fun k hk => Or.inl hk) hst)
          clear h3 hF3 e3 e4 s1 s2 s3 s4 hst hp habs hf hr hz
          go_wp2_with fail
          refine wp_region_lex [16] [] (by kernel_rfl) (by kernel_rfl) ?_
          refine LexG_still 16 (by kernel_rfl) ?_
          simp only [List.take_succ_cons, List.take_zero, List.drop_succ_cons, List.drop_zero, Nat.reduceAdd]
          repeat (go_big_quiet_step (fail))
          refine wpQuiet_nil ?_
          refine LexG_eff (by kernel_rfl) rfl (fun K hK => ?_)
          go_simp
          refine hK _ _ ?_
          clear hK
          refine LexG_nil ?_
          go_wp2_with fail
          refine wp_region_lex [15] [] (by kernel_rfl) (by kernel_rfl) ?_
          refine LexG_still 15 (by kernel_rfl) ?_
          simp only [List.take_succ_cons, List.take_zero, List.drop_succ_cons, List.drop_zero, Nat.reduceAdd]
          repeat (go_big_quiet_step (fail))
          refine wpQuiet_nil ?_
          refine LexG_eff (by kernel_rfl) rfl (fun K hK => ?_)
          go_simp
          refine hK _ _ ?_
          clear hK
          refine LexG_nil ?_
          go_wp2_with fail
          go_ret
          exact ⟨by rw [V.out]; rfl, by rw [V.out]; exact Hst.out.drew.drew⟩
  · have ev : D.abs.trunc s.data.toList n = (D.abs, D.abs.there s.data.toList) := by unfold ADsk.trunc; rw [if_pos hz]
    rw [ev]
    have T := Lib.hid (there_no h s hs hz)
    have hb : (D.abs.there s.data.toList == 0) = false := by simpa using hz
    have Hs := Lib.hid (DStep.refl h)
    clear h hs ev hz
    go_enter Tryd.func71, Tryd.ntmps71
    go_wp2_with fail
    refine T.out.mono ?_
    rintro e w1 ⟨rfl, rfl⟩
    go_wp2_with fail
    go_ret
    exact ⟨rfl, Hs.out⟩
end
end Go.Proofs.YtmpdmejlpicdlaaDoor

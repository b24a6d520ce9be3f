/- The loss of power, walked; what a raw write answers in which the power goes. -/
import Derived.Test.YtmpdmejlpicdlaaDoorDiskW3
namespace Go.Proofs.YtmpdmejlpicdlaaDoor
open Go.RowKit Go.Bw Go.Maps
set_option linter.unusedVariables false
set_option linter.unusedSimpArgs false

theorem OffRel.finish {w wr : World} {d : Nat} {D Dk : Dsk} {keep : Int} {left : Lit → Bool} (h0 : DiskAt w d D) (hoff : D.off = false) (h : DiskAt wr d Dk) (habs : Dk.abs = { D.abs with files := mix left keep D.abs.files }) (hmod : Mod (fun k => k ∈ D.blocks d) w wr)
    (hbl : ∀ k ∈ Dk.blocks d, k ∈ D.blocks d ∨ w.heap.size < k) (hdone : ∀ kl, left kl = false) :
    DStep w d D ((wr.setCell ⟨d, 2, none⟩ (.bool true)).setCell ⟨d, 4, none⟩ (.int .i64 0)) (D.abs.goesOff keep) := by
  have hc := heap_setCell_at (heap_setCell_at h.cells 2 (.bool true)) 4 (.int .i64 0)
  have hm : Mod (fun k => k = d) wr ((wr.setCell ⟨d, 2, none⟩ (.bool true)).setCell ⟨d, 4, none⟩ (.int .i64 0)) := ((Mod.refl (fun k => k = d) wr).setCell _ (fun _ => rfl)).setCell _ (fun _ => rfl)
  have hok := h.ok
  rw [mix_done hdone] at habs
  have hd : DiskAt ((wr.setCell ⟨d, 2, none⟩ (.bool true)).setCell ⟨d, 4, none⟩ (.int .i64 0)) d { Dk with off := true, ar := 0 } :=
    h.own hm (by simpa using hc) rfl rfl ⟨hok.few, hok.small, hok.rising, by simp [Dsk.abs], by simp [Dsk.abs], hok.names, hok.kp0, hok.kp1⟩
  refine ⟨_, hd, ?_, ?_, ?_⟩
  · have e : ({ Dk with off := true, ar := 0 } : Dsk).abs = { Dk.abs with off := true, ar := 0 } := rfl
    rw [e, habs]
    simp [ADsk.goesOff, Dsk.abs, hoff]
  · exact hmod.trans hm (fun i hi e => by rw [e]; simp [Dsk.blocks])
  · intro k hk
    rcases hbl k hk with h1 | h1
    · exact Or.inl h1
    · exact Or.inr (by omega)

theorem bcells_one_take (xs : List Int) (k : Nat) : ∀ u ∈ (bcells xs).take k, u.oneCell' = true := by
  intro u hu
  obtain ⟨x, _, rfl⟩ := List.mem_map.1 (List.mem_of_mem_take hu)
  rfl

set_option maxRecDepth 100000 in
set_option maxHeartbeats 4000000 in
theorem off_on {w : World} {d : Nat} {D : Dsk} (h : DiskAt w d D) (keep : Int) (hoff : D.off = false) (hk0 : -9223372036854775808 ≤ keep) (hk1 : keep ≤ 9223372036854775807) :
    Calls Tryd.prog 24 #[.pointer (some ⟨d, 0, none⟩), .int .i64 keep] w fun e w' => e = .returned (.tuple #[]) ∧ DStep w d D w' (D.abs.goesOff keep) := by
  have c0 := h.c0
  have c2 := h.c2
  rw [hoff] at c2
  have H := Lib.hid h
  have hown := Lib.hid h.map
  have Hoff := Lib.hid hoff
  clear h hoff
  go_enter Tryd.func24, Tryd.ntmps24
  go_wp2_with (at_range; refine wpList_range_own _ rfl _ 68 rfl 9 76 (string_keyed Tryd.underlying9) Tryd.underlying68 _ D.m 16 _ rfl hown.out ?_; intro w0 hrg0 hg0 hs0)
  go_frame
  go_loopw [5] (fun v wr => OffRel w d D keep wr) (fun _ wr => wr.rangeLeft D.m w.heap.size)
  case atStart => exact OffRel.start H.out keep hrg0 hg0 hs0
  case round =>
    have hrel' : OffRel w d D keep wr := hrel
    clear hrel
    obtain ⟨left, cnt, Dk, hrg, hd, habs, hmm, hmod, hbl, hsz⟩ := hrel'
    have Hrg := Lib.hid hrg
    have Hd := Lib.hid hd
    have Habs := Lib.hid habs
    have Hmm := Lib.hid hmm
    have Hmod := Lib.hid hmod
    have Hbl := Lib.hid hbl
    clear hrg hd habs hmm hmod hbl hrg0 hg0
    go_wp2_with (at_next; refine wpList_next_disk _ rfl _ rfl D.m w.heap.size 16 _ left cnt rfl Hrg.out ?_ ?_)
    · intro hdone
      have c2' := Hd.out.c2
      have c4' := Hd.out.c4
      have fz := Hd.out.fz
      have Hfin := Lib.hid (OffRel.finish H.out Hoff.out Hd.out Habs.out Hmod.out Hbl.out hdone)
      clear hdone
      go_wp2
      go_end0
      exact ⟨rfl, Hfin.out⟩
    · intro x m f w1 cnt1 hp hx hl hrg1 hlt hg1 hs1 hen
      have hf := Hd.out.files (m, f) hp
      have hnotb : ∀ k ∈ f.blocks, k ≠ w.heap.size := fun k hk e => by
        have h1 : k ∈ Dk.blocks d := by
          simp only [Dsk.blocks, fblocks, List.mem_cons, List.mem_flatMap]; exact Or.inr (Or.inr ⟨(m, f), hp, hk⟩)
        rcases Hbl.out _ h1 with h2 | h2
        · have := H.out.lt _ h2; omega
        · omega
      have hnot := hnotb f.blk (by simp [Fil.blocks])
      obtain ⟨a1, k1, a2, k2, e1, e2, f1, f2⟩ := hf.shape
      have hm1 : Mod (fun k => k = w.heap.size) wr w1 := (Mod.refl _ _).grown hg1 (fun k e _ => by cases e; rfl)
      have g1 := hm1.cell f1 hnot
      have g2 := hm1.cell f2 hnot
      obtain ⟨i0, hi, hz0, hz1, hz2⟩ := info_parts TByte.info
      obtain ⟨K, hK⟩ : ∃ K, K = min keep.toNat f.c.wait.length := ⟨_, rfl⟩
      obtain ⟨L, hL⟩ : ∃ L, L = keep.toNat := ⟨_, rfl⟩
      have hmx : (if keep < 0 then 0 else keep) = (L : Int) := by subst hL; split <;> omega
      have hmn : (if f.c.wait.length < L then (f.c.wait.length : Int) else (L : Int)) = (K : Int) := by subst hL; split <;> omega
      have hKw : K ≤ f.c.wait.length := by omega
      have r1 : w1.drew.ownsRow 0 5 1 (.slice a1 f.c.safe.length k1) f.c.safe.length (bcells f.c.safe) := by
        rw [← e1]; exact ownsRow_kept hf.safe (fun k hk => hm1.block k (hf.safe.lt k hk).2 (fun e => hnotb k (by simp [Fil.blocks, hk]) e))
      have r2 : w1.drew.ownsRow 0 5 1 (.slice a2 f.c.wait.length k2) f.c.wait.length (bcells f.c.wait) := by
        rw [← e2]; exact ownsRow_kept hf.wait (fun k hk => hm1.block k (hf.wait.lt k hk).2 (fun e => hnotb k (by simp [Fil.blocks, hk]) e))
      have r3 := ownsRow_reads (ownsRow_take r2 K hKw)
      obtain ⟨v', w2, hrun, ho2, hm2, hb2, _⟩ := run_append_to (P := Tryd.prog) 22 22 5 i0 (.int .u8 0) 1 1 Tryd.underlying22 hi hz0 hz1 hz2 rfl (by decide) _ _ _ r1 _ _ _ r3 (bcells_one_take _ _) (by have := Hd.out.ok.small (m, f.c) (List.mem_map.2 ⟨(m, f), hp, rfl⟩); simp only [Cont.len] at this; unfold maxLen; omega) (by have := Hd.out.ok.small (m, f.c) (List.mem_map.2 ⟨(m, f), hp, rfl⟩); simp only [Cont.len] at this; omega)
      obtain ⟨a3, c3, rfl, _⟩ := ownsRow_slice ho2
      have hnd := file_nodup Hd.out.apart hp
      have hbf : Value.ownBlock (.slice a1 f.c.safe.length k1) ≠ some f.blk := fun e => by
        rw [← e1] at e; simp [Fil.blocks, e] at hnd
      have h1c : w1.heap[f.blk]? = some (.cells #[f.sv, f.wv] 78 (0, 0)) := hm1.heap hf.cells hnot
      have h2c : w2.heap[f.blk]? = some (.cells #[f.sv, f.wv] 78 (0, 0)) := hm2.heap (w := w1.drew) h1c hbf
      have fz : ∀ o, w2.frozen? ⟨f.blk, o, none⟩ = false := free_of_heap h2c
      have q1 : w2.cell? ⟨f.blk, 0, none⟩ = some (.slice a1 f.c.safe.length k1) := (cell_of_heap h2c 0).trans (by rw [← e1]; rfl)
      have q2 : w2.cell? ⟨f.blk, 1, none⟩ = some (.slice a2 f.c.wait.length k2) := (cell_of_heap h2c 1).trans (by rw [← e2]; rfl)
      have Hstep := Lib.hid (OffRel.step Hd.out hrg1 hl hg1 hs1 hsz Habs.out Hmm.out Hmod.out Hbl.out H.out.lt hp (v' := .slice a3 (f.c.safe.length + K) c3) (w2 := w2) (by rw [← hK]; exact ho2) ⟨hm2.os, hm2.tape, hm2.output, hm2.size, fun k hk hne => hm2.block k hk (fun e => hne (by rw [e1]; exact e))⟩ (fun b hb => by rw [e1]; exact hb2 b hb))
      have Hms := Lib.hid (show ((w2.setCell ⟨f.blk, 0, none⟩ (.slice a3 (f.c.safe.length + K) c3)).setCell ⟨f.blk, 1, none⟩ (.slice none 0 0)).rangeLeft D.m w.heap.size < wr.rangeLeft D.m w.heap.size by rw [Hstep.out.2, Hrg.out.left_eq]; exact hlt)
      clear h1c h2c hbf hnd hnotb
      have Hrun := Lib.hid hrun
      have hKk : K ≤ k2 := by obtain ⟨_, _, e, hx⟩ := ownsRow_slice r2; cases e; omega
      have HK := Lib.hid hK
      clear hK hL
      clear hrun r1 r2 r3 hb2 hm2 ho2 hm1 f1 f2 e1 e2 hf hx hl hrg1 hlt hg1 hs1 c0 hnot
      go_wp2
      refine wp_region_lex [19, 22, 25] [0, 1, 20, 21, 23, 24] (by kernel_rfl) (by kernel_rfl) ?_
      refine LexG_pure 2 (by kernel_rfl) ?_
      simp only [List.take_succ_cons, List.take_zero, List.drop_succ_cons, List.drop_zero, Nat.reduceAdd]
      repeat (go_big_quiet_step (fail))
      refine wpQuiet_nil ?_
      refine LexG_still 17 (by kernel_rfl) ?_
      simp only [List.take_succ_cons, List.take_zero, List.drop_succ_cons, List.drop_zero, Nat.reduceAdd]
      repeat (go_big_quiet_step (fail))
      refine wpQuiet_nil ?_
      refine LexG_eff (by kernel_rfl) rfl (fun K hK => ?_)
      refine wp_append_run (.tmp 28) (.tmp 41) 22 rfl rfl rfl Hrun.out ?_
      go_simp
      refine hK _ _ ?_
      clear hK
      refine LexG_pure 2 (by kernel_rfl) ?_
      simp only [List.take_succ_cons, List.take_zero, List.drop_succ_cons, List.drop_zero, Nat.reduceAdd]
      repeat (go_big_quiet_step (fail))
      refine wpQuiet_nil ?_
      refine LexG_eff (by kernel_rfl) rfl (fun K hK => ?_)
      go_simp
      refine hK _ _ ?_
      clear hK
      refine LexG_pure 2 (by kernel_rfl) ?_
      simp only [List.take_succ_cons, List.take_zero, List.drop_succ_cons, List.drop_zero, Nat.reduceAdd]
      repeat (go_big_quiet_step (fail))
      refine wpQuiet_nil ?_
      refine LexG_eff (by kernel_rfl) rfl (fun K hK => ?_)
      go_simp
      refine hK _ _ ?_
      clear hK
      refine LexG_nil ?_
      go_wp2
      go_roundw
      case rel => exact Hstep.out.1
      case measure => exact Hms.out

theorem DStep.refl {w : World} {d : Nat} {D : Dsk} (h : DiskAt w d D) : DStep w d D w D.abs := ⟨D, h, rfl, Mod.refl _ _, fun k hk => Or.inl hk⟩

theorem DStep.trans {w w1 w2 : World} {d : Nat} {D D1 : Dsk} {A : ADsk} (hm : Mod (fun k => k ∈ D.blocks d) w w1) (hb : ∀ k ∈ D1.blocks d, k ∈ D.blocks d ∨ w.heap.size ≤ k) (h : DStep w1 d D1 w2 A) : DStep w d D w2 A := by
  obtain ⟨D2, h1, h2, h3, h4⟩ := h
  refine ⟨D2, h1, h2, hm.trans h3 (fun i hi hx => ?_), fun k hk => ?_⟩
  · rcases hb i hx with h5 | h5
    · exact h5
    · omega
  · rcases h4 k hk with h5 | h5
    · exact hb k h5
    · exact Or.inr (Nat.le_trans hm.size h5)

set_option maxHeartbeats 400000 in
theorem off_off {w : World} {d : Nat} {D : Dsk} (h : DiskAt w d D) (keep : Int) (hoff : D.off = true) :
    Calls Tryd.prog 24 #[.pointer (some ⟨d, 0, none⟩), .int .i64 keep] w fun e w' => e = .returned (.tuple #[]) ∧ DStep w d D w' (D.abs.goesOff keep) := by
  have c2 := h.c2
  rw [hoff] at c2
  have e : D.abs.goesOff keep = D.abs := by simp [ADsk.goesOff, Dsk.abs, hoff]
  have H := Lib.hid (by rw [e]; exact DStep.refl h : DStep w d D w (D.abs.goesOff keep))
  clear h hoff e
  go_enter Tryd.func24, Tryd.ntmps24
  go_wp2
  refine bodyPost_ret (results_none rfl _ _ _) rfl ?_
  exact ⟨rfl, H.out⟩

theorem off_any {w : World} {d : Nat} {D : Dsk} (h : DiskAt w d D) (keep : Int) (hk0 : -9223372036854775808 ≤ keep) (hk1 : keep ≤ 9223372036854775807) :
    Calls Tryd.prog 24 #[.pointer (some ⟨d, 0, none⟩), .int .i64 keep] w fun e w' => e = .returned (.tuple #[]) ∧ DStep w d D w' (D.abs.goesOff keep) := by
  cases ho : D.off
  · exact off_on h keep ho hk0 hk1
  · exact off_off h keep ho

set_option maxHeartbeats 400000 in
theorem ends_any {w : World} {d : Nat} {D : Dsk} (h : DiskAt w d D) :
    Calls Tryd.prog 63 #[.pointer (some ⟨d, 0, none⟩)] w fun e w' => e = .returned (.int .i64 20) ∧ DStep w d D w' (D.abs.goesOff D.kp) := by
  have c5 := h.c5
  have R := Lib.hid (off_any h D.kp h.ok.kp0 h.ok.kp1)
  clear h
  go_enter Tryd.func63, Tryd.ntmps63
  go_wp2_with fail
  refine R.out.mono ?_
  rintro e w1 ⟨rfl, hs⟩
  have Hs := Lib.hid hs
  clear hs
  go_wp2
  go_ret
  exact ⟨rfl, Hs.out⟩
end Go.Proofs.YtmpdmejlpicdlaaDoor

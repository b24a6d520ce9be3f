/- Sync and Truncate, walked. -/
import Derived.Test.YtmpdmejlpicdlaaDoorDiskW7
namespace Go.Proofs.YtmpdmejlpicdlaaDoor
open Go.RowKit Go.Bw Go.Maps
set_option linter.unusedVariables false
set_option linter.unusedSimpArgs false

section
variable {w : World} {d : Nat} {D : Dsk}

theorem there_zero (h : DiskAt w d D) (n : Nm) (hz : D.abs.there n = 0) : D.abs.ready n = 0 ∧ ∃ f, lookF D.files n = some f := by
  unfold ADsk.there at hz
  by_cases hr : D.abs.ready n = 0
  · rw [if_neg (fun hx => hx hr)] at hz
    refine ⟨hr, ?_⟩
    cases hf : lookF D.files n with
    | some f => exact ⟨f, rfl⟩
    | none => rw [look_abs, hf] at hz; simp at hz
  · rw [if_pos hr] at hz; exact absurd hz hr

/-- A raw write that is not an Append's, up to the power's going. -/
theorem does_off {w2 : World} {A' : ADsk} (h : DiskAt w d D) (h2 : DStep (rawW w d D) d D.armed w2 (D.armed.abs.goesOff D.armed.kp)) : DStep w d D w2 (D.abs.armed.goesOff D.kp) :=
  off_step h rfl (Mod.refl _ _) (fun k hk => Or.inl hk) rfl h2

theorem DStep.after_raw {w2 : World} {A : ADsk} (h2 : DStep (rawW w d D) d D.armed w2 A) : DStep w d D w2 A :=
  DStep.trans (D1 := D.armed) (mod_rawW.mono (fun i _ e => by rw [e]; simp [Dsk.blocks])) (fun k hk => Or.inl hk) h2

/-- One file is another one: the step. -/
theorem file_step {w1 : World} (h : DiskAt w d D) {n : Nm} {f : Fil} (hp : (n, f) ∈ D.files) (f' : Fil) (g : Cont → Cont) (hg : f'.c = g f.c) (hlen : (g f.c).len ≤ 1048576)
    (s1 : FileAt w1 f') (hblk : f'.blk = f.blk) (s2 : Mod (fun k => k ∈ f.blocks) w w1) (s3 : ∀ k ∈ f'.blocks, k ∈ f.blocks ∨ w.heap.size ≤ k) (s4 : f'.blocks.Nodup) :
    DStep w d D w1 { D.abs with files := ADsk.onFile n g D.abs.files } := by
  have hr := Dsk.rising h.ok
  have hma : (n, f.c) ∈ D.abs.files := List.mem_map.2 ⟨(n, f), hp, rfl⟩
  have e1 : ({ D with files := repl n f' D.files } : Dsk).abs.files = ADsk.onFile n g D.abs.files := repl_abs hr hp g hg
  have hok := onFile_ok h.ok n g (fun p hp2 e => by
    have := rising_inj h.ok.rising hp2 hma e
    subst this
    exact hlen)
  have e3 : ({ D with files := repl n f' D.files } : Dsk).abs = { D.abs with files := ADsk.onFile n g D.abs.files } := by rw [← e1]; rfl
  have h2 := h.onFile hp f' hblk s2 s1 s3 s4 (by rw [e3]; exact hok)
  have hfb : ∀ k ∈ f.blocks, k ∈ D.blocks d := fun k hk => by
    simp only [Dsk.blocks, fblocks, List.mem_cons, List.mem_flatMap]; exact Or.inr (Or.inr ⟨(n, f), hp, hk⟩)
  refine ⟨_, h2, e3, s2.mono (fun i _ hi => hfb i hi), ?_⟩
  intro k hk
  have hk' : k = d ∨ k = D.m ∨ ∃ p ∈ repl n f' D.files, k ∈ p.2.blocks := by simpa [Dsk.blocks, fblocks] using hk
  rcases hk' with rfl | rfl | ⟨p, hp2, hk⟩
  · exact Or.inl (by simp [Dsk.blocks])
  · exact Or.inl (by simp [Dsk.blocks])
  · rcases mem_repl hp2 with rfl | ⟨hp2, _⟩
    · rcases s3 k hk with h3 | h3
      · exact Or.inl (hfb k h3)
      · exact Or.inr h3
    · exact Or.inl (by simp only [Dsk.blocks, fblocks, List.mem_cons, List.mem_flatMap]; exact Or.inr (Or.inr ⟨p, hp2, hk⟩))

theorem ADsk.does_eqs (A : ADsk) (f : List (Nm × Cont) → List (Nm × Cont)) : (A.ar = 1 → A.does f = (A.armed.goesOff A.kp, 20)) ∧ (A.ar ≠ 1 → A.does f = ({ A.armed with files := f A.files }, 0)) := by
  unfold ADsk.does
  exact ⟨fun h => by rw [if_pos h], fun h => by rw [if_neg h]⟩

set_option maxRecDepth 10000 in
set_option maxHeartbeats 1000000 in
theorem sync_any (h : DiskAt w d D) (s : ByteArray) (hs : s.size ≤ maxLen) :
    Calls Tryd.prog 48 #[.pointer (some ⟨d, 0, none⟩), .string s] w fun e w' => e = .returned (.int .i64 (D.abs.sync s.data.toList).2) ∧ DStep w d D w' (D.abs.sync s.data.toList).1 := by
  by_cases hz : D.abs.there s.data.toList = 0
  · obtain ⟨hr, f, hf⟩ := there_zero h _ hz
    have T := Lib.hid (there_yes h s hs f hf hr)
    have R := Lib.hid (raw_any h)
    have hp := look_some hf
    have ev : D.abs.sync s.data.toList = D.abs.does (ADsk.onFile s.data.toList (fun c => ⟨c.safe ++ c.wait, []⟩)) := by unfold ADsk.sync; rw [if_neg (fun hx => hx hz)]
    obtain ⟨V1, V2⟩ := ADsk.does_eqs D.abs (ADsk.onFile s.data.toList (fun c => ⟨c.safe ++ c.wait, []⟩))
    rw [ev]
    clear ev
    by_cases har : D.ar = 1
    · have e1 : (D.ar == 1) = true := by simpa using har
      have V := Lib.hid (V1 har)
      rw [e1] at R
      have E := Lib.hid (ends_any h.raw)
      have H := Lib.hid h
      clear h hs hz hr hf hp V1 V2 har e1
      go_enter Tryd.func48, Tryd.ntmps48
      go_wp2_with fail
      refine T.out.mono ?_
      rintro e w1 ⟨rfl, rfl⟩
      go_wp2_with fail
      refine R.out.mono ?_
      rintro e w1 ⟨rfl, rfl⟩
      go_wp2_with fail
      refine E.out.mono ?_
      rintro e w2 ⟨rfl, hst⟩
      have Hst := Lib.hid (does_off (A' := D.abs) H.out hst)
      clear hst
      go_wp2_with fail
      go_ret
      exact ⟨by rw [V.out]; rfl, by rw [V.out]; exact Hst.out⟩
    · have e1 : (D.ar == 1) = false := by simpa using har
      have V := Lib.hid (V2 har)
      rw [e1] at R
      -- the world behind the count
      have h1 := h.raw
      have hF := h1.files _ hp
      obtain ⟨a1, k1, a2, k2, e3, e4, f1, f2⟩ := hF.shape
      obtain ⟨i0, hi, hz0, hz1, hz2⟩ := info_parts TByte.info
      have hlen : f.c.safe.length + f.c.wait.length ≤ 1048576 := h.ok.small (s.data.toList, f.c) (List.mem_map.2 ⟨_, hp, rfl⟩)
      have r1 : (rawW w d D).drew.ownsRow 0 5 1 (.slice a1 f.c.safe.length k1) f.c.safe.length (bcells f.c.safe) := by rw [← e3]; exact hF.safe
      have r2 : (rawW w d D).drew.ownsRow 0 5 1 (.slice a2 f.c.wait.length k2) f.c.wait.length (bcells f.c.wait) := by rw [← e4]; exact hF.wait
      obtain ⟨v', w2, hrun, ho2, hm2, hb2, _⟩ := run_append_to (P := Tryd.prog) 22 22 5 i0 (.int .u8 0) 1 1 Tryd.underlying22 hi hz0 hz1 hz2 rfl (by decide) _ _ _ r1 _ _ _ (ownsRow_reads r2) (bcells_one _) (by unfold maxLen; omega) (by omega)
      obtain ⟨a3, c3, rfl, _⟩ := ownsRow_slice ho2
      have hnd := file_nodup h1.apart hp
      have hbf : Value.ownBlock (.slice a1 f.c.safe.length k1) ≠ some f.blk := fun e => by
        rw [← e3] at e; simp [Fil.blocks, e] at hnd
      have h2c := hm2.heap (w := (rawW w d D).drew) hF.cells hbf
      have fz := free_of_heap h2c
      have q1 : w2.cell? ⟨f.blk, 0, none⟩ = some (.slice a1 f.c.safe.length k1) := (cell_of_heap h2c 0).trans (by rw [← e3]; rfl)
      have q2 : w2.cell? ⟨f.blk, 1, none⟩ = some (.slice a2 f.c.wait.length k2) := (cell_of_heap h2c 1).trans (by rw [← e4]; rfl)
      have tk : (bcells f.c.wait).take f.c.wait.length = bcells f.c.wait := List.take_of_length_le (by simp [bcells])
      have hs2 := hF.safed (k := f.c.wait.length) (w1 := w2) (Nat.le_refl _) (by rw [tk]; exact ho2) (by rw [e3]; exact ⟨hm2.os, hm2.tape, hm2.output, hm2.size, hm2.block⟩) (by rw [e3]; exact hb2) hnd
      obtain ⟨s1, s2, s3, s4⟩ := hs2
      have hst := DStep.after_raw (file_step h1 hp _ (fun c => ⟨c.safe ++ c.wait, []⟩) (by simp) (by simp [Cont.len]; exact hlen) s1 rfl s2 s3 s4)
      have Hst := Lib.hid hst
      have Hrun := Lib.hid hrun
      clear h hs hz hr hf hp V1 V2 har e1 h1 hF e3 e4 r1 r2 hrun ho2 hm2 hb2 hnd hbf h2c tk s1 s2 s3 s4 hst hi hz0 hz1 hz2
      go_enter Tryd.func48, Tryd.ntmps48
      go_wp2_with fail
      refine T.out.mono ?_
      rintro e w1 ⟨rfl, rfl⟩
      go_wp2_with fail
      refine R.out.mono ?_
      rintro e w1 ⟨rfl, rfl⟩
      go_wp2_with fail
      refine wp_region_lex [10, 13, 16] [0, 1] (by kernel_rfl) (by kernel_rfl) ?_
      refine LexG_pure 2 (by kernel_rfl) ?_
      simp only [List.take_succ_cons, List.take_zero, List.drop_succ_cons, List.drop_zero, Nat.reduceAdd]
      repeat (go_big_quiet_step (fail))
      refine wpQuiet_nil ?_
      refine LexG_still 8 (by kernel_rfl) ?_
      simp only [List.take_succ_cons, List.take_zero, List.drop_succ_cons, List.drop_zero, Nat.reduceAdd]
      repeat (go_big_quiet_step (fail))
      refine wpQuiet_nil ?_
      refine LexG_eff (by kernel_rfl) rfl (fun K hK => ?_)
      refine wp_append_run (.tmp 25) (.tmp 29) 22 rfl rfl rfl Hrun.out ?_
      go_simp
      refine hK _ _ ?_
      clear hK
      refine LexG_still 2 (by kernel_rfl) ?_
      simp only [List.take_succ_cons, List.take_zero, List.drop_succ_cons, List.drop_zero, Nat.reduceAdd]
      repeat (go_big_quiet_step (fail))
      refine wpQuiet_nil ?_
      refine LexG_eff (by kernel_rfl) rfl (fun K hK => ?_)
      go_simp
      refine hK _ _ ?_
      clear hK
      refine LexG_still 2 (by kernel_rfl) ?_
      simp only [List.take_succ_cons, List.take_zero, List.drop_succ_cons, List.drop_zero, Nat.reduceAdd]
      repeat (go_big_quiet_step (fail))
      refine wpQuiet_nil ?_
      refine LexG_eff (by kernel_rfl) rfl (fun K hK => ?_)
      go_simp
      refine hK _ _ ?_
      clear hK
      refine LexG_nil ?_
      go_wp2_with fail
      go_ret
      exact ⟨by rw [V.out]; rfl, by rw [V.out]; exact Hst.out⟩
  · have ev : D.abs.sync s.data.toList = (D.abs, D.abs.there s.data.toList) := by unfold ADsk.sync; rw [if_pos hz]
    rw [ev]
    have T := Lib.hid (there_no h s hs hz)
    have hb : (D.abs.there s.data.toList == 0) = false := by simpa using hz
    have Hs := Lib.hid (DStep.refl h)
    clear h hs ev hz
    go_enter Tryd.func48, Tryd.ntmps48
    go_wp2_with fail
    refine T.out.mono ?_
    rintro e w1 ⟨rfl, rfl⟩
    go_wp2_with fail
    go_ret
    exact ⟨rfl, Hs.out⟩
end
end Go.Proofs.YtmpdmejlpicdlaaDoor

/- Rename and Remove, walked. -/
import Derived.Test.YtmpdmejlpicdlaaDoorDiskW9
namespace Go.Proofs.YtmpdmejlpicdlaaDoor
open Go.RowKit Go.Bw Go.Maps
set_option linter.unusedVariables false
set_option linter.unusedSimpArgs false

section
variable {w : World} {d : Nat} {D : Dsk}

theorem fblocks_sublist {F G : List (Nm × Fil)} (h : F.Sublist G) : (fblocks F).Sublist (fblocks G) := by
  induction h with
  | slnil => exact List.Sublist.refl _
  | cons a _ ih => rw [fblocks_cons]; exact ih.trans (List.sublist_append_right _ _)
  | cons_cons a _ ih => rw [fblocks_cons, fblocks_cons]; exact (List.Sublist.refl _).append ih

theorem drop_abs (F : List (Nm × Fil)) (n : Nm) : (drop F n).map (fun p => (p.1, p.2.c)) = drop (F.map (fun p => (p.1, p.2.c))) n := (drop_map (fun f : Fil => f.c) F n).symm
theorem put_abs (F : List (Nm × Fil)) (n : Nm) (f : Fil) : (put F n f).map (fun p => (p.1, p.2.c)) = put (F.map (fun p => (p.1, p.2.c))) n f.c := (put_map (fun f : Fil => f.c) F n f).symm

/-- The map has turned, and no file: the disk with files that are among those that were. -/
theorem DiskAt.remap {w1 : World} (h : DiskAt w d D) (F : List (Nm × Fil)) (hm : w1.ownsMap Tryd.prog 9 ptrElem D.m 16 (fdata F)) (hmod : Mod (fun k => k = D.m) w w1)
    (hF : ∀ p ∈ F, ∃ q ∈ D.files, q.2 = p.2) (hnd : (fblocks F).Nodup) (hok : ({ D with files := F } : Dsk).abs.Ok) :
    DStep w d D w1 ({ D with files := F } : Dsk).abs := by
  have ha := h.apart
  simp only [Dsk.blocks, List.nodup_cons, List.mem_cons, not_or] at ha
  have hsub : ∀ k ∈ fblocks F, k ∈ fblocks D.files := fun k hk => by
    obtain ⟨p, hp, hk⟩ := List.mem_flatMap.1 hk
    obtain ⟨q, hq, e⟩ := hF p hp
    exact List.mem_flatMap.2 ⟨q, hq, by rw [e]; exact hk⟩
  refine ⟨{ D with files := F }, ⟨hmod.heap h.cells (fun e => ha.1.1 e), hm, ?_, ?_, hok⟩, rfl, hmod.mono (fun i _ e => by rw [e]; simp [Dsk.blocks]), ?_⟩
  · intro p hp
    obtain ⟨q, hq, e⟩ := hF p hp
    rw [← e]
    have hp1 := h.files q hq
    have hnm := (h.notFile q hq).2
    simp only [Fil.blocks, List.mem_cons, List.mem_append, Option.mem_toList, not_or] at hnm
    refine ⟨hmod.heap hp1.cells (fun e => hnm.1 e.symm), ownsRow_kept hp1.safe ?_, ownsRow_kept hp1.wait ?_⟩
    · exact fun k hk => hmod.block k (hp1.safe.lt k hk).2 (fun e => hnm.2.1 (by rw [← e]; exact hk))
    · exact fun k hk => hmod.block k (hp1.wait.lt k hk).2 (fun e => hnm.2.2 (by rw [← e]; exact hk))
  · show (d :: D.m :: fblocks F).Nodup
    refine List.nodup_cons.2 ⟨?_, List.nodup_cons.2 ⟨fun hx => ha.2.1 (hsub _ hx), hnd⟩⟩
    simp only [List.mem_cons, not_or]
    exact ⟨ha.1.1, fun hx => ha.1.2 (hsub _ hx)⟩
  · intro k hk
    have hk' : k = d ∨ k = D.m ∨ k ∈ fblocks F := by simpa [Dsk.blocks] using hk
    rcases hk' with rfl | rfl | hk'
    · exact Or.inl (by simp [Dsk.blocks])
    · exact Or.inl (by simp [Dsk.blocks])
    · exact Or.inl (by simp [Dsk.blocks, hsub _ hk'])

theorem files_nodup (h : DiskAt w d D) : (fblocks D.files).Nodup := by
  have ha := h.apart
  simp only [Dsk.blocks, List.nodup_cons] at ha
  exact ha.2.2

theorem remove_step {w1 : World} (h : DiskAt w d D) (n : Nm) (hm : w1.ownsMap Tryd.prog 9 ptrElem D.m 16 ((fdata D.files).del (.string n))) (hmod : Mod (fun k => k = D.m) w w1) :
    DStep w d D w1 { D.abs with files := drop D.abs.files n } := by
  rw [del_fdata] at hm
  have e : ({ D with files := drop D.files n } : Dsk).abs = { D.abs with files := drop D.abs.files n } := by
    show (⟨(drop D.files n).map (fun p => (p.1, p.2.c)), _, _, _, _, _⟩ : ADsk) = _
    rw [drop_abs]; rfl
  rw [← e]
  have hok := h.ok
  refine h.remap (drop D.files n) hm hmod (fun p hp => ⟨p, (mem_drop.1 hp).1, rfl⟩) ((files_nodup h).sublist (fblocks_sublist (List.filter_sublist))) ?_
  rw [e]
  refine ⟨?_, fun p hp => hok.small p (mem_drop.1 hp).1, rising_drop hok.rising n, hok.ar0, hok.ar1, fun p hp => hok.names p (mem_drop.1 hp).1, hok.kp0, hok.kp1⟩
  have h1 := List.length_filter_le (fun p : Nm × Cont => !(p.1 == n)) D.abs.files
  have h2 := hok.few
  show (drop D.abs.files n).length ≤ 16
  unfold drop; omega

theorem rename_step {w1 : World} (h : DiskAt w d D) (n to : Nm) (f : Fil) (hf : (n, f) ∈ D.files) (hto : namedB to = true) (hm : w1.ownsMap Tryd.prog 9 ptrElem D.m 17 (((fdata D.files).del (.string n)).put (.string to) (.lit (.int .i64 f.blk)))) (hmod : Mod (fun k => k = D.m) w w1) :
    DStep w d D w1 { D.abs with files := put (drop D.abs.files n) to f.c } := by
  rw [del_fdata, put_fdata] at hm
  have e : ({ D with files := put (drop D.files n) to f } : Dsk).abs = { D.abs with files := put (drop D.abs.files n) to f.c } := by
    show (⟨(put (drop D.files n) to f).map (fun p => (p.1, p.2.c)), _, _, _, _, _⟩ : ADsk) = _
    rw [put_abs, drop_abs]; rfl
  rw [← e]
  have hok := h.ok
  have hr := Dsk.rising h.ok
  have p1 := fblocks_perm (put_perm (drop D.files n) to f)
  have p2 := fblocks_perm (take_perm hr hf)
  have hlen1 := (take_perm hr hf).length_eq
  have hlen2 := (put_perm (drop D.files n) to f).length_eq
  have hlen3 := List.length_filter_le (fun p : Nm × Fil => !(p.1 == to)) (drop D.files n)
  have hfew := hok.few
  simp only [Dsk.abs, List.length_map] at hfew
  have hlen : (put (drop D.files n) to f).length ≤ 16 := by
    simp only [List.length_cons] at hlen1 hlen2
    have : (drop (drop D.files n) to).length ≤ (drop D.files n).length := hlen3
    omega
  refine h.remap (put (drop D.files n) to f) ((ownsMap_exact hm).mono (by rw [List.length_map]; exact hlen)) hmod (fun p hp => ?_) ?_ ?_
  · rcases mem_ins.1 hp with rfl | hp
    · exact ⟨(n, f), hf, rfl⟩
    · exact ⟨p, (mem_drop.1 (mem_drop.1 hp).1).1, rfl⟩
  · rw [p1.nodup_iff]
    have h1 : ((n, f) :: drop (drop D.files n) to).Sublist ((n, f) :: drop D.files n) := (List.filter_sublist).cons_cons _
    have h2 := (p2.nodup_iff.1 (files_nodup h)).sublist (fblocks_sublist h1)
    exact h2
  · rw [e]
    refine ⟨?_, ?_, rising_put (rising_drop hok.rising n) _ _, hok.ar0, hok.ar1, ?_, hok.kp0, hok.kp1⟩
    · have : (put (drop D.abs.files n) to f.c).length = (put (drop D.files n) to f).length := by
        have e2 := put_abs (drop D.files n) to f
        rw [drop_abs] at e2
        have := congrArg List.length e2
        rw [List.length_map] at this
        exact this.symm
      show (put (drop D.abs.files n) to f.c).length ≤ 16
      rw [this]; exact hlen
    · intro p hp
      rcases mem_ins.1 hp with rfl | hp
      · exact hok.small (n, f.c) (List.mem_map.2 ⟨(n, f), hf, rfl⟩)
      · exact hok.small p (mem_drop.1 (mem_drop.1 hp).1).1
    · intro p hp
      rcases mem_ins.1 hp with rfl | hp
      · exact hto
      · exact hok.names p (mem_drop.1 (mem_drop.1 hp).1).1

theorem mod_turned {w1 : World} {b : Nat} (h : w.mapTurned w1 b) : Mod (fun k => k = b) w w1 := (Mod.refl _ _).grown h.grown (fun k e _ => by cases e; rfl)

set_option maxRecDepth 10000 in
set_option maxHeartbeats 1000000 in
theorem remove_any (h : DiskAt w d D) (s : ByteArray) (hs : s.size ≤ maxLen) :
    Calls Tryd.prog 46 #[.pointer (some ⟨d, 0, none⟩), .string s] w fun e w' => e = .returned (.int .i64 (D.abs.remove s.data.toList).2) ∧ DStep w d D w' (D.abs.remove s.data.toList).1 := by
  by_cases hz : D.abs.there s.data.toList = 0
  · obtain ⟨hr, f, hf⟩ := there_zero h _ hz
    have T := Lib.hid (there_yes h s hs f hf hr)
    have R := Lib.hid (raw_any h)
    have ev : D.abs.remove s.data.toList = D.abs.does (fun F => drop F s.data.toList) := by unfold ADsk.remove; rw [if_neg (fun hx => hx hz)]
    obtain ⟨V1, V2⟩ := ADsk.does_eqs D.abs (fun F => drop F s.data.toList)
    rw [ev]
    clear ev
    by_cases har : D.ar = 1
    · have e1 : (D.ar == 1) = true := by simpa using har
      have V := Lib.hid (V1 har)
      rw [e1] at R
      have E := Lib.hid (ends_any h.raw)
      have H := Lib.hid h
      clear h hs hz hr hf V1 V2 har e1
      go_enter Tryd.func46, Tryd.ntmps46
      go_wp2_with fail
      refine T.out.mono ?_
      rintro e w1 ⟨rfl, rfl⟩
      go_wp2_with fail
      refine R.out.mono ?_
      rintro e w1 ⟨rfl, rfl⟩
      go_wp2_with fail
      refine E.out.mono ?_
      rintro e w2 ⟨rfl, hst⟩
      have Hst := Lib.hid (does_off (A' := D.abs) H.out hst)
      clear hst
      go_wp2_with fail
      go_ret
      exact ⟨by rw [V.out]; rfl, by rw [V.out]; exact Hst.out⟩
    · have e1 : (D.ar == 1) = false := by simpa using har
      have V := Lib.hid (V2 har)
      rw [e1] at R
      have c0 := h.raw.c0
      have H := Lib.hid h
      have hown := Lib.hid h.raw.map
      have Hs := Lib.hid hs
      clear h hs hz hr hf V1 V2 har e1
      go_enter Tryd.func46, Tryd.ntmps46
      go_wp2_with fail
      refine T.out.mono ?_
      rintro e w1 ⟨rfl, rfl⟩
      go_wp2_with fail
      refine R.out.mono ?_
      rintro e w1 ⟨rfl, rfl⟩
      go_wp2_with (at_delete; refine wpList_delete_own _ rfl _ _ 68 9 rfl 76 (string_keyed Tryd.underlying9) Tryd.underlying68 _ D.m 16 _ rfl hown.out _ _ rfl (WideMaps.keyOf_string_mk Tryd.underlying9 Hs.out) ?_; intro w2 hown2 hturn2)
      have Hst := Lib.hid (DStep.after_raw (remove_step H.out.raw s.data.toList hown2 (mod_turned hturn2)))
      go_ret
      exact ⟨by rw [V.out]; rfl, by rw [V.out]; exact Hst.out⟩
  · have ev : D.abs.remove s.data.toList = (D.abs, D.abs.there s.data.toList) := by unfold ADsk.remove; rw [if_pos hz]
    rw [ev]
    have T := Lib.hid (there_no h s hs hz)
    have hb : (D.abs.there s.data.toList == 0) = false := by simpa using hz
    have Hs := Lib.hid (DStep.refl h)
    clear h hs ev hz
    go_enter Tryd.func46, Tryd.ntmps46
    go_wp2_with fail
    refine T.out.mono ?_
    rintro e w1 ⟨rfl, rfl⟩
    go_wp2_with fail
    go_ret
    exact ⟨rfl, Hs.out⟩
end
end Go.Proofs.YtmpdmejlpicdlaaDoor

/- The disk's small methods, walked. -/
import Derived.Test.YtmpdmejlpicdlaaDoorDiskRep
namespace Go.Proofs.YtmpdmejlpicdlaaDoor
open Go.RowKit Go.Bw Go.Maps
set_option linter.unusedVariables false
set_option linter.unusedSimpArgs false

theorem ret_bool {a b : Bool} (h : a = b) : Ending.returned (.bool a) = .returned (.bool b) := by rw [h]
theorem ret_int {k : IntKind} {a b : Int} (h : a = b) : Ending.returned (.int k a) = .returned (.int k b) := by rw [h]

set_option maxHeartbeats 400000 in
theorem named_any (s : ByteArray) (w : World) :
    Calls Tryd.prog 66 #[.string s] w fun e w' => e = .returned (.bool (namedB s.data.toList)) ∧ w = w' := by
  by_cases h1 : 1 ≤ s.size
  · by_cases h2 : s.size ≤ 16
    · have hv : namedB s.data.toList = true := by simp [namedB]; omega
      have Hv := Lib.hid hv; clear hv
      go_enter Tryd.func66, Tryd.ntmps66
      go_wp2
      go_ret
      exact ⟨ret_bool (by rw [Hv.out]; simp; omega), rfl⟩
    · have hv : namedB s.data.toList = false := by simp [namedB]; omega
      have Hv := Lib.hid hv; clear hv
      go_enter Tryd.func66, Tryd.ntmps66
      go_wp2
      go_ret
      exact ⟨ret_bool (by rw [Hv.out]; simp; omega), rfl⟩
  · have hv : namedB s.data.toList = false := by simp [namedB]; omega
    have Hv := Lib.hid hv; clear hv
    go_enter Tryd.func66, Tryd.ntmps66
    go_wp2
    go_ret
    exact ⟨ret_bool (by rw [Hv.out]), rfl⟩

section
variable {w : World} {d : Nat} {D : Dsk}

theorem DiskAt.drewN (h : DiskAt w d D) (n : Nat) : DiskAt (w.drewN n) d D := h.kept (S := fun _ => False) ((Mod.refl _ _).drewN n) (fun _ _ h => h)

/-- What a walk is told of the disk's block. -/
theorem DiskAt.c0 (h : DiskAt w d D) : w.cell? ⟨d, 0, none⟩ = some (.map (some D.m)) := cell_of_heap h.cells 0
theorem DiskAt.c1 (h : DiskAt w d D) : w.cell? ⟨d, 1, none⟩ = some (.int .i64 D.room) := cell_of_heap h.cells 1
theorem DiskAt.c2 (h : DiskAt w d D) : w.cell? ⟨d, 2, none⟩ = some (.bool D.off) := cell_of_heap h.cells 2
theorem DiskAt.c3 (h : DiskAt w d D) : w.cell? ⟨d, 3, none⟩ = some (.int .i64 D.wr) := cell_of_heap h.cells 3
theorem DiskAt.c4 (h : DiskAt w d D) : w.cell? ⟨d, 4, none⟩ = some (.int .i64 D.ar) := cell_of_heap h.cells 4
theorem DiskAt.c5 (h : DiskAt w d D) : w.cell? ⟨d, 5, none⟩ = some (.int .i64 D.kp) := cell_of_heap h.cells 5
theorem DiskAt.fz (h : DiskAt w d D) : ∀ o, w.frozen? ⟨d, o, none⟩ = false := free_of_heap h.cells

set_option maxHeartbeats 400000 in
theorem ready_any (h : DiskAt w d D) (s : ByteArray) :
    Calls Tryd.prog 64 #[.pointer (some ⟨d, 0, none⟩), .string s] w fun e w' => e = .returned (.int .i64 (D.abs.ready s.data.toList)) ∧ w = w' := by
  have c2 := h.c2
  clear h
  cases hn : namedB s.data.toList
  · have hv : D.abs.ready s.data.toList = 1 := by simp [ADsk.ready, hn]
    have Hv := Lib.hid hv; clear hv
    have Hn := Lib.hid hn; clear hn
    go_enter Tryd.func64, Tryd.ntmps64
    go_wp2_with (go_at_call 66; refine (named_any _ _).mono ?_; rw [Hn.out]; rintro e w' ⟨rfl, rfl⟩)
    go_ret
    exact ⟨ret_int (by rw [Hv.out]), rfl⟩
  · cases ho : D.off
    · have hv : D.abs.ready s.data.toList = 0 := by simp [ADsk.ready, hn, Dsk.abs, ho]
      have Hv := Lib.hid hv; clear hv
      have Hn := Lib.hid hn; clear hn
      rw [ho] at c2; clear ho
      go_enter Tryd.func64, Tryd.ntmps64
      go_wp2_with (go_at_call 66; refine (named_any _ _).mono ?_; rw [Hn.out]; rintro e w' ⟨rfl, rfl⟩)
      go_ret
      exact ⟨ret_int (by rw [Hv.out]), rfl⟩
    · have hv : D.abs.ready s.data.toList = 20 := by simp [ADsk.ready, hn, Dsk.abs, ho]
      have Hv := Lib.hid hv; clear hv
      have Hn := Lib.hid hn; clear hn
      rw [ho] at c2; clear ho
      go_enter Tryd.func64, Tryd.ntmps64
      go_wp2_with (go_at_call 66; refine (named_any _ _).mono ?_; rw [Hn.out]; rintro e w' ⟨rfl, rfl⟩)
      go_ret
      exact ⟨ret_int (by rw [Hv.out]), rfl⟩

/-- The world behind a raw write's count. -/
def rawW (w : World) (d : Nat) (D : Dsk) : World :=
  let w1 := w.setCell ⟨d, 3, none⟩ (.int .i64 (wrap64 (D.wr + 1)))
  if D.ar = 0 then w1 else w1.setCell ⟨d, 4, none⟩ (.int .i64 (D.ar - 1))
def Dsk.armed (D : Dsk) : Dsk := { D with wr := wrap64 (D.wr + 1), ar := if D.ar = 0 then 0 else D.ar - 1 }

set_option maxHeartbeats 400000 in
theorem raw_any (h : DiskAt w d D) :
    Calls Tryd.prog 62 #[.pointer (some ⟨d, 0, none⟩)] w fun e w' => e = .returned (.bool (D.ar == 1)) ∧ rawW w d D = w' := by
  have c3 := h.c3
  have c4 := h.c4
  have fz := h.fz
  have h0 := h.ok.ar0
  have h1 := h.ok.ar1
  simp only [Dsk.abs] at h0 h1
  clear h
  by_cases ha : D.ar = 0
  · have hw : rawW w d D = w.setCell ⟨d, 3, none⟩ (.int .i64 (wrap64 (D.wr + 1))) := by simp [rawW, ha]
    have Hw := Lib.hid hw; clear hw
    rw [ha] at c4
    have Ha := Lib.hid ha; clear ha
    go_enter Tryd.func62, Tryd.ntmps62
    go_wp2
    go_ret
    exact ⟨ret_bool (by rw [Ha.out]; rfl), Hw.out⟩
  · have hw : rawW w d D = (w.setCell ⟨d, 3, none⟩ (.int .i64 (wrap64 (D.wr + 1)))).setCell ⟨d, 4, none⟩ (.int .i64 (D.ar - 1)) := by simp [rawW, ha]
    have Hw := Lib.hid hw; clear hw
    have hb : (D.ar == 0) = false := by simpa using ha
    go_enter Tryd.func62, Tryd.ntmps62
    go_wp2
    go_ret
    exact ⟨ret_bool (by rw [Bool.eq_iff_iff]; simp; omega), Hw.out⟩

theorem heap_rawW {k : Nat} (hk : k ≠ d) : (rawW w d D).heap[k]? = w.heap[k]? := by
  unfold rawW
  dsimp only
  split
  · exact heap_setCell_ne hk
  · rw [heap_setCell_ne hk, heap_setCell_ne hk]

theorem mod_rawW : Mod (fun k => k = d) w (rawW w d D) := by
  unfold rawW
  dsimp only
  split
  · exact (Mod.refl (fun k => k = d) w).setCell _ (fun _ => rfl)
  · exact ((Mod.refl (fun k => k = d) w).setCell _ (fun _ => rfl)).setCell _ (fun _ => rfl)

theorem size_rawW : (rawW w d D).heap.size = w.heap.size := by
  unfold rawW
  dsimp only
  split <;> simp [World.setCell]

theorem DiskAt.notFile (h : DiskAt w d D) : ∀ p ∈ D.files, d ∉ p.2.blocks ∧ D.m ∉ p.2.blocks := by
  intro p hp
  have ha := h.apart
  simp only [Dsk.blocks, List.nodup_cons, List.mem_cons, not_or] at ha
  have hin : ∀ k, k ∉ fblocks D.files → k ∉ p.2.blocks := fun k hk hx => hk (List.mem_flatMap.2 ⟨p, hp, hx⟩)
  exact ⟨hin _ ha.1.2, hin _ ha.2.1⟩

/-- A world in which the disk's own block alone is another one. -/
theorem DiskAt.own {w' : World} {D' : Dsk} (h : DiskAt w d D) (hm : Mod (fun k => k = d) w w') (hc : w'.heap[d]? = some (.cells #[.map (some D'.m), .int .i64 D'.room, .bool D'.off, .int .i64 D'.wr, .int .i64 D'.ar, .int .i64 D'.kp] 70 (0, 0)))
    (e1 : D'.m = D.m) (e2 : D'.files = D.files) (hok : D'.abs.Ok) : DiskAt w' d D' := by
  have hf := h.notFile
  have ha := h.apart
  have hb : D'.blocks d = D.blocks d := by simp [Dsk.blocks, e1, e2]
  refine ⟨hc, ?_, ?_, by rw [hb]; exact ha, hok⟩
  · rw [e1, e2]
    obtain ⟨es, clock, hb, F, hs, hD⟩ := h.map
    refine ⟨es, clock, hm.heap hb (fun e => ?_), F, hs, hD⟩
    simp only [Dsk.blocks, List.nodup_cons, List.mem_cons, not_or] at ha
    exact ha.1.1 e.symm
  · intro p hp
    rw [e2] at hp
    have hp1 := h.files p hp
    have hd := (hf p hp).1
    simp only [Fil.blocks, List.mem_cons, List.mem_append, Option.mem_toList, not_or] at hd
    refine ⟨hm.heap hp1.cells (fun e => hd.1 e.symm), ownsRow_kept hp1.safe ?_, ownsRow_kept hp1.wait ?_⟩
    · exact fun k hk => hm.block k (hp1.safe.lt k hk).2 (fun e => hd.2.1 (by rw [← e]; exact hk))
    · exact fun k hk => hm.block k (hp1.wait.lt k hk).2 (fun e => hd.2.2 (by rw [← e]; exact hk))

theorem Ok_armed {A : ADsk} (h : A.Ok) : A.armed.Ok := by
  have h0 := h.ar0
  have h1 := h.ar1
  refine ⟨h.few, h.small, h.rising, ?_, ?_, h.names, h.kp0, h.kp1⟩ <;> (simp only [ADsk.armed]; split <;> omega)

theorem DiskAt.raw (h : DiskAt w d D) : DiskAt (rawW w d D) d D.armed := by
  refine h.own mod_rawW ?_ rfl rfl (Ok_armed h.ok)
  unfold rawW Dsk.armed
  dsimp only
  by_cases ha : D.ar = 0
  · rw [if_pos ha, if_pos ha, heap_setCell_at h.cells]; simp [ha]
  · rw [if_neg ha, if_neg ha, heap_setCell_at (heap_setCell_at h.cells 3 _)]; simp

set_option maxHeartbeats 400000 in
theorem there_yes (h : DiskAt w d D) (s : ByteArray) (hs : s.size ≤ maxLen) (f : Fil) (hf : lookF D.files s.data.toList = some f) (hr : D.abs.ready s.data.toList = 0) :
    Calls Tryd.prog 60 #[.pointer (some ⟨d, 0, none⟩), .string s] w fun e w' => e = .returned (.tuple #[.pointer (some ⟨f.blk, 0, none⟩), .int .i64 0]) ∧ w = w' := by
  have c0 := h.c0
  have hl := h.look s hs
  have R := Lib.hid (ready_any h s)
  clear hs h
  rw [hf] at hl
  have Hr := Lib.hid hr; clear hr
  clear hf
  go_enter Tryd.func60, Tryd.ntmps60
  go_wp2_with (go_at_call 64; refine R.out.mono ?_; rw [Hr.out]; rintro e w' ⟨rfl, rfl⟩)
  go_ret2
  exact ⟨rfl, rfl⟩

set_option maxHeartbeats 400000 in
theorem there_no (h : DiskAt w d D) (s : ByteArray) (hs : s.size ≤ maxLen) (hn : D.abs.there s.data.toList ≠ 0) :
    Calls Tryd.prog 60 #[.pointer (some ⟨d, 0, none⟩), .string s] w fun e w' => e = .returned (.tuple #[.pointer none, .int .i64 (D.abs.there s.data.toList)]) ∧ w = w' := by
  have c0 := h.c0
  have hl := h.look s hs
  have R := Lib.hid (ready_any h s)
  clear hs h
  by_cases hr : D.abs.ready s.data.toList = 0
  · cases hf : lookF D.files s.data.toList with
    | some f => exact absurd (by simp [ADsk.there, hr, look_abs, hf]) hn
    | none =>
      rw [hf] at hl
      have hv : D.abs.there s.data.toList = 21 := by simp [ADsk.there, hr, look_abs, hf]
      have Hv := Lib.hid hv; clear hv
      have Hr := Lib.hid hr; clear hr
      clear hf hn
      go_enter Tryd.func60, Tryd.ntmps60
      go_wp2_with (go_at_call 64; refine R.out.mono ?_; rw [Hr.out]; rintro e w' ⟨rfl, rfl⟩)
      go_ret2
      exact ⟨by rw [Hv.out]; rfl, rfl⟩
  · have hv : D.abs.there s.data.toList = D.abs.ready s.data.toList := by simp [ADsk.there, hr]
    have Hv := Lib.hid hv; clear hv
    have hb : (D.abs.ready s.data.toList == 0) = false := by simpa using hr
    have hb2 : (D.abs.ready s.data.toList != 0) = true := by simpa using hr
    clear hl hn
    go_enter Tryd.func60, Tryd.ntmps60
    go_wp2_with (go_at_call 64; refine R.out.mono ?_; rintro e w' ⟨rfl, rfl⟩)
    go_ret2
    exact ⟨by rw [Hv.out]; rfl, rfl⟩
end
end Go.Proofs.YtmpdmejlpicdlaaDoor

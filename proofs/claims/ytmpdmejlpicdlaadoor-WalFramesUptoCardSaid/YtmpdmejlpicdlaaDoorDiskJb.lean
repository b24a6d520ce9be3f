/- Joined: DiskW5, DiskW6, DiskW7, DiskW8, DiskW9, DiskWa, DiskWb. -/
import Derived.Test.YtmpdmejlpicdlaaDoorDiskJa
import Derived.Deep.Cut
import Derived.Lib.AppendZeros
import Derived.CallsIn
/- Append, walked. -/
namespace Go.Proofs.YtmpdmejlpicdlaaDoor
open Go.RowKit Go.Bw Go.Maps
set_option linter.unusedVariables false
set_option linter.unusedSimpArgs false

set_option maxRecDepth 100000 in
set_option maxHeartbeats 4000000 in
theorem append_refused {w : World} {d : Nat} {D : Dsk} (h : DiskAt w d D) (s : ByteArray) (b : Value) (hr : D.abs.ready s.data.toList ≠ 0) :
    Calls Tryd.prog 47 #[.pointer (some ⟨d, 0, none⟩), .string s, b] w fun e w' => e = .returned (.int .i64 (D.abs.ready s.data.toList)) ∧ w = w' := by
  have R := Lib.hid (ready_any h s)
  have hb2 : (D.abs.ready s.data.toList == 0) = false := by simpa using hr
  clear h
  go_enter Tryd.func47, Tryd.ntmps47
  go_wp2_with fail
  refine R.out.mono ?_
  rintro e w1 ⟨rfl, rfl⟩
  go_wp2
  go_ret
  exact ⟨rfl, rfl⟩

/-- A file with bytes more that wait. -/
theorem FileAt.waited {w w1 : World} {f : Fil} (h : FileAt w f) {bs : List Int} {m : Nat} {v' : Value} (hm0 : bs.length = m)
    (hown : w1.ownsRow 0 5 1 v' (f.c.wait.length + m) (bcells f.c.wait ++ bcells bs)) (hm : Mod (fun b => f.wv.ownBlock = some b) w w1)
    (hb : ∀ b, v'.ownBlock = some b → f.wv.ownBlock = some b ∨ b = w.heap.size) (hnd : f.blocks.Nodup) :
    let w2 := w1.setCell ⟨f.blk, 1, none⟩ v'
    let f' : Fil := ⟨f.blk, f.sv, v', ⟨f.c.safe, f.c.wait ++ bs⟩⟩
    FileAt w2 f' ∧ Mod (fun k => k ∈ f.blocks) w w2 ∧ (∀ k ∈ f'.blocks, k ∈ f.blocks ∨ w.heap.size ≤ k) ∧ f'.blocks.Nodup := by
  intro w2 f'
  have hlt := lt_of_heap h.cells
  have hnd' : f.blk ∉ f.sv.ownBlock.toList ++ f.wv.ownBlock.toList ∧ (f.sv.ownBlock.toList ++ f.wv.ownBlock.toList).Nodup := List.nodup_cons.1 hnd
  have hnw : f.wv.ownBlock ≠ some f.blk := fun e => hnd'.1 (by simp [e])
  have hns : f.sv.ownBlock ≠ some f.blk := fun e => hnd'.1 (by simp [e])
  have hsw : ∀ b, f.sv.ownBlock = some b → f.wv.ownBlock ≠ some b := fun b e1 e2 => by
    have := hnd'.2; rw [e1, e2] at this; simp at this
  have hvb : v'.ownBlock ≠ some f.blk := fun e => by
    rcases hb _ e with h1 | h1
    · exact hnw h1
    · omega
  have h1 : w1.heap[f.blk]? = some (.cells #[f.sv, f.wv] 78 (0, 0)) := hm.heap h.cells hnw
  have h2 : w2.heap[f.blk]? = some (.cells #[f.sv, v'] 78 (0, 0)) := by
    have := heap_setCell_at h1 1 v'
    simpa using this
  have hne : ∀ b, v'.ownBlock = some b → w2.heap[b]? = w1.heap[b]? := fun b e => by
    have : b ≠ f.blk := fun e' => hvb (e' ▸ e)
    rw [heap_setCell_ne this]
  have hsk : ∀ b, f.sv.ownBlock = some b → w2.heap[b]? = w.heap[b]? := fun b e => by
    have h3 : b ≠ f.blk := fun e' => hns (e' ▸ e)
    rw [heap_setCell_ne h3]
    exact hm.block b (h.safe.lt b e).2 (hsw b e)
  refine ⟨⟨h2, ownsRow_kept h.safe hsk, ?_⟩, ?_, ?_, ?_⟩
  · have := ownsRow_kept hown hne
    have e1 : f'.c.wait.length = f.c.wait.length + m := by simp [f', hm0]
    have e2 : bcells f'.c.wait = bcells f.c.wait ++ bcells bs := by simp [f', bcells, List.map_append]
    rw [e1, e2]; exact this
  · have hm1 : Mod (fun k => k ∈ f.blocks) w w1 := hm.mono (fun i _ hi => by simp [Fil.blocks, hi])
    exact hm1.setCell v' (fun _ => by simp [Fil.blocks])
  · intro b hbk
    simp only [f', Fil.blocks, List.mem_cons, List.mem_append, Option.mem_toList] at hbk
    rcases hbk with rfl | hbk | hbk
    · exact Or.inl (by simp [Fil.blocks])
    · exact Or.inl (by simp [Fil.blocks, hbk])
    · rcases hb b hbk with h3 | h3
      · exact Or.inl (by simp [Fil.blocks, h3])
      · exact Or.inr (by omega)
  · show (f.blk :: (f.sv.ownBlock.toList ++ v'.ownBlock.toList)).Nodup
    refine List.nodup_cons.2 ⟨?_, ?_⟩
    · simp only [List.mem_append, Option.mem_toList, not_or]
      exact ⟨hns, hvb⟩
    · refine List.nodup_append.2 ⟨by cases f.sv.ownBlock <;> simp, by cases v'.ownBlock <;> simp, ?_⟩
      intro x hx y hy e
      simp only [Option.mem_toList] at hx hy
      subst e
      rcases hb x hy with h3 | h3
      · exact hsw x hx h3
      · have := (h.safe.lt x hx).2; omega

theorem onFile_put {α : Type} {F : List (Nm × α)} (h : Rising F) {n : Nm} {x y : α} (hm : (n, y) ∈ F) (g : α → α) (hx : x = g y) : F.map (fun p => if p.1 = n then (p.1, g p.2) else p) = put F n x := by
  rw [ins_comm_replace h hm]
  refine List.map_congr_left (fun p hp => ?_)
  by_cases e : p.1 = n
  · have := rising_inj h hp hm e
    subst this
    simp [hx]
  · simp [e]

/-- Behind the bytes and before the raw write is counted: one file has bytes more. -/
theorem append_mid {w w1 : World} {d : Nat} {D : Dsk} (h : DiskAt w d D) {n : Nm} {f : Fil} (hp : (n, f) ∈ D.files) {bs : List Int} {v' : Value} (hlong : f.c.len + bs.length ≤ 1048576)
    (hown : w1.ownsRow 0 5 1 v' (f.c.wait.length + bs.length) (bcells f.c.wait ++ bcells bs)) (hm : Mod (fun b => f.wv.ownBlock = some b) w w1)
    (hb : ∀ b, v'.ownBlock = some b → f.wv.ownBlock = some b ∨ b = w.heap.size) :
    ∃ D', DiskAt (w1.setCell ⟨f.blk, 1, none⟩ v') d D' ∧ D'.abs = { D.abs with files := put D.abs.files n ⟨f.c.safe, f.c.wait ++ bs⟩ } ∧ D'.ar = D.ar ∧ D'.kp = D.kp ∧ Mod (fun k => k ∈ D.blocks d) w (w1.setCell ⟨f.blk, 1, none⟩ v') ∧ ∀ k ∈ D'.blocks d, k ∈ D.blocks d ∨ w.heap.size ≤ k := by
  have hf := h.files _ hp
  have hr := Dsk.rising h.ok
  obtain ⟨s1, s2, s3, s4⟩ := hf.waited rfl hown hm hb (file_nodup h.apart hp)
  have hma : (n, f.c) ∈ D.abs.files := List.mem_map.2 ⟨(n, f), hp, rfl⟩
  have e1 : ({ D with files := repl n ⟨f.blk, f.sv, v', ⟨f.c.safe, f.c.wait ++ bs⟩⟩ D.files } : Dsk).abs.files = ADsk.onFile n (fun c => ⟨c.safe, c.wait ++ bs⟩) D.abs.files := repl_abs hr hp _ rfl
  have e2 : ADsk.onFile n (fun c => ⟨c.safe, c.wait ++ bs⟩) D.abs.files = put D.abs.files n ⟨f.c.safe, f.c.wait ++ bs⟩ := onFile_put h.ok.rising hma (fun c => ⟨c.safe, c.wait ++ bs⟩) rfl
  have hok := onFile_ok h.ok n (fun c => ⟨c.safe, c.wait ++ bs⟩) (fun p hp2 e => by
    have := rising_inj h.ok.rising hp2 hma e
    subst this
    simp [Cont.len] at hlong ⊢; omega)
  have e3 : ({ D with files := repl n ⟨f.blk, f.sv, v', ⟨f.c.safe, f.c.wait ++ bs⟩⟩ D.files } : Dsk).abs = { D.abs with files := ADsk.onFile n (fun c => ⟨c.safe, c.wait ++ bs⟩) D.abs.files } := by rw [← e1]; rfl
  have h2 := h.onFile hp ⟨f.blk, f.sv, v', ⟨f.c.safe, f.c.wait ++ bs⟩⟩ rfl s2 s1 s3 s4 (by rw [e3]; exact hok)
  have hfb : ∀ k ∈ f.blocks, k ∈ D.blocks d := fun k hk => by
    simp only [Dsk.blocks, fblocks, List.mem_cons, List.mem_flatMap]; exact Or.inr (Or.inr ⟨(n, f), hp, hk⟩)
  refine ⟨_, h2, by rw [e3, e2], rfl, rfl, s2.mono (fun i _ hi => hfb i hi), ?_⟩
  intro k hk
  simp only [Dsk.blocks, List.mem_cons, fblocks, List.mem_flatMap] at hk
  rcases hk with rfl | rfl | ⟨p, hp2, hk⟩
  · exact Or.inl (by simp [Dsk.blocks])
  · exact Or.inl (by simp [Dsk.blocks])
  · rcases mem_repl hp2 with rfl | ⟨hp2, _⟩
    · rcases s3 k hk with h3 | h3
      · exact Or.inl (hfb k h3)
      · exact Or.inr h3
    · exact Or.inl (by simp only [Dsk.blocks, fblocks, List.mem_cons, List.mem_flatMap]; exact Or.inr (Or.inr ⟨p, hp2, hk⟩))

theorem Dsk.armed_abs (D : Dsk) : D.armed.abs = D.abs.armed := rfl
theorem Dsk.armed_blocks (d : Nat) (D : Dsk) : D.armed.blocks d = D.blocks d := rfl

/-- Behind a raw write that is counted. -/
theorem raw_step {w w1 : World} {d : Nat} {D D1 : Dsk} {A : ADsk} (h1 : DiskAt w1 d D1) (he : D1.abs = A) (hm : Mod (fun k => k ∈ D.blocks d) w w1) (hb : ∀ k ∈ D1.blocks d, k ∈ D.blocks d ∨ w.heap.size ≤ k) :
    DStep w d D (rawW w1 d D1) A.armed := by
  refine ⟨D1.armed, h1.raw, by rw [Dsk.armed_abs, he], hm.trans mod_rawW (fun i hi e => ?_), fun k hk => hb k hk⟩
  rw [e]; simp [Dsk.blocks]

theorem off_step {w w1 w2 : World} {d : Nat} {D D1 : Dsk} {A : ADsk} (h1 : DiskAt w1 d D1) (he : D1.abs = A) (hm : Mod (fun k => k ∈ D.blocks d) w w1) (hb : ∀ k ∈ D1.blocks d, k ∈ D.blocks d ∨ w.heap.size ≤ k) (hkp : D1.kp = D.kp)
    (h2 : DStep (rawW w1 d D1) d D1.armed w2 (D1.armed.abs.goesOff D1.armed.kp)) : DStep w d D w2 (A.armed.goesOff D.kp) := by
  obtain ⟨D3, g1, g2, g3, g4⟩ := raw_step h1 he hm hb
  have e : D1.armed.abs.goesOff D1.armed.kp = A.armed.goesOff D.kp := by rw [Dsk.armed_abs, he]; show ADsk.goesOff _ D1.kp = _; rw [hkp]
  rw [e] at h2
  refine DStep.trans (D1 := D1.armed) (hm.trans mod_rawW (fun i hi e => by rw [e]; simp [Dsk.blocks])) (fun k hk => hb k hk) h2

theorem bcells_one (xs : List Int) : ∀ u ∈ bcells xs, u.oneCell' = true := by
  intro u hu
  obtain ⟨x, _, rfl⟩ := List.mem_map.1 hu
  rfl

theorem ADsk.append_eqs (A : ADsk) (n : Nm) (bs : List Int) (hr : A.ready n = 0) (c : Cont) (hl : (lookF A.files n).getD ⟨[], []⟩ = c) :
    (1048576 < c.len + bs.length → A.append n bs = (A, 3)) ∧
    (¬ 1048576 < c.len + bs.length → (lookF A.files n).isNone = true ∧ 16 ≤ A.files.length → A.append n bs = (A, 22)) ∧
    (¬ 1048576 < c.len + bs.length → A.room < ((total A.files + bs.length : Nat) : Int) → A.append n bs = (A, 22)) ∧
    (¬ 1048576 < c.len + bs.length → ¬ ((lookF A.files n).isNone = true ∧ 16 ≤ A.files.length) → ¬ A.room < ((total A.files + bs.length : Nat) : Int) →
      (A.ar = 1 → A.append n bs = (({ A with files := put A.files n ⟨c.safe, c.wait ++ bs⟩ } : ADsk).armed.goesOff A.kp, 20)) ∧
      (A.ar ≠ 1 → A.append n bs = (({ A with files := put A.files n ⟨c.safe, c.wait ++ bs⟩ } : ADsk).armed, 0))) := by
  have hr' : ¬ A.ready n ≠ 0 := fun h => h hr
  refine ⟨fun h1 => ?_, fun h1 h2 => ?_, fun h1 h2 => ?_, fun h1 h2 h3 => ⟨fun h4 => ?_, fun h4 => ?_⟩⟩
  · unfold ADsk.append; rw [if_neg hr', hl]; simp only []; rw [if_pos (by omega)]
  · unfold ADsk.append; rw [if_neg hr', hl]; simp only []; rw [if_neg (by omega), if_pos (Or.inl h2)]
  · unfold ADsk.append; rw [if_neg hr', hl]; simp only []; rw [if_neg (by omega), if_pos (Or.inr h2)]
  · unfold ADsk.append; rw [if_neg hr', hl]; simp only []; rw [if_neg (by omega), if_neg (fun h => h.elim h2 h3), if_pos h4]
  · unfold ADsk.append; rw [if_neg hr', hl]; simp only []; rw [if_neg (by omega), if_neg (fun h => h.elim h2 h3), if_neg h4]

theorem DiskAt.below {w w' : World} {d : Nat} {D : Dsk} (h : DiskAt w d D) (hb : Below w.heap.size w w') : DiskAt w' d D :=
  h.kept (S := fun k => w.heap.size ≤ k) ((Mod.refl _ _).below hb (fun i _ h => h)) (fun k hk hx => by have := h.lt k hk; omega)

theorem size_cls {w : World} {d : Nat} {D : Dsk} (h : DiskAt w d D) (x : Cls (Below w.heap.size w)) : Calls Tryd.prog 65 #[.pointer (some ⟨d, 0, none⟩)] x.w fun e w'' => e = .returned (.int .i64 (total D.abs.files)) ∧ ∃ y : Cls (Below w.heap.size w), w'' = y.w :=
  (size_any (h.below x.ok)).mono (fun e w'' hx => ⟨hx.1, ⟨w'', x.ok.trans (hx.2.mono x.ok.size)⟩, rfl⟩)

theorem Reads.kept' {S : Nat → Prop} {w w' : World} {size : Nat} {x : Value} {m : Nat} {news : List Value} (h : Reads w size x m news) (hm : Mod S w w') (hS : news ≠ [] → ∀ k, x.ownBlock = some k → ¬ S k) : Reads w' size x m news := by
  by_cases hn : news = []
  · obtain ⟨h1, h2⟩ := h
    refine ⟨h1, ?_⟩
    rcases h2 with h2 | ⟨a, c, rfl, h2⟩
    · exact Or.inl h2
    · exact Or.inr ⟨a, c, rfl, fun j u hu => by rw [hn] at hu; cases hu⟩
  · exact h.kept hm (hS hn)


set_option maxRecDepth 100000 in
set_option maxHeartbeats 4000000 in
theorem append_some {w : World} {d : Nat} {D : Dsk} (h : DiskAt w d D) (s : ByteArray) (hs : s.size ≤ maxLen) (ba : Option Addr) (bn bc : Nat) (bs : List Int) (hrd : Reads w 1 (.slice ba bn bc) bn (bcells bs)) (hap : bs ≠ [] → ∀ k, Value.ownBlock (.slice ba bn bc) = some k → k < w.heap.size ∧ k ∉ D.blocks d) (hbn : bn ≤ 140737488355328) (f : Fil) (hf : lookF D.files s.data.toList = some f) (hr : D.abs.ready s.data.toList = 0) :
    Calls Tryd.prog 47 #[.pointer (some ⟨d, 0, none⟩), .string s, .slice ba bn bc] w fun e w' => e = .returned (.int .i64 (D.abs.append s.data.toList bs).2) ∧ DStep w d D w' (D.abs.append s.data.toList bs).1 := by
  have hbl : bs.length = bn := by have := hrd.1; simpa [bcells] using this
  have habs : lookF D.abs.files s.data.toList = some f.c := by rw [look_abs, hf]; rfl
  have c0 := h.c0
  have hl := h.look s hs
  rw [hf] at hl
  have R := Lib.hid (ready_any h s)
  have hp := look_some hf
  have hF := h.files _ hp
  obtain ⟨a1, k1, a2, k2, e1, e2, f1, f2⟩ := hF.shape
  have hlen : f.c.safe.length + f.c.wait.length ≤ 1048576 := h.ok.small (s.data.toList, f.c) (List.mem_map.2 ⟨_, hp, rfl⟩)
  obtain ⟨V3, _, V22, V⟩ := ADsk.append_eqs D.abs s.data.toList bs hr f.c (by rw [habs]; rfl)
  rw [hr] at R
  have hfl : f.c.len = f.c.safe.length + f.c.wait.length := rfl
  have W3 := Lib.hid V3
  have W22 := Lib.hid V22
  have WV := Lib.hid V
  have H := Lib.hid h
  have Habs := Lib.hid habs
  have HF := Lib.hid hF
  have Hp := Lib.hid hp
  have Hbl := Lib.hid hbl
  have Hfl := Lib.hid hfl
  have Hrd := Lib.hid hrd
  have Hap := Lib.hid hap
  have E1 := Lib.hid e1
  have E2 := Lib.hid e2
  have ht0 : total D.abs.files ≤ 16777216 := by have := partSum_le (left := fun _ => false) h.ok; rwa [partSum_done (fun _ => rfl)] at this
  have SC := Lib.hid (size_cls h)
  have C1 := Lib.hid h.c1
  have hd1 : d < w.heap.size := lt_of_heap h.cells
  clear h hs hf hr hp e1 e2 hF V3 V22 V habs hbl hfl hrd hap
  go_enter Tryd.func47, Tryd.ntmps47
  go_wp2_with fail
  refine R.out.mono ?_
  rintro e w1 ⟨rfl, rfl⟩
  go_wp2
  go_quiet (fail)
  go_wp2
  · -- too long
    have hlong : 1048576 < f.c.len + bs.length := by rw [Hfl.out, Hbl.out]; omega
    go_ret
    exact ⟨by rw [W3.out hlong]; rfl, by rw [W3.out hlong]; exact ⟨D, H.out.drewN _, rfl, (Mod.refl _ _).drewN _, fun k hk => Or.inl hk⟩⟩
  · have hlong : ¬ 1048576 < f.c.len + bs.length := by rw [Hfl.out, Hbl.out]; omega
    have Hlong := Lib.hid hlong
    clear hlong
    refine wp_region_cls (C := Below w.heap.size w) (by kernel_rfl) (by kernel_rfl) ⟨rfl, rfl, rfl, Nat.le_refl _, fun _ _ => rfl⟩ (fun _ => ?_)
    have g1 : ∀ x : Cls (Below w.heap.size w), x.w.cell? ⟨d, 1, none⟩ = some (.int .i64 D.room) := fun x => (x.ok.cell (p := ⟨d, 1, none⟩) hd1).trans C1.out
    repeat (go_big_quiet_step (exact SC.out _))
    refine wpQuiet_nil ?_
    intro w2 hC
    have h2 := H.out.below hC
    have hF2 := h2.files _ Hp.out
    have c02 := h2.c0
    have f12 := (hC.cell (p := ⟨f.blk, 0, none⟩) (lt_of_heap HF.out.cells)).trans f1
    have f22 := (hC.cell (p := ⟨f.blk, 1, none⟩) (lt_of_heap HF.out.cells)).trans f2
    -- the append
    obtain ⟨i0, hi, hz0, hz1, hz2⟩ := info_parts TByte.info
    have r2 : w2.ownsRow 0 5 1 (.slice a2 f.c.wait.length k2) f.c.wait.length (bcells f.c.wait) := by rw [← E2.out]; exact hF2.wait
    have r3 : Reads w2 1 (.slice ba bn bc) bn (bcells bs) := Reads.kept' Hrd.out ((Mod.refl (fun k => w.heap.size ≤ k) w).below hC (fun i _ h => h)) (fun hne k hk hx => by have := (Hap.out (fun e => hne (by rw [e]; rfl)) k hk).1; omega)
    obtain ⟨v', w3, hrun, ho3, hm3, hb3, _⟩ := run_append_to (P := Tryd.prog) 22 22 5 i0 (.int .u8 0) 1 1 Tryd.underlying22 hi hz0 hz1 hz2 rfl (by decide) _ _ _ r2 _ _ _ r3 (bcells_one _) (by unfold maxLen; omega) (by omega)
    obtain ⟨a3, c3, rfl, _⟩ := ownsRow_slice ho3
    have hnd := file_nodup h2.apart Hp.out
    have hwf : Value.ownBlock (.slice a2 f.c.wait.length k2) ≠ some f.blk := fun e => by
      rw [← E2.out] at e; simp [Fil.blocks, e] at hnd
    have h3c := hm3.heap hF2.cells hwf
    have fz := free_of_heap h3c
    have q2 : w3.cell? ⟨f.blk, 1, none⟩ = some (.slice a2 f.c.wait.length k2) := (cell_of_heap h3c 1).trans (by rw [← E2.out]; rfl)
    have hmid := append_mid h2 Hp.out (bs := bs) (v' := .slice a3 (f.c.wait.length + bn) c3) (w1 := w3) (by have := Hlong.out; omega) (by rw [Hbl.out]; exact ho3) (by rw [E2.out]; exact hm3) (by rw [E2.out]; exact hb3)
    have HM := Lib.hid hmid
    have Hrun := Lib.hid hrun
    have HC := Lib.hid hC
    have hmn : Mod (fun k => k ∈ D.blocks d) w w2 := (Mod.refl _ _).below hC (fun i hi hx => by omega)
    have HN := Lib.hid hmn
    clear hC h2 f1 f2 c0 hmid hrun r2 r3 ho3 hm3 hb3 h3c hnd hwf hF2 hi hz0 hz1 hz2 hl C1 R SC hmn
    go_wp2_with (at_builtin; refine wpList_append_run rfl (.tmp 79) (.tmp 80) 22 rfl rfl rfl Hrun.out ?_)
    · -- no room
      have hroom : D.abs.room < ((total D.abs.files + bs.length : Nat) : Int) := by rw [Hbl.out]; show D.room < _; omega
      go_ret
      exact ⟨by rw [W22.out Hlong.out hroom]; rfl, by rw [W22.out Hlong.out hroom]; exact ⟨D, H.out.below HC.out, rfl, HN.out, fun k hk => Or.inl hk⟩⟩
    · have hroom : ¬ D.abs.room < ((total D.abs.files + bs.length : Nat) : Int) := by rw [Hbl.out]; show ¬ D.room < _; omega
      have WV' := Lib.hid (WV.out Hlong.out (fun hx => by rw [Habs.out] at hx; simp at hx) (by first | exact hroom | exact Int.not_lt.1 hroom))
      clear hroom W22 W3 WV
      obtain ⟨D', m1, m2, m3, m3', m4, m5⟩ := HM.out
      have M1 := Lib.hid m1
      have R1 := Lib.hid (raw_any m1)
      have m4' := HN.out.trans m4 (fun i _ h => h)
      have m5' : ∀ k ∈ D'.blocks d, k ∈ D.blocks d ∨ w.heap.size ≤ k := fun k hk => (m5 k hk).imp id (fun h => Nat.le_trans HC.out.size h)
      have S1 := Lib.hid (raw_step m1 m2 m4' m5')
      have S2 := fun w2 => Lib.hid (off_step (w2 := w2) m1 m2 m4' m5' m3')
      have E3 := Lib.hid (ends_any m1.raw)
      clear m1 m2 m4 m5 m4' m5'
      refine R1.out.mono ?_
      rw [m3]
      rintro e w4 ⟨rfl, rfl⟩
      by_cases har : D.ar = 1
      · have e : (D.ar == 1) = true := by simpa using har
        rw [e]
        have WV1 := Lib.hid (WV'.out.1 har)
        clear WV' e har
        go_wp2_with fail
        refine E3.out.mono ?_
        rintro e w4 ⟨rfl, hs⟩
        have Hs := Lib.hid hs
        clear hs
        go_wp2_with fail
        go_ret
        exact ⟨by rw [WV1.out]; rfl, by rw [WV1.out]; exact (S2 _).out Hs.out⟩
      · have e : (D.ar == 1) = false := by simpa using har
        rw [e]
        have WV1 := Lib.hid (WV'.out.2 har)
        clear WV' e har
        go_wp2_with fail
        go_ret
        exact ⟨by rw [WV1.out]; rfl, by rw [WV1.out]; exact S1.out⟩
end Go.Proofs.YtmpdmejlpicdlaaDoor
/- Append to a file that is not there yet. -/
namespace Go.Proofs.YtmpdmejlpicdlaaDoor
open Go.RowKit Go.Bw Go.Maps
set_option linter.unusedVariables false
set_option linter.unusedSimpArgs false

theorem ins_perm {α : Type} (x : Nm × α) : ∀ F : List (Nm × α), (ins x F).Perm (x :: F)
  | [] => List.Perm.refl _
  | y :: r => by
    unfold ins
    split
    · exact List.Perm.refl _
    · exact ((ins_perm x r).cons y).trans (List.Perm.swap x y r)
theorem put_perm {α : Type} (F : List (Nm × α)) (n : Nm) (x : α) : (put F n x).Perm ((n, x) :: drop F n) := ins_perm _ _
theorem drop_of_none {α : Type} {F : List (Nm × α)} {n : Nm} (h : lookF F n = none) : drop F n = F :=
  List.filter_eq_self.2 (fun p hp => by simp [look_none h p hp])
theorem take_perm {α : Type} : ∀ {F : List (Nm × α)} {n : Nm} {x : α}, Rising F → (n, x) ∈ F → F.Perm ((n, x) :: drop F n)
  | [], _, _, _, h => by cases h
  | y :: r, n, x, hr, hm => by
    obtain ⟨h1, h2⟩ := List.pairwise_cons.1 hr
    rcases List.mem_cons.1 hm with e | e
    · subst e
      have : drop ((n, x) :: r) n = r := by
        simp only [drop, List.filter_cons, beq_self_eq_true, Bool.not_true, Bool.false_eq_true, if_false]
        exact List.filter_eq_self.2 (fun p hp => by have := before_ne (h1 p hp); simp [Ne.symm this])
      rw [this]
    · have hne : y.1 ≠ n := before_ne (h1 _ e)
      have : drop (y :: r) n = y :: drop r n := by simp [drop, hne]
      rw [this]
      exact ((take_perm h2 e).cons y).trans (List.Perm.swap _ _ _)
theorem fblocks_perm {F G : List (Nm × Fil)} (h : F.Perm G) : (fblocks F).Perm (fblocks G) := h.flatMap_right _
theorem length_put_none {α : Type} {F : List (Nm × α)} {n : Nm} (h : lookF F n = none) (x : α) : (put F n x).length = F.length + 1 := by
  rw [(put_perm F n x).length_eq, drop_of_none h]; rfl
theorem put_put {α : Type} {F : List (Nm × α)} (hr : Rising F) {n : Nm} (x y : α) (hn : lookF F n = none) : put (put F n x) n y = put F n y := by
  have hm : (n, x) ∈ put F n x := mem_ins.2 (Or.inl rfl)
  have h1 : drop (put F n x) n = F := by
    have : ∀ G : List (Nm × α), (∀ p ∈ G, p.1 ≠ n) → drop (ins (n, x) G) n = G := by
      intro G
      induction G with
      | nil => intro _; simp [ins, drop]
      | cons z r ih =>
        intro hz
        have hzn : z.1 ≠ n := hz z (by simp)
        have hd : drop r n = r := List.filter_eq_self.2 (fun p hp => by simp [hz p (by simp [hp])])
        unfold ins
        split
        · simp [drop, hzn] ; exact fun a b hb => hz (a, b) (by simp [hb])
        · have := ih (fun p hp => hz p (by simp [hp]))
          simp only [drop, List.filter_cons] at this ⊢
          simp [hzn, this]
    unfold put
    rw [drop_of_none hn]
    exact this F (look_none hn)
  show ins (n, y) (drop (put F n x) n) = ins (n, y) (drop F n)
  rw [h1, drop_of_none hn]

theorem ownsMap_exact {w : World} {P : Program} {k : TypeId} {R : Value → Option (DataW Unit × List MemPlace)} {b n : Nat} {l : List (Lit × DataW Unit)} (h : w.ownsMap P k R b n (.map l)) : w.ownsMap P k R b l.length (.map l) := by
  obtain ⟨es, clock, hb, F, hs, hD⟩ := h
  refine ⟨es, clock, hb, F, ?_, hD⟩
  cases hD
  rw [length_sorted]; simp

/-- The disk with a new file, empty. -/
theorem DiskAt.fresh {w w1 : World} {d : Nat} {D : Dsk} (h : DiskAt w d D) {n : Nm} (hn : lookF D.files n = none) (hnb : namedB n = true) (hlen : D.files.length < 16)
    (hm : w1.ownsMap Tryd.prog 9 ptrElem D.m 17 ((fdata D.files).put (.string n) (.lit (.int .i64 w.heap.size)))) (hg : (w.alloc (.cells #[.slice none 0 0, .slice none 0 0] 78)).grownBy w1 (some D.m)) :
    ∃ D', DiskAt w1 d D' ∧ D'.abs = { D.abs with files := put D.abs.files n ⟨[], []⟩ } ∧ lookF D'.files n = some ⟨w.heap.size, .slice none 0 0, .slice none 0 0, ⟨[], []⟩⟩ ∧ Mod (fun k => k ∈ D.blocks d) w w1 ∧ (∀ k ∈ D'.blocks d, k ∈ D.blocks d ∨ w.heap.size ≤ k) ∧ D'.room = D.room ∧ D'.off = D.off ∧ D'.ar = D.ar ∧ D'.kp = D.kp := by
  let f : Fil := ⟨w.heap.size, .slice none 0 0, .slice none 0 0, ⟨[], []⟩⟩
  have hr := Dsk.rising h.ok
  have hmod0 : Mod (fun k => k = D.m) w w1 := ((Mod.refl (fun k => k = D.m) w).alloc _).grown hg (fun k e _ => by cases e; rfl)
  have ha := h.apart
  simp only [Dsk.blocks, List.nodup_cons, List.mem_cons, not_or] at ha
  have hblk : w1.heap[w.heap.size]? = some (.cells #[.slice none 0 0, .slice none 0 0] 78 (0, 0)) := by
    rw [hg.block w.heap.size (by simp) (fun e => by have e1 := Option.some.inj e; have e2 := h.map.lt; omega)]
    exact heap_alloc_new w _
  have hperm : (put D.files n f).Perm ((n, f) :: D.files) := by have := put_perm D.files n f; rwa [drop_of_none hn] at this
  have hbp : (fblocks (put D.files n f)).Perm (w.heap.size :: fblocks D.files) := fblocks_perm hperm
  have habs : ({ D with files := put D.files n f } : Dsk).abs = { D.abs with files := put D.abs.files n ⟨[], []⟩ } := by
    have := put_map (fun f : Fil => f.c) D.files n f
    simp only [Dsk.abs]
    rw [← this]
  have hfresh : ∀ k ∈ D.blocks d, k ≠ w.heap.size := fun k hk e => by have := h.lt k hk; omega
  have hnabs : lookF D.abs.files n = none := by rw [look_abs, hn]; rfl
  refine ⟨{ D with files := put D.files n f }, ⟨hmod0.heap h.cells (fun e => ha.1.1 e), ?_, ?_, ?_, ?_⟩, habs, ?_, hmod0.mono (fun i _ e => by rw [e]; simp [Dsk.blocks]), ?_, rfl, rfl, rfl, rfl⟩
  · show w1.ownsMap Tryd.prog 9 ptrElem D.m 16 (fdata (put D.files n f))
    have e : (fdata D.files).put (.string n) (.lit (.int .i64 w.heap.size)) = fdata (put D.files n f) := put_fdata n f D.files
    rw [e] at hm
    refine (ownsMap_exact hm).mono ?_
    rw [List.length_map, length_put_none hn]; omega
  · intro p hp
    rcases mem_ins.1 hp with rfl | hp
    · exact ⟨hblk, World.ownsRow_nil _ _ _ _, World.ownsRow_nil _ _ _ _⟩
    · have hp := (mem_drop.1 hp).1
      have hp1 := h.files p hp
      have hnm := (h.notFile p hp).2
      simp only [Fil.blocks, List.mem_cons, List.mem_append, Option.mem_toList, not_or] at hnm
      refine ⟨hmod0.heap hp1.cells (fun e => hnm.1 e.symm), ownsRow_kept hp1.safe ?_, ownsRow_kept hp1.wait ?_⟩
      · exact fun k hk => hmod0.block k (hp1.safe.lt k hk).2 (fun e => hnm.2.1 (by rw [← e]; exact hk))
      · exact fun k hk => hmod0.block k (hp1.wait.lt k hk).2 (fun e => hnm.2.2 (by rw [← e]; exact hk))
  · show (d :: D.m :: fblocks (put D.files n f)).Nodup
    rw [((hbp.cons D.m).cons d).nodup_iff]
    simp only [List.nodup_cons, List.mem_cons, not_or]
    have hd := hfresh d (by simp [Dsk.blocks])
    have hmm := hfresh D.m (by simp [Dsk.blocks])
    exact ⟨⟨ha.1.1, hd, ha.1.2⟩, ⟨hmm, ha.2.1⟩, fun hx => hfresh w.heap.size (by simp [Dsk.blocks, hx]) rfl, ha.2.2⟩
  · rw [habs]
    have hok := h.ok
    refine ⟨?_, ?_, rising_put hok.rising _ _, hok.ar0, hok.ar1, ?_, hok.kp0, hok.kp1⟩
    · show (put D.abs.files n _).length ≤ 16
      rw [length_put_none hnabs]; simp only [Dsk.abs, List.length_map]; omega
    · intro p hp
      rcases mem_ins.1 hp with rfl | hp
      · simp [Cont.len]
      · exact hok.small p (mem_drop.1 hp).1
    · intro p hp
      rcases mem_ins.1 hp with rfl | hp
      · exact hnb
      · exact hok.names p (mem_drop.1 hp).1
  · exact look_of_mem (rising_put hr n f) (p := (n, f)) (mem_ins.2 (Or.inl rfl))
  · intro k hk
    have hk' : k = d ∨ k = D.m ∨ k ∈ fblocks (put D.files n f) := by simpa [Dsk.blocks] using hk
    rcases hk' with rfl | rfl | hk'
    · exact Or.inl (by simp [Dsk.blocks])
    · exact Or.inl (by simp [Dsk.blocks])
    · rcases List.mem_cons.1 (hbp.mem_iff.1 hk') with rfl | hk'
      · exact Or.inr (Nat.le_refl _)
      · exact Or.inl (by simp [Dsk.blocks, hk'])

theorem map_len {w : World} {d : Nat} {D : Dsk} (h : DiskAt w d D) (ty : TypeId) : (Builtin.len_ #[68] ty #[.map (some D.m)]).run Tryd.prog w = .ok (.int .i64 D.files.length) w := by
  have := h.map.len Tryd.underlying68 ty
  rw [size_fdata] at this; exact this

set_option maxRecDepth 100000 in
set_option maxHeartbeats 4000000 in
theorem append_none {w : World} {d : Nat} {D : Dsk} (h : DiskAt w d D) (s : ByteArray) (hs : s.size ≤ maxLen) (ba : Option Addr) (bn bc : Nat) (bs : List Int) (hrd : Reads w 1 (.slice ba bn bc) bn (bcells bs)) (hap : bs ≠ [] → ∀ k, Value.ownBlock (.slice ba bn bc) = some k → k < w.heap.size ∧ k ∉ D.blocks d) (hbn : bn ≤ 140737488355328) (hf : lookF D.files s.data.toList = none) (hr : D.abs.ready s.data.toList = 0) :
    Calls Tryd.prog 47 #[.pointer (some ⟨d, 0, none⟩), .string s, .slice ba bn bc] w fun e w' => e = .returned (.int .i64 (D.abs.append s.data.toList bs).2) ∧ DStep w d D w' (D.abs.append s.data.toList bs).1 := by
  have hbl : bs.length = bn := by have := hrd.1; simpa [bcells] using this
  have habs : lookF D.abs.files s.data.toList = none := by rw [look_abs, hf]; rfl
  have hnb : namedB s.data.toList = true := by
    cases hx : namedB s.data.toList
    · simp [ADsk.ready, hx] at hr
    · rfl
  have c0 := h.c0
  have hl := h.look s hs
  rw [hf] at hl
  have R := Lib.hid (ready_any h s)
  obtain ⟨V3, V16, V22, V⟩ := ADsk.append_eqs D.abs s.data.toList bs hr ⟨[], []⟩ (by rw [habs]; rfl)
  rw [hr] at R
  have hfew : D.files.length ≤ 16 := by have := h.ok.few; simpa [Dsk.abs] using this
  have hfa : D.abs.files.length = D.files.length := by simp [Dsk.abs]
  have W3 := Lib.hid V3
  have W16 := Lib.hid V16
  have W22 := Lib.hid V22
  have WV := Lib.hid V
  have H := Lib.hid h
  have Habs := Lib.hid habs
  have Hf := Lib.hid hf
  have Hnb := Lib.hid hnb
  have Hfa := Lib.hid hfa
  have Hbl := Lib.hid hbl
  have Hrd := Lib.hid hrd
  have Hap := Lib.hid hap
  have Hs := Lib.hid hs
  have hml := Lib.hid (map_len h)
  have ht0 : total D.abs.files ≤ 16777216 := by have := partSum_le (left := fun _ => false) h.ok; rwa [partSum_done (fun _ => rfl)] at this
  have SC := Lib.hid (size_cls h)
  have C1 := Lib.hid h.c1
  have hd1 : d < w.heap.size := lt_of_heap h.cells
  clear h hs hf hr V3 V16 V22 V habs hbl hrd hap hnb hfa
  have Z : ∀ x : Int, (0 : Int) + x = x := Int.zero_add
  go_enter Tryd.func47, Tryd.ntmps47
  go_wp2_with fail
  refine R.out.mono ?_
  rintro e w1 ⟨rfl, rfl⟩
  go_wp2_with fail
  go_quiet (fail)
  have hml1 : ∀ nq : Nat, (Builtin.len_ #[68] 3 #[.map (some D.m)]).run Tryd.prog (w.drewN nq) = .ok (.int .i64 D.files.length) (w.drewN nq) := fun nq => map_len (H.out.drewN nq) _
  go_wp2_with fail
  · have hlong : 1048576 < (⟨[], []⟩ : Cont).len + bs.length := by rw [Hbl.out]; simp [Cont.len]; omega
    go_ret
    exact ⟨by rw [W3.out hlong]; rfl, by rw [W3.out hlong]; exact ⟨D, H.out.drewN _, rfl, (Mod.refl _ _).drewN _, fun k hk => Or.inl hk⟩⟩
  · have hlong : ¬ 1048576 < (⟨[], []⟩ : Cont).len + bs.length := by rw [Hbl.out]; simp [Cont.len]; omega
    have h16 : 16 ≤ D.abs.files.length := by rw [Hfa.out]; omega
    have e := W16.out hlong ⟨by rw [Habs.out]; rfl, h16⟩
    go_ret
    exact ⟨by rw [e]; rfl, by rw [e]; exact ⟨D, H.out.drewN _, rfl, (Mod.refl _ _).drewN _, fun k hk => Or.inl hk⟩⟩
  · have hlong : ¬ 1048576 < (⟨[], []⟩ : Cont).len + bs.length := by rw [Hbl.out]; simp [Cont.len]; omega
    have hlt16 : D.files.length < 16 := by omega
    have Hlong := Lib.hid hlong
    clear hlong
    refine wp_region_cls (C := Below w.heap.size w) (by kernel_rfl) (by kernel_rfl) ⟨rfl, rfl, rfl, Nat.le_refl _, fun _ _ => rfl⟩ (fun _ => ?_)
    have g1 : ∀ x : Cls (Below w.heap.size w), x.w.cell? ⟨d, 1, none⟩ = some (.int .i64 D.room) := fun x => (x.ok.cell (p := ⟨d, 1, none⟩) hd1).trans C1.out
    repeat (go_big_quiet_step (exact SC.out _))
    refine wpQuiet_nil ?_
    clear hml1
    intro w2 hC
    have h2 := H.out.below hC
    have c02 := h2.c0
    have hmn : Mod (fun k => k ∈ D.blocks d) w w2 := (Mod.refl _ _).below hC (fun i hi hx => by omega)
    have HN := Lib.hid hmn
    have H2 := Lib.hid h2
    have HC := Lib.hid hC
    have hd2 : d < w2.heap.size := lt_of_heap h2.cells
    have hown := Lib.hid (h2.map.alloc (.cells #[.slice none 0 0, .slice none 0 0] 78))
    clear hmn hC c0 h2 g1 hl
    go_upto_region 14 with (at_mapUpdate; refine wpList_mapUpdate_own _ rfl _ _ _ 68 rfl 9 76 (string_keyed Tryd.underlying9) Tryd.underlying68 ptrElem D.m 16 _ rfl hown.out (by unfold maxLen; omega) _ _ _ rfl rfl (WideMaps.keyOf_string_mk Tryd.underlying9 Hs.out) (.lit (.int .i64 w2.heap.size)) [] rfl ?_; intro w4 hown4 hgrow4)
    · -- no room
      have hroom : D.abs.room < ((total D.abs.files + bs.length : Nat) : Int) := by rw [Hbl.out]; show D.room < _; omega
      have e := W22.out Hlong.out hroom
      go_ret
      exact ⟨by rw [e]; rfl, by rw [e]; exact ⟨D, H.out.below HC.out, rfl, HN.out, fun k hk => Or.inl hk⟩⟩
    · have hroom : ¬ D.abs.room < ((total D.abs.files + bs.length : Nat) : Int) := by rw [Hbl.out]; show ¬ D.room < _; omega
      have h16 : ¬ 16 ≤ D.abs.files.length := by rw [Hfa.out]; omega
      have WV' := Lib.hid (WV.out Hlong.out (fun hx => h16 hx.2) (by first | exact hroom | exact Int.not_lt.1 hroom))
      obtain ⟨D4, q1, q2, q3, q4, q5, q6, q7, q8, q9⟩ := H2.out.fresh Hf.out Hnb.out hlt16 hown4 hgrow4
      have hp4 := look_some q3
      have hF4 := q1.files _ hp4
      have x4 := (cell_of_heap hF4.cells 1)
      have y4 := (cell_of_heap hF4.cells 0)
      dsimp only at x4 y4
      obtain ⟨i0, hi, hz0, hz1, hz2⟩ := info_parts TByte.info
      have hq4 : Mod (fun k => k ∈ D.blocks d) w w4 := HN.out.trans q4 (fun i _ h => h)
      have r3 : Reads w4 1 (.slice ba bn bc) bn (bcells bs) := Reads.kept' Hrd.out hq4 (fun hne k hk => (Hap.out (fun e => hne (by rw [e]; rfl)) k hk).2)
      obtain ⟨v', w5, hrun, ho5, hm5, hb5, _⟩ := run_append_to (P := Tryd.prog) 22 22 5 i0 (.int .u8 0) 1 1 Tryd.underlying22 hi hz0 hz1 hz2 rfl (by decide) _ _ _ hF4.wait _ _ _ r3 (bcells_one _) (by simp; unfold maxLen; omega) (by simp; omega)
      dsimp only at hrun ho5 hm5 hb5
      obtain ⟨a3, c3, rfl, _⟩ := ownsRow_slice ho5
      have e0 : ([] : List Int).length + bn = bn := Nat.zero_add bn
      rw [e0] at hrun ho5 hb5
      have h5c := hm5.heap hF4.cells (by simp [Value.ownBlock])
      dsimp only at h5c
      have fz := free_of_heap h5c
      have q2c : w5.cell? ⟨w2.heap.size, 1, none⟩ = some (.slice none 0 0) := cell_of_heap h5c 1
      have hmid := append_mid q1 hp4 (bs := bs) (v' := .slice a3 bn c3) (w1 := w5) (by have := Hlong.out; simpa using this) (by rw [Hbl.out]; simp only [List.length_nil, Nat.zero_add]; exact ho5) hm5 hb5
      have e7 : D4.abs.files = put D.abs.files s.data.toList ⟨[], []⟩ := by rw [q2]
      have e8 : put D4.abs.files s.data.toList (⟨[], [] ++ bs⟩ : Cont) = put D.abs.files s.data.toList ⟨[], [] ++ bs⟩ := by rw [e7]; exact put_put H.out.ok.rising _ _ Habs.out
      obtain ⟨D', m1, m2, m3, m3', m4, m5⟩ := hmid
      have m2' : D'.abs = { D.abs with files := put D.abs.files s.data.toList ⟨[], [] ++ bs⟩ } := by
        rw [m2, q2]; simp only []; rw [← e7, e8]
      have m4' := hq4.trans m4 (fun i hi hx => (q5 i hx).elim id (fun h => by have := HC.out.size; omega))
      have m5' : ∀ k ∈ D'.blocks d, k ∈ D.blocks d ∨ w.heap.size ≤ k := fun k hk => by
        rcases m5 k hk with h | h
        · exact (q5 k h).imp id (fun h => Nat.le_trans HC.out.size h)
        · exact Or.inr (Nat.le_trans hq4.size h)
      have kp' : D'.kp = D.kp := m3'.trans q9
      have ar' : D'.ar = D.ar := m3.trans q8
      have R1 := Lib.hid (raw_any m1)
      have S1 := Lib.hid (raw_step m1 m2' m4' m5')
      have S2 := fun w2 => Lib.hid (off_step (w2 := w2) m1 m2' m4' m5' kp')
      have E3 := Lib.hid (ends_any m1.raw)
      have Hrun := Lib.hid hrun
      have AR := Lib.hid ar'
      clear m1 m2 m2' m4 m5 m4' m5' hrun ho5 hm5 hb5 h5c r3 hF4 hp4 q1 q2 q3 q4 q5 q6 q7 q8 q9 e7 e8 hi hz0 hz1 hz2 hown4 hgrow4 hroom h16 W22 W3 W16 WV hq4 kp' ar' m3 m3' c02
      go_wp2_with (at_builtin; refine wpList_append_run rfl (.tmp 79) (.tmp 80) 22 rfl rfl rfl Hrun.out ?_)
      refine R1.out.mono ?_
      rw [AR.out]
      rintro e w4 ⟨rfl, rfl⟩
      by_cases har : D.ar = 1
      · have e : (D.ar == 1) = true := by simpa using har
        rw [e]
        have WV1 := Lib.hid (WV'.out.1 har)
        clear WV' e har
        go_wp2_with fail
        refine E3.out.mono ?_
        rintro e w4 ⟨rfl, hs⟩
        have Hs := Lib.hid hs
        clear hs
        go_wp2_with fail
        go_ret
        exact ⟨by rw [WV1.out]; rfl, by rw [WV1.out]; exact (S2 _).out Hs.out⟩
      · have e : (D.ar == 1) = false := by simpa using har
        rw [e]
        have WV1 := Lib.hid (WV'.out.2 har)
        clear WV' e har
        go_wp2_with fail
        go_ret
        exact ⟨by rw [WV1.out]; rfl, by rw [WV1.out]; exact S1.out⟩

/-- **Append.** -/
theorem append_any {w : World} {d : Nat} {D : Dsk} (h : DiskAt w d D) (s : ByteArray) (hs : s.size ≤ maxLen) (ba : Option Addr) (bn bc : Nat) (bs : List Int) (hrd : Reads w 1 (.slice ba bn bc) bn (bcells bs)) (hap : bs ≠ [] → ∀ k, Value.ownBlock (.slice ba bn bc) = some k → k < w.heap.size ∧ k ∉ D.blocks d) (hbn : bn ≤ 140737488355328) :
    Calls Tryd.prog 47 #[.pointer (some ⟨d, 0, none⟩), .string s, .slice ba bn bc] w fun e w' => e = .returned (.int .i64 (D.abs.append s.data.toList bs).2) ∧ DStep w d D w' (D.abs.append s.data.toList bs).1 := by
  by_cases hr : D.abs.ready s.data.toList = 0
  · cases hf : lookF D.files s.data.toList with
    | none => exact append_none h s hs ba bn bc bs hrd hap hbn hf hr
    | some f => exact append_some h s hs ba bn bc bs hrd hap hbn f hf hr
  · have e : D.abs.append s.data.toList bs = (D.abs, D.abs.ready s.data.toList) := by unfold ADsk.append; rw [if_pos hr]
    rw [e]
    exact (append_refused h s _ hr).mono (fun e w' hx => ⟨hx.1, by rw [← hx.2]; exact DStep.refl h⟩)
end Go.Proofs.YtmpdmejlpicdlaaDoor
/- The disk's other small methods; a disk that is nil. -/
namespace Go.Proofs.YtmpdmejlpicdlaaDoor
open Go.RowKit Go.Bw Go.Maps
set_option linter.unusedVariables false
set_option linter.unusedSimpArgs false

set_option maxHeartbeats 400000 in
theorem new_any (w : World) (room : Int) :
    Calls Tryd.prog 19 #[.int .i64 room] w fun e w' => e = .returned (.pointer (some ⟨w.heap.size + 1, 0, none⟩)) ∧ DiskAt w' (w.heap.size + 1) ⟨w.heap.size, [], room, false, 0, 0, 0⟩ ∧ Below w.heap.size w w' ∧ w'.heap.size = w.heap.size + 2 := by
  have hmm := @run_makeMap Tryd.prog
  have hd : DiskAt ((w.alloc (.map #[] 0)).alloc (.cells #[.map (some w.heap.size), .int .i64 room, .bool false, .int .i64 0, .int .i64 0, .int .i64 0] 70)) (w.heap.size + 1) ⟨w.heap.size, [], room, false, 0, 0, 0⟩ := by
    have e : (w.alloc (.map #[] 0)).heap.size = w.heap.size + 1 := by simp
    refine ⟨?_, ?_, (by intro p hp; cases hp), (by simp [Dsk.blocks, fblocks]), ⟨(by simp [Dsk.abs]), (by intro p hp; simp [Dsk.abs] at hp), (by simp [Dsk.abs, Rising]), (by simp [Dsk.abs]), (by simp [Dsk.abs]), (by intro p hp; simp [Dsk.abs] at hp), (by simp [Dsk.abs]), (by simp [Dsk.abs])⟩⟩
    · have := heap_alloc_new (w.alloc (.map #[] 0)) (.cells #[.map (some w.heap.size), .int .i64 room, .bool false, .int .i64 0, .int .i64 0, .int .i64 0] 70)
      rw [e] at this; exact this
    · exact ((World.ownsMap_made w Tryd.prog 9 ptrElem).mono (by omega)).alloc _
  have Hd := Lib.hid hd
  clear hd
  go_enter Tryd.func19, Tryd.ntmps19
  go_wp2
  go_ret
  exact ⟨rfl, Hd.out, ((Below.refl _ _).alloc (Nat.le_refl _) _).alloc (by simp) _, by simp⟩

section
variable {w : World} {d : Nat} {D : Dsk}

theorem DStep.own {w' : World} {D' : Dsk} (h : DiskAt w d D) (hm : Mod (fun k => k = d) w w') (hd : DiskAt w' d D') (hb : D'.blocks d = D.blocks d) : DStep w d D w' D'.abs :=
  ⟨D', hd, rfl, hm.mono (fun i _ e => by rw [e]; simp [Dsk.blocks]), fun k hk => Or.inl (by rw [← hb]; exact hk)⟩

set_option maxHeartbeats 400000 in
theorem room_any (h : DiskAt w d D) (n : Int) :
    Calls Tryd.prog 37 #[.pointer (some ⟨d, 0, none⟩), .int .i64 n] w fun e w' => e = .returned (.tuple #[]) ∧ DStep w d D w' { D.abs with room := n } := by
  have c1 := h.c1
  have fz := h.fz
  have hm : Mod (fun k => k = d) w (w.setCell ⟨d, 1, none⟩ (.int .i64 n)) := (Mod.refl (fun k => k = d) w).setCell _ (fun _ => rfl)
  have hc := heap_setCell_at h.cells 1 (.int .i64 n)
  have hd : DiskAt (w.setCell ⟨d, 1, none⟩ (.int .i64 n)) d { D with room := n } := h.own hm (by simpa using hc) rfl rfl ⟨h.ok.few, h.ok.small, h.ok.rising, h.ok.ar0, h.ok.ar1, h.ok.names, h.ok.kp0, h.ok.kp1⟩
  have Hs := Lib.hid (DStep.own h hm hd rfl)
  clear h hm hc hd
  go_enter Tryd.func37, Tryd.ntmps37
  go_wp2
  go_end0
  exact ⟨rfl, Hs.out⟩

set_option maxHeartbeats 400000 in
theorem arm_any (h : DiskAt w d D) (n keep : Int) (hn1 : n ≤ 9223372036854775807) (hk0 : -9223372036854775808 ≤ keep) (hk1 : keep ≤ 9223372036854775807) :
    Calls Tryd.prog 22 #[.pointer (some ⟨d, 0, none⟩), .int .i64 n, .int .i64 keep] w fun e w' => e = .returned (.tuple #[]) ∧ DStep w d D w' (D.abs.arm n keep) := by
  have c4 := h.c4
  have c5 := h.c5
  have fz := h.fz
  obtain ⟨M, hM⟩ : ∃ M, M = max n 0 := ⟨_, rfl⟩
  have hm : Mod (fun k => k = d) w ((w.setCell ⟨d, 4, none⟩ (.int .i64 M)).setCell ⟨d, 5, none⟩ (.int .i64 keep)) := ((Mod.refl (fun k => k = d) w).setCell _ (fun _ => rfl)).setCell _ (fun _ => rfl)
  have hc := heap_setCell_at (heap_setCell_at h.cells 4 (.int .i64 M)) 5 (.int .i64 keep)
  have hd : DiskAt ((w.setCell ⟨d, 4, none⟩ (.int .i64 M)).setCell ⟨d, 5, none⟩ (.int .i64 keep)) d { D with ar := M, kp := keep } := h.own hm (by simpa using hc) rfl rfl ⟨h.ok.few, h.ok.small, h.ok.rising, by show 0 ≤ M; omega, by show M ≤ _; omega, h.ok.names, hk0, hk1⟩
  have e : D.abs.arm n keep = ({ D with ar := M, kp := keep } : Dsk).abs := by simp [ADsk.arm, Dsk.abs, hM]
  have Hs := Lib.hid (DStep.own h hm hd rfl)
  rw [← e] at Hs
  have hmx : (if n < 0 then 0 else n) = M := by rw [hM]; split <;> omega
  clear h hm hc hd hM e hn1 hk0 hk1
  go_enter Tryd.func22, Tryd.ntmps22
  go_wp2
  go_end0
  exact ⟨rfl, Hs.out⟩

set_option maxHeartbeats 400000 in
theorem on_any (h : DiskAt w d D) :
    Calls Tryd.prog 25 #[.pointer (some ⟨d, 0, none⟩)] w fun e w' => e = .returned (.tuple #[]) ∧ DStep w d D w' { D.abs with off := false } := by
  have c2 := h.c2
  have fz := h.fz
  have hm : Mod (fun k => k = d) w (w.setCell ⟨d, 2, none⟩ (.bool false)) := (Mod.refl (fun k => k = d) w).setCell _ (fun _ => rfl)
  have hc := heap_setCell_at h.cells 2 (.bool false)
  have hd : DiskAt (w.setCell ⟨d, 2, none⟩ (.bool false)) d { D with off := false } := h.own hm (by simpa using hc) rfl rfl ⟨h.ok.few, h.ok.small, h.ok.rising, h.ok.ar0, h.ok.ar1, h.ok.names, h.ok.kp0, h.ok.kp1⟩
  have Hs := Lib.hid (DStep.own h hm hd rfl)
  clear h hm hc hd
  go_enter Tryd.func25, Tryd.ntmps25
  go_wp2
  go_end0
  exact ⟨rfl, Hs.out⟩

set_option maxHeartbeats 400000 in
theorem down_any (h : DiskAt w d D) :
    Calls Tryd.prog 23 #[.pointer (some ⟨d, 0, none⟩)] w fun e w' => e = .returned (.bool D.off) ∧ w = w' := by
  have c2 := h.c2
  clear h
  go_enter Tryd.func23, Tryd.ntmps23
  go_wp2
  go_ret
  exact ⟨rfl, rfl⟩

end

/-! ### the library's Grow and Concat, at bytes -/
set_option maxRecDepth 10000 in
set_option maxHeartbeats 400000 in
theorem grow_walk (w w1 : World) (n c : Nat) (hn : n ≤ 140737488355328) (hpos : (0 : Int) < (n : Int)) (hcne : ¬ c = 0)
    (Hrun : Hid ((Builtin.append_ #[22, 3] 22 #[.slice none 0 0, .int .i64 n]).run Tryd.prog w = .ok (.slice (some ⟨w.heap.size, 0, none⟩) n c) w1)) :
    Calls Tryd.prog 73 #[.slice none 0 0, .int .i64 (n : Nat)] w fun e w' => e = .returned (.slice (some ⟨w.heap.size, 0, none⟩) 0 c) ∧ w' = w1 := by
  go_enter Tryd.func73, Tryd.ntmps73
  go_wp2_with (at_builtin; refine Lib.wpList_append_run _ rfl (.tmp 20) (.tmp 21) 22 3 rfl _ _ rfl rfl _ _ Hrun.out ?_)
  go_ret
  exact ⟨rfl, rfl⟩

set_option maxRecDepth 10000 in
set_option maxHeartbeats 400000 in
theorem grow_nil (w : World) (n : Nat) (hn : n ≤ 140737488355328) :
    Calls Tryd.prog 73 #[.slice none 0 0, .int .i64 n] w fun e w' => ∃ v, e = .returned v ∧ w'.ownsRow w.heap.size 5 1 v 0 [] ∧ Below w.heap.size w w' := by
  by_cases h0 : n = 0
  · subst h0
    have P0 := Lib.hid (show ∀ e w', e = Ending.returned (Value.slice none 0 0) → w' = w → ∃ v, e = .returned v ∧ w'.ownsRow w.heap.size 5 1 v 0 [] ∧ Below w.heap.size w w' from fun e w' h1 h2 => by subst h2; exact ⟨_, h1, World.ownsRow_nil _ _ _ _, Below.refl _ _⟩)
    refine (?_ : Calls Tryd.prog 73 #[.slice none 0 0, .int .i64 (0 : Nat)] w fun e w' => e = .returned (.slice none 0 0) ∧ w' = w).mono (fun e w' h => P0.out e w' h.1 h.2)
    clear P0
    go_enter Tryd.func73, Tryd.ntmps73
    go_wp2_with fail
    go_ret
    exact ⟨rfl, rfl⟩
  · obtain ⟨i0, hi, hz0, hz1, hz2⟩ := info_parts TByte.info
    have hrun := Lib.run_append_nil_zeros (P := Tryd.prog) w 22 3 22 5 i0 (.int .u8 0) .i64 .i64 Tryd.underlying22 Tryd.underlying3 hi hz0 n (by omega) (by omega) (by omega) (by rw [hz2]; omega)
    obtain ⟨c, hc⟩ : ∃ c, c = grownCap w n 0 5 := ⟨_, rfl⟩
    obtain ⟨w1, hw1⟩ : ∃ w1, w1 = w.drew.alloc (.cells (Builtin.zeroCells (Value.int .u8 0).cells n ++ Builtin.zeroCells (Value.int .u8 0).cells (c - n)) 5) := ⟨_, rfl⟩
    rw [← hc, ← hw1] at hrun
    have hcn : n ≤ c := by rw [hc]; exact grownCap_ge w n 0 5
    have hcm : c ≤ maxLen := by rw [hc]; exact grownCap_le_maxLen w n 0 5 (by unfold maxLen; omega)
    have hown : w1.ownsRow w.heap.size 5 1 (.slice (some ⟨w.heap.size, 0, none⟩) 0 c) 0 [] := by
      rw [hw1]
      refine ⟨by simp, .inr ⟨w.heap.size, c, _, rfl, Nat.le_refl _, heap_alloc_new w.drew _, Nat.zero_le _, hcm, ?_, by simp⟩⟩
      simp [size_zeroCells, Value.cells]; omega
    have hbel : Below w.heap.size w w1 := by rw [hw1]; exact ((Below.refl _ _).drew).alloc (Nat.le_refl _) _
    have Hrun := Lib.hid hrun
    have hb : ((n : Int) == 0) = false := by simpa using h0
    have hb2 : ¬ n = 0 := h0
    have hpos : (0 : Int) < (n : Int) := by omega
    have hcne : ¬ c = 0 := by omega
    have P0 := Lib.hid (show ∀ e w', e = Ending.returned (Value.slice (some ⟨w.heap.size, 0, none⟩) 0 c) → w' = w1 → ∃ v, e = .returned v ∧ w'.ownsRow w.heap.size 5 1 v 0 [] ∧ Below w.heap.size w w' from fun e w' h1 h2 => by subst h2; exact ⟨_, h1, hown, hbel⟩)
    exact (grow_walk w w1 n c hn hpos hcne Hrun).mono (fun e w' h => P0.out e w' h.1 h.2)

/-- The first k of lists of bytes, one behind the other. -/
def joined (xs : List (List Int)) (k : Nat) : List Int := (xs.take k).flatten
theorem joined_succ {xs : List (List Int)} {k : Nat} (h : k < xs.length) : joined xs (k + 1) = joined xs k ++ xs[k] := by
  unfold joined; rw [List.take_succ_eq_append_getElem h, List.flatten_append]; congr 1; simp [List.flatten]
theorem joined_le (xs : List (List Int)) : ∀ k, (joined xs k).length ≤ xs.flatten.length := by
  intro k
  unfold joined
  have h := congrArg List.length (congrArg List.flatten (List.take_append_drop k xs))
  rw [List.flatten_append, List.length_append] at h
  omega

structure Parts (w : World) (b : Nat) (vs : List Value) (xs : List (List Int)) : Prop where
  len : vs.length = xs.length
  cell : ∀ k (h : k < vs.length), ∃ a n c, vs[k] = .slice a n c ∧ w.cell? ⟨b, k, none⟩ = some (.slice a n c)
  reads : ∀ k (h : k < vs.length) (h' : k < xs.length), Reads w 1 vs[k] xs[k].length (bcells xs[k])

theorem reads_len {w : World} {v : Value} {m : Nat} {news : List Value} {a : Option Addr} {n c : Nat} (h : Reads w 1 v m news) (e : v = .slice a n c) : n = m := by
  subst e
  rcases h.2 with ⟨c', e, rfl⟩ | ⟨a', c', e, _⟩
  · cases e; rfl
  · cases e; rfl

theorem Parts.below {w w' : World} {b : Nat} {vs : List Value} {xs : List (List Int)} (h : Parts w b vs xs) (hb : b < w.heap.size) (hlt : ∀ v ∈ vs, ∀ k, v.ownBlock = some k → k < w.heap.size) (hm : Below w.heap.size w w') : Parts w' b vs xs := by
  refine ⟨h.len, fun k hk => ?_, fun k hk hk' => ?_⟩
  · obtain ⟨a, n, c, e, hc⟩ := h.cell k hk
    exact ⟨a, n, c, e, (hm.cell (p := ⟨b, k, none⟩) hb).trans hc⟩
  · exact (h.reads k hk hk').kept ((Mod.refl (fun k => w.heap.size ≤ k) w).below hm (fun i _ h => h)) (fun i hi hx => by have := hlt _ (List.getElem_mem hk) i hi; omega)

/-- A new row of bytes is answered; nothing that was there has turned. -/
def RowOut (w : World) (xs : List Int) (e : Ending) (w' : World) : Prop := ∃ v, e = .returned v ∧ w'.ownsRow w.heap.size 5 1 v xs.length (bcells xs) ∧ Below w.heap.size w w'

set_option maxRecDepth 10000 in
set_option maxHeartbeats 1000000 in
theorem concat_walk (w : World) (b : Nat) (vs : List Value) (xs : List (List Int)) (h : Parts w b vs xs) (hb : b < w.heap.size) (hlt : ∀ v ∈ vs, ∀ k, v.ownBlock = some k → k < w.heap.size) (hsum : ∀ k, (joined xs k).length ≤ 140737488355328) (hcnt : xs.length ≤ 1000) :
    Calls Tryd.prog 61 #[.slice (some ⟨b, 0, none⟩) xs.length xs.length] w (RowOut w (joined xs xs.length)) := by
  obtain ⟨i0, hi, hz0, hz1, hz2⟩ := info_parts TByte.info
  have H := Lib.hid h
  have Hlt := Lib.hid hlt
  have Hjl := Lib.hid hsum
  have Hi := Lib.hid (And.intro hi (And.intro hz0 (And.intro hz1 hz2)))
  clear h hlt hsum hi hz0 hz1 hz2
  go_enter Tryd.func61, Tryd.ntmps61
  go_wp2
  go_loop [3, 11] (fun s i => ∃ k : Nat, k ≤ xs.length ∧ i = .int .i64 k ∧ s = .int .i64 (joined xs k).length) (fun _ i => xs.length - (intOf i).toNat)
  case atStart => exact ⟨0, Nat.zero_le _, rfl, rfl⟩
  case round =>
    obtain ⟨k, hk, rfl, rfl⟩ := hrel
    have hjk := Hjl.out k
    by_cases hlt : k < xs.length
    · obtain ⟨a, n, c, e, hc⟩ := H.out.cell k (by rw [H.out.len]; exact hlt)
      have hn := reads_len (H.out.reads k (by rw [H.out.len]; exact hlt) hlt) e
      subst hn
      have hjs := Hjl.out (k + 1)
      rw [joined_succ hlt, List.length_append] at hjs
      have J := Lib.hid (congrArg List.length (joined_succ hlt))
      clear e
      go_wp2
      go_round
      case rel => exact ⟨k + 1, by omega, by go_num, by rw [J.out, List.length_append]; go_num⟩
      case measure => simp [intOf]; omega
    · obtain rfl : k = xs.length := by omega
      go_wp2_with fail
      refine (grow_nil w _ hjk).mono ?_
      rintro e w1 ⟨v0, rfl, ho, hbl⟩
      have Ho := Lib.hid ho
      have Hbl := Lib.hid hbl
      clear ho hbl
      go_wp2_with fail
      go_loopw [6, 27] (fun v i wr => ∃ k : Nat, k ≤ xs.length ∧ i = .int .i64 k ∧ wr.ownsRow w.heap.size 5 1 v (joined xs k).length (bcells (joined xs k)) ∧ Below w.heap.size w wr) (fun _ i _ => xs.length - (intOf i).toNat)
      case atStart => exact ⟨0, Nat.zero_le _, rfl, Ho.out, Hbl.out⟩
      case round =>
        obtain ⟨k, hk2, rfl, hor, hbr⟩ := hrel
        have Hor := Lib.hid hor
        have Hbr := Lib.hid hbr
        clear hor hbr
        by_cases hlt2 : k < xs.length
        · have hk3 : k < vs.length := by rw [H.out.len]; exact hlt2
          obtain ⟨a, n, c, e, hc⟩ := H.out.cell k hk3
          have hn := reads_len (H.out.reads k hk3 hlt2) e
          subst hn
          have hc' := (Hbr.out.cell (p := ⟨b, k, none⟩) hb).trans hc
          have hP := H.out.below hb Hlt.out Hbr.out
          have hR := hP.reads k hk3 hlt2
          rw [e] at hR
          have hjs := Hjl.out (k + 1)
          rw [joined_succ hlt2, List.length_append] at hjs
          obtain ⟨h1, h2, h3, h4⟩ := Hi.out
          obtain ⟨v', w3, hrun, ho3, hm3, hb3, _⟩ := run_append_to (P := Tryd.prog) 22 22 5 i0 (.int .u8 0) 1 1 Tryd.underlying22 h1 h2 h3 h4 rfl (by decide) _ _ _ (ownsRow_base Hor.out (base' := 0) (fun _ _ => Nat.zero_le _)) _ _ _ hR (bcells_one _) (by unfold maxLen; omega) (by omega)
          have hown' : w3.ownsRow w.heap.size 5 1 v' (joined xs (k + 1)).length (bcells (joined xs (k + 1))) := by
            rw [joined_succ hlt2, List.length_append]
            have eb : bcells (joined xs k ++ xs[k]) = bcells (joined xs k) ++ bcells xs[k] := by simp [bcells]
            rw [eb]
            exact ownsRow_base ho3 (fun j hj => by
              rcases hb3 j hj with h5 | h5
              · exact (Hor.out.lt j h5).1
              · rw [h5]; exact Hbr.out.size)
          have hbel' : Below w.heap.size w w3 := Hbr.out.trans ⟨hm3.os, hm3.tape, hm3.output, hm3.size, fun j hj => hm3.block j (Nat.lt_of_lt_of_le hj Hbr.out.size) (fun e => by have := (Hor.out.lt j e).1; omega)⟩
          have Ho3 := Lib.hid hown'
          have Hb3 := Lib.hid hbel'
          have Hrun := Lib.hid hrun
          clear hown' hbel' hrun ho3 hm3 hb3 hR hP hc e h1 h2 h3 h4
          go_wp2_with (at_builtin; refine wpList_append_run rfl (.tmp 31) (.tmp 32) 22 rfl rfl rfl Hrun.out ?_)
          go_roundw
          case rel => exact ⟨k + 1, by omega, by go_num, Ho3.out, Hb3.out⟩
          case measure => simp [intOf]; omega
        · obtain rfl : k = xs.length := by omega
          go_wp2_with fail
          go_ret
          exact ⟨_, rfl, Hor.out, Hbr.out⟩

theorem joined_all (xs : List (List Int)) : joined xs xs.length = xs.flatten := by unfold joined; rw [List.take_length]
end Go.Proofs.YtmpdmejlpicdlaaDoor
/- Sync and Truncate, walked. -/
namespace Go.Proofs.YtmpdmejlpicdlaaDoor
open Go.RowKit Go.Bw Go.Maps
set_option linter.unusedVariables false
set_option linter.unusedSimpArgs false

section
variable {w : World} {d : Nat} {D : Dsk}

theorem there_zero (h : DiskAt w d D) (n : Nm) (hz : D.abs.there n = 0) : D.abs.ready n = 0 ∧ ∃ f, lookF D.files n = some f := by
  unfold ADsk.there at hz
  by_cases hr : D.abs.ready n = 0
  · rw [if_neg (fun hx => hx hr)] at hz
    refine ⟨hr, ?_⟩
    cases hf : lookF D.files n with
    | some f => exact ⟨f, rfl⟩
    | none => rw [look_abs, hf] at hz; simp at hz
  · rw [if_pos hr] at hz; exact absurd hz hr

/-- A raw write that is not an Append's, up to the power's going. -/
theorem does_off {w2 : World} {A' : ADsk} (h : DiskAt w d D) (h2 : DStep (rawW w d D) d D.armed w2 (D.armed.abs.goesOff D.armed.kp)) : DStep w d D w2 (D.abs.armed.goesOff D.kp) :=
  off_step h rfl (Mod.refl _ _) (fun k hk => Or.inl hk) rfl h2

theorem DStep.after_raw {w2 : World} {A : ADsk} (h2 : DStep (rawW w d D) d D.armed w2 A) : DStep w d D w2 A :=
  DStep.trans (D1 := D.armed) (mod_rawW.mono (fun i _ e => by rw [e]; simp [Dsk.blocks])) (fun k hk => Or.inl hk) h2

/-- One file is another one: the step. -/
theorem file_step {w1 : World} (h : DiskAt w d D) {n : Nm} {f : Fil} (hp : (n, f) ∈ D.files) (f' : Fil) (g : Cont → Cont) (hg : f'.c = g f.c) (hlen : (g f.c).len ≤ 1048576)
    (s1 : FileAt w1 f') (hblk : f'.blk = f.blk) (s2 : Mod (fun k => k ∈ f.blocks) w w1) (s3 : ∀ k ∈ f'.blocks, k ∈ f.blocks ∨ w.heap.size ≤ k) (s4 : f'.blocks.Nodup) :
    DStep w d D w1 { D.abs with files := ADsk.onFile n g D.abs.files } := by
  have hr := Dsk.rising h.ok
  have hma : (n, f.c) ∈ D.abs.files := List.mem_map.2 ⟨(n, f), hp, rfl⟩
  have e1 : ({ D with files := repl n f' D.files } : Dsk).abs.files = ADsk.onFile n g D.abs.files := repl_abs hr hp g hg
  have hok := onFile_ok h.ok n g (fun p hp2 e => by
    have := rising_inj h.ok.rising hp2 hma e
    subst this
    exact hlen)
  have e3 : ({ D with files := repl n f' D.files } : Dsk).abs = { D.abs with files := ADsk.onFile n g D.abs.files } := by rw [← e1]; rfl
  have h2 := h.onFile hp f' hblk s2 s1 s3 s4 (by rw [e3]; exact hok)
  have hfb : ∀ k ∈ f.blocks, k ∈ D.blocks d := fun k hk => by
    simp only [Dsk.blocks, fblocks, List.mem_cons, List.mem_flatMap]; exact Or.inr (Or.inr ⟨(n, f), hp, hk⟩)
  refine ⟨_, h2, e3, s2.mono (fun i _ hi => hfb i hi), ?_⟩
  intro k hk
  have hk' : k = d ∨ k = D.m ∨ ∃ p ∈ repl n f' D.files, k ∈ p.2.blocks := by simpa [Dsk.blocks, fblocks] using hk
  rcases hk' with rfl | rfl | ⟨p, hp2, hk⟩
  · exact Or.inl (by simp [Dsk.blocks])
  · exact Or.inl (by simp [Dsk.blocks])
  · rcases mem_repl hp2 with rfl | ⟨hp2, _⟩
    · rcases s3 k hk with h3 | h3
      · exact Or.inl (hfb k h3)
      · exact Or.inr h3
    · exact Or.inl (by simp only [Dsk.blocks, fblocks, List.mem_cons, List.mem_flatMap]; exact Or.inr (Or.inr ⟨p, hp2, hk⟩))

theorem ADsk.does_eqs (A : ADsk) (f : List (Nm × Cont) → List (Nm × Cont)) : (A.ar = 1 → A.does f = (A.armed.goesOff A.kp, 20)) ∧ (A.ar ≠ 1 → A.does f = ({ A.armed with files := f A.files }, 0)) := by
  unfold ADsk.does
  exact ⟨fun h => by rw [if_pos h], fun h => by rw [if_neg h]⟩

set_option maxRecDepth 10000 in
set_option maxHeartbeats 1000000 in
theorem sync_any (h : DiskAt w d D) (s : ByteArray) (hs : s.size ≤ maxLen) :
    Calls Tryd.prog 48 #[.pointer (some ⟨d, 0, none⟩), .string s] w fun e w' => e = .returned (.int .i64 (D.abs.sync s.data.toList).2) ∧ DStep w d D w' (D.abs.sync s.data.toList).1 := by
  by_cases hz : D.abs.there s.data.toList = 0
  · obtain ⟨hr, f, hf⟩ := there_zero h _ hz
    have T := Lib.hid (there_yes h s hs f hf hr)
    have R := Lib.hid (raw_any h)
    have hp := look_some hf
    have ev : D.abs.sync s.data.toList = D.abs.does (ADsk.onFile s.data.toList (fun c => ⟨c.safe ++ c.wait, []⟩)) := by unfold ADsk.sync; rw [if_neg (fun hx => hx hz)]
    obtain ⟨V1, V2⟩ := ADsk.does_eqs D.abs (ADsk.onFile s.data.toList (fun c => ⟨c.safe ++ c.wait, []⟩))
    rw [ev]
    clear ev
    by_cases har : D.ar = 1
    · have e1 : (D.ar == 1) = true := by simpa using har
      have V := Lib.hid (V1 har)
      rw [e1] at R
      have E := Lib.hid (ends_any h.raw)
      have H := Lib.hid h
      clear h hs hz hr hf hp V1 V2 har e1
      go_enter Tryd.func48, Tryd.ntmps48
      go_wp2_with fail
      refine T.out.mono ?_
      rintro e w1 ⟨rfl, rfl⟩
      go_wp2_with fail
      refine R.out.mono ?_
      rintro e w1 ⟨rfl, rfl⟩
      go_wp2_with fail
      refine E.out.mono ?_
      rintro e w2 ⟨rfl, hst⟩
      have Hst := Lib.hid (does_off (A' := D.abs) H.out hst)
      clear hst
      go_wp2_with fail
      go_ret
      exact ⟨by rw [V.out]; rfl, by rw [V.out]; exact Hst.out⟩
    · have e1 : (D.ar == 1) = false := by simpa using har
      have V := Lib.hid (V2 har)
      rw [e1] at R
      -- the world behind the count
      have h1 := h.raw
      have hF := h1.files _ hp
      obtain ⟨a1, k1, a2, k2, e3, e4, f1, f2⟩ := hF.shape
      obtain ⟨i0, hi, hz0, hz1, hz2⟩ := info_parts TByte.info
      have hlen : f.c.safe.length + f.c.wait.length ≤ 1048576 := h.ok.small (s.data.toList, f.c) (List.mem_map.2 ⟨_, hp, rfl⟩)
      have r1 : (rawW w d D).drew.ownsRow 0 5 1 (.slice a1 f.c.safe.length k1) f.c.safe.length (bcells f.c.safe) := by rw [← e3]; exact hF.safe
      have r2 : (rawW w d D).drew.ownsRow 0 5 1 (.slice a2 f.c.wait.length k2) f.c.wait.length (bcells f.c.wait) := by rw [← e4]; exact hF.wait
      obtain ⟨v', w2, hrun, ho2, hm2, hb2, _⟩ := run_append_to (P := Tryd.prog) 22 22 5 i0 (.int .u8 0) 1 1 Tryd.underlying22 hi hz0 hz1 hz2 rfl (by decide) _ _ _ r1 _ _ _ (ownsRow_reads r2) (bcells_one _) (by unfold maxLen; omega) (by omega)
      obtain ⟨a3, c3, rfl, _⟩ := ownsRow_slice ho2
      have hnd := file_nodup h1.apart hp
      have hbf : Value.ownBlock (.slice a1 f.c.safe.length k1) ≠ some f.blk := fun e => by
        rw [← e3] at e; simp [Fil.blocks, e] at hnd
      have h2c := hm2.heap (w := (rawW w d D).drew) hF.cells hbf
      have fz := free_of_heap h2c
      have q1 : w2.cell? ⟨f.blk, 0, none⟩ = some (.slice a1 f.c.safe.length k1) := (cell_of_heap h2c 0).trans (by rw [← e3]; rfl)
      have q2 : w2.cell? ⟨f.blk, 1, none⟩ = some (.slice a2 f.c.wait.length k2) := (cell_of_heap h2c 1).trans (by rw [← e4]; rfl)
      have tk : (bcells f.c.wait).take f.c.wait.length = bcells f.c.wait := List.take_of_length_le (by simp [bcells])
      have hs2 := hF.safed (k := f.c.wait.length) (w1 := w2) (Nat.le_refl _) (by rw [tk]; exact ho2) (by rw [e3]; exact ⟨hm2.os, hm2.tape, hm2.output, hm2.size, hm2.block⟩) (by rw [e3]; exact hb2) hnd
      obtain ⟨s1, s2, s3, s4⟩ := hs2
      have hst := DStep.after_raw (file_step h1 hp _ (fun c => ⟨c.safe ++ c.wait, []⟩) (by simp) (by simp [Cont.len]; exact hlen) s1 rfl s2 s3 s4)
      have Hst := Lib.hid hst
      have Hrun := Lib.hid hrun
      clear h hs hz hr hf hp V1 V2 har e1 h1 hF e3 e4 r1 r2 hrun ho2 hm2 hb2 hnd hbf h2c tk s1 s2 s3 s4 hst hi hz0 hz1 hz2
      go_enter Tryd.func48, Tryd.ntmps48
      go_wp2_with fail
      refine T.out.mono ?_
      rintro e w1 ⟨rfl, rfl⟩
      go_wp2_with fail
      refine R.out.mono ?_
      rintro e w1 ⟨rfl, rfl⟩
      go_wp2_with fail
      refine wp_region_lex [10, 13, 16] [0, 1] (by kernel_rfl) (by kernel_rfl) ?_
      refine LexG_pure 2 (by kernel_rfl) ?_
      simp only [List.take_succ_cons, List.take_zero, List.drop_succ_cons, List.drop_zero, Nat.reduceAdd]
      repeat (go_big_quiet_step (fail))
      refine wpQuiet_nil ?_
      refine LexG_still 8 (by kernel_rfl) ?_
      simp only [List.take_succ_cons, List.take_zero, List.drop_succ_cons, List.drop_zero, Nat.reduceAdd]
      repeat (go_big_quiet_step (fail))
      refine wpQuiet_nil ?_
      refine LexG_eff (by kernel_rfl) rfl (fun K hK => ?_)
      refine wp_append_run (.tmp 25) (.tmp 29) 22 rfl rfl rfl Hrun.out ?_
      go_simp
      refine hK _ _ ?_
      clear hK
      refine LexG_still 2 (by kernel_rfl) ?_
      simp only [List.take_succ_cons, List.take_zero, List.drop_succ_cons, List.drop_zero, Nat.reduceAdd]
      repeat (go_big_quiet_step (fail))
      refine wpQuiet_nil ?_
      refine LexG_eff (by kernel_rfl) rfl (fun K hK => ?_)
      go_simp
      refine hK _ _ ?_
      clear hK
      refine LexG_still 2 (by kernel_rfl) ?_
      simp only [List.take_succ_cons, List.take_zero, List.drop_succ_cons, List.drop_zero, Nat.reduceAdd]
      repeat (go_big_quiet_step (fail))
      refine wpQuiet_nil ?_
      refine LexG_eff (by kernel_rfl) rfl (fun K hK => ?_)
      go_simp
      refine hK _ _ ?_
      clear hK
      refine LexG_nil ?_
      go_wp2_with fail
      go_ret
      exact ⟨by rw [V.out]; rfl, by rw [V.out]; exact Hst.out⟩
  · have ev : D.abs.sync s.data.toList = (D.abs, D.abs.there s.data.toList) := by unfold ADsk.sync; rw [if_pos hz]
    rw [ev]
    have T := Lib.hid (there_no h s hs hz)
    have hb : (D.abs.there s.data.toList == 0) = false := by simpa using hz
    have Hs := Lib.hid (DStep.refl h)
    clear h hs ev hz
    go_enter Tryd.func48, Tryd.ntmps48
    go_wp2_with fail
    refine T.out.mono ?_
    rintro e w1 ⟨rfl, rfl⟩
    go_wp2_with fail
    go_ret
    exact ⟨rfl, Hs.out⟩
end
end Go.Proofs.YtmpdmejlpicdlaaDoor
/- Truncate, Rename, Remove, walked. -/
namespace Go.Proofs.YtmpdmejlpicdlaaDoor
open Go.RowKit Go.Bw Go.Maps
set_option linter.unusedVariables false
set_option linter.unusedSimpArgs false

section
variable {w : World} {d : Nat} {D : Dsk}

/-- A file of which the first bytes stay. -/
theorem FileAt.cut {w : World} {f : Fil} (h : FileAt w f) {a1 a2 : Option Addr} {k1 k2 : Nat} (e1 : f.sv = .slice a1 f.c.safe.length k1) (e2 : f.wv = .slice a2 f.c.wait.length k2) (i j : Nat) (hi : i ≤ f.c.safe.length) (hj : j ≤ f.c.wait.length) (hnd : f.blocks.Nodup) :
    let w2 := (w.setCell ⟨f.blk, 1, none⟩ (.slice a2 j k2)).setCell ⟨f.blk, 0, none⟩ (.slice a1 i k1)
    let f' : Fil := ⟨f.blk, .slice a1 i k1, .slice a2 j k2, ⟨f.c.safe.take i, f.c.wait.take j⟩⟩
    FileAt w2 f' ∧ Mod (fun k => k ∈ f.blocks) w w2 ∧ (∀ k ∈ f'.blocks, k ∈ f.blocks ∨ w.heap.size ≤ k) ∧ f'.blocks.Nodup := by
  intro w2 f'
  have ob1 : Value.ownBlock (.slice a1 i k1) = f.sv.ownBlock := by rw [e1]; cases a1 <;> rfl
  have ob2 : Value.ownBlock (.slice a2 j k2) = f.wv.ownBlock := by rw [e2]; cases a2 <;> rfl
  have hb : f'.blocks = f.blocks := by show f.blk :: (Value.ownBlock (.slice a1 i k1)).toList ++ (Value.ownBlock (.slice a2 j k2)).toList = _; rw [ob1, ob2]; rfl
  have hnd' : f.blk ∉ f.sv.ownBlock.toList ++ f.wv.ownBlock.toList := (List.nodup_cons.1 hnd).1
  have hns : f.sv.ownBlock ≠ some f.blk := fun e => hnd' (by simp [e])
  have hnw : f.wv.ownBlock ≠ some f.blk := fun e => hnd' (by simp [e])
  have h2 : w2.heap[f.blk]? = some (.cells #[.slice a1 i k1, .slice a2 j k2] 78 (0, 0)) := by
    have := heap_setCell_at (heap_setCell_at h.cells 1 (.slice a2 j k2)) 0 (.slice a1 i k1)
    simpa using this
  have hne : ∀ b, b ≠ f.blk → w2.heap[b]? = w.heap[b]? := fun b e => by rw [heap_setCell_ne e, heap_setCell_ne e]
  have hs : w.ownsRow 0 5 1 (.slice a1 f.c.safe.length k1) f.c.safe.length (bcells f.c.safe) := by rw [← e1]; exact h.safe
  have hw : w.ownsRow 0 5 1 (.slice a2 f.c.wait.length k2) f.c.wait.length (bcells f.c.wait) := by rw [← e2]; exact h.wait
  refine ⟨⟨h2, ?_, ?_⟩, ?_, fun k hk => Or.inl (by rw [← hb]; exact hk), by rw [hb]; exact hnd⟩
  · have := ownsRow_kept (ownsRow_take hs i hi) (fun b e => hne b (fun e' => hns (by rw [← ob1, ← e']; exact e)))
    have el : f'.c.safe.length = i := by simp [f']; omega
    have ec : bcells f'.c.safe = (bcells f.c.safe).take i := by simp [f', bcells, List.map_take]
    rw [el, ec]; exact this
  · have := ownsRow_kept (ownsRow_take hw j hj) (fun b e => hne b (fun e' => hnw (by rw [← ob2, ← e']; exact e)))
    have el : f'.c.wait.length = j := by simp [f']; omega
    have ec : bcells f'.c.wait = (bcells f.c.wait).take j := by simp [f', bcells, List.map_take]
    rw [el, ec]; exact this
  · exact ((Mod.refl (fun k => k ∈ f.blocks) w).setCell _ (fun _ => by simp [Fil.blocks])).setCell _ (fun _ => by simp [Fil.blocks])

theorem DStep.drew {w' : World} {A : ADsk} (h : DStep w d D w' A) : DStep w d D w'.drew A := by
  obtain ⟨D', h1, h2, h3, h4⟩ := h
  exact ⟨D', h1.drewN 1, h2, h3.drew, h4⟩

set_option maxRecDepth 10000 in
set_option maxHeartbeats 1000000 in
theorem trunc_any (h : DiskAt w d D) (s : ByteArray) (hs : s.size ≤ maxLen) (n : Int) (hn0 : -9223372036854775808 ≤ n) (hn1 : n ≤ 9223372036854775807) :
    Calls Tryd.prog 71 #[.pointer (some ⟨d, 0, none⟩), .string s, .int .i64 n] w fun e w' => e = .returned (.int .i64 (D.abs.trunc s.data.toList n).2) ∧ DStep w d D w' (D.abs.trunc s.data.toList n).1 := by
  by_cases hz : D.abs.there s.data.toList = 0
  · obtain ⟨hr, f, hf⟩ := there_zero h _ hz
    have T := Lib.hid (there_yes h s hs f hf hr)
    have R := Lib.hid (raw_any h)
    have hp := look_some hf
    have hF := h.files _ hp
    obtain ⟨a1, k1, a2, k2, e3, e4, f1, f2⟩ := hF.shape
    have hlen : f.c.safe.length + f.c.wait.length ≤ 1048576 := h.ok.small (s.data.toList, f.c) (List.mem_map.2 ⟨_, hp, rfl⟩)
    have habs : lookF D.abs.files s.data.toList = some f.c := by rw [look_abs, hf]; rfl
    have ev0 : ∀ (b : Prop) [Decidable b], (n < 0 ∨ (f.c.len : Int) < n ↔ b) → D.abs.trunc s.data.toList n = if b then (D.abs, 3) else D.abs.does (ADsk.onFile s.data.toList (fun c => ⟨c.safe.take n.toNat, c.wait.take (n.toNat - c.safe.length)⟩)) := by
      intro b _ hb
      unfold ADsk.trunc
      rw [if_neg (fun hx => hx hz), habs]
      simp only [Option.getD_some]
      by_cases hb' : b
      · rw [if_pos (hb.2 hb'), if_pos hb']
      · rw [if_neg (fun hx => hb' (hb.1 hx)), if_neg hb']
    by_cases hlong : n < 0 ∨ (f.c.len : Int) < n
    · -- refused
      have ev : D.abs.trunc s.data.toList n = (D.abs, 3) := by rw [ev0 _ Iff.rfl, if_pos hlong]
      rw [ev]
      have Hs := Lib.hid (h)
      have hc : f.c.len = f.c.safe.length + f.c.wait.length := rfl
      rw [hc] at hlong
      rcases hlong with hneg | hgt
      · clear ev0 ev hs hr hf habs h hF hc e3 e4 hp R hz
        have hd : decide (n < 0) = true := by simpa using hneg
        go_enter Tryd.func71, Tryd.ntmps71
        go_wp2_with fail
        refine T.out.mono ?_
        rintro e w1 ⟨rfl, rfl⟩
        go_wp2_with fail
        go_quiet (fail)
        go_wp2_with fail
        go_ret
        exact ⟨rfl, ⟨D, Hs.out.drewN _, rfl, (Mod.refl _ _).drewN _, fun k hk => Or.inl hk⟩⟩
      · have hnn : ¬ n < 0 := by omega
        have hd : decide (n < 0) = false := by simpa using hnn
        clear ev0 ev hs hr hf habs h hF hc e3 e4 hp R hz
        go_enter Tryd.func71, Tryd.ntmps71
        go_wp2_with fail
        refine T.out.mono ?_
        rintro e w1 ⟨rfl, rfl⟩
        go_wp2_with fail
        go_quiet (fail)
        go_wp2_with fail
        go_ret
        exact ⟨rfl, ⟨D, Hs.out.drewN _, rfl, (Mod.refl _ _).drewN _, fun k hk => Or.inl hk⟩⟩
    · have ev : D.abs.trunc s.data.toList n = D.abs.does (ADsk.onFile s.data.toList (fun c => ⟨c.safe.take n.toNat, c.wait.take (n.toNat - c.safe.length)⟩)) := by rw [ev0 _ Iff.rfl, if_neg hlong]
      have hc : f.c.len = f.c.safe.length + f.c.wait.length := rfl
      rw [hc] at hlong
      have hnn : ¬ n < 0 := fun hx => hlong (Or.inl hx)
      have hle : n ≤ (f.c.safe.length : Int) + (f.c.wait.length : Int) := by omega
      obtain ⟨N, rfl⟩ := Int.eq_ofNat_of_zero_le (Int.not_lt.1 hnn)
      rw [ev]
      clear ev ev0 hlong
      have hd : decide ((N : Int) < 0) = false := by simp
      obtain ⟨V1, V2⟩ := ADsk.does_eqs D.abs (ADsk.onFile s.data.toList (fun c => ⟨c.safe.take (N : Int).toNat, c.wait.take ((N : Int).toNat - c.safe.length)⟩))
      have hNle : N ≤ f.c.safe.length + f.c.wait.length := by omega
      rw [Int.toNat_natCast] at V1 V2 ⊢
      have H := Lib.hid h
      have E4 := Lib.hid e4
      have E3 := Lib.hid e3
      clear h hF
      go_enter Tryd.func71, Tryd.ntmps71
      go_wp2_with fail
      refine T.out.mono ?_
      rintro e w1 ⟨rfl, rfl⟩
      go_wp2_with fail
      go_quiet (fail)
      go_wp2_with fail
      obtain ⟨w3, hw⟩ : ∃ w3, w3 = w.drewN nq := ⟨_, rfl⟩
      have h3 : DiskAt w3 d D := by rw [hw]; exact H.out.drewN nq
      have hw3 := Lib.hid (show Mod (fun k => k ∈ D.blocks d) w w3 ∧ True from ⟨by rw [hw]; exact (Mod.refl _ _).drewN nq, trivial⟩)
      rw [← hw]
      clear hw
      have R3 := Lib.hid (raw_any h3)
      by_cases har : D.ar = 1
      · have e1 : (D.ar == 1) = true := by simpa using har
        have V := Lib.hid (V1 har)
        rw [e1] at R3
        have E := Lib.hid (ends_any h3.raw)
        have H3 := Lib.hid h3
        clear e3 e4 hp habs hf hr hz V1 V2 h3 e1 har R hd
        refine R3.out.mono ?_
        rintro e w1 ⟨rfl, rfl⟩
        go_wp2_with fail
        refine E.out.mono ?_
        rintro e w2 ⟨rfl, hst⟩
        have Hst := Lib.hid (DStep.trans (D1 := D) hw3.out.1 (fun k hk => Or.inl hk) (does_off (A' := D.abs) H3.out hst))
        clear hst
        go_wp2_with fail
        go_ret
        exact ⟨by rw [V.out]; rfl, by rw [V.out]; exact Hst.out⟩
      · have e1 : (D.ar == 1) = false := by simpa using har
        have V := Lib.hid (V2 har)
        rw [e1] at R3
        have hF3 := h3.raw.files _ hp
        obtain ⟨b1, l1, b2, l2, x1, x2, f13, f23⟩ := hF3.shape
        have fz := free_of_heap hF3.cells
        have hk1 : f.c.safe.length ≤ l1 := by have h0 := hF3.safe; rw [x1] at h0; obtain ⟨_, _, e, hx⟩ := ownsRow_slice h0; cases e; omega
        have hk2 : f.c.wait.length ≤ l2 := by have h0 := hF3.wait; rw [x2] at h0; obtain ⟨_, _, e, hx⟩ := ownsRow_slice h0; cases e; omega
        have e3 := x1
        have e4 := x2
        clear x1 x2 V1 V2 e1 har R hd f1 f2
        refine R3.out.mono ?_
        rintro e w1 ⟨rfl, rfl⟩
        by_cases hNs : N ≤ f.c.safe.length
        · -- all that stays is safe
          obtain ⟨s1, s2, s3, s4⟩ := hF3.cut e3 e4 (N) (0) (by omega) (by omega) (file_nodup h3.raw.apart hp)
          have hst := DStep.after_raw (file_step h3.raw hp _ (fun c => ⟨c.safe.take N, c.wait.take (N - c.safe.length)⟩) (by simp; omega) (by simp [Cont.len]; omega) s1 rfl s2 s3 s4)
          have Hst := Lib.hid (DStep.trans (D1 := D) hw3.out.1 (fun k hk => Or.inl hk) hst)
          clear h3 hF3 e3 e4 s1 s2 s3 s4 hst hp habs hf hr hz
          go_wp2_with fail
          refine wp_region_lex [16] [] (by kernel_rfl) (by kernel_rfl) ?_
          refine LexG_still 16 (by kernel_rfl) ?_
          simp only [List.take_succ_cons, List.take_zero, List.drop_succ_cons, List.drop_zero, Nat.reduceAdd]
          repeat (go_big_quiet_step (fail))
          refine wpQuiet_nil ?_
          refine LexG_eff (by kernel_rfl) rfl (fun K hK => ?_)
          go_simp
          refine hK _ _ ?_
          clear hK
          refine LexG_nil ?_
          go_wp2_with fail
          refine wp_region_lex [15] [] (by kernel_rfl) (by kernel_rfl) ?_
          refine LexG_still 15 (by kernel_rfl) ?_
          simp only [List.take_succ_cons, List.take_zero, List.drop_succ_cons, List.drop_zero, Nat.reduceAdd]
          repeat (go_big_quiet_step (fail))
          refine wpQuiet_nil ?_
          refine LexG_eff (by kernel_rfl) rfl (fun K hK => ?_)
          go_simp
          refine hK _ _ ?_
          clear hK
          refine LexG_nil ?_
          go_wp2_with fail
          go_ret
          exact ⟨by rw [V.out]; rfl, by rw [V.out]; exact Hst.out.drew.drew⟩
        · -- some that waits stays
          obtain ⟨s1, s2, s3, s4⟩ := hF3.cut e3 e4 (f.c.safe.length) (N - f.c.safe.length) (Nat.le_refl _) (by show N - f.c.safe.length ≤ f.c.wait.length; omega) (file_nodup h3.raw.apart hp)
          have hst := DStep.after_raw (file_step h3.raw hp _ (fun c => ⟨c.safe.take N, c.wait.take (N - c.safe.length)⟩) (by simp [List.take_of_length_le (Nat.le_of_lt (Nat.lt_of_not_le hNs))]) (by simp [Cont.len]; omega) s1 rfl s2 s3 s4)
          have Hst := Lib.hid (DStep.trans (D1 := D) hw3.out.1 (fun k hk => Or.inl hk) hst)
          clear h3 hF3 e3 e4 s1 s2 s3 s4 hst hp habs hf hr hz
          go_wp2_with fail
          refine wp_region_lex [16] [] (by kernel_rfl) (by kernel_rfl) ?_
          refine LexG_still 16 (by kernel_rfl) ?_
          simp only [List.take_succ_cons, List.take_zero, List.drop_succ_cons, List.drop_zero, Nat.reduceAdd]
          repeat (go_big_quiet_step (fail))
          refine wpQuiet_nil ?_
          refine LexG_eff (by kernel_rfl) rfl (fun K hK => ?_)
          go_simp
          refine hK _ _ ?_
          clear hK
          refine LexG_nil ?_
          go_wp2_with fail
          refine wp_region_lex [15] [] (by kernel_rfl) (by kernel_rfl) ?_
          refine LexG_still 15 (by kernel_rfl) ?_
          simp only [List.take_succ_cons, List.take_zero, List.drop_succ_cons, List.drop_zero, Nat.reduceAdd]
          repeat (go_big_quiet_step (fail))
          refine wpQuiet_nil ?_
          refine LexG_eff (by kernel_rfl) rfl (fun K hK => ?_)
          go_simp
          refine hK _ _ ?_
          clear hK
          refine LexG_nil ?_
          go_wp2_with fail
          go_ret
          exact ⟨by rw [V.out]; rfl, by rw [V.out]; exact Hst.out.drew.drew⟩
  · have ev : D.abs.trunc s.data.toList n = (D.abs, D.abs.there s.data.toList) := by unfold ADsk.trunc; rw [if_pos hz]
    rw [ev]
    have T := Lib.hid (there_no h s hs hz)
    have hb : (D.abs.there s.data.toList == 0) = false := by simpa using hz
    have Hs := Lib.hid (DStep.refl h)
    clear h hs ev hz
    go_enter Tryd.func71, Tryd.ntmps71
    go_wp2_with fail
    refine T.out.mono ?_
    rintro e w1 ⟨rfl, rfl⟩
    go_wp2_with fail
    go_ret
    exact ⟨rfl, Hs.out⟩
end
end Go.Proofs.YtmpdmejlpicdlaaDoor
/- Rename and Remove, walked. -/
namespace Go.Proofs.YtmpdmejlpicdlaaDoor
open Go.RowKit Go.Bw Go.Maps
set_option linter.unusedVariables false
set_option linter.unusedSimpArgs false

section
variable {w : World} {d : Nat} {D : Dsk}

theorem fblocks_sublist {F G : List (Nm × Fil)} (h : F.Sublist G) : (fblocks F).Sublist (fblocks G) := by
  induction h with
  | slnil => exact List.Sublist.refl _
  | cons a _ ih => rw [fblocks_cons]; exact ih.trans (List.sublist_append_right _ _)
  | cons_cons a _ ih => rw [fblocks_cons, fblocks_cons]; exact (List.Sublist.refl _).append ih

theorem drop_abs (F : List (Nm × Fil)) (n : Nm) : (drop F n).map (fun p => (p.1, p.2.c)) = drop (F.map (fun p => (p.1, p.2.c))) n := (drop_map (fun f : Fil => f.c) F n).symm
theorem put_abs (F : List (Nm × Fil)) (n : Nm) (f : Fil) : (put F n f).map (fun p => (p.1, p.2.c)) = put (F.map (fun p => (p.1, p.2.c))) n f.c := (put_map (fun f : Fil => f.c) F n f).symm

/-- The map has turned, and no file: the disk with files that are among those that were. -/
theorem DiskAt.remap {w1 : World} (h : DiskAt w d D) (F : List (Nm × Fil)) (hm : w1.ownsMap Tryd.prog 9 ptrElem D.m 16 (fdata F)) (hmod : Mod (fun k => k = D.m) w w1)
    (hF : ∀ p ∈ F, ∃ q ∈ D.files, q.2 = p.2) (hnd : (fblocks F).Nodup) (hok : ({ D with files := F } : Dsk).abs.Ok) :
    DStep w d D w1 ({ D with files := F } : Dsk).abs := by
  have ha := h.apart
  simp only [Dsk.blocks, List.nodup_cons, List.mem_cons, not_or] at ha
  have hsub : ∀ k ∈ fblocks F, k ∈ fblocks D.files := fun k hk => by
    obtain ⟨p, hp, hk⟩ := List.mem_flatMap.1 hk
    obtain ⟨q, hq, e⟩ := hF p hp
    exact List.mem_flatMap.2 ⟨q, hq, by rw [e]; exact hk⟩
  refine ⟨{ D with files := F }, ⟨hmod.heap h.cells (fun e => ha.1.1 e), hm, ?_, ?_, hok⟩, rfl, hmod.mono (fun i _ e => by rw [e]; simp [Dsk.blocks]), ?_⟩
  · intro p hp
    obtain ⟨q, hq, e⟩ := hF p hp
    rw [← e]
    have hp1 := h.files q hq
    have hnm := (h.notFile q hq).2
    simp only [Fil.blocks, List.mem_cons, List.mem_append, Option.mem_toList, not_or] at hnm
    refine ⟨hmod.heap hp1.cells (fun e => hnm.1 e.symm), ownsRow_kept hp1.safe ?_, ownsRow_kept hp1.wait ?_⟩
    · exact fun k hk => hmod.block k (hp1.safe.lt k hk).2 (fun e => hnm.2.1 (by rw [← e]; exact hk))
    · exact fun k hk => hmod.block k (hp1.wait.lt k hk).2 (fun e => hnm.2.2 (by rw [← e]; exact hk))
  · show (d :: D.m :: fblocks F).Nodup
    refine List.nodup_cons.2 ⟨?_, List.nodup_cons.2 ⟨fun hx => ha.2.1 (hsub _ hx), hnd⟩⟩
    simp only [List.mem_cons, not_or]
    exact ⟨ha.1.1, fun hx => ha.1.2 (hsub _ hx)⟩
  · intro k hk
    have hk' : k = d ∨ k = D.m ∨ k ∈ fblocks F := by simpa [Dsk.blocks] using hk
    rcases hk' with rfl | rfl | hk'
    · exact Or.inl (by simp [Dsk.blocks])
    · exact Or.inl (by simp [Dsk.blocks])
    · exact Or.inl (by simp [Dsk.blocks, hsub _ hk'])

theorem files_nodup (h : DiskAt w d D) : (fblocks D.files).Nodup := by
  have ha := h.apart
  simp only [Dsk.blocks, List.nodup_cons] at ha
  exact ha.2.2

theorem remove_step {w1 : World} (h : DiskAt w d D) (n : Nm) (hm : w1.ownsMap Tryd.prog 9 ptrElem D.m 16 ((fdata D.files).del (.string n))) (hmod : Mod (fun k => k = D.m) w w1) :
    DStep w d D w1 { D.abs with files := drop D.abs.files n } := by
  rw [del_fdata] at hm
  have e : ({ D with files := drop D.files n } : Dsk).abs = { D.abs with files := drop D.abs.files n } := by
    show (⟨(drop D.files n).map (fun p => (p.1, p.2.c)), _, _, _, _, _⟩ : ADsk) = _
    rw [drop_abs]; rfl
  rw [← e]
  have hok := h.ok
  refine h.remap (drop D.files n) hm hmod (fun p hp => ⟨p, (mem_drop.1 hp).1, rfl⟩) ((files_nodup h).sublist (fblocks_sublist (List.filter_sublist))) ?_
  rw [e]
  refine ⟨?_, fun p hp => hok.small p (mem_drop.1 hp).1, rising_drop hok.rising n, hok.ar0, hok.ar1, fun p hp => hok.names p (mem_drop.1 hp).1, hok.kp0, hok.kp1⟩
  have h1 := List.length_filter_le (fun p : Nm × Cont => !(p.1 == n)) D.abs.files
  have h2 := hok.few
  show (drop D.abs.files n).length ≤ 16
  unfold drop; omega

theorem rename_step {w1 : World} (h : DiskAt w d D) (n to : Nm) (f : Fil) (hf : (n, f) ∈ D.files) (hto : namedB to = true) (hm : w1.ownsMap Tryd.prog 9 ptrElem D.m 17 (((fdata D.files).del (.string n)).put (.string to) (.lit (.int .i64 f.blk)))) (hmod : Mod (fun k => k = D.m) w w1) :
    DStep w d D w1 { D.abs with files := put (drop D.abs.files n) to f.c } := by
  rw [del_fdata, put_fdata] at hm
  have e : ({ D with files := put (drop D.files n) to f } : Dsk).abs = { D.abs with files := put (drop D.abs.files n) to f.c } := by
    show (⟨(put (drop D.files n) to f).map (fun p => (p.1, p.2.c)), _, _, _, _, _⟩ : ADsk) = _
    rw [put_abs, drop_abs]; rfl
  rw [← e]
  have hok := h.ok
  have hr := Dsk.rising h.ok
  have p1 := fblocks_perm (put_perm (drop D.files n) to f)
  have p2 := fblocks_perm (take_perm hr hf)
  have hlen1 := (take_perm hr hf).length_eq
  have hlen2 := (put_perm (drop D.files n) to f).length_eq
  have hlen3 := List.length_filter_le (fun p : Nm × Fil => !(p.1 == to)) (drop D.files n)
  have hfew := hok.few
  simp only [Dsk.abs, List.length_map] at hfew
  have hlen : (put (drop D.files n) to f).length ≤ 16 := by
    simp only [List.length_cons] at hlen1 hlen2
    have : (drop (drop D.files n) to).length ≤ (drop D.files n).length := hlen3
    omega
  refine h.remap (put (drop D.files n) to f) ((ownsMap_exact hm).mono (by rw [List.length_map]; exact hlen)) hmod (fun p hp => ?_) ?_ ?_
  · rcases mem_ins.1 hp with rfl | hp
    · exact ⟨(n, f), hf, rfl⟩
    · exact ⟨p, (mem_drop.1 (mem_drop.1 hp).1).1, rfl⟩
  · rw [p1.nodup_iff]
    have h1 : ((n, f) :: drop (drop D.files n) to).Sublist ((n, f) :: drop D.files n) := (List.filter_sublist).cons_cons _
    have h2 := (p2.nodup_iff.1 (files_nodup h)).sublist (fblocks_sublist h1)
    exact h2
  · rw [e]
    refine ⟨?_, ?_, rising_put (rising_drop hok.rising n) _ _, hok.ar0, hok.ar1, ?_, hok.kp0, hok.kp1⟩
    · have : (put (drop D.abs.files n) to f.c).length = (put (drop D.files n) to f).length := by
        have e2 := put_abs (drop D.files n) to f
        rw [drop_abs] at e2
        have := congrArg List.length e2
        rw [List.length_map] at this
        exact this.symm
      show (put (drop D.abs.files n) to f.c).length ≤ 16
      rw [this]; exact hlen
    · intro p hp
      rcases mem_ins.1 hp with rfl | hp
      · exact hok.small (n, f.c) (List.mem_map.2 ⟨(n, f), hf, rfl⟩)
      · exact hok.small p (mem_drop.1 (mem_drop.1 hp).1).1
    · intro p hp
      rcases mem_ins.1 hp with rfl | hp
      · exact hto
      · exact hok.names p (mem_drop.1 (mem_drop.1 hp).1).1

theorem mod_turned {w1 : World} {b : Nat} (h : w.mapTurned w1 b) : Mod (fun k => k = b) w w1 := (Mod.refl _ _).grown h.grown (fun k e _ => by cases e; rfl)

set_option maxRecDepth 10000 in
set_option maxHeartbeats 1000000 in
theorem remove_any (h : DiskAt w d D) (s : ByteArray) (hs : s.size ≤ maxLen) :
    Calls Tryd.prog 46 #[.pointer (some ⟨d, 0, none⟩), .string s] w fun e w' => e = .returned (.int .i64 (D.abs.remove s.data.toList).2) ∧ DStep w d D w' (D.abs.remove s.data.toList).1 := by
  by_cases hz : D.abs.there s.data.toList = 0
  · obtain ⟨hr, f, hf⟩ := there_zero h _ hz
    have T := Lib.hid (there_yes h s hs f hf hr)
    have R := Lib.hid (raw_any h)
    have ev : D.abs.remove s.data.toList = D.abs.does (fun F => drop F s.data.toList) := by unfold ADsk.remove; rw [if_neg (fun hx => hx hz)]
    obtain ⟨V1, V2⟩ := ADsk.does_eqs D.abs (fun F => drop F s.data.toList)
    rw [ev]
    clear ev
    by_cases har : D.ar = 1
    · have e1 : (D.ar == 1) = true := by simpa using har
      have V := Lib.hid (V1 har)
      rw [e1] at R
      have E := Lib.hid (ends_any h.raw)
      have H := Lib.hid h
      clear h hs hz hr hf V1 V2 har e1
      go_enter Tryd.func46, Tryd.ntmps46
      go_wp2_with fail
      refine T.out.mono ?_
      rintro e w1 ⟨rfl, rfl⟩
      go_wp2_with fail
      refine R.out.mono ?_
      rintro e w1 ⟨rfl, rfl⟩
      go_wp2_with fail
      refine E.out.mono ?_
      rintro e w2 ⟨rfl, hst⟩
      have Hst := Lib.hid (does_off (A' := D.abs) H.out hst)
      clear hst
      go_wp2_with fail
      go_ret
      exact ⟨by rw [V.out]; rfl, by rw [V.out]; exact Hst.out⟩
    · have e1 : (D.ar == 1) = false := by simpa using har
      have V := Lib.hid (V2 har)
      rw [e1] at R
      have c0 := h.raw.c0
      have H := Lib.hid h
      have hown := Lib.hid h.raw.map
      have Hs := Lib.hid hs
      clear h hs hz hr hf V1 V2 har e1
      go_enter Tryd.func46, Tryd.ntmps46
      go_wp2_with fail
      refine T.out.mono ?_
      rintro e w1 ⟨rfl, rfl⟩
      go_wp2_with fail
      refine R.out.mono ?_
      rintro e w1 ⟨rfl, rfl⟩
      go_wp2_with (at_delete; refine wpList_delete_own _ rfl _ _ 68 9 rfl 76 (string_keyed Tryd.underlying9) Tryd.underlying68 _ D.m 16 _ rfl hown.out _ _ rfl (WideMaps.keyOf_string_mk Tryd.underlying9 Hs.out) ?_; intro w2 hown2 hturn2)
      have Hst := Lib.hid (DStep.after_raw (remove_step H.out.raw s.data.toList hown2 (mod_turned hturn2)))
      go_ret
      exact ⟨by rw [V.out]; rfl, by rw [V.out]; exact Hst.out⟩
  · have ev : D.abs.remove s.data.toList = (D.abs, D.abs.there s.data.toList) := by unfold ADsk.remove; rw [if_pos hz]
    rw [ev]
    have T := Lib.hid (there_no h s hs hz)
    have hb : (D.abs.there s.data.toList == 0) = false := by simpa using hz
    have Hs := Lib.hid (DStep.refl h)
    clear h hs ev hz
    go_enter Tryd.func46, Tryd.ntmps46
    go_wp2_with fail
    refine T.out.mono ?_
    rintro e w1 ⟨rfl, rfl⟩
    go_wp2_with fail
    go_ret
    exact ⟨rfl, Hs.out⟩
end
end Go.Proofs.YtmpdmejlpicdlaaDoor
/- Rename, Read and Names, walked. -/
namespace Go.Proofs.YtmpdmejlpicdlaaDoor
open Go.RowKit Go.Bw Go.Maps
set_option linter.unusedVariables false
set_option linter.unusedSimpArgs false

section
variable {w : World} {d : Nat} {D : Dsk}

theorem there_vals (A : ADsk) (n : Nm) : A.there n = 0 ∨ A.there n = 1 ∨ A.there n = 20 ∨ A.there n = 21 := by
  unfold ADsk.there
  by_cases hr : A.ready n = 0
  · rw [if_neg (fun hx => hx hr)]
    cases (lookF A.files n).isNone
    · exact Or.inl rfl
    · exact Or.inr (Or.inr (Or.inr rfl))
  · rw [if_pos hr]
    unfold ADsk.ready at hr ⊢
    by_cases h1 : namedB n = false
    · rw [if_pos h1]; exact Or.inr (Or.inl rfl)
    · rw [if_neg h1] at hr ⊢
      cases ho : A.off
      · rw [ho] at hr; exact absurd rfl hr
      · exact Or.inr (Or.inr (Or.inl rfl))

set_option maxRecDepth 10000 in
set_option maxHeartbeats 1000000 in
theorem rename_any (h : DiskAt w d D) (s t : ByteArray) (hs : s.size ≤ maxLen) (ht : t.size ≤ maxLen) :
    Calls Tryd.prog 49 #[.pointer (some ⟨d, 0, none⟩), .string s, .string t] w fun e w' => e = .returned (.int .i64 (D.abs.rename s.data.toList t.data.toList).2) ∧ DStep w d D w' (D.abs.rename s.data.toList t.data.toList).1 := by
  by_cases hz : D.abs.there s.data.toList = 0
  · obtain ⟨hr, f, hf⟩ := there_zero h _ hz
    have hp := look_some hf
    have T := Lib.hid (there_yes h s hs f hf hr)
    have R := Lib.hid (raw_any h)
    have hz1 : D.abs.there s.data.toList ≠ 1 := by rw [hz]; decide
    have habs : lookF D.abs.files s.data.toList = some f.c := by rw [look_abs, hf]; rfl
    cases hto : namedB t.data.toList
    · have ev : D.abs.rename s.data.toList t.data.toList = (D.abs, 1) := by unfold ADsk.rename; rw [if_neg hz1, if_pos hto]
      rw [ev]
      have N := Lib.hid (named_any t w)
      rw [hto] at N
      have Hs := Lib.hid (DStep.refl h)
      clear h hs ht hz hr hf hp R hz1 habs hto ev
      go_enter Tryd.func49, Tryd.ntmps49
      go_wp2_with fail
      refine T.out.mono ?_
      rintro e w1 ⟨rfl, rfl⟩
      go_wp2_with fail
      refine N.out.mono ?_
      rintro e w1 ⟨rfl, rfl⟩
      go_wp2_with fail
      go_ret
      exact ⟨rfl, Hs.out⟩
    · have ev : D.abs.rename s.data.toList t.data.toList = D.abs.does (fun F => put (drop F s.data.toList) t.data.toList f.c) := by
        unfold ADsk.rename
        rw [if_neg hz1, if_neg (by rw [hto]; decide), if_neg (fun hx => hx hz), habs]; rfl
      obtain ⟨V1, V2⟩ := ADsk.does_eqs D.abs (fun F => put (drop F s.data.toList) t.data.toList f.c)
      rw [ev]
      have N := Lib.hid (named_any t w)
      rw [hto] at N
      clear ev
      by_cases har : D.ar = 1
      · have e1 : (D.ar == 1) = true := by simpa using har
        have V := Lib.hid (V1 har)
        rw [e1] at R
        have E := Lib.hid (ends_any h.raw)
        have H := Lib.hid h
        clear h hs ht hz hr hf hp hz1 habs hto V1 V2 har e1
        go_enter Tryd.func49, Tryd.ntmps49
        go_wp2_with fail
        refine T.out.mono ?_
        rintro e w1 ⟨rfl, rfl⟩
        go_wp2_with fail
        refine N.out.mono ?_
        rintro e w1 ⟨rfl, rfl⟩
        go_wp2_with fail
        refine R.out.mono ?_
        rintro e w1 ⟨rfl, rfl⟩
        go_wp2_with fail
        refine E.out.mono ?_
        rintro e w2 ⟨rfl, hst⟩
        have Hst := Lib.hid (does_off (A' := D.abs) H.out hst)
        clear hst
        go_wp2_with fail
        go_ret
        exact ⟨by rw [V.out]; rfl, by rw [V.out]; exact Hst.out⟩
      · have e1 : (D.ar == 1) = false := by simpa using har
        have V := Lib.hid (V2 har)
        rw [e1] at R
        have c0 := h.raw.c0
        have H := Lib.hid h
        have hown := Lib.hid h.raw.map
        have Hs := Lib.hid hs
        have Ht := Lib.hid ht
        have Hp := Lib.hid hp
        have Hto := Lib.hid hto
        have hd0 : d ≠ D.m := by have ha := h.apart; simp only [Dsk.blocks, List.nodup_cons, List.mem_cons, not_or] at ha; exact ha.1.1
        clear h hs ht hz hr hf hp hz1 habs hto V1 V2 har e1
        go_enter Tryd.func49, Tryd.ntmps49
        go_wp2_with fail
        refine T.out.mono ?_
        rintro e w1 ⟨rfl, rfl⟩
        go_wp2_with fail
        refine N.out.mono ?_
        rintro e w1 ⟨rfl, rfl⟩
        go_wp2_with fail
        refine R.out.mono ?_
        rintro e w1 ⟨rfl, rfl⟩
        go_wp2_with (first
          | (at_delete; refine wpList_delete_own _ rfl _ _ 68 9 rfl 76 (string_keyed Tryd.underlying9) Tryd.underlying68 _ D.m 16 _ rfl hown.out _ _ rfl (WideMaps.keyOf_string_mk Tryd.underlying9 Hs.out) ?_; intro w2 hown2 hturn2; have c02 := ((mod_turned hturn2).cell c0 hd0); have Hown2 := Lib.hid hown2; have Hturn2 := Lib.hid hturn2; clear hown2 hturn2)
          | (at_mapUpdate; refine wpList_mapUpdate_own _ rfl _ _ _ 68 rfl 9 76 (string_keyed Tryd.underlying9) Tryd.underlying68 ptrElem D.m 16 _ rfl (by assumption : Hid _).out (by unfold maxLen; omega) _ _ _ rfl rfl (WideMaps.keyOf_string_mk Tryd.underlying9 Ht.out) (.lit (.int .i64 f.blk)) [] rfl ?_; intro w4 hown4 hgrow4))
        have Hst := Lib.hid (DStep.after_raw (rename_step H.out.raw s.data.toList t.data.toList f Hp.out Hto.out hown4 ((mod_turned Hturn2.out).trans ((Mod.refl (fun k => k = D.m) _).grown hgrow4 (fun k e _ => by cases e; rfl)) (fun _ _ e => e))))
        clear hown4 hgrow4
        go_ret
        exact ⟨by rw [V.out]; rfl, by rw [V.out]; exact Hst.out⟩
  · have T := Lib.hid (there_no h s hs hz)
    have N := Lib.hid (named_any t w)
    have Hs := Lib.hid (DStep.refl h)
    have hv := there_vals D.abs s.data.toList
    have e0 : D.abs.there s.data.toList = 1 → D.abs.rename s.data.toList t.data.toList = (D.abs, 1) := fun h1 => by unfold ADsk.rename; rw [if_pos h1]
    have e1 : D.abs.there s.data.toList ≠ 1 → namedB t.data.toList = false → D.abs.rename s.data.toList t.data.toList = (D.abs, 1) := fun h1 h2 => by unfold ADsk.rename; rw [if_neg h1, if_pos h2]
    have e2 : D.abs.there s.data.toList ≠ 1 → namedB t.data.toList = true → D.abs.rename s.data.toList t.data.toList = (D.abs, D.abs.there s.data.toList) := fun h1 h2 => by unfold ADsk.rename; rw [if_neg h1, if_neg (by rw [h2]; decide), if_pos hz]
    rcases hv with hv | hv | hv | hv
    · exact absurd hv hz
    · rw [e0 hv]
      rw [hv] at T
      clear h hs ht hv e0 e1 e2 hz N
      go_enter Tryd.func49, Tryd.ntmps49
      go_wp2_with fail
      refine T.out.mono ?_
      rintro e w1 ⟨rfl, rfl⟩
      go_wp2_with fail
      go_ret
      exact ⟨rfl, Hs.out⟩
    all_goals
      have hne : D.abs.there s.data.toList ≠ 1 := by rw [hv]; decide
      cases hto : namedB t.data.toList
      · rw [e1 hne hto]
        rw [hv] at T
        rw [hto] at N
        clear h hs ht hv e0 e1 e2 hz hne hto
        go_enter Tryd.func49, Tryd.ntmps49
        go_wp2_with fail
        refine T.out.mono ?_
        rintro e w1 ⟨rfl, rfl⟩
        go_wp2_with fail
        refine N.out.mono ?_
        rintro e w1 ⟨rfl, rfl⟩
        go_wp2_with fail
        go_ret
        exact ⟨rfl, Hs.out⟩
      · rw [e2 hne hto]
        rw [hv] at T ⊢
        rw [hto] at N
        clear h hs ht hv e0 e1 e2 hz hne hto
        go_enter Tryd.func49, Tryd.ntmps49
        go_wp2_with fail
        refine T.out.mono ?_
        rintro e w1 ⟨rfl, rfl⟩
        go_wp2_with fail
        refine N.out.mono ?_
        rintro e w1 ⟨rfl, rfl⟩
        go_wp2_with fail
        go_ret
        exact ⟨rfl, Hs.out⟩

/-! ### Read -/
/-- The bytes of a file in a new row. -/
def ReadOut (w : World) (xs : List Int) (er : Int) (e : Ending) (w' : World) : Prop := ∃ v, e = .returned (.tuple #[v, .int .i64 er]) ∧ w'.ownsRow w.heap.size 5 1 v xs.length (bcells xs) ∧ Below w.heap.size w w'

set_option maxRecDepth 10000 in
set_option maxHeartbeats 1000000 in
theorem read_any (h : DiskAt w d D) (s : ByteArray) (hs : s.size ≤ maxLen) :
    Calls Tryd.prog 45 #[.pointer (some ⟨d, 0, none⟩), .string s] w (ReadOut w (D.abs.read s.data.toList).1 (D.abs.read s.data.toList).2) := by
  by_cases hz : D.abs.there s.data.toList = 0
  · obtain ⟨hr, f, hf⟩ := there_zero h _ hz
    have T := Lib.hid (there_yes h s hs f hf hr)
    have hp := look_some hf
    have habs : lookF D.abs.files s.data.toList = some f.c := by rw [look_abs, hf]; rfl
    have ev : D.abs.read s.data.toList = (f.c.safe ++ f.c.wait, 0) := by unfold ADsk.read; rw [if_neg (fun hx => hx hz), habs]; rfl
    rw [ev]
    have hF := h.files _ hp
    obtain ⟨a1, k1, a2, k2, e3, e4, f1, f2⟩ := hF.shape
    have hlen : f.c.safe.length + f.c.wait.length ≤ 1048576 := h.ok.small (s.data.toList, f.c) (List.mem_map.2 ⟨_, hp, rfl⟩)
    have hfin := h.lt
    -- the two slices in a new row
    let w2 : World := (w.alloc (.cells #[.slice a1 f.c.safe.length k1, .slice a2 f.c.wait.length k2] 22)).drew
    have hw2 : w2 = (w.alloc (.cells #[.slice a1 f.c.safe.length k1, .slice a2 f.c.wait.length k2] 22)).drew := rfl
    have hb2 : Below w.heap.size w w2 := ((Below.refl _ _).alloc (Nat.le_refl _) _).drew
    have hsz : w2.heap.size = w.heap.size + 1 := by rw [hw2]; simp
    have hcell : ∀ o, w2.cell? ⟨w.heap.size, o, none⟩ = (#[.slice a1 f.c.safe.length k1, .slice a2 f.c.wait.length k2] : Array Value)[o]? := fun o => cell_of_heap (w := w2) (heap_alloc_new w _) o
    have hown : ∀ (k : Nat), k ∈ f.blocks → k < w.heap.size := fun k hk => h.lt k (by simp only [Dsk.blocks, fblocks, List.mem_cons, List.mem_flatMap]; exact Or.inr (Or.inr ⟨_, hp, hk⟩))
    have hP : Parts w2 w.heap.size [.slice a1 f.c.safe.length k1, .slice a2 f.c.wait.length k2] [f.c.safe, f.c.wait] := by
      refine ⟨rfl, fun k hk => ?_, fun k hk hk' => ?_⟩
      · match k, hk with
        | 0, _ => exact ⟨_, _, _, rfl, hcell 0⟩
        | 1, _ => exact ⟨_, _, _, rfl, hcell 1⟩
      · match k, hk, hk' with
        | 0, _, _ =>
          have := ownsRow_reads hF.safe
          rw [e3] at this
          exact this.kept ((Mod.refl (fun k => w.heap.size ≤ k) w).below hb2 (fun i _ h => h)) (fun i hi hx => by have := hown i (by rw [← e3] at hi; simp [Fil.blocks, hi]); omega)
        | 1, _, _ =>
          have := ownsRow_reads hF.wait
          rw [e4] at this
          exact this.kept ((Mod.refl (fun k => w.heap.size ≤ k) w).below hb2 (fun i _ h => h)) (fun i hi hx => by have := hown i (by rw [← e4] at hi; simp [Fil.blocks, hi]); omega)
    have hcc := concat_walk w2 w.heap.size _ _ hP (by omega) (fun v hv k hk => by
      simp only [List.mem_cons, List.not_mem_nil, or_false] at hv
      rcases hv with rfl | rfl
      · have := hown k (by rw [← e3] at hk; simp [Fil.blocks, hk]); omega
      · have := hown k (by rw [← e4] at hk; simp [Fil.blocks, hk]); omega) (fun k => by have := joined_le [f.c.safe, f.c.wait] k; simp at this; omega) (by simp)
    have ej : joined [f.c.safe, f.c.wait] [f.c.safe, f.c.wait].length = f.c.safe ++ f.c.wait := by rw [joined_all]; simp
    rw [ej] at hcc
    have CC := Lib.hid hcc
    have HB := Lib.hid hb2
    have HZ := Lib.hid hsz
    have HW := Lib.hid hw2
    clear_value w2
    clear h hs hz hr hf hp habs ev hF e3 e4 hfin hb2 hsz hcell hown hP hcc ej hw2
    go_enter Tryd.func45, Tryd.ntmps45
    go_wp2_with fail
    refine T.out.mono ?_
    rintro e w1 ⟨rfl, rfl⟩
    go_wp2_with fail
    refine wp_region_lex [8, 9] [] (by kernel_rfl) (by kernel_rfl) ?_
    refine LexG_still 8 (by kernel_rfl) ?_
    simp only [List.take_succ_cons, List.take_zero, List.drop_succ_cons, List.drop_zero, Nat.reduceAdd]
    repeat (go_big_quiet_step (fail))
    refine wpQuiet_nil ?_
    refine LexG_eff (by kernel_rfl) rfl (fun K hK => ?_)
    go_simp
    refine hK _ _ ?_
    clear hK
    refine LexG_eff (by kernel_rfl) rfl (fun K hK => ?_)
    go_simp
    rw [← HW.out]
    refine CC.out.mono ?_
    rintro e w3 ⟨v, rfl, ho, hbl⟩
    have HF := Lib.hid (show ReadOut w (f.c.safe ++ f.c.wait) 0 (.returned (.tuple #[v, .int .i64 0])) w3 from ⟨v, rfl, ownsRow_base ho (fun k hk => by have := (ho.lt k hk).1; rw [HZ.out] at this; omega), HB.out.trans (hbl.mono HB.out.size)⟩)
    clear ho hbl
    refine hK _ _ ?_
    clear hK
    refine LexG_still 2 (by kernel_rfl) ?_
    simp only [List.take_succ_cons, List.take_zero, List.drop_succ_cons, List.drop_zero, Nat.reduceAdd]
    repeat (go_big_quiet_step (fail))
    refine wpQuiet_nil ?_
    refine LexG_nil ?_
    go_wp2_with fail
    go_ret2
    exact HF.out
  · have ev : D.abs.read s.data.toList = ([], D.abs.there s.data.toList) := by unfold ADsk.read; rw [if_pos hz]
    rw [ev]
    have T := Lib.hid (there_no h s hs hz)
    have hb : (D.abs.there s.data.toList == 0) = false := by simpa using hz
    have Hs := Lib.hid (show ReadOut w [] (D.abs.there s.data.toList) (.returned (.tuple #[.slice none 0 0, .int .i64 (D.abs.there s.data.toList)])) w from ⟨_, rfl, World.ownsRow_nil _ _ _ _, Below.refl _ _⟩)
    clear h hs ev hz
    go_enter Tryd.func45, Tryd.ntmps45
    go_wp2_with fail
    refine T.out.mono ?_
    rintro e w1 ⟨rfl, rfl⟩
    go_wp2_with fail
    go_ret2
    exact Hs.out
end
end Go.Proofs.YtmpdmejlpicdlaaDoor

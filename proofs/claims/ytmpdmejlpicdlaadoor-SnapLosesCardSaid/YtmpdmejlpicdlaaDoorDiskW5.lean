/- Append, walked. -/
import Derived.Test.YtmpdmejlpicdlaaDoorDiskW4
namespace Go.Proofs.YtmpdmejlpicdlaaDoor
open Go.RowKit Go.Bw Go.Maps
set_option linter.unusedVariables false
set_option linter.unusedSimpArgs false

set_option maxRecDepth 100000 in
set_option maxHeartbeats 4000000 in
theorem append_refused {w : World} {d : Nat} {D : Dsk} (h : DiskAt w d D) (s : ByteArray) (b : Value) (hr : D.abs.ready s.data.toList ≠ 0) :
    Calls Tryd.prog 47 #[.pointer (some ⟨d, 0, none⟩), .string s, b] w fun e w' => e = .returned (.int .i64 (D.abs.ready s.data.toList)) ∧ w = w' := by
  have R := Lib.hid (ready_any h s)
  have hb2 : (D.abs.ready s.data.toList == 0) = false := by simpa using hr
  clear h
  go_enter Tryd.func47, Tryd.ntmps47
  go_wp2_with fail
  refine R.out.mono ?_
  rintro e w1 ⟨rfl, rfl⟩
  go_wp2
  go_ret
  exact ⟨rfl, rfl⟩

/-- A file with bytes more that wait. -/
theorem FileAt.waited {w w1 : World} {f : Fil} (h : FileAt w f) {bs : List Int} {m : Nat} {v' : Value} (hm0 : bs.length = m)
    (hown : w1.ownsRow 0 5 1 v' (f.c.wait.length + m) (bcells f.c.wait ++ bcells bs)) (hm : Mod (fun b => f.wv.ownBlock = some b) w w1)
    (hb : ∀ b, v'.ownBlock = some b → f.wv.ownBlock = some b ∨ b = w.heap.size) (hnd : f.blocks.Nodup) :
    let w2 := w1.setCell ⟨f.blk, 1, none⟩ v'
    let f' : Fil := ⟨f.blk, f.sv, v', ⟨f.c.safe, f.c.wait ++ bs⟩⟩
    FileAt w2 f' ∧ Mod (fun k => k ∈ f.blocks) w w2 ∧ (∀ k ∈ f'.blocks, k ∈ f.blocks ∨ w.heap.size ≤ k) ∧ f'.blocks.Nodup := by
  intro w2 f'
  have hlt := lt_of_heap h.cells
  have hnd' : f.blk ∉ f.sv.ownBlock.toList ++ f.wv.ownBlock.toList ∧ (f.sv.ownBlock.toList ++ f.wv.ownBlock.toList).Nodup := List.nodup_cons.1 hnd
  have hnw : f.wv.ownBlock ≠ some f.blk := fun e => hnd'.1 (by simp [e])
  have hns : f.sv.ownBlock ≠ some f.blk := fun e => hnd'.1 (by simp [e])
  have hsw : ∀ b, f.sv.ownBlock = some b → f.wv.ownBlock ≠ some b := fun b e1 e2 => by
    have := hnd'.2; rw [e1, e2] at this; simp at this
  have hvb : v'.ownBlock ≠ some f.blk := fun e => by
    rcases hb _ e with h1 | h1
    · exact hnw h1
    · omega
  have h1 : w1.heap[f.blk]? = some (.cells #[f.sv, f.wv] 78 (0, 0)) := hm.heap h.cells hnw
  have h2 : w2.heap[f.blk]? = some (.cells #[f.sv, v'] 78 (0, 0)) := by
    have := heap_setCell_at h1 1 v'
    simpa using this
  have hne : ∀ b, v'.ownBlock = some b → w2.heap[b]? = w1.heap[b]? := fun b e => by
    have : b ≠ f.blk := fun e' => hvb (e' ▸ e)
    rw [heap_setCell_ne this]
  have hsk : ∀ b, f.sv.ownBlock = some b → w2.heap[b]? = w.heap[b]? := fun b e => by
    have h3 : b ≠ f.blk := fun e' => hns (e' ▸ e)
    rw [heap_setCell_ne h3]
    exact hm.block b (h.safe.lt b e).2 (hsw b e)
  refine ⟨⟨h2, ownsRow_kept h.safe hsk, ?_⟩, ?_, ?_, ?_⟩
  · have := ownsRow_kept hown hne
    have e1 : f'.c.wait.length = f.c.wait.length + m := by simp [f', hm0]
    have e2 : bcells f'.c.wait = bcells f.c.wait ++ bcells bs := by simp [f', bcells, List.map_append]
    rw [e1, e2]; exact this
  · have hm1 : Mod (fun k => k ∈ f.blocks) w w1 := hm.mono (fun i _ hi => by simp [Fil.blocks, hi])
    exact hm1.setCell v' (fun _ => by simp [Fil.blocks])
  · intro b hbk
    simp only [f', Fil.blocks, List.mem_cons, List.mem_append, Option.mem_toList] at hbk
    rcases hbk with rfl | hbk | hbk
    · exact Or.inl (by simp [Fil.blocks])
    · exact Or.inl (by simp [Fil.blocks, hbk])
    · rcases hb b hbk with h3 | h3
      · exact Or.inl (by simp [Fil.blocks, h3])
      · exact Or.inr (by omega)
  · show (f.blk :: (f.sv.ownBlock.toList ++ v'.ownBlock.toList)).Nodup
    refine List.nodup_cons.2 ⟨?_, ?_⟩
    · simp only [List.mem_append, Option.mem_toList, not_or]
      exact ⟨hns, hvb⟩
    · refine List.nodup_append.2 ⟨by cases f.sv.ownBlock <;> simp, by cases v'.ownBlock <;> simp, ?_⟩
      intro x hx y hy e
      simp only [Option.mem_toList] at hx hy
      subst e
      rcases hb x hy with h3 | h3
      · exact hsw x hx h3
      · have := (h.safe.lt x hx).2; omega

theorem onFile_put {α : Type} {F : List (Nm × α)} (h : Rising F) {n : Nm} {x y : α} (hm : (n, y) ∈ F) (g : α → α) (hx : x = g y) : F.map (fun p => if p.1 = n then (p.1, g p.2) else p) = put F n x := by
  rw [ins_comm_replace h hm]
  refine List.map_congr_left (fun p hp => ?_)
  by_cases e : p.1 = n
  · have := rising_inj h hp hm e
    subst this
    simp [hx]
  · simp [e]

/-- Behind the bytes and before the raw write is counted: one file has bytes more. -/
theorem append_mid {w w1 : World} {d : Nat} {D : Dsk} (h : DiskAt w d D) {n : Nm} {f : Fil} (hp : (n, f) ∈ D.files) {bs : List Int} {v' : Value} (hlong : f.c.len + bs.length ≤ 1048576)
    (hown : w1.ownsRow 0 5 1 v' (f.c.wait.length + bs.length) (bcells f.c.wait ++ bcells bs)) (hm : Mod (fun b => f.wv.ownBlock = some b) w w1)
    (hb : ∀ b, v'.ownBlock = some b → f.wv.ownBlock = some b ∨ b = w.heap.size) :
    ∃ D', DiskAt (w1.setCell ⟨f.blk, 1, none⟩ v') d D' ∧ D'.abs = { D.abs with files := put D.abs.files n ⟨f.c.safe, f.c.wait ++ bs⟩ } ∧ D'.ar = D.ar ∧ D'.kp = D.kp ∧ Mod (fun k => k ∈ D.blocks d) w (w1.setCell ⟨f.blk, 1, none⟩ v') ∧ ∀ k ∈ D'.blocks d, k ∈ D.blocks d ∨ w.heap.size ≤ k := by
  have hf := h.files _ hp
  have hr := Dsk.rising h.ok
  obtain ⟨s1, s2, s3, s4⟩ := hf.waited rfl hown hm hb (file_nodup h.apart hp)
  have hma : (n, f.c) ∈ D.abs.files := List.mem_map.2 ⟨(n, f), hp, rfl⟩
  have e1 : ({ D with files := repl n ⟨f.blk, f.sv, v', ⟨f.c.safe, f.c.wait ++ bs⟩⟩ D.files } : Dsk).abs.files = ADsk.onFile n (fun c => ⟨c.safe, c.wait ++ bs⟩) D.abs.files := repl_abs hr hp _ rfl
  have e2 : ADsk.onFile n (fun c => ⟨c.safe, c.wait ++ bs⟩) D.abs.files = put D.abs.files n ⟨f.c.safe, f.c.wait ++ bs⟩ := onFile_put h.ok.rising hma (fun c => ⟨c.safe, c.wait ++ bs⟩) rfl
  have hok := onFile_ok h.ok n (fun c => ⟨c.safe, c.wait ++ bs⟩) (fun p hp2 e => by
    have := rising_inj h.ok.rising hp2 hma e
    subst this
    simp [Cont.len] at hlong ⊢; omega)
  have e3 : ({ D with files := repl n ⟨f.blk, f.sv, v', ⟨f.c.safe, f.c.wait ++ bs⟩⟩ D.files } : Dsk).abs = { D.abs with files := ADsk.onFile n (fun c => ⟨c.safe, c.wait ++ bs⟩) D.abs.files } := by rw [← e1]; rfl
  have h2 := h.onFile hp ⟨f.blk, f.sv, v', ⟨f.c.safe, f.c.wait ++ bs⟩⟩ rfl s2 s1 s3 s4 (by rw [e3]; exact hok)
  have hfb : ∀ k ∈ f.blocks, k ∈ D.blocks d := fun k hk => by
    simp only [Dsk.blocks, fblocks, List.mem_cons, List.mem_flatMap]; exact Or.inr (Or.inr ⟨(n, f), hp, hk⟩)
  refine ⟨_, h2, by rw [e3, e2], rfl, rfl, s2.mono (fun i _ hi => hfb i hi), ?_⟩
  intro k hk
  simp only [Dsk.blocks, List.mem_cons, fblocks, List.mem_flatMap] at hk
  rcases hk with rfl | rfl | ⟨p, hp2, hk⟩
  · exact Or.inl (by simp [Dsk.blocks])
  · exact Or.inl (by simp [Dsk.blocks])
  · rcases mem_repl hp2 with rfl | ⟨hp2, _⟩
    · rcases s3 k hk with h3 | h3
      · exact Or.inl (hfb k h3)
      · exact Or.inr h3
    · exact Or.inl (by simp only [Dsk.blocks, fblocks, List.mem_cons, List.mem_flatMap]; exact Or.inr (Or.inr ⟨p, hp2, hk⟩))

theorem Dsk.armed_abs (D : Dsk) : D.armed.abs = D.abs.armed := rfl
theorem Dsk.armed_blocks (d : Nat) (D : Dsk) : D.armed.blocks d = D.blocks d := rfl

/-- Behind a raw write that is counted. -/
theorem raw_step {w w1 : World} {d : Nat} {D D1 : Dsk} {A : ADsk} (h1 : DiskAt w1 d D1) (he : D1.abs = A) (hm : Mod (fun k => k ∈ D.blocks d) w w1) (hb : ∀ k ∈ D1.blocks d, k ∈ D.blocks d ∨ w.heap.size ≤ k) :
    DStep w d D (rawW w1 d D1) A.armed := by
  refine ⟨D1.armed, h1.raw, by rw [Dsk.armed_abs, he], hm.trans mod_rawW (fun i hi e => ?_), fun k hk => hb k hk⟩
  rw [e]; simp [Dsk.blocks]

theorem off_step {w w1 w2 : World} {d : Nat} {D D1 : Dsk} {A : ADsk} (h1 : DiskAt w1 d D1) (he : D1.abs = A) (hm : Mod (fun k => k ∈ D.blocks d) w w1) (hb : ∀ k ∈ D1.blocks d, k ∈ D.blocks d ∨ w.heap.size ≤ k) (hkp : D1.kp = D.kp)
    (h2 : DStep (rawW w1 d D1) d D1.armed w2 (D1.armed.abs.goesOff D1.armed.kp)) : DStep w d D w2 (A.armed.goesOff D.kp) := by
  obtain ⟨D3, g1, g2, g3, g4⟩ := raw_step h1 he hm hb
  have e : D1.armed.abs.goesOff D1.armed.kp = A.armed.goesOff D.kp := by rw [Dsk.armed_abs, he]; show ADsk.goesOff _ D1.kp = _; rw [hkp]
  rw [e] at h2
  refine DStep.trans (D1 := D1.armed) (hm.trans mod_rawW (fun i hi e => by rw [e]; simp [Dsk.blocks])) (fun k hk => hb k hk) h2

theorem bcells_one (xs : List Int) : ∀ u ∈ bcells xs, u.oneCell' = true := by
  intro u hu
  obtain ⟨x, _, rfl⟩ := List.mem_map.1 hu
  rfl

theorem ADsk.append_eqs (A : ADsk) (n : Nm) (bs : List Int) (hr : A.ready n = 0) (c : Cont) (hl : (lookF A.files n).getD ⟨[], []⟩ = c) :
    (1048576 < c.len + bs.length → A.append n bs = (A, 3)) ∧
    (¬ 1048576 < c.len + bs.length → (lookF A.files n).isNone = true ∧ 16 ≤ A.files.length → A.append n bs = (A, 22)) ∧
    (¬ 1048576 < c.len + bs.length → A.room < ((total A.files + bs.length : Nat) : Int) → A.append n bs = (A, 22)) ∧
    (¬ 1048576 < c.len + bs.length → ¬ ((lookF A.files n).isNone = true ∧ 16 ≤ A.files.length) → ¬ A.room < ((total A.files + bs.length : Nat) : Int) →
      (A.ar = 1 → A.append n bs = (({ A with files := put A.files n ⟨c.safe, c.wait ++ bs⟩ } : ADsk).armed.goesOff A.kp, 20)) ∧
      (A.ar ≠ 1 → A.append n bs = (({ A with files := put A.files n ⟨c.safe, c.wait ++ bs⟩ } : ADsk).armed, 0))) := by
  have hr' : ¬ A.ready n ≠ 0 := fun h => h hr
  refine ⟨fun h1 => ?_, fun h1 h2 => ?_, fun h1 h2 => ?_, fun h1 h2 h3 => ⟨fun h4 => ?_, fun h4 => ?_⟩⟩
  · unfold ADsk.append; rw [if_neg hr', hl]; simp only []; rw [if_pos (by omega)]
  · unfold ADsk.append; rw [if_neg hr', hl]; simp only []; rw [if_neg (by omega), if_pos (Or.inl h2)]
  · unfold ADsk.append; rw [if_neg hr', hl]; simp only []; rw [if_neg (by omega), if_pos (Or.inr h2)]
  · unfold ADsk.append; rw [if_neg hr', hl]; simp only []; rw [if_neg (by omega), if_neg (fun h => h.elim h2 h3), if_pos h4]
  · unfold ADsk.append; rw [if_neg hr', hl]; simp only []; rw [if_neg (by omega), if_neg (fun h => h.elim h2 h3), if_neg h4]

theorem DiskAt.below {w w' : World} {d : Nat} {D : Dsk} (h : DiskAt w d D) (hb : Below w.heap.size w w') : DiskAt w' d D :=
  h.kept (S := fun k => w.heap.size ≤ k) ((Mod.refl _ _).below hb (fun i _ h => h)) (fun k hk hx => by have := h.lt k hk; omega)

theorem size_cls {w : World} {d : Nat} {D : Dsk} (h : DiskAt w d D) (x : Cls (Below w.heap.size w)) : Calls Tryd.prog 65 #[.pointer (some ⟨d, 0, none⟩)] x.w fun e w'' => e = .returned (.int .i64 (total D.abs.files)) ∧ ∃ y : Cls (Below w.heap.size w), w'' = y.w :=
  (size_any (h.below x.ok)).mono (fun e w'' hx => ⟨hx.1, ⟨w'', x.ok.trans (hx.2.mono x.ok.size)⟩, rfl⟩)

theorem Reads.kept' {S : Nat → Prop} {w w' : World} {size : Nat} {x : Value} {m : Nat} {news : List Value} (h : Reads w size x m news) (hm : Mod S w w') (hS : news ≠ [] → ∀ k, x.ownBlock = some k → ¬ S k) : Reads w' size x m news := by
  by_cases hn : news = []
  · obtain ⟨h1, h2⟩ := h
    refine ⟨h1, ?_⟩
    rcases h2 with h2 | ⟨a, c, rfl, h2⟩
    · exact Or.inl h2
    · exact Or.inr ⟨a, c, rfl, fun j u hu => by rw [hn] at hu; cases hu⟩
  · exact h.kept hm (hS hn)


set_option maxRecDepth 100000 in
set_option maxHeartbeats 4000000 in
theorem append_some {w : World} {d : Nat} {D : Dsk} (h : DiskAt w d D) (s : ByteArray) (hs : s.size ≤ maxLen) (ba : Option Addr) (bn bc : Nat) (bs : List Int) (hrd : Reads w 1 (.slice ba bn bc) bn (bcells bs)) (hap : bs ≠ [] → ∀ k, Value.ownBlock (.slice ba bn bc) = some k → k < w.heap.size ∧ k ∉ D.blocks d) (hbn : bn ≤ 140737488355328) (f : Fil) (hf : lookF D.files s.data.toList = some f) (hr : D.abs.ready s.data.toList = 0) :
    Calls Tryd.prog 47 #[.pointer (some ⟨d, 0, none⟩), .string s, .slice ba bn bc] w fun e w' => e = .returned (.int .i64 (D.abs.append s.data.toList bs).2) ∧ DStep w d D w' (D.abs.append s.data.toList bs).1 := by
  have hbl : bs.length = bn := by have := hrd.1; simpa [bcells] using this
  have habs : lookF D.abs.files s.data.toList = some f.c := by rw [look_abs, hf]; rfl
  have c0 := h.c0
  have hl := h.look s hs
  rw [hf] at hl
  have R := Lib.hid (ready_any h s)
  have hp := look_some hf
  have hF := h.files _ hp
  obtain ⟨a1, k1, a2, k2, e1, e2, f1, f2⟩ := hF.shape
  have hlen : f.c.safe.length + f.c.wait.length ≤ 1048576 := h.ok.small (s.data.toList, f.c) (List.mem_map.2 ⟨_, hp, rfl⟩)
  obtain ⟨V3, _, V22, V⟩ := ADsk.append_eqs D.abs s.data.toList bs hr f.c (by rw [habs]; rfl)
  rw [hr] at R
  have hfl : f.c.len = f.c.safe.length + f.c.wait.length := rfl
  have W3 := Lib.hid V3
  have W22 := Lib.hid V22
  have WV := Lib.hid V
  have H := Lib.hid h
  have Habs := Lib.hid habs
  have HF := Lib.hid hF
  have Hp := Lib.hid hp
  have Hbl := Lib.hid hbl
  have Hfl := Lib.hid hfl
  have Hrd := Lib.hid hrd
  have Hap := Lib.hid hap
  have E1 := Lib.hid e1
  have E2 := Lib.hid e2
  have ht0 : total D.abs.files ≤ 16777216 := by have := partSum_le (left := fun _ => false) h.ok; rwa [partSum_done (fun _ => rfl)] at this
  have SC := Lib.hid (size_cls h)
  have C1 := Lib.hid h.c1
  have hd1 : d < w.heap.size := lt_of_heap h.cells
  clear h hs hf hr hp e1 e2 hF V3 V22 V habs hbl hfl hrd hap
  go_enter Tryd.func47, Tryd.ntmps47
  go_wp2_with fail
  refine R.out.mono ?_
  rintro e w1 ⟨rfl, rfl⟩
  go_wp2
  go_quiet (fail)
  go_wp2
  · -- too long
    have hlong : 1048576 < f.c.len + bs.length := by rw [Hfl.out, Hbl.out]; omega
    go_ret
    exact ⟨by rw [W3.out hlong]; rfl, by rw [W3.out hlong]; exact ⟨D, H.out.drewN _, rfl, (Mod.refl _ _).drewN _, fun k hk => Or.inl hk⟩⟩
  · have hlong : ¬ 1048576 < f.c.len + bs.length := by rw [Hfl.out, Hbl.out]; omega
    have Hlong := Lib.hid hlong
    clear hlong
    refine wp_region_cls (C := Below w.heap.size w) (by kernel_rfl) (by kernel_rfl) ⟨rfl, rfl, rfl, Nat.le_refl _, fun _ _ => rfl⟩ (fun _ => ?_)
    have g1 : ∀ x : Cls (Below w.heap.size w), x.w.cell? ⟨d, 1, none⟩ = some (.int .i64 D.room) := fun x => (x.ok.cell (p := ⟨d, 1, none⟩) hd1).trans C1.out
    repeat (go_big_quiet_step (exact SC.out _))
    refine wpQuiet_nil ?_
    intro w2 hC
    have h2 := H.out.below hC
    have hF2 := h2.files _ Hp.out
    have c02 := h2.c0
    have f12 := (hC.cell (p := ⟨f.blk, 0, none⟩) (lt_of_heap HF.out.cells)).trans f1
    have f22 := (hC.cell (p := ⟨f.blk, 1, none⟩) (lt_of_heap HF.out.cells)).trans f2
    -- the append
    obtain ⟨i0, hi, hz0, hz1, hz2⟩ := info_parts TByte.info
    have r2 : w2.ownsRow 0 5 1 (.slice a2 f.c.wait.length k2) f.c.wait.length (bcells f.c.wait) := by rw [← E2.out]; exact hF2.wait
    have r3 : Reads w2 1 (.slice ba bn bc) bn (bcells bs) := Reads.kept' Hrd.out ((Mod.refl (fun k => w.heap.size ≤ k) w).below hC (fun i _ h => h)) (fun hne k hk hx => by have := (Hap.out (fun e => hne (by rw [e]; rfl)) k hk).1; omega)
    obtain ⟨v', w3, hrun, ho3, hm3, hb3, _⟩ := run_append_to (P := Tryd.prog) 22 22 5 i0 (.int .u8 0) 1 1 Tryd.underlying22 hi hz0 hz1 hz2 rfl (by decide) _ _ _ r2 _ _ _ r3 (bcells_one _) (by unfold maxLen; omega) (by omega)
    obtain ⟨a3, c3, rfl, _⟩ := ownsRow_slice ho3
    have hnd := file_nodup h2.apart Hp.out
    have hwf : Value.ownBlock (.slice a2 f.c.wait.length k2) ≠ some f.blk := fun e => by
      rw [← E2.out] at e; simp [Fil.blocks, e] at hnd
    have h3c := hm3.heap hF2.cells hwf
    have fz := free_of_heap h3c
    have q2 : w3.cell? ⟨f.blk, 1, none⟩ = some (.slice a2 f.c.wait.length k2) := (cell_of_heap h3c 1).trans (by rw [← E2.out]; rfl)
    have hmid := append_mid h2 Hp.out (bs := bs) (v' := .slice a3 (f.c.wait.length + bn) c3) (w1 := w3) (by have := Hlong.out; omega) (by rw [Hbl.out]; exact ho3) (by rw [E2.out]; exact hm3) (by rw [E2.out]; exact hb3)
    have HM := Lib.hid hmid
    have Hrun := Lib.hid hrun
    have HC := Lib.hid hC
    have hmn : Mod (fun k => k ∈ D.blocks d) w w2 := (Mod.refl _ _).below hC (fun i hi hx => by omega)
    have HN := Lib.hid hmn
    clear hC h2 f1 f2 c0 hmid hrun r2 r3 ho3 hm3 hb3 h3c hnd hwf hF2 hi hz0 hz1 hz2 hl C1 R SC hmn
    go_wp2_with (at_builtin; refine wpList_append_run rfl (.tmp 79) (.tmp 80) 22 rfl rfl rfl Hrun.out ?_)
    · -- no room
      have hroom : D.abs.room < ((total D.abs.files + bs.length : Nat) : Int) := by rw [Hbl.out]; show D.room < _; omega
      go_ret
      exact ⟨by rw [W22.out Hlong.out hroom]; rfl, by rw [W22.out Hlong.out hroom]; exact ⟨D, H.out.below HC.out, rfl, HN.out, fun k hk => Or.inl hk⟩⟩
    · have hroom : ¬ D.abs.room < ((total D.abs.files + bs.length : Nat) : Int) := by rw [Hbl.out]; show ¬ D.room < _; omega
      have WV' := Lib.hid (WV.out Hlong.out (fun hx => by rw [Habs.out] at hx; simp at hx) (by first | exact hroom | exact Int.not_lt.1 hroom))
      clear hroom W22 W3 WV
      obtain ⟨D', m1, m2, m3, m3', m4, m5⟩ := HM.out
      have M1 := Lib.hid m1
      have R1 := Lib.hid (raw_any m1)
      have m4' := HN.out.trans m4 (fun i _ h => h)
      have m5' : ∀ k ∈ D'.blocks d, k ∈ D.blocks d ∨ w.heap.size ≤ k := fun k hk => (m5 k hk).imp id (fun h => Nat.le_trans HC.out.size h)
      have S1 := Lib.hid (raw_step m1 m2 m4' m5')
      have S2 := fun w2 => Lib.hid (off_step (w2 := w2) m1 m2 m4' m5' m3')
      have E3 := Lib.hid (ends_any m1.raw)
      clear m1 m2 m4 m5 m4' m5'
      refine R1.out.mono ?_
      rw [m3]
      rintro e w4 ⟨rfl, rfl⟩
      by_cases har : D.ar = 1
      · have e : (D.ar == 1) = true := by simpa using har
        rw [e]
        have WV1 := Lib.hid (WV'.out.1 har)
        clear WV' e har
        go_wp2_with fail
        refine E3.out.mono ?_
        rintro e w4 ⟨rfl, hs⟩
        have Hs := Lib.hid hs
        clear hs
        go_wp2_with fail
        go_ret
        exact ⟨by rw [WV1.out]; rfl, by rw [WV1.out]; exact (S2 _).out Hs.out⟩
      · have e : (D.ar == 1) = false := by simpa using har
        rw [e]
        have WV1 := Lib.hid (WV'.out.2 har)
        clear WV' e har
        go_wp2_with fail
        go_ret
        exact ⟨by rw [WV1.out]; rfl, by rw [WV1.out]; exact S1.out⟩
end Go.Proofs.YtmpdmejlpicdlaaDoor

/- One file of the disk is another one; the loss of power. -/
import Derived.Test.YtmpdmejlpicdlaaDoorDiskW2
import Derived.Test.YtmpdmejlpicdlaaDoorAppend
import Derived.Test.YtmpdmejlpicdlaaDoorLex
import Derived.Deep.RegionLaw
namespace Go.Proofs.YtmpdmejlpicdlaaDoor
open Go.RowKit Go.Bw Go.Maps
set_option linter.unusedVariables false
set_option linter.unusedSimpArgs false

theorem TByte.info : (Tryd.prog.info? 5).map (fun i => (i.zero, i.size, i.bytes)) = some (some (.int .u8 0), 1, 1) := by kernel_rfl

def repl (n : Nm) (f' : Fil) (F : List (Nm × Fil)) : List (Nm × Fil) := F.map (fun p => if p.1 = n then (p.1, f') else p)

theorem repl_none {n : Nm} {f' : Fil} {F : List (Nm × Fil)} (h : ∀ p ∈ F, p.1 ≠ n) : repl n f' F = F := by
  unfold repl
  conv => rhs; rw [← List.map_id F]
  exact List.map_congr_left (fun p hp => by simp [h p hp])

theorem fblocks_cons (p : Nm × Fil) (F : List (Nm × Fil)) : fblocks (p :: F) = p.2.blocks ++ fblocks F := by simp [fblocks]

theorem nodup_repl {n : Nm} {f f' : Fil} {N : Nat} (hb : ∀ k ∈ f'.blocks, k ∈ f.blocks ∨ N ≤ k) (hnd : f'.blocks.Nodup) : ∀ (F : List (Nm × Fil)) (pre : List Nat), Rising F → (n, f) ∈ F → (pre ++ fblocks F).Nodup →
    (∀ k ∈ pre ++ fblocks F, k < N) → (pre ++ fblocks (repl n f' F)).Nodup
  | [], _, _, h, _, _ => by cases h
  | y :: r, pre, hr, hm, h, hlt => by
    obtain ⟨h1, h2⟩ := List.pairwise_cons.1 hr
    rw [fblocks_cons] at h hlt
    by_cases hy : y.1 = n
    · have hrr : ∀ p ∈ r, p.1 ≠ n := fun p hp e => before_ne (h1 p hp) (by rw [e]; exact hy)
      have hyf : y.2 = f := by
        have := rising_inj hr (p := y) (q := (n, f)) (by simp) hm hy
        rw [this]
      have e : repl n f' (y :: r) = (y.1, f') :: r := by
        have := repl_none (f' := f') hrr
        unfold repl at this ⊢
        rw [List.map_cons, this, if_pos hy]
      rw [e, fblocks_cons]
      rw [hyf] at h hlt
      rw [List.nodup_append] at h ⊢
      obtain ⟨a1, a2, a3⟩ := h
      rw [List.nodup_append] at a2 ⊢
      obtain ⟨b1, b2, b3⟩ := a2
      refine ⟨a1, ⟨hnd, b2, ?_⟩, ?_⟩
      · intro x hx z hz e
        subst e
        rcases hb x hx with h3 | h3
        · exact b3 x h3 x hz rfl
        · have := hlt x (by simp [hz]); omega
      · intro x hx z hz e
        subst e
        rcases List.mem_append.1 hz with h3 | h3
        · rcases hb x h3 with h4 | h4
          · exact a3 x hx x (by simp [h4]) rfl
          · have := hlt x (by simp [hx]); omega
        · exact a3 x hx x (by simp [h3]) rfl
    · have hm' : (n, f) ∈ r := by
        rcases List.mem_cons.1 hm with e | e
        · exact absurd (by rw [← e]) hy
        · exact e
      have e : repl n f' (y :: r) = y :: repl n f' r := by simp [repl, hy]
      rw [e, fblocks_cons, ← List.append_assoc]
      rw [← List.append_assoc] at h hlt
      exact nodup_repl hb hnd r (pre ++ y.2.blocks) h2 hm' h hlt

theorem fdata_repl {n : Nm} {f f' : Fil} (hblk : f'.blk = f.blk) {F : List (Nm × Fil)} (hr : Rising F) (hm : (n, f) ∈ F) : fdata (repl n f' F) = fdata F := by
  unfold fdata repl
  rw [List.map_map]
  congr 1
  refine List.map_congr_left (fun p hp => ?_)
  by_cases e : p.1 = n
  · have := rising_inj hr hp hm e
    subst this
    simp [fent, hblk]
  · simp [e]

theorem mem_repl {n : Nm} {f' : Fil} {F : List (Nm × Fil)} {p : Nm × Fil} (h : p ∈ repl n f' F) : (p = (n, f')) ∨ (p ∈ F ∧ p.1 ≠ n) := by
  unfold repl at h
  obtain ⟨q, hq, rfl⟩ := List.mem_map.1 h
  by_cases e : q.1 = n
  · exact Or.inl (by simp [e])
  · exact Or.inr ⟨by simp [e, hq], by simp [e]⟩

theorem blocks_apart {d : Nat} {D : Dsk} (ha : (D.blocks d).Nodup) {p q : Nm × Fil} (hp : p ∈ D.files) (hq : q ∈ D.files) (hne : p ≠ q) : ∀ k ∈ p.2.blocks, k ∉ q.2.blocks := by
  have h1 : (fblocks D.files).Nodup := by
    simp only [Dsk.blocks, List.nodup_cons] at ha
    exact ha.2.2
  revert h1 hp hq
  generalize D.files = F
  induction F with
  | nil => intro hp; cases hp
  | cons y r ih =>
    intro hp hq h1
    rw [fblocks_cons, List.nodup_append] at h1
    obtain ⟨b1, b2, b3⟩ := h1
    intro k hk hk'
    rcases List.mem_cons.1 hp with rfl | hp' <;> rcases List.mem_cons.1 hq with rfl | hq'
    · exact hne rfl
    · exact b3 k hk k (List.mem_flatMap.2 ⟨q, hq', hk'⟩) rfl
    · exact b3 k hk' k (List.mem_flatMap.2 ⟨p, hp', hk⟩) rfl
    · exact ih hp' hq' b2 k hk hk'

theorem DiskAt.onFile {w w' : World} {d : Nat} {D : Dsk} (h : DiskAt w d D) {n : Nm} {f : Fil} (hf : (n, f) ∈ D.files) (f' : Fil) (hblk : f'.blk = f.blk) (hm : Mod (fun k => k ∈ f.blocks) w w') (hfile : FileAt w' f')
    (hb : ∀ k ∈ f'.blocks, k ∈ f.blocks ∨ w.heap.size ≤ k) (hnd : f'.blocks.Nodup) (hok : ({ D with files := repl n f' D.files } : Dsk).abs.Ok) : DiskAt w' d { D with files := repl n f' D.files } := by
  have hr := Dsk.rising h.ok
  have hnf := h.notFile (n, f) hf
  refine ⟨hm.heap h.cells hnf.1, ?_, ?_, ?_, hok⟩
  · show w'.ownsMap Tryd.prog 9 ptrElem D.m 16 (fdata (repl n f' D.files))
    rw [fdata_repl hblk hr hf]
    obtain ⟨es, clock, hb, F, hs, hD⟩ := h.map
    exact ⟨es, clock, hm.heap hb hnf.2, F, hs, hD⟩
  · intro p hp
    rcases mem_repl hp with rfl | ⟨hp, hne⟩
    · exact hfile
    · have hp1 := h.files p hp
      have hap := blocks_apart h.apart hp hf (fun e => hne (by rw [e]))
      refine ⟨hm.heap hp1.cells (hap _ (by simp [Fil.blocks])), ownsRow_kept hp1.safe ?_, ownsRow_kept hp1.wait ?_⟩
      · exact fun k hk => hm.block k (hp1.safe.lt k hk).2 (hap k (by simp [Fil.blocks, hk]))
      · exact fun k hk => hm.block k (hp1.wait.lt k hk).2 (hap k (by simp [Fil.blocks, hk]))
  · exact nodup_repl hb hnd D.files [d, D.m] hr hf h.apart h.lt

theorem repl_abs {n : Nm} {f' : Fil} {D : Dsk} {f : Fil} (hr : Rising D.files) (hf : (n, f) ∈ D.files) (g : Cont → Cont) (hc : f'.c = g f.c) : ({ D with files := repl n f' D.files } : Dsk).abs.files = ADsk.onFile n g D.abs.files := by
  simp only [Dsk.abs, repl, ADsk.onFile, List.map_map]
  refine List.map_congr_left (fun p hp => ?_)
  by_cases e : p.1 = n
  · have := rising_inj hr hp hf e
    subst this
    simp [hc]
  · simp [e]

theorem onFile_ok {A : ADsk} (h : A.Ok) (n : Nm) (g : Cont → Cont) (hg : ∀ p ∈ A.files, p.1 = n → (g p.2).len ≤ 1048576) : ({ A with files := ADsk.onFile n g A.files } : ADsk).Ok := by
  refine ⟨by simp [ADsk.onFile]; exact h.few, ?_, ?_, h.ar0, h.ar1, ?_, h.kp0, h.kp1⟩
  · intro p hp
    simp only [ADsk.onFile, List.mem_map] at hp
    obtain ⟨q, hq, rfl⟩ := hp
    by_cases e : q.1 = n
    · simpa [e] using hg q hq e
    · simpa [e] using h.small q hq
  · have := h.rising
    simp only [Rising, ADsk.onFile] at this ⊢
    rw [List.pairwise_map]
    refine this.imp ?_
    intro p q hpq
    split <;> split <;> simpa using hpq
  · intro p hp
    simp only [ADsk.onFile, List.mem_map] at hp
    obtain ⟨q, hq, rfl⟩ := hp
    have := h.names q hq
    split <;> simpa using this

/-- A file of which the safe row has been appended to, with nothing waiting: behind the two stores. -/
theorem FileAt.safed {w w1 : World} {f : Fil} (h : FileAt w f) {k : Nat} {v' : Value} (hk : k ≤ f.c.wait.length)
    (hown : w1.ownsRow 0 5 1 v' (f.c.safe.length + k) (bcells f.c.safe ++ (bcells f.c.wait).take k)) (hm : Mod (fun b => f.sv.ownBlock = some b) w w1)
    (hb : ∀ b, v'.ownBlock = some b → f.sv.ownBlock = some b ∨ b = w.heap.size) (hnd : f.blocks.Nodup) :
    let w2 := (w1.setCell ⟨f.blk, 0, none⟩ v').setCell ⟨f.blk, 1, none⟩ (.slice none 0 0)
    let f' : Fil := ⟨f.blk, v', .slice none 0 0, ⟨f.c.safe ++ f.c.wait.take k, []⟩⟩
    FileAt w2 f' ∧ Mod (fun k => k ∈ f.blocks) w w2 ∧ (∀ k ∈ f'.blocks, k ∈ f.blocks ∨ w.heap.size ≤ k) ∧ f'.blocks.Nodup := by
  intro w2 f'
  have hlt := lt_of_heap h.cells
  have hnb : f.sv.ownBlock ≠ some f.blk := fun e => by
    simp [Fil.blocks, e] at hnd
  have hvb : v'.ownBlock ≠ some f.blk := fun e => by
    rcases hb _ e with h1 | h1
    · exact hnb h1
    · omega
  have h1 : w1.heap[f.blk]? = some (.cells #[f.sv, f.wv] 78 (0, 0)) := hm.heap h.cells hnb
  have h2 : w2.heap[f.blk]? = some (.cells #[v', .slice none 0 0] 78 (0, 0)) := by
    have := heap_setCell_at (heap_setCell_at h1 0 v') 1 (.slice none 0 0)
    simpa using this
  have hne : ∀ b, v'.ownBlock = some b → w2.heap[b]? = w1.heap[b]? := fun b e => by
    have : b ≠ f.blk := fun e' => hvb (e' ▸ e)
    rw [heap_setCell_ne this, heap_setCell_ne this]
  refine ⟨⟨h2, ?_, ?_⟩, ?_, ?_, ?_⟩
  · have := ownsRow_kept hown hne
    have e1 : f'.c.safe.length = f.c.safe.length + k := by simp [f']; omega
    have e2 : bcells f'.c.safe = bcells f.c.safe ++ (bcells f.c.wait).take k := by simp [f', bcells, List.map_append, List.map_take]
    rw [e1, e2]; exact this
  · exact World.ownsRow_nil _ _ _ _
  · have hm1 : Mod (fun k => k ∈ f.blocks) w w1 := hm.mono (fun i _ hi => by simp [Fil.blocks, hi])
    exact (hm1.setCell v' (fun _ => by simp [Fil.blocks])).setCell _ (fun _ => by simp [Fil.blocks])
  · intro b hbk
    simp only [f', Fil.blocks, List.mem_cons, List.mem_append, Option.mem_toList, Value.ownBlock] at hbk
    rcases hbk with rfl | hbk | hbk
    · exact Or.inl (by simp [Fil.blocks])
    · rcases hb b hbk with h3 | h3
      · exact Or.inl (by simp [Fil.blocks, h3])
      · exact Or.inr (by omega)
    · cases hbk
  · show (f.blk :: (v'.ownBlock.toList ++ [])).Nodup
    cases hv : v'.ownBlock with
    | none => simp
    | some b =>
      have : f.blk ≠ b := fun e => hvb (by rw [hv, e])
      simp [this]

theorem file_nodup {d : Nat} {D : Dsk} (ha : (D.blocks d).Nodup) {p : Nm × Fil} (hp : p ∈ D.files) : p.2.blocks.Nodup := by
  have h1 : (fblocks D.files).Nodup := by
    simp only [Dsk.blocks, List.nodup_cons] at ha
    exact ha.2.2
  exact List.Nodup.sublist (List.sublist_flatten_of_mem (List.mem_map_of_mem (f := fun p : Nm × Fil => p.2.blocks) hp)) (by rw [fblocks, List.flatMap_def] at h1; exact h1)

def mix (left : Lit → Bool) (keep : Int) (F : List (Nm × Cont)) : List (Nm × Cont) := F.map (fun p => (p.1, if left (.string p.1) then p.2 else ADsk.lost keep p.2))
theorem mix_strike {left : Lit → Bool} {keep : Int} {n : Nm} (hl : left (.string n) = true) (F : List (Nm × Cont)) : ADsk.onFile n (ADsk.lost keep) (mix left keep F) = mix (strike left n) keep F := by
  unfold ADsk.onFile mix
  rw [List.map_map]
  refine List.map_congr_left (fun p hp => ?_)
  by_cases e : p.1 = n
  · simp [e, hl, strike, Lit.sameKey]
  · simp [e, strike, Lit.sameKey]
theorem mix_done {left : Lit → Bool} {keep : Int} (hl : ∀ kl, left kl = false) (F : List (Nm × Cont)) : mix left keep F = F.map (fun p => (p.1, ADsk.lost keep p.2)) := by
  unfold mix; simp [hl]
theorem mix_start {D : Dsk} {keep : Int} : mix (Maps.has (fdata D.files)) keep D.abs.files = D.abs.files := by
  unfold mix
  conv => rhs; rw [← List.map_id D.abs.files]
  refine List.map_congr_left (fun p hp => ?_)
  simp only [Dsk.abs] at hp
  obtain ⟨q, hq, rfl⟩ := List.mem_map.1 hp
  simp [has_fdata hq]
theorem lost_len (keep : Int) (c : Cont) : (ADsk.lost keep c).len ≤ c.len := by simp [ADsk.lost, Cont.len]; omega

/-- What the loop of Off carries. -/
def OffRel (w : World) (d : Nat) (D : Dsk) (keep : Int) (wr : World) : Prop :=
  ∃ left cnt Dk, wr.ranges Tryd.prog 9 ptrElem D.m w.heap.size 16 (fdata Dk.files) left cnt ∧ DiskAt wr d Dk ∧ Dk.abs = { D.abs with files := mix left keep D.abs.files } ∧ Dk.m = D.m ∧ Mod (fun k => k ∈ D.blocks d) w wr ∧ (∀ k ∈ Dk.blocks d, k ∈ D.blocks d ∨ w.heap.size < k) ∧ w.heap.size < wr.heap.size

theorem OffRel.start {w w0 : World} {d : Nat} {D : Dsk} (h : DiskAt w d D) (keep : Int) (hrg : w0.ranges Tryd.prog 9 ptrElem D.m w.heap.size 16 (fdata D.files) (Maps.has (fdata D.files)) (Maps.size (fdata D.files))) (hg : w.grownBy w0 none) (hs : w0.heap.size = w.heap.size + 1) : OffRel w d D keep w0 := by
  have hm : Mod (fun _ => False) w w0 := (Mod.refl _ _).grown hg (by simp)
  exact ⟨_, _, D, hrg, h.kept hm (fun _ _ h => h), by rw [mix_start], rfl, hm.mono (fun _ _ h => h.elim), fun k hk => Or.inl hk, by omega⟩

/-- The round's step: the file that came has lost what it loses. -/
theorem OffRel.step {w wr w1 w2 : World} {d : Nat} {D Dk : Dsk} {keep : Int} {left : Lit → Bool} {cnt1 : Nat} {m : Nm} {f : Fil} {v' : Value}
    (h : DiskAt wr d Dk) (hrg1 : w1.ranges Tryd.prog 9 ptrElem D.m w.heap.size 16 (fdata Dk.files) (strike left m) cnt1) (hl : left (.string m) = true) (hg : wr.grownBy w1 (some w.heap.size)) (hsz : w1.heap.size = wr.heap.size) (hlt : w.heap.size < wr.heap.size)
    (he : Dk.abs = { D.abs with files := mix left keep D.abs.files }) (hmm : Dk.m = D.m) (hmod : Mod (fun k => k ∈ D.blocks d) w wr) (hbl : ∀ k ∈ Dk.blocks d, k ∈ D.blocks d ∨ w.heap.size < k) (hlt0 : ∀ k ∈ D.blocks d, k < w.heap.size)
    (hp : (m, f) ∈ Dk.files) (hown : w2.ownsRow 0 5 1 v' (f.c.safe.length + min keep.toNat f.c.wait.length) (bcells f.c.safe ++ (bcells f.c.wait).take (min keep.toNat f.c.wait.length))) (hm2 : Mod (fun b => f.sv.ownBlock = some b) w1 w2)
    (hb : ∀ b, v'.ownBlock = some b → f.sv.ownBlock = some b ∨ b = w1.heap.size) :
    OffRel w d D keep ((w2.setCell ⟨f.blk, 0, none⟩ v').setCell ⟨f.blk, 1, none⟩ (.slice none 0 0)) ∧ ((w2.setCell ⟨f.blk, 0, none⟩ v').setCell ⟨f.blk, 1, none⟩ (.slice none 0 0)).rangeLeft D.m w.heap.size = cnt1 := by
  have hm1 : Mod (fun k => k = w.heap.size) wr w1 := (Mod.refl _ _).grown hg (fun k e _ => by cases e; rfl)
  have hnot : w.heap.size ∉ Dk.blocks d := fun hx => by
    rcases hbl _ hx with h1 | h1
    · have := hlt0 _ h1; omega
    · omega
  have h1 : DiskAt w1 d Dk := h.kept hm1 (fun k hk e => hnot (by rw [← e]; exact hk))
  have hf1 := h1.files (m, f) hp
  have hnd := file_nodup h1.apart hp
  obtain ⟨s1, s2, s3, s4⟩ := hf1.safed (k := min keep.toNat f.c.wait.length) (Nat.min_le_right _ _) hown hm2 hb hnd
  have hr := Dsk.rising h1.ok
  have habs : ({ Dk with files := repl m ⟨f.blk, v', .slice none 0 0, ⟨f.c.safe ++ f.c.wait.take (min keep.toNat f.c.wait.length), []⟩⟩ Dk.files } : Dsk).abs.files = ADsk.onFile m (ADsk.lost keep) Dk.abs.files :=
    repl_abs hr hp (ADsk.lost keep) (by simp [ADsk.lost, List.take_eq_take_iff])
  have hok := onFile_ok h1.ok m (ADsk.lost keep) (fun p hp _ => Nat.le_trans (lost_len keep p.2) (h1.ok.small p hp))
  have h2 := h1.onFile hp ⟨f.blk, v', .slice none 0 0, ⟨f.c.safe ++ f.c.wait.take (min keep.toNat f.c.wait.length), []⟩⟩ rfl s2 s1 s3 s4 (by
    have e : ({ Dk with files := repl m ⟨f.blk, v', .slice none 0 0, ⟨f.c.safe ++ f.c.wait.take (min keep.toNat f.c.wait.length), []⟩⟩ Dk.files } : Dsk).abs = { Dk.abs with files := ADsk.onFile m (ADsk.lost keep) Dk.abs.files } := by
      rw [← habs]; rfl
    rw [e]; exact hok)
  have hfb : ∀ k ∈ f.blocks, k ∈ Dk.blocks d := fun k hk => by
    simp only [Dsk.blocks, fblocks, List.mem_cons, List.mem_flatMap]; exact Or.inr (Or.inr ⟨(m, f), hp, hk⟩)
  have hnm := (h1.notFile (m, f) hp).2
  have hrg2 : ((w2.setCell ⟨f.blk, 0, none⟩ v').setCell ⟨f.blk, 1, none⟩ (.slice none 0 0)).ranges Tryd.prog 9 ptrElem D.m w.heap.size 16 (fdata Dk.files) (strike left m) cnt1 := by
    obtain ⟨es, clock, since, seen, c0, g1, g2, g3, g4, g5, g6⟩ := hrg1
    exact ⟨es, clock, since, seen, c0, s2.heap g1 (by rw [← hmm]; exact hnm), g2, g3, g4, s2.heap g5 (fun hx => hnot (hfb _ hx)), g6⟩
  refine ⟨⟨strike left m, cnt1, _, ?_, h2, ?_, hmm, ?_, ?_, ?_⟩, hrg2.left_eq⟩
  · show World.ranges _ _ _ _ _ _ _ (fdata (repl _ _ _)) _ _
    rw [fdata_repl (f := f) (f' := ⟨f.blk, v', .slice none 0 0, ⟨f.c.safe ++ f.c.wait.take (min keep.toNat f.c.wait.length), []⟩⟩) rfl hr hp]
    exact hrg2
  · have e : ({ Dk with files := repl m ⟨f.blk, v', .slice none 0 0, ⟨f.c.safe ++ f.c.wait.take (min keep.toNat f.c.wait.length), []⟩⟩ Dk.files } : Dsk).abs = { Dk.abs with files := ADsk.onFile m (ADsk.lost keep) Dk.abs.files } := by
      rw [← habs]; rfl
    rw [e, he]
    simp only [mix_strike hl]
  · have t1 : Mod (fun k => k ∈ D.blocks d) w w1 := hmod.trans hm1 (fun i hi e => by omega)
    exact t1.trans s2 (fun i hi hx => by
      rcases hbl i (hfb i hx) with h3 | h3
      · exact h3
      · omega)
  · intro k hk
    simp only [Dsk.blocks, List.mem_cons, fblocks, List.mem_flatMap] at hk
    rcases hk with rfl | rfl | ⟨p, hp2, hk⟩
    · exact hbl _ (by simp [Dsk.blocks])
    · exact hbl _ (by simp [Dsk.blocks])
    · rcases mem_repl hp2 with rfl | ⟨hp2, _⟩
      · rcases s3 k hk with h3 | h3
        · exact hbl k (hfb k h3)
        · exact Or.inr (by omega)
      · exact hbl k (by simp only [Dsk.blocks, fblocks, List.mem_cons, List.mem_flatMap]; exact Or.inr (Or.inr ⟨p, hp2, hk⟩))
  · exact Nat.lt_of_lt_of_le hlt (Nat.le_trans hm1.size s2.size)

end Go.Proofs.YtmpdmejlpicdlaaDoor

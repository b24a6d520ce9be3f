/- Append to a file that is not there yet. -/
import Derived.Test.YtmpdmejlpicdlaaDoorDiskW5
import Derived.Deep.Cut
namespace Go.Proofs.YtmpdmejlpicdlaaDoor
open Go.RowKit Go.Bw Go.Maps
set_option linter.unusedVariables false
set_option linter.unusedSimpArgs false

theorem ins_perm {α : Type} (x : Nm × α) : ∀ F : List (Nm × α), (ins x F).Perm (x :: F)
  | [] => List.Perm.refl _
  | y :: r => by
    unfold ins
    split
    · exact List.Perm.refl _
    · exact ((ins_perm x r).cons y).trans (List.Perm.swap x y r)
theorem put_perm {α : Type} (F : List (Nm × α)) (n : Nm) (x : α) : (put F n x).Perm ((n, x) :: drop F n) := ins_perm _ _
theorem drop_of_none {α : Type} {F : List (Nm × α)} {n : Nm} (h : lookF F n = none) : drop F n = F :=
  List.filter_eq_self.2 (fun p hp => by simp [look_none h p hp])
theorem take_perm {α : Type} : ∀ {F : List (Nm × α)} {n : Nm} {x : α}, Rising F → (n, x) ∈ F → F.Perm ((n, x) :: drop F n)
  | [], _, _, _, h => by cases h
  | y :: r, n, x, hr, hm => by
    obtain ⟨h1, h2⟩ := List.pairwise_cons.1 hr
    rcases List.mem_cons.1 hm with e | e
    · subst e
      have : drop ((n, x) :: r) n = r := by
        simp only [drop, List.filter_cons, beq_self_eq_true, Bool.not_true, Bool.false_eq_true, if_false]
        exact List.filter_eq_self.2 (fun p hp => by have := before_ne (h1 p hp); simp [Ne.symm this])
      rw [this]
    · have hne : y.1 ≠ n := before_ne (h1 _ e)
      have : drop (y :: r) n = y :: drop r n := by simp [drop, hne]
      rw [this]
      exact ((take_perm h2 e).cons y).trans (List.Perm.swap _ _ _)
theorem fblocks_perm {F G : List (Nm × Fil)} (h : F.Perm G) : (fblocks F).Perm (fblocks G) := h.flatMap_right _
theorem length_put_none {α : Type} {F : List (Nm × α)} {n : Nm} (h : lookF F n = none) (x : α) : (put F n x).length = F.length + 1 := by
  rw [(put_perm F n x).length_eq, drop_of_none h]; rfl
theorem put_put {α : Type} {F : List (Nm × α)} (hr : Rising F) {n : Nm} (x y : α) (hn : lookF F n = none) : put (put F n x) n y = put F n y := by
  have hm : (n, x) ∈ put F n x := mem_ins.2 (Or.inl rfl)
  have h1 : drop (put F n x) n = F := by
    have : ∀ G : List (Nm × α), (∀ p ∈ G, p.1 ≠ n) → drop (ins (n, x) G) n = G := by
      intro G
      induction G with
      | nil => intro _; simp [ins, drop]
      | cons z r ih =>
        intro hz
        have hzn : z.1 ≠ n := hz z (by simp)
        have hd : drop r n = r := List.filter_eq_self.2 (fun p hp => by simp [hz p (by simp [hp])])
        unfold ins
        split
        · simp [drop, hzn] ; exact fun a b hb => hz (a, b) (by simp [hb])
        · have := ih (fun p hp => hz p (by simp [hp]))
          simp only [drop, List.filter_cons] at this ⊢
          simp [hzn, this]
    unfold put
    rw [drop_of_none hn]
    exact this F (look_none hn)
  show ins (n, y) (drop (put F n x) n) = ins (n, y) (drop F n)
  rw [h1, drop_of_none hn]

theorem ownsMap_exact {w : World} {P : Program} {k : TypeId} {R : Value → Option (DataW Unit × List MemPlace)} {b n : Nat} {l : List (Lit × DataW Unit)} (h : w.ownsMap P k R b n (.map l)) : w.ownsMap P k R b l.length (.map l) := by
  obtain ⟨es, clock, hb, F, hs, hD⟩ := h
  refine ⟨es, clock, hb, F, ?_, hD⟩
  cases hD
  rw [length_sorted]; simp

/-- The disk with a new file, empty. -/
theorem DiskAt.fresh {w w1 : World} {d : Nat} {D : Dsk} (h : DiskAt w d D) {n : Nm} (hn : lookF D.files n = none) (hnb : namedB n = true) (hlen : D.files.length < 16)
    (hm : w1.ownsMap Tryd.prog 9 ptrElem D.m 17 ((fdata D.files).put (.string n) (.lit (.int .i64 w.heap.size)))) (hg : (w.alloc (.cells #[.slice none 0 0, .slice none 0 0] 78)).grownBy w1 (some D.m)) :
    ∃ D', DiskAt w1 d D' ∧ D'.abs = { D.abs with files := put D.abs.files n ⟨[], []⟩ } ∧ lookF D'.files n = some ⟨w.heap.size, .slice none 0 0, .slice none 0 0, ⟨[], []⟩⟩ ∧ Mod (fun k => k ∈ D.blocks d) w w1 ∧ (∀ k ∈ D'.blocks d, k ∈ D.blocks d ∨ w.heap.size ≤ k) ∧ D'.room = D.room ∧ D'.off = D.off ∧ D'.ar = D.ar ∧ D'.kp = D.kp := by
  let f : Fil := ⟨w.heap.size, .slice none 0 0, .slice none 0 0, ⟨[], []⟩⟩
  have hr := Dsk.rising h.ok
  have hmod0 : Mod (fun k => k = D.m) w w1 := ((Mod.refl (fun k => k = D.m) w).alloc _).grown hg (fun k e _ => by cases e; rfl)
  have ha := h.apart
  simp only [Dsk.blocks, List.nodup_cons, List.mem_cons, not_or] at ha
  have hblk : w1.heap[w.heap.size]? = some (.cells #[.slice none 0 0, .slice none 0 0] 78 (0, 0)) := by
    rw [hg.block w.heap.size (by simp) (fun e => by have e1 := Option.some.inj e; have e2 := h.map.lt; omega)]
    exact heap_alloc_new w _
  have hperm : (put D.files n f).Perm ((n, f) :: D.files) := by have := put_perm D.files n f; rwa [drop_of_none hn] at this
  have hbp : (fblocks (put D.files n f)).Perm (w.heap.size :: fblocks D.files) := fblocks_perm hperm
  have habs : ({ D with files := put D.files n f } : Dsk).abs = { D.abs with files := put D.abs.files n ⟨[], []⟩ } := by
    have := put_map (fun f : Fil => f.c) D.files n f
    simp only [Dsk.abs]
    rw [← this]
  have hfresh : ∀ k ∈ D.blocks d, k ≠ w.heap.size := fun k hk e => by have := h.lt k hk; omega
  have hnabs : lookF D.abs.files n = none := by rw [look_abs, hn]; rfl
  refine ⟨{ D with files := put D.files n f }, ⟨hmod0.heap h.cells (fun e => ha.1.1 e), ?_, ?_, ?_, ?_⟩, habs, ?_, hmod0.mono (fun i _ e => by rw [e]; simp [Dsk.blocks]), ?_, rfl, rfl, rfl, rfl⟩
  · show w1.ownsMap Tryd.prog 9 ptrElem D.m 16 (fdata (put D.files n f))
    have e : (fdata D.files).put (.string n) (.lit (.int .i64 w.heap.size)) = fdata (put D.files n f) := put_fdata n f D.files
    rw [e] at hm
    refine (ownsMap_exact hm).mono ?_
    rw [List.length_map, length_put_none hn]; omega
  · intro p hp
    rcases mem_ins.1 hp with rfl | hp
    · exact ⟨hblk, World.ownsRow_nil _ _ _ _, World.ownsRow_nil _ _ _ _⟩
    · have hp := (mem_drop.1 hp).1
      have hp1 := h.files p hp
      have hnm := (h.notFile p hp).2
      simp only [Fil.blocks, List.mem_cons, List.mem_append, Option.mem_toList, not_or] at hnm
      refine ⟨hmod0.heap hp1.cells (fun e => hnm.1 e.symm), ownsRow_kept hp1.safe ?_, ownsRow_kept hp1.wait ?_⟩
      · exact fun k hk => hmod0.block k (hp1.safe.lt k hk).2 (fun e => hnm.2.1 (by rw [← e]; exact hk))
      · exact fun k hk => hmod0.block k (hp1.wait.lt k hk).2 (fun e => hnm.2.2 (by rw [← e]; exact hk))
  · show (d :: D.m :: fblocks (put D.files n f)).Nodup
    rw [((hbp.cons D.m).cons d).nodup_iff]
    simp only [List.nodup_cons, List.mem_cons, not_or]
    have hd := hfresh d (by simp [Dsk.blocks])
    have hmm := hfresh D.m (by simp [Dsk.blocks])
    exact ⟨⟨ha.1.1, hd, ha.1.2⟩, ⟨hmm, ha.2.1⟩, fun hx => hfresh w.heap.size (by simp [Dsk.blocks, hx]) rfl, ha.2.2⟩
  · rw [habs]
    have hok := h.ok
    refine ⟨?_, ?_, rising_put hok.rising _ _, hok.ar0, hok.ar1, ?_, hok.kp0, hok.kp1⟩
    · show (put D.abs.files n _).length ≤ 16
      rw [length_put_none hnabs]; simp only [Dsk.abs, List.length_map]; omega
    · intro p hp
      rcases mem_ins.1 hp with rfl | hp
      · simp [Cont.len]
      · exact hok.small p (mem_drop.1 hp).1
    · intro p hp
      rcases mem_ins.1 hp with rfl | hp
      · exact hnb
      · exact hok.names p (mem_drop.1 hp).1
  · exact look_of_mem (rising_put hr n f) (p := (n, f)) (mem_ins.2 (Or.inl rfl))
  · intro k hk
    have hk' : k = d ∨ k = D.m ∨ k ∈ fblocks (put D.files n f) := by simpa [Dsk.blocks] using hk
    rcases hk' with rfl | rfl | hk'
    · exact Or.inl (by simp [Dsk.blocks])
    · exact Or.inl (by simp [Dsk.blocks])
    · rcases List.mem_cons.1 (hbp.mem_iff.1 hk') with rfl | hk'
      · exact Or.inr (Nat.le_refl _)
      · exact Or.inl (by simp [Dsk.blocks, hk'])

theorem map_len {w : World} {d : Nat} {D : Dsk} (h : DiskAt w d D) (ty : TypeId) : (Builtin.len_ #[68] ty #[.map (some D.m)]).run Tryd.prog w = .ok (.int .i64 D.files.length) w := by
  have := h.map.len Tryd.underlying68 ty
  rw [size_fdata] at this; exact this

set_option maxRecDepth 100000 in
set_option maxHeartbeats 4000000 in
theorem append_none {w : World} {d : Nat} {D : Dsk} (h : DiskAt w d D) (s : ByteArray) (hs : s.size ≤ maxLen) (ba : Option Addr) (bn bc : Nat) (bs : List Int) (hrd : Reads w 1 (.slice ba bn bc) bn (bcells bs)) (hap : bs ≠ [] → ∀ k, Value.ownBlock (.slice ba bn bc) = some k → k < w.heap.size ∧ k ∉ D.blocks d) (hbn : bn ≤ 140737488355328) (hf : lookF D.files s.data.toList = none) (hr : D.abs.ready s.data.toList = 0) :
    Calls Tryd.prog 47 #[.pointer (some ⟨d, 0, none⟩), .string s, .slice ba bn bc] w fun e w' => e = .returned (.int .i64 (D.abs.append s.data.toList bs).2) ∧ DStep w d D w' (D.abs.append s.data.toList bs).1 := by
  have hbl : bs.length = bn := by have := hrd.1; simpa [bcells] using this
  have habs : lookF D.abs.files s.data.toList = none := by rw [look_abs, hf]; rfl
  have hnb : namedB s.data.toList = true := by
    cases hx : namedB s.data.toList
    · simp [ADsk.ready, hx] at hr
    · rfl
  have c0 := h.c0
  have hl := h.look s hs
  rw [hf] at hl
  have R := Lib.hid (ready_any h s)
  obtain ⟨V3, V16, V22, V⟩ := ADsk.append_eqs D.abs s.data.toList bs hr ⟨[], []⟩ (by rw [habs]; rfl)
  rw [hr] at R
  have hfew : D.files.length ≤ 16 := by have := h.ok.few; simpa [Dsk.abs] using this
  have hfa : D.abs.files.length = D.files.length := by simp [Dsk.abs]
  have W3 := Lib.hid V3
  have W16 := Lib.hid V16
  have W22 := Lib.hid V22
  have WV := Lib.hid V
  have H := Lib.hid h
  have Habs := Lib.hid habs
  have Hf := Lib.hid hf
  have Hnb := Lib.hid hnb
  have Hfa := Lib.hid hfa
  have Hbl := Lib.hid hbl
  have Hrd := Lib.hid hrd
  have Hap := Lib.hid hap
  have Hs := Lib.hid hs
  have hml := Lib.hid (map_len h)
  have ht0 : total D.abs.files ≤ 16777216 := by have := partSum_le (left := fun _ => false) h.ok; rwa [partSum_done (fun _ => rfl)] at this
  have SC := Lib.hid (size_cls h)
  have C1 := Lib.hid h.c1
  have hd1 : d < w.heap.size := lt_of_heap h.cells
  clear h hs hf hr V3 V16 V22 V habs hbl hrd hap hnb hfa
  have Z : ∀ x : Int, (0 : Int) + x = x := Int.zero_add
  go_enter Tryd.func47, Tryd.ntmps47
  go_wp2_with fail
  refine R.out.mono ?_
  rintro e w1 ⟨rfl, rfl⟩
  go_wp2_with fail
  go_quiet (fail)
  have hml1 : ∀ nq : Nat, (Builtin.len_ #[68] 3 #[.map (some D.m)]).run Tryd.prog (w.drewN nq) = .ok (.int .i64 D.files.length) (w.drewN nq) := fun nq => map_len (H.out.drewN nq) _
  go_wp2_with fail
  · have hlong : 1048576 < (⟨[], []⟩ : Cont).len + bs.length := by rw [Hbl.out]; simp [Cont.len]; omega
    go_ret
    exact ⟨by rw [W3.out hlong]; rfl, by rw [W3.out hlong]; exact ⟨D, H.out.drewN _, rfl, (Mod.refl _ _).drewN _, fun k hk => Or.inl hk⟩⟩
  · have hlong : ¬ 1048576 < (⟨[], []⟩ : Cont).len + bs.length := by rw [Hbl.out]; simp [Cont.len]; omega
    have h16 : 16 ≤ D.abs.files.length := by rw [Hfa.out]; omega
    have e := W16.out hlong ⟨by rw [Habs.out]; rfl, h16⟩
    go_ret
    exact ⟨by rw [e]; rfl, by rw [e]; exact ⟨D, H.out.drewN _, rfl, (Mod.refl _ _).drewN _, fun k hk => Or.inl hk⟩⟩
  · have hlong : ¬ 1048576 < (⟨[], []⟩ : Cont).len + bs.length := by rw [Hbl.out]; simp [Cont.len]; omega
    have hlt16 : D.files.length < 16 := by omega
    have Hlong := Lib.hid hlong
    clear hlong
    refine wp_region_cls (C := Below w.heap.size w) (by kernel_rfl) (by kernel_rfl) ⟨rfl, rfl, rfl, Nat.le_refl _, fun _ _ => rfl⟩ (fun _ => ?_)
    have g1 : ∀ x : Cls (Below w.heap.size w), x.w.cell? ⟨d, 1, none⟩ = some (.int .i64 D.room) := fun x => (x.ok.cell (p := ⟨d, 1, none⟩) hd1).trans C1.out
    repeat (go_big_quiet_step (exact SC.out _))
    refine wpQuiet_nil ?_
    clear hml1
    intro w2 hC
    have h2 := H.out.below hC
    have c02 := h2.c0
    have hmn : Mod (fun k => k ∈ D.blocks d) w w2 := (Mod.refl _ _).below hC (fun i hi hx => by omega)
    have HN := Lib.hid hmn
    have H2 := Lib.hid h2
    have HC := Lib.hid hC
    have hd2 : d < w2.heap.size := lt_of_heap h2.cells
    have hown := Lib.hid (h2.map.alloc (.cells #[.slice none 0 0, .slice none 0 0] 78))
    clear hmn hC c0 h2 g1 hl
    go_upto_region 14 with (at_mapUpdate; refine wpList_mapUpdate_own _ rfl _ _ _ 68 rfl 9 76 (string_keyed Tryd.underlying9) Tryd.underlying68 ptrElem D.m 16 _ rfl hown.out (by unfold maxLen; omega) _ _ _ rfl rfl (WideMaps.keyOf_string_mk Tryd.underlying9 Hs.out) (.lit (.int .i64 w2.heap.size)) [] rfl ?_; intro w4 hown4 hgrow4)
    · -- no room
      have hroom : D.abs.room < ((total D.abs.files + bs.length : Nat) : Int) := by rw [Hbl.out]; show D.room < _; omega
      have e := W22.out Hlong.out hroom
      go_ret
      exact ⟨by rw [e]; rfl, by rw [e]; exact ⟨D, H.out.below HC.out, rfl, HN.out, fun k hk => Or.inl hk⟩⟩
    · have hroom : ¬ D.abs.room < ((total D.abs.files + bs.length : Nat) : Int) := by rw [Hbl.out]; show ¬ D.room < _; omega
      have h16 : ¬ 16 ≤ D.abs.files.length := by rw [Hfa.out]; omega
      have WV' := Lib.hid (WV.out Hlong.out (fun hx => h16 hx.2) (by first | exact hroom | exact Int.not_lt.1 hroom))
      obtain ⟨D4, q1, q2, q3, q4, q5, q6, q7, q8, q9⟩ := H2.out.fresh Hf.out Hnb.out hlt16 hown4 hgrow4
      have hp4 := look_some q3
      have hF4 := q1.files _ hp4
      have x4 := (cell_of_heap hF4.cells 1)
      have y4 := (cell_of_heap hF4.cells 0)
      dsimp only at x4 y4
      obtain ⟨i0, hi, hz0, hz1, hz2⟩ := info_parts TByte.info
      have hq4 : Mod (fun k => k ∈ D.blocks d) w w4 := HN.out.trans q4 (fun i _ h => h)
      have r3 : Reads w4 1 (.slice ba bn bc) bn (bcells bs) := Reads.kept' Hrd.out hq4 (fun hne k hk => (Hap.out (fun e => hne (by rw [e]; rfl)) k hk).2)
      obtain ⟨v', w5, hrun, ho5, hm5, hb5, _⟩ := run_append_to (P := Tryd.prog) 22 22 5 i0 (.int .u8 0) 1 1 Tryd.underlying22 hi hz0 hz1 hz2 rfl (by decide) _ _ _ hF4.wait _ _ _ r3 (bcells_one _) (by simp; unfold maxLen; omega) (by simp; omega)
      dsimp only at hrun ho5 hm5 hb5
      obtain ⟨a3, c3, rfl, _⟩ := ownsRow_slice ho5
      have e0 : ([] : List Int).length + bn = bn := Nat.zero_add bn
      rw [e0] at hrun ho5 hb5
      have h5c := hm5.heap hF4.cells (by simp [Value.ownBlock])
      dsimp only at h5c
      have fz := free_of_heap h5c
      have q2c : w5.cell? ⟨w2.heap.size, 1, none⟩ = some (.slice none 0 0) := cell_of_heap h5c 1
      have hmid := append_mid q1 hp4 (bs := bs) (v' := .slice a3 bn c3) (w1 := w5) (by have := Hlong.out; simpa using this) (by rw [Hbl.out]; simp only [List.length_nil, Nat.zero_add]; exact ho5) hm5 hb5
      have e7 : D4.abs.files = put D.abs.files s.data.toList ⟨[], []⟩ := by rw [q2]
      have e8 : put D4.abs.files s.data.toList (⟨[], [] ++ bs⟩ : Cont) = put D.abs.files s.data.toList ⟨[], [] ++ bs⟩ := by rw [e7]; exact put_put H.out.ok.rising _ _ Habs.out
      obtain ⟨D', m1, m2, m3, m3', m4, m5⟩ := hmid
      have m2' : D'.abs = { D.abs with files := put D.abs.files s.data.toList ⟨[], [] ++ bs⟩ } := by
        rw [m2, q2]; simp only []; rw [← e7, e8]
      have m4' := hq4.trans m4 (fun i hi hx => (q5 i hx).elim id (fun h => by have := HC.out.size; omega))
      have m5' : ∀ k ∈ D'.blocks d, k ∈ D.blocks d ∨ w.heap.size ≤ k := fun k hk => by
        rcases m5 k hk with h | h
        · exact (q5 k h).imp id (fun h => Nat.le_trans HC.out.size h)
        · exact Or.inr (Nat.le_trans hq4.size h)
      have kp' : D'.kp = D.kp := m3'.trans q9
      have ar' : D'.ar = D.ar := m3.trans q8
      have R1 := Lib.hid (raw_any m1)
      have S1 := Lib.hid (raw_step m1 m2' m4' m5')
      have S2 := fun w2 => Lib.hid (off_step (w2 := w2) m1 m2' m4' m5' kp')
      have E3 := Lib.hid (ends_any m1.raw)
      have Hrun := Lib.hid hrun
      have AR := Lib.hid ar'
      clear m1 m2 m2' m4 m5 m4' m5' hrun ho5 hm5 hb5 h5c r3 hF4 hp4 q1 q2 q3 q4 q5 q6 q7 q8 q9 e7 e8 hi hz0 hz1 hz2 hown4 hgrow4 hroom h16 W22 W3 W16 WV hq4 kp' ar' m3 m3' c02
      go_wp2_with (at_builtin; refine wpList_append_run rfl (.tmp 79) (.tmp 80) 22 rfl rfl rfl Hrun.out ?_)
      refine R1.out.mono ?_
      rw [AR.out]
      rintro e w4 ⟨rfl, rfl⟩
      by_cases har : D.ar = 1
      · have e : (D.ar == 1) = true := by simpa using har
        rw [e]
        have WV1 := Lib.hid (WV'.out.1 har)
        clear WV' e har
        go_wp2_with fail
        refine E3.out.mono ?_
        rintro e w4 ⟨rfl, hs⟩
        have Hs := Lib.hid hs
        clear hs
        go_wp2_with fail
        go_ret
        exact ⟨by rw [WV1.out]; rfl, by rw [WV1.out]; exact (S2 _).out Hs.out⟩
      · have e : (D.ar == 1) = false := by simpa using har
        rw [e]
        have WV1 := Lib.hid (WV'.out.2 har)
        clear WV' e har
        go_wp2_with fail
        go_ret
        exact ⟨by rw [WV1.out]; rfl, by rw [WV1.out]; exact S1.out⟩

/-- **Append.** -/
theorem append_any {w : World} {d : Nat} {D : Dsk} (h : DiskAt w d D) (s : ByteArray) (hs : s.size ≤ maxLen) (ba : Option Addr) (bn bc : Nat) (bs : List Int) (hrd : Reads w 1 (.slice ba bn bc) bn (bcells bs)) (hap : bs ≠ [] → ∀ k, Value.ownBlock (.slice ba bn bc) = some k → k < w.heap.size ∧ k ∉ D.blocks d) (hbn : bn ≤ 140737488355328) :
    Calls Tryd.prog 47 #[.pointer (some ⟨d, 0, none⟩), .string s, .slice ba bn bc] w fun e w' => e = .returned (.int .i64 (D.abs.append s.data.toList bs).2) ∧ DStep w d D w' (D.abs.append s.data.toList bs).1 := by
  by_cases hr : D.abs.ready s.data.toList = 0
  · cases hf : lookF D.files s.data.toList with
    | none => exact append_none h s hs ba bn bc bs hrd hap hbn hf hr
    | some f => exact append_some h s hs ba bn bc bs hrd hap hbn f hf hr
  · have e : D.abs.append s.data.toList bs = (D.abs, D.abs.ready s.data.toList) := by unfold ADsk.append; rw [if_pos hr]
    rw [e]
    exact (append_refused h s _ hr).mono (fun e w' hx => ⟨hx.1, by rw [← hx.2]; exact DStep.refl h⟩)
end Go.Proofs.YtmpdmejlpicdlaaDoor

/- Rename, Read and Names, walked. -/
import Derived.Test.YtmpdmejlpicdlaaDoorDiskWa
import Derived.CallsIn
namespace Go.Proofs.YtmpdmejlpicdlaaDoor
open Go.RowKit Go.Bw Go.Maps
set_option linter.unusedVariables false
set_option linter.unusedSimpArgs false

section
variable {w : World} {d : Nat} {D : Dsk}

theorem there_vals (A : ADsk) (n : Nm) : A.there n = 0 ∨ A.there n = 1 ∨ A.there n = 20 ∨ A.there n = 21 := by
  unfold ADsk.there
  by_cases hr : A.ready n = 0
  · rw [if_neg (fun hx => hx hr)]
    cases (lookF A.files n).isNone
    · exact Or.inl rfl
    · exact Or.inr (Or.inr (Or.inr rfl))
  · rw [if_pos hr]
    unfold ADsk.ready at hr ⊢
    by_cases h1 : namedB n = false
    · rw [if_pos h1]; exact Or.inr (Or.inl rfl)
    · rw [if_neg h1] at hr ⊢
      cases ho : A.off
      · rw [ho] at hr; exact absurd rfl hr
      · exact Or.inr (Or.inr (Or.inl rfl))

set_option maxRecDepth 10000 in
set_option maxHeartbeats 1000000 in
theorem rename_any (h : DiskAt w d D) (s t : ByteArray) (hs : s.size ≤ maxLen) (ht : t.size ≤ maxLen) :
    Calls Tryd.prog 49 #[.pointer (some ⟨d, 0, none⟩), .string s, .string t] w fun e w' => e = .returned (.int .i64 (D.abs.rename s.data.toList t.data.toList).2) ∧ DStep w d D w' (D.abs.rename s.data.toList t.data.toList).1 := by
  by_cases hz : D.abs.there s.data.toList = 0
  · obtain ⟨hr, f, hf⟩ := there_zero h _ hz
    have hp := look_some hf
    have T := Lib.hid (there_yes h s hs f hf hr)
    have R := Lib.hid (raw_any h)
    have hz1 : D.abs.there s.data.toList ≠ 1 := by rw [hz]; decide
    have habs : lookF D.abs.files s.data.toList = some f.c := by rw [look_abs, hf]; rfl
    cases hto : namedB t.data.toList
    · have ev : D.abs.rename s.data.toList t.data.toList = (D.abs, 1) := by unfold ADsk.rename; rw [if_neg hz1, if_pos hto]
      rw [ev]
      have N := Lib.hid (named_any t w)
      rw [hto] at N
      have Hs := Lib.hid (DStep.refl h)
      clear h hs ht hz hr hf hp R hz1 habs hto ev
      go_enter Tryd.func49, Tryd.ntmps49
      go_wp2_with fail
      refine T.out.mono ?_
      rintro e w1 ⟨rfl, rfl⟩
      go_wp2_with fail
      refine N.out.mono ?_
      rintro e w1 ⟨rfl, rfl⟩
      go_wp2_with fail
      go_ret
      exact ⟨rfl, Hs.out⟩
    · have ev : D.abs.rename s.data.toList t.data.toList = D.abs.does (fun F => put (drop F s.data.toList) t.data.toList f.c) := by
        unfold ADsk.rename
        rw [if_neg hz1, if_neg (by rw [hto]; decide), if_neg (fun hx => hx hz), habs]; rfl
      obtain ⟨V1, V2⟩ := ADsk.does_eqs D.abs (fun F => put (drop F s.data.toList) t.data.toList f.c)
      rw [ev]
      have N := Lib.hid (named_any t w)
      rw [hto] at N
      clear ev
      by_cases har : D.ar = 1
      · have e1 : (D.ar == 1) = true := by simpa using har
        have V := Lib.hid (V1 har)
        rw [e1] at R
        have E := Lib.hid (ends_any h.raw)
        have H := Lib.hid h
        clear h hs ht hz hr hf hp hz1 habs hto V1 V2 har e1
        go_enter Tryd.func49, Tryd.ntmps49
        go_wp2_with fail
        refine T.out.mono ?_
        rintro e w1 ⟨rfl, rfl⟩
        go_wp2_with fail
        refine N.out.mono ?_
        rintro e w1 ⟨rfl, rfl⟩
        go_wp2_with fail
        refine R.out.mono ?_
        rintro e w1 ⟨rfl, rfl⟩
        go_wp2_with fail
        refine E.out.mono ?_
        rintro e w2 ⟨rfl, hst⟩
        have Hst := Lib.hid (does_off (A' := D.abs) H.out hst)
        clear hst
        go_wp2_with fail
        go_ret
        exact ⟨by rw [V.out]; rfl, by rw [V.out]; exact Hst.out⟩
      · have e1 : (D.ar == 1) = false := by simpa using har
        have V := Lib.hid (V2 har)
        rw [e1] at R
        have c0 := h.raw.c0
        have H := Lib.hid h
        have hown := Lib.hid h.raw.map
        have Hs := Lib.hid hs
        have Ht := Lib.hid ht
        have Hp := Lib.hid hp
        have Hto := Lib.hid hto
        have hd0 : d ≠ D.m := by have ha := h.apart; simp only [Dsk.blocks, List.nodup_cons, List.mem_cons, not_or] at ha; exact ha.1.1
        clear h hs ht hz hr hf hp hz1 habs hto V1 V2 har e1
        go_enter Tryd.func49, Tryd.ntmps49
        go_wp2_with fail
        refine T.out.mono ?_
        rintro e w1 ⟨rfl, rfl⟩
        go_wp2_with fail
        refine N.out.mono ?_
        rintro e w1 ⟨rfl, rfl⟩
        go_wp2_with fail
        refine R.out.mono ?_
        rintro e w1 ⟨rfl, rfl⟩
        go_wp2_with (first
          | (at_delete; refine wpList_delete_own _ rfl _ _ 68 9 rfl 76 (string_keyed Tryd.underlying9) Tryd.underlying68 _ D.m 16 _ rfl hown.out _ _ rfl (WideMaps.keyOf_string_mk Tryd.underlying9 Hs.out) ?_; intro w2 hown2 hturn2; have c02 := ((mod_turned hturn2).cell c0 hd0); have Hown2 := Lib.hid hown2; have Hturn2 := Lib.hid hturn2; clear hown2 hturn2)
          | (at_mapUpdate; refine wpList_mapUpdate_own _ rfl _ _ _ 68 rfl 9 76 (string_keyed Tryd.underlying9) Tryd.underlying68 ptrElem D.m 16 _ rfl (by assumption : Hid _).out (by unfold maxLen; omega) _ _ _ rfl rfl (WideMaps.keyOf_string_mk Tryd.underlying9 Ht.out) (.lit (.int .i64 f.blk)) [] rfl ?_; intro w4 hown4 hgrow4))
        have Hst := Lib.hid (DStep.after_raw (rename_step H.out.raw s.data.toList t.data.toList f Hp.out Hto.out hown4 ((mod_turned Hturn2.out).trans ((Mod.refl (fun k => k = D.m) _).grown hgrow4 (fun k e _ => by cases e; rfl)) (fun _ _ e => e))))
        clear hown4 hgrow4
        go_ret
        exact ⟨by rw [V.out]; rfl, by rw [V.out]; exact Hst.out⟩
  · have T := Lib.hid (there_no h s hs hz)
    have N := Lib.hid (named_any t w)
    have Hs := Lib.hid (DStep.refl h)
    have hv := there_vals D.abs s.data.toList
    have e0 : D.abs.there s.data.toList = 1 → D.abs.rename s.data.toList t.data.toList = (D.abs, 1) := fun h1 => by unfold ADsk.rename; rw [if_pos h1]
    have e1 : D.abs.there s.data.toList ≠ 1 → namedB t.data.toList = false → D.abs.rename s.data.toList t.data.toList = (D.abs, 1) := fun h1 h2 => by unfold ADsk.rename; rw [if_neg h1, if_pos h2]
    have e2 : D.abs.there s.data.toList ≠ 1 → namedB t.data.toList = true → D.abs.rename s.data.toList t.data.toList = (D.abs, D.abs.there s.data.toList) := fun h1 h2 => by unfold ADsk.rename; rw [if_neg h1, if_neg (by rw [h2]; decide), if_pos hz]
    rcases hv with hv | hv | hv | hv
    · exact absurd hv hz
    · rw [e0 hv]
      rw [hv] at T
      clear h hs ht hv e0 e1 e2 hz N
      go_enter Tryd.func49, Tryd.ntmps49
      go_wp2_with fail
      refine T.out.mono ?_
      rintro e w1 ⟨rfl, rfl⟩
      go_wp2_with fail
      go_ret
      exact ⟨rfl, Hs.out⟩
    all_goals
      have hne : D.abs.there s.data.toList ≠ 1 := by rw [hv]; decide
      cases hto : namedB t.data.toList
      · rw [e1 hne hto]
        rw [hv] at T
        rw [hto] at N
        clear h hs ht hv e0 e1 e2 hz hne hto
        go_enter Tryd.func49, Tryd.ntmps49
        go_wp2_with fail
        refine T.out.mono ?_
        rintro e w1 ⟨rfl, rfl⟩
        go_wp2_with fail
        refine N.out.mono ?_
        rintro e w1 ⟨rfl, rfl⟩
        go_wp2_with fail
        go_ret
        exact ⟨rfl, Hs.out⟩
      · rw [e2 hne hto]
        rw [hv] at T ⊢
        rw [hto] at N
        clear h hs ht hv e0 e1 e2 hz hne hto
        go_enter Tryd.func49, Tryd.ntmps49
        go_wp2_with fail
        refine T.out.mono ?_
        rintro e w1 ⟨rfl, rfl⟩
        go_wp2_with fail
        refine N.out.mono ?_
        rintro e w1 ⟨rfl, rfl⟩
        go_wp2_with fail
        go_ret
        exact ⟨rfl, Hs.out⟩

/-! ### Read -/
/-- The bytes of a file in a new row. -/
def ReadOut (w : World) (xs : List Int) (er : Int) (e : Ending) (w' : World) : Prop := ∃ v, e = .returned (.tuple #[v, .int .i64 er]) ∧ w'.ownsRow w.heap.size 5 1 v xs.length (bcells xs) ∧ Below w.heap.size w w'

set_option maxRecDepth 10000 in
set_option maxHeartbeats 1000000 in
theorem read_any (h : DiskAt w d D) (s : ByteArray) (hs : s.size ≤ maxLen) :
    Calls Tryd.prog 45 #[.pointer (some ⟨d, 0, none⟩), .string s] w (ReadOut w (D.abs.read s.data.toList).1 (D.abs.read s.data.toList).2) := by
  by_cases hz : D.abs.there s.data.toList = 0
  · obtain ⟨hr, f, hf⟩ := there_zero h _ hz
    have T := Lib.hid (there_yes h s hs f hf hr)
    have hp := look_some hf
    have habs : lookF D.abs.files s.data.toList = some f.c := by rw [look_abs, hf]; rfl
    have ev : D.abs.read s.data.toList = (f.c.safe ++ f.c.wait, 0) := by unfold ADsk.read; rw [if_neg (fun hx => hx hz), habs]; rfl
    rw [ev]
    have hF := h.files _ hp
    obtain ⟨a1, k1, a2, k2, e3, e4, f1, f2⟩ := hF.shape
    have hlen : f.c.safe.length + f.c.wait.length ≤ 1048576 := h.ok.small (s.data.toList, f.c) (List.mem_map.2 ⟨_, hp, rfl⟩)
    have hfin := h.lt
    -- the two slices in a new row
    let w2 : World := (w.alloc (.cells #[.slice a1 f.c.safe.length k1, .slice a2 f.c.wait.length k2] 22)).drew
    have hw2 : w2 = (w.alloc (.cells #[.slice a1 f.c.safe.length k1, .slice a2 f.c.wait.length k2] 22)).drew := rfl
    have hb2 : Below w.heap.size w w2 := ((Below.refl _ _).alloc (Nat.le_refl _) _).drew
    have hsz : w2.heap.size = w.heap.size + 1 := by rw [hw2]; simp
    have hcell : ∀ o, w2.cell? ⟨w.heap.size, o, none⟩ = (#[.slice a1 f.c.safe.length k1, .slice a2 f.c.wait.length k2] : Array Value)[o]? := fun o => cell_of_heap (w := w2) (heap_alloc_new w _) o
    have hown : ∀ (k : Nat), k ∈ f.blocks → k < w.heap.size := fun k hk => h.lt k (by simp only [Dsk.blocks, fblocks, List.mem_cons, List.mem_flatMap]; exact Or.inr (Or.inr ⟨_, hp, hk⟩))
    have hP : Parts w2 w.heap.size [.slice a1 f.c.safe.length k1, .slice a2 f.c.wait.length k2] [f.c.safe, f.c.wait] := by
      refine ⟨rfl, fun k hk => ?_, fun k hk hk' => ?_⟩
      · match k, hk with
        | 0, _ => exact ⟨_, _, _, rfl, hcell 0⟩
        | 1, _ => exact ⟨_, _, _, rfl, hcell 1⟩
      · match k, hk, hk' with
        | 0, _, _ =>
          have := ownsRow_reads hF.safe
          rw [e3] at this
          exact this.kept ((Mod.refl (fun k => w.heap.size ≤ k) w).below hb2 (fun i _ h => h)) (fun i hi hx => by have := hown i (by rw [← e3] at hi; simp [Fil.blocks, hi]); omega)
        | 1, _, _ =>
          have := ownsRow_reads hF.wait
          rw [e4] at this
          exact this.kept ((Mod.refl (fun k => w.heap.size ≤ k) w).below hb2 (fun i _ h => h)) (fun i hi hx => by have := hown i (by rw [← e4] at hi; simp [Fil.blocks, hi]); omega)
    have hcc := concat_walk w2 w.heap.size _ _ hP (by omega) (fun v hv k hk => by
      simp only [List.mem_cons, List.not_mem_nil, or_false] at hv
      rcases hv with rfl | rfl
      · have := hown k (by rw [← e3] at hk; simp [Fil.blocks, hk]); omega
      · have := hown k (by rw [← e4] at hk; simp [Fil.blocks, hk]); omega) (fun k => by have := joined_le [f.c.safe, f.c.wait] k; simp at this; omega) (by simp)
    have ej : joined [f.c.safe, f.c.wait] [f.c.safe, f.c.wait].length = f.c.safe ++ f.c.wait := by rw [joined_all]; simp
    rw [ej] at hcc
    have CC := Lib.hid hcc
    have HB := Lib.hid hb2
    have HZ := Lib.hid hsz
    have HW := Lib.hid hw2
    clear_value w2
    clear h hs hz hr hf hp habs ev hF e3 e4 hfin hb2 hsz hcell hown hP hcc ej hw2
    go_enter Tryd.func45, Tryd.ntmps45
    go_wp2_with fail
    refine T.out.mono ?_
    rintro e w1 ⟨rfl, rfl⟩
    go_wp2_with fail
    refine wp_region_lex [8, 9] [] (by kernel_rfl) (by kernel_rfl) ?_
    refine LexG_still 8 (by kernel_rfl) ?_
    simp only [List.take_succ_cons, List.take_zero, List.drop_succ_cons, List.drop_zero, Nat.reduceAdd]
    repeat (go_big_quiet_step (fail))
    refine wpQuiet_nil ?_
    refine LexG_eff (by kernel_rfl) rfl (fun K hK => ?_)
    go_simp
    refine hK _ _ ?_
    clear hK
    refine LexG_eff (by kernel_rfl) rfl (fun K hK => ?_)
    go_simp
    rw [← HW.out]
    refine CC.out.mono ?_
    rintro e w3 ⟨v, rfl, ho, hbl⟩
    have HF := Lib.hid (show ReadOut w (f.c.safe ++ f.c.wait) 0 (.returned (.tuple #[v, .int .i64 0])) w3 from ⟨v, rfl, ownsRow_base ho (fun k hk => by have := (ho.lt k hk).1; rw [HZ.out] at this; omega), HB.out.trans (hbl.mono HB.out.size)⟩)
    clear ho hbl
    refine hK _ _ ?_
    clear hK
    refine LexG_still 2 (by kernel_rfl) ?_
    simp only [List.take_succ_cons, List.take_zero, List.drop_succ_cons, List.drop_zero, Nat.reduceAdd]
    repeat (go_big_quiet_step (fail))
    refine wpQuiet_nil ?_
    refine LexG_nil ?_
    go_wp2_with fail
    go_ret2
    exact HF.out
  · have ev : D.abs.read s.data.toList = ([], D.abs.there s.data.toList) := by unfold ADsk.read; rw [if_pos hz]
    rw [ev]
    have T := Lib.hid (there_no h s hs hz)
    have hb : (D.abs.there s.data.toList == 0) = false := by simpa using hz
    have Hs := Lib.hid (show ReadOut w [] (D.abs.there s.data.toList) (.returned (.tuple #[.slice none 0 0, .int .i64 (D.abs.there s.data.toList)])) w from ⟨_, rfl, World.ownsRow_nil _ _ _ _, Below.refl _ _⟩)
    clear h hs ev hz
    go_enter Tryd.func45, Tryd.ntmps45
    go_wp2_with fail
    refine T.out.mono ?_
    rintro e w1 ⟨rfl, rfl⟩
    go_wp2_with fail
    go_ret2
    exact Hs.out
end
end Go.Proofs.YtmpdmejlpicdlaaDoor

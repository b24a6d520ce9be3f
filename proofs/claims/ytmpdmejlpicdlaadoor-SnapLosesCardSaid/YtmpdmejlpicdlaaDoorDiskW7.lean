/- The disk's other small methods; a disk that is nil. -/
import Derived.Test.YtmpdmejlpicdlaaDoorDiskW6
import Derived.Lib.AppendZeros
namespace Go.Proofs.YtmpdmejlpicdlaaDoor
open Go.RowKit Go.Bw Go.Maps
set_option linter.unusedVariables false
set_option linter.unusedSimpArgs false

set_option maxHeartbeats 400000 in
theorem new_any (w : World) (room : Int) :
    Calls Tryd.prog 19 #[.int .i64 room] w fun e w' => e = .returned (.pointer (some ⟨w.heap.size + 1, 0, none⟩)) ∧ DiskAt w' (w.heap.size + 1) ⟨w.heap.size, [], room, false, 0, 0, 0⟩ ∧ Below w.heap.size w w' ∧ w'.heap.size = w.heap.size + 2 := by
  have hmm := @run_makeMap Tryd.prog
  have hd : DiskAt ((w.alloc (.map #[] 0)).alloc (.cells #[.map (some w.heap.size), .int .i64 room, .bool false, .int .i64 0, .int .i64 0, .int .i64 0] 70)) (w.heap.size + 1) ⟨w.heap.size, [], room, false, 0, 0, 0⟩ := by
    have e : (w.alloc (.map #[] 0)).heap.size = w.heap.size + 1 := by simp
    refine ⟨?_, ?_, (by intro p hp; cases hp), (by simp [Dsk.blocks, fblocks]), ⟨(by simp [Dsk.abs]), (by intro p hp; simp [Dsk.abs] at hp), (by simp [Dsk.abs, Rising]), (by simp [Dsk.abs]), (by simp [Dsk.abs]), (by intro p hp; simp [Dsk.abs] at hp), (by simp [Dsk.abs]), (by simp [Dsk.abs])⟩⟩
    · have := heap_alloc_new (w.alloc (.map #[] 0)) (.cells #[.map (some w.heap.size), .int .i64 room, .bool false, .int .i64 0, .int .i64 0, .int .i64 0] 70)
      rw [e] at this; exact this
    · exact ((World.ownsMap_made w Tryd.prog 9 ptrElem).mono (by omega)).alloc _
  have Hd := Lib.hid hd
  clear hd
  go_enter Tryd.func19, Tryd.ntmps19
  go_wp2
  go_ret
  exact ⟨rfl, Hd.out, ((Below.refl _ _).alloc (Nat.le_refl _) _).alloc (by simp) _, by simp⟩

section
variable {w : World} {d : Nat} {D : Dsk}

theorem DStep.own {w' : World} {D' : Dsk} (h : DiskAt w d D) (hm : Mod (fun k => k = d) w w') (hd : DiskAt w' d D') (hb : D'.blocks d = D.blocks d) : DStep w d D w' D'.abs :=
  ⟨D', hd, rfl, hm.mono (fun i _ e => by rw [e]; simp [Dsk.blocks]), fun k hk => Or.inl (by rw [← hb]; exact hk)⟩

set_option maxHeartbeats 400000 in
theorem room_any (h : DiskAt w d D) (n : Int) :
    Calls Tryd.prog 37 #[.pointer (some ⟨d, 0, none⟩), .int .i64 n] w fun e w' => e = .returned (.tuple #[]) ∧ DStep w d D w' { D.abs with room := n } := by
  have c1 := h.c1
  have fz := h.fz
  have hm : Mod (fun k => k = d) w (w.setCell ⟨d, 1, none⟩ (.int .i64 n)) := (Mod.refl (fun k => k = d) w).setCell _ (fun _ => rfl)
  have hc := heap_setCell_at h.cells 1 (.int .i64 n)
  have hd : DiskAt (w.setCell ⟨d, 1, none⟩ (.int .i64 n)) d { D with room := n } := h.own hm (by simpa using hc) rfl rfl ⟨h.ok.few, h.ok.small, h.ok.rising, h.ok.ar0, h.ok.ar1, h.ok.names, h.ok.kp0, h.ok.kp1⟩
  have Hs := Lib.hid (DStep.own h hm hd rfl)
  clear h hm hc hd
  go_enter Tryd.func37, Tryd.ntmps37
  go_wp2
  go_end0
  exact ⟨rfl, Hs.out⟩

set_option maxHeartbeats 400000 in
theorem arm_any (h : DiskAt w d D) (n keep : Int) (hn1 : n ≤ 9223372036854775807) (hk0 : -9223372036854775808 ≤ keep) (hk1 : keep ≤ 9223372036854775807) :
    Calls Tryd.prog 22 #[.pointer (some ⟨d, 0, none⟩), .int .i64 n, .int .i64 keep] w fun e w' => e = .returned (.tuple #[]) ∧ DStep w d D w' (D.abs.arm n keep) := by
  have c4 := h.c4
  have c5 := h.c5
  have fz := h.fz
  obtain ⟨M, hM⟩ : ∃ M, M = max n 0 := ⟨_, rfl⟩
  have hm : Mod (fun k => k = d) w ((w.setCell ⟨d, 4, none⟩ (.int .i64 M)).setCell ⟨d, 5, none⟩ (.int .i64 keep)) := ((Mod.refl (fun k => k = d) w).setCell _ (fun _ => rfl)).setCell _ (fun _ => rfl)
  have hc := heap_setCell_at (heap_setCell_at h.cells 4 (.int .i64 M)) 5 (.int .i64 keep)
  have hd : DiskAt ((w.setCell ⟨d, 4, none⟩ (.int .i64 M)).setCell ⟨d, 5, none⟩ (.int .i64 keep)) d { D with ar := M, kp := keep } := h.own hm (by simpa using hc) rfl rfl ⟨h.ok.few, h.ok.small, h.ok.rising, by show 0 ≤ M; omega, by show M ≤ _; omega, h.ok.names, hk0, hk1⟩
  have e : D.abs.arm n keep = ({ D with ar := M, kp := keep } : Dsk).abs := by simp [ADsk.arm, Dsk.abs, hM]
  have Hs := Lib.hid (DStep.own h hm hd rfl)
  rw [← e] at Hs
  have hmx : (if n < 0 then 0 else n) = M := by rw [hM]; split <;> omega
  clear h hm hc hd hM e hn1 hk0 hk1
  go_enter Tryd.func22, Tryd.ntmps22
  go_wp2
  go_end0
  exact ⟨rfl, Hs.out⟩

set_option maxHeartbeats 400000 in
theorem on_any (h : DiskAt w d D) :
    Calls Tryd.prog 25 #[.pointer (some ⟨d, 0, none⟩)] w fun e w' => e = .returned (.tuple #[]) ∧ DStep w d D w' { D.abs with off := false } := by
  have c2 := h.c2
  have fz := h.fz
  have hm : Mod (fun k => k = d) w (w.setCell ⟨d, 2, none⟩ (.bool false)) := (Mod.refl (fun k => k = d) w).setCell _ (fun _ => rfl)
  have hc := heap_setCell_at h.cells 2 (.bool false)
  have hd : DiskAt (w.setCell ⟨d, 2, none⟩ (.bool false)) d { D with off := false } := h.own hm (by simpa using hc) rfl rfl ⟨h.ok.few, h.ok.small, h.ok.rising, h.ok.ar0, h.ok.ar1, h.ok.names, h.ok.kp0, h.ok.kp1⟩
  have Hs := Lib.hid (DStep.own h hm hd rfl)
  clear h hm hc hd
  go_enter Tryd.func25, Tryd.ntmps25
  go_wp2
  go_end0
  exact ⟨rfl, Hs.out⟩

set_option maxHeartbeats 400000 in
theorem down_any (h : DiskAt w d D) :
    Calls Tryd.prog 23 #[.pointer (some ⟨d, 0, none⟩)] w fun e w' => e = .returned (.bool D.off) ∧ w = w' := by
  have c2 := h.c2
  clear h
  go_enter Tryd.func23, Tryd.ntmps23
  go_wp2
  go_ret
  exact ⟨rfl, rfl⟩

end

/-! ### the library's Grow and Concat, at bytes -/
set_option maxRecDepth 10000 in
set_option maxHeartbeats 400000 in
theorem grow_walk (w w1 : World) (n c : Nat) (hn : n ≤ 140737488355328) (hpos : (0 : Int) < (n : Int)) (hcne : ¬ c = 0)
    (Hrun : Hid ((Builtin.append_ #[22, 3] 22 #[.slice none 0 0, .int .i64 n]).run Tryd.prog w = .ok (.slice (some ⟨w.heap.size, 0, none⟩) n c) w1)) :
    Calls Tryd.prog 73 #[.slice none 0 0, .int .i64 (n : Nat)] w fun e w' => e = .returned (.slice (some ⟨w.heap.size, 0, none⟩) 0 c) ∧ w' = w1 := by
  go_enter Tryd.func73, Tryd.ntmps73
  go_wp2_with (at_builtin; refine Lib.wpList_append_run _ rfl (.tmp 20) (.tmp 21) 22 3 rfl _ _ rfl rfl _ _ Hrun.out ?_)
  go_ret
  exact ⟨rfl, rfl⟩

set_option maxRecDepth 10000 in
set_option maxHeartbeats 400000 in
theorem grow_nil (w : World) (n : Nat) (hn : n ≤ 140737488355328) :
    Calls Tryd.prog 73 #[.slice none 0 0, .int .i64 n] w fun e w' => ∃ v, e = .returned v ∧ w'.ownsRow w.heap.size 5 1 v 0 [] ∧ Below w.heap.size w w' := by
  by_cases h0 : n = 0
  · subst h0
    have P0 := Lib.hid (show ∀ e w', e = Ending.returned (Value.slice none 0 0) → w' = w → ∃ v, e = .returned v ∧ w'.ownsRow w.heap.size 5 1 v 0 [] ∧ Below w.heap.size w w' from fun e w' h1 h2 => by subst h2; exact ⟨_, h1, World.ownsRow_nil _ _ _ _, Below.refl _ _⟩)
    refine (?_ : Calls Tryd.prog 73 #[.slice none 0 0, .int .i64 (0 : Nat)] w fun e w' => e = .returned (.slice none 0 0) ∧ w' = w).mono (fun e w' h => P0.out e w' h.1 h.2)
    clear P0
    go_enter Tryd.func73, Tryd.ntmps73
    go_wp2_with fail
    go_ret
    exact ⟨rfl, rfl⟩
  · obtain ⟨i0, hi, hz0, hz1, hz2⟩ := info_parts TByte.info
    have hrun := Lib.run_append_nil_zeros (P := Tryd.prog) w 22 3 22 5 i0 (.int .u8 0) .i64 .i64 Tryd.underlying22 Tryd.underlying3 hi hz0 n (by omega) (by omega) (by omega) (by rw [hz2]; omega)
    obtain ⟨c, hc⟩ : ∃ c, c = grownCap w n 0 5 := ⟨_, rfl⟩
    obtain ⟨w1, hw1⟩ : ∃ w1, w1 = w.drew.alloc (.cells (Builtin.zeroCells (Value.int .u8 0).cells n ++ Builtin.zeroCells (Value.int .u8 0).cells (c - n)) 5) := ⟨_, rfl⟩
    rw [← hc, ← hw1] at hrun
    have hcn : n ≤ c := by rw [hc]; exact grownCap_ge w n 0 5
    have hcm : c ≤ maxLen := by rw [hc]; exact grownCap_le_maxLen w n 0 5 (by unfold maxLen; omega)
    have hown : w1.ownsRow w.heap.size 5 1 (.slice (some ⟨w.heap.size, 0, none⟩) 0 c) 0 [] := by
      rw [hw1]
      refine ⟨by simp, .inr ⟨w.heap.size, c, _, rfl, Nat.le_refl _, heap_alloc_new w.drew _, Nat.zero_le _, hcm, ?_, by simp⟩⟩
      simp [size_zeroCells, Value.cells]; omega
    have hbel : Below w.heap.size w w1 := by rw [hw1]; exact ((Below.refl _ _).drew).alloc (Nat.le_refl _) _
    have Hrun := Lib.hid hrun
    have hb : ((n : Int) == 0) = false := by simpa using h0
    have hb2 : ¬ n = 0 := h0
    have hpos : (0 : Int) < (n : Int) := by omega
    have hcne : ¬ c = 0 := by omega
    have P0 := Lib.hid (show ∀ e w', e = Ending.returned (Value.slice (some ⟨w.heap.size, 0, none⟩) 0 c) → w' = w1 → ∃ v, e = .returned v ∧ w'.ownsRow w.heap.size 5 1 v 0 [] ∧ Below w.heap.size w w' from fun e w' h1 h2 => by subst h2; exact ⟨_, h1, hown, hbel⟩)
    exact (grow_walk w w1 n c hn hpos hcne Hrun).mono (fun e w' h => P0.out e w' h.1 h.2)

/-- The first k of lists of bytes, one behind the other. -/
def joined (xs : List (List Int)) (k : Nat) : List Int := (xs.take k).flatten
theorem joined_succ {xs : List (List Int)} {k : Nat} (h : k < xs.length) : joined xs (k + 1) = joined xs k ++ xs[k] := by
  unfold joined; rw [List.take_succ_eq_append_getElem h, List.flatten_append]; congr 1; simp [List.flatten]
theorem joined_le (xs : List (List Int)) : ∀ k, (joined xs k).length ≤ xs.flatten.length := by
  intro k
  unfold joined
  have h := congrArg List.length (congrArg List.flatten (List.take_append_drop k xs))
  rw [List.flatten_append, List.length_append] at h
  omega

structure Parts (w : World) (b : Nat) (vs : List Value) (xs : List (List Int)) : Prop where
  len : vs.length = xs.length
  cell : ∀ k (h : k < vs.length), ∃ a n c, vs[k] = .slice a n c ∧ w.cell? ⟨b, k, none⟩ = some (.slice a n c)
  reads : ∀ k (h : k < vs.length) (h' : k < xs.length), Reads w 1 vs[k] xs[k].length (bcells xs[k])

theorem reads_len {w : World} {v : Value} {m : Nat} {news : List Value} {a : Option Addr} {n c : Nat} (h : Reads w 1 v m news) (e : v = .slice a n c) : n = m := by
  subst e
  rcases h.2 with ⟨c', e, rfl⟩ | ⟨a', c', e, _⟩
  · cases e; rfl
  · cases e; rfl

theorem Parts.below {w w' : World} {b : Nat} {vs : List Value} {xs : List (List Int)} (h : Parts w b vs xs) (hb : b < w.heap.size) (hlt : ∀ v ∈ vs, ∀ k, v.ownBlock = some k → k < w.heap.size) (hm : Below w.heap.size w w') : Parts w' b vs xs := by
  refine ⟨h.len, fun k hk => ?_, fun k hk hk' => ?_⟩
  · obtain ⟨a, n, c, e, hc⟩ := h.cell k hk
    exact ⟨a, n, c, e, (hm.cell (p := ⟨b, k, none⟩) hb).trans hc⟩
  · exact (h.reads k hk hk').kept ((Mod.refl (fun k => w.heap.size ≤ k) w).below hm (fun i _ h => h)) (fun i hi hx => by have := hlt _ (List.getElem_mem hk) i hi; omega)

/-- A new row of bytes is answered; nothing that was there has turned. -/
def RowOut (w : World) (xs : List Int) (e : Ending) (w' : World) : Prop := ∃ v, e = .returned v ∧ w'.ownsRow w.heap.size 5 1 v xs.length (bcells xs) ∧ Below w.heap.size w w'

set_option maxRecDepth 10000 in
set_option maxHeartbeats 1000000 in
theorem concat_walk (w : World) (b : Nat) (vs : List Value) (xs : List (List Int)) (h : Parts w b vs xs) (hb : b < w.heap.size) (hlt : ∀ v ∈ vs, ∀ k, v.ownBlock = some k → k < w.heap.size) (hsum : ∀ k, (joined xs k).length ≤ 140737488355328) (hcnt : xs.length ≤ 1000) :
    Calls Tryd.prog 61 #[.slice (some ⟨b, 0, none⟩) xs.length xs.length] w (RowOut w (joined xs xs.length)) := by
  obtain ⟨i0, hi, hz0, hz1, hz2⟩ := info_parts TByte.info
  have H := Lib.hid h
  have Hlt := Lib.hid hlt
  have Hjl := Lib.hid hsum
  have Hi := Lib.hid (And.intro hi (And.intro hz0 (And.intro hz1 hz2)))
  clear h hlt hsum hi hz0 hz1 hz2
  go_enter Tryd.func61, Tryd.ntmps61
  go_wp2
  go_loop [3, 11] (fun s i => ∃ k : Nat, k ≤ xs.length ∧ i = .int .i64 k ∧ s = .int .i64 (joined xs k).length) (fun _ i => xs.length - (intOf i).toNat)
  case atStart => exact ⟨0, Nat.zero_le _, rfl, rfl⟩
  case round =>
    obtain ⟨k, hk, rfl, rfl⟩ := hrel
    have hjk := Hjl.out k
    by_cases hlt : k < xs.length
    · obtain ⟨a, n, c, e, hc⟩ := H.out.cell k (by rw [H.out.len]; exact hlt)
      have hn := reads_len (H.out.reads k (by rw [H.out.len]; exact hlt) hlt) e
      subst hn
      have hjs := Hjl.out (k + 1)
      rw [joined_succ hlt, List.length_append] at hjs
      have J := Lib.hid (congrArg List.length (joined_succ hlt))
      clear e
      go_wp2
      go_round
      case rel => exact ⟨k + 1, by omega, by go_num, by rw [J.out, List.length_append]; go_num⟩
      case measure => simp [intOf]; omega
    · obtain rfl : k = xs.length := by omega
      go_wp2_with fail
      refine (grow_nil w _ hjk).mono ?_
      rintro e w1 ⟨v0, rfl, ho, hbl⟩
      have Ho := Lib.hid ho
      have Hbl := Lib.hid hbl
      clear ho hbl
      go_wp2_with fail
      go_loopw [6, 27] (fun v i wr => ∃ k : Nat, k ≤ xs.length ∧ i = .int .i64 k ∧ wr.ownsRow w.heap.size 5 1 v (joined xs k).length (bcells (joined xs k)) ∧ Below w.heap.size w wr) (fun _ i _ => xs.length - (intOf i).toNat)
      case atStart => exact ⟨0, Nat.zero_le _, rfl, Ho.out, Hbl.out⟩
      case round =>
        obtain ⟨k, hk2, rfl, hor, hbr⟩ := hrel
        have Hor := Lib.hid hor
        have Hbr := Lib.hid hbr
        clear hor hbr
        by_cases hlt2 : k < xs.length
        · have hk3 : k < vs.length := by rw [H.out.len]; exact hlt2
          obtain ⟨a, n, c, e, hc⟩ := H.out.cell k hk3
          have hn := reads_len (H.out.reads k hk3 hlt2) e
          subst hn
          have hc' := (Hbr.out.cell (p := ⟨b, k, none⟩) hb).trans hc
          have hP := H.out.below hb Hlt.out Hbr.out
          have hR := hP.reads k hk3 hlt2
          rw [e] at hR
          have hjs := Hjl.out (k + 1)
          rw [joined_succ hlt2, List.length_append] at hjs
          obtain ⟨h1, h2, h3, h4⟩ := Hi.out
          obtain ⟨v', w3, hrun, ho3, hm3, hb3, _⟩ := run_append_to (P := Tryd.prog) 22 22 5 i0 (.int .u8 0) 1 1 Tryd.underlying22 h1 h2 h3 h4 rfl (by decide) _ _ _ (ownsRow_base Hor.out (base' := 0) (fun _ _ => Nat.zero_le _)) _ _ _ hR (bcells_one _) (by unfold maxLen; omega) (by omega)
          have hown' : w3.ownsRow w.heap.size 5 1 v' (joined xs (k + 1)).length (bcells (joined xs (k + 1))) := by
            rw [joined_succ hlt2, List.length_append]
            have eb : bcells (joined xs k ++ xs[k]) = bcells (joined xs k) ++ bcells xs[k] := by simp [bcells]
            rw [eb]
            exact ownsRow_base ho3 (fun j hj => by
              rcases hb3 j hj with h5 | h5
              · exact (Hor.out.lt j h5).1
              · rw [h5]; exact Hbr.out.size)
          have hbel' : Below w.heap.size w w3 := Hbr.out.trans ⟨hm3.os, hm3.tape, hm3.output, hm3.size, fun j hj => hm3.block j (Nat.lt_of_lt_of_le hj Hbr.out.size) (fun e => by have := (Hor.out.lt j e).1; omega)⟩
          have Ho3 := Lib.hid hown'
          have Hb3 := Lib.hid hbel'
          have Hrun := Lib.hid hrun
          clear hown' hbel' hrun ho3 hm3 hb3 hR hP hc e h1 h2 h3 h4
          go_wp2_with (at_builtin; refine wpList_append_run rfl (.tmp 31) (.tmp 32) 22 rfl rfl rfl Hrun.out ?_)
          go_roundw
          case rel => exact ⟨k + 1, by omega, by go_num, Ho3.out, Hb3.out⟩
          case measure => simp [intOf]; omega
        · obtain rfl : k = xs.length := by omega
          go_wp2_with fail
          go_ret
          exact ⟨_, rfl, Hor.out, Hbr.out⟩

theorem joined_all (xs : List (List Int)) : joined xs xs.length = xs.flatten := by unfold joined; rw [List.take_length]
end Go.Proofs.YtmpdmejlpicdlaaDoor

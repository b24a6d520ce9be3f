/- 'wakes' of the snapshots' laws. -/
import Derived.Test.YtmpdmejlpicdlaaDoorSnapL
import Derived.Lib.SlBytesConst
import Derived.Laws.BytesArg
namespace Go.Proofs.YtmpdmejlpicdlaaDoor
open Go.RowKit Go.Bw Go.Maps
set_option linter.unusedVariables false
set_option linter.unusedSimpArgs false

def swk : ADsk := (saveA (ADsk.new 1000) 7 [97, 98]).1
theorem swk1 : (saveA (ADsk.new 1000) 7 [97, 98]).2 = 0 := by kernel_rfl
theorem swk2 : loadGo swk.files (-1, []) = (7, [97, 98]) := by kernel_rfl
theorem swk3 : swk.off = false := by kernel_rfl
theorem swk4 : swk.names = [[115, 48, 48, 48, 48, 48, 48, 48, 48, 55]] := by kernel_rfl
theorem swk5 : BytesF swk.files := by
  have : (swk.files.all fun p => p.2.all.all fun x => decide (0 ≤ x) && decide (x ≤ 255)) = true := by kernel_rfl
  intro p hp x hx
  have := List.all_eq_true.1 (List.all_eq_true.1 this p hp) x hx
  simpa using this

set_option maxRecDepth 100000 in
set_option maxHeartbeats 4000000 in
theorem swakes_any (w : World) (hL : Laid w) : Calls Tryd.prog 11 #[] w (SaysOut w true) := by
  have HL := Lib.hid hL
  clear hL
  have kc := fun (w : World) (C : Array Value) (n c : Nat) => Lib.run_convert_bytes_const (P := Tryd.prog) w 22 5 C n c Tryd.underlying22 Tryd.underlying5
  go_enter Tryd.func11, Tryd.ntmps11
  go_wp2_with fail
  refine (held_new w 1000).mono ?_
  rintro e w1 ⟨rfl, hH, hb, hs⟩
  have H1 := Lib.hid hH
  have B1 := Lib.hid hb
  have L1 := Lib.hid (HL.out.below hb)
  clear hH hb hs
  go_wp2_with fail
  have R2 := Lib.hid (show Reads (w1.alloc (.cells #[.int .u8 97, .int .u8 98] 5 (2, 3))) 1 (.slice (some ⟨w1.heap.size, 0, none⟩) 2 2) 2 (bcells [97, 98]) from reads_const w1 [97, 98] (2, 3))
  have H2 := Lib.hid (H1.out.fresh ((Mod.refl (fun _ => False) w1).alloc (.cells #[.int .u8 97, .int .u8 98] 5 (2, 3))) (fun _ _ h => h.elim))
  have L2 := Lib.hid (L1.out.mod ((Mod.refl (fun _ => False) w1).alloc (.cells #[.int .u8 97, .int .u8 98] 5 (2, 3))) (fun _ _ h => h))
  have S := save_any H2.out 7 (by decide) (by decide) (.slice (some ⟨w1.heap.size, 0, none⟩) 2 2) [97, 98] R2.out (fun _ k hk => Or.inr (by cases hk; simp)) (by decide) L2.out (fun k hk => Or.inl (HL.out.lt hk))
  rw [swk1] at S
  refine S.mono ?_
  rintro e w3 ⟨rfl, hH, hm⟩
  have H3 := Lib.hid (show Held (fun k => k < w.heap.size) w3 (w.heap.size + 1) swk from hH.weaken (fun k hk => Or.inl hk))
  have L3 := Lib.hid (L2.out.mod hm (fun k hk h => h (Or.inl (HL.out.lt hk))))
  have M3 := Lib.hid (show Below w.heap.size w w3 from by
    have m1 := (Mod.ofBelow B1.out).trans ((Mod.refl (fun _ => False) w1).alloc (.cells #[.int .u8 97, .int .u8 98] 5 (2, 3))) (fun _ _ h => h)
    have m2 := (m1.mono (T := fun k => ¬ k < w.heap.size) (fun _ _ h => h.elim)).trans hm (fun k _ h hk => h (Or.inl hk))
    exact (m2.mono (T := fun _ => False) (fun k hk h => h hk)).toBelow)
  clear S hH hm
  go_wp2_with fail
  have LD := load_any H3.out swk5 L3.out
  rw [swk3, swk2] at LD
  refine LD.mono ?_
  rintro e w4 ⟨v4, rfl, ho, hb, hH⟩
  have O4 := Lib.hid (show w4.ownsRow w3.heap.size 5 1 v4 2 (bcells [97, 98]) from ho)
  have H4 := Lib.hid (hH.weaken (T := fun k => k < w.heap.size ∨ (w3.heap.size ≤ k ∧ k < w4.heap.size)) (fun k hk => hk))
  have B4 := Lib.hid (M3.out.trans (hb.mono M3.out.size))
  clear LD ho hb hH
  go_wp2_with fail
  refine (held_names H4.out).mono ?_
  rw [swk4]
  rintro e w5 ⟨v5, rfl, ho, hb, hH⟩
  obtain ⟨a5, c5, hv5, _⟩ := ownsRow_slice ho
  subst hv5
  have hcell := row_cell ho (j := 0) (u := .string ⟨#[115, 48, 48, 48, 48, 48, 48, 48, 48, 55]⟩) rfl
  obtain ⟨b5, rfl⟩ := hcell.1
  have hcell := hcell.2 _ rfl
  have kv := convert_reads (w := w5) (x := 97) (xs := [98]) (Reads.kept (ownsRow_reads O4.out) (Mod.ofBelow hb) (fun _ _ h => h))
  rw [show strOfNums [97, 98] = ⟨#[97, 98]⟩ from by kernel_rfl] at kv
  obtain ⟨a4, c4, hv4, _⟩ := ownsRow_slice O4.out
  subst hv4
  have B5 := Lib.hid (B4.out.trans (hb.mono B4.out.size))
  clear ho hb hH
  go_wp2_with fail
  go_ret
  exact ⟨rfl, B5.out⟩
end Go.Proofs.YtmpdmejlpicdlaaDoor

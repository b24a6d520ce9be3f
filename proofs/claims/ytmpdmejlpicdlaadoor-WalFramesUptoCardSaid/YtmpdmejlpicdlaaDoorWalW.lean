/- 'wakes' of the journal's laws. -/
import Derived.Test.YtmpdmejlpicdlaaDoorWalA
import Derived.Test.YtmpdmejlpicdlaaDoorWalE
import Derived.Lib.SlBytesConst
import Derived.Laws.BytesArg
namespace Go.Proofs.YtmpdmejlpicdlaaDoor
open Go.RowKit Go.Bw Go.Maps
set_option linter.unusedVariables false
set_option linter.unusedSimpArgs false

def wwk : AWal := (AWal.append ⟨ADsk.new 1000, 2, 1, 1, 0⟩ [97]).1
theorem wwk0 : openA (ADsk.new 1000) 2 = ⟨ADsk.new 1000, 0, 1, 1, 1, []⟩ := by kernel_rfl
theorem wwk1 : AWal.append ⟨ADsk.new 1000, 2, 1, 1, 0⟩ [97] = (wwk, 1, 0) := by kernel_rfl
theorem wwk2 : (openA wwk.dsk 2).er = 0 := by kernel_rfl
theorem wwk3 : (openA wwk.dsk 2).first = 1 := by kernel_rfl
theorem wwk4 : (openA wwk.dsk 2).out = [[97]] := by kernel_rfl
theorem wwk5 : wwk.dsk.off = false := by kernel_rfl
theorem wwk6 : BytesF wwk.dsk.files := by
  have : (wwk.dsk.files.all fun p => p.2.all.all fun x => decide (0 ≤ x) && decide (x ≤ 255)) = true := by kernel_rfl
  intro p hp x hx
  have := List.all_eq_true.1 (List.all_eq_true.1 this p hp) x hx
  simpa using this

/-- An opening that does not fail. -/
theorem open_ok {Q : Nat → Prop} {w : World} {d : Nat} {A : ADsk} (h : Held Q w d A) (hB : BytesF A.files) (per : Int) (hp0 : 1 ≤ per) (hp1 : per ≤ 9223372036854775807) (hoff : A.off = false) (hL : Laid w) (hLQ : ∀ k, Lk k → Q k) (h0 : (openA A per).er = 0) :
    Calls Tryd.prog 36 #[.pointer (some ⟨d, 0, none⟩), .int .i64 per] w fun e w' => ∃ Q' wp rv, e = .returned (.tuple #[.pointer (some ⟨wp, 0, none⟩), rv, .int .i64 (openA A per).first, .int .i64 0]) ∧ (∀ k, Q k → Q' k) ∧ ¬ Q wp ∧
      WalAt Q' w' wp d ⟨(openA A per).dsk, per, (openA A per).wf, (openA A per).wn, 0⟩ ∧ RowsAt w' Q' rv (openA A per).out ∧ Mod (fun k => ¬ Q k) w w' := by
  refine (open_any h hB per hp0 hp1 hoff hL hLQ).mono ?_
  rintro e w' ⟨Q', left, ⟨_, wp, rv, h1, h2, h3, h4, h5⟩ | ⟨h1, _⟩⟩
  · exact ⟨Q', wp, rv, h1, left.grow, h4, ⟨h2, h3, left.disk⟩, h5, left.mod⟩
  · exact absurd h0 h1

set_option maxRecDepth 100000 in
set_option maxHeartbeats 3000000 in
theorem wwakes_any (w : World) (hL : Laid w) : Calls Tryd.prog 27 #[] w (SaysOut w true) := by
  have HL := Lib.hid hL
  clear hL
  have kc := fun (w : World) (C : Array Value) (n c : Nat) => Lib.run_convert_bytes_const (P := Tryd.prog) w 22 5 C n c Tryd.underlying22 Tryd.underlying5
  go_enter Tryd.func27, Tryd.ntmps27
  go_wp2_with fail
  refine (held_new w 1000).mono ?_
  rintro e w1 ⟨rfl, hH, hb, hs⟩
  have H1 := Lib.hid hH
  have B1 := Lib.hid hb
  have L1 := Lib.hid (HL.out.below hb)
  clear hH hb hs
  go_wp2_with fail
  have OP := open_ok H1.out (by intro p hp; cases hp) 2 (by decide) (by decide) rfl L1.out (fun k hk => HL.out.lt hk) (by rw [wwk0])
  rw [wwk0] at OP
  refine OP.mono ?_
  rintro e w2 ⟨Q2, wp, rv, rfl, hg, hnq, hW, hrow, hm⟩
  have W2 := Lib.hid hW
  have G2 := Lib.hid hg
  have M2 := Lib.hid (((Mod.ofBelow B1.out).mono (T := fun k => w.heap.size ≤ k) (fun _ _ h => h.elim)).trans hm (fun k _ h => Nat.le_of_not_lt h))
  have WP := Lib.hid hnq
  obtain ⟨vs2, hvs2, _⟩ := hrow.ex
  obtain ⟨a2, c2, hv2, _⟩ := ownsRow_slice hvs2
  subst hv2
  clear OP hW hg hm hnq hrow hvs2
  go_wp2_with fail
  have L3 := Lib.hid ((HL.out.grown M2.out).mod ((Mod.refl (fun _ => False) w2).alloc (.cells #[.int .u8 97] 5 (1, 2))) (fun _ _ h => h))
  have W3 := Lib.hid (W2.out.mod ((Mod.refl (fun _ => False) w2).alloc (.cells #[.int .u8 97] 5 (1, 2))) (fun _ _ h => h.elim))
  have AP := walAppend_any W3.out (by decide) (by decide) _ [97] (reads_const w2 [97] (1, 2)) (by decide) L3.out
  rw [wwk1] at AP
  refine AP.mono ?_
  rintro e w4 ⟨rfl, hW, hm⟩
  have W4 := Lib.hid hW
  have H4 := Lib.hid (hW.disk.weaken (T := fun k => k < w.heap.size) (fun k hk => G2.out k hk))
  have M4 := Lib.hid ((M2.out.alloc (.cells #[.int .u8 97] 5 (1, 2))).trans hm (fun k hk h => by
    rcases h with h | h
    · exact Nat.le_of_not_lt (fun hlt => h (G2.out k hlt))
    · subst h; exact Nat.le_of_not_lt WP.out))
  have L4 := Lib.hid (HL.out.grown M4.out)
  clear AP hW hm
  go_wp2_with fail
  have OP := open_ok H4.out wwk6 2 (by decide) (by decide) wwk5 L4.out (fun k hk => HL.out.lt hk) wwk2
  rw [wwk3, wwk4] at OP
  refine OP.mono ?_
  rintro e w5 ⟨Q5, wp5, rv5, rfl, hg, hnq, hW, hrow, hm⟩
  have M5 := Lib.hid (M4.out.trans hm (fun k _ h => Nat.le_of_not_lt h))
  obtain ⟨a5, c5, rfl, h5⟩ := hrow.rd.ex
  obtain ⟨a', u, rfl, hcell, hu⟩ := h5 0 [97] rfl
  obtain ⟨ua, uc, rfl⟩ := reads_form hu
  have kv := convert_reads (w := w5) (x := 97) (xs := []) hu
  rw [show strOfNums [97] = ⟨#[97]⟩ from by kernel_rfl] at kv
  have ha' : a'.add 0 = a' := by simp [Addr.add]
  rw [ha'] at hcell
  clear OP hg hnq hW hrow hm h5 hu ha'
  have hlen : ([97] : List Int).length = 1 := rfl
  rw [hlen] at kv hcell
  go_wp2_with fail
  go_ret
  exact ⟨rfl, (M5.out.mono (T := fun _ => False) (fun k hk h => by omega)).toBelow⟩
end Go.Proofs.YtmpdmejlpicdlaaDoor

/- Names, walked: the library's sorted keys by the shelf's contracts. -/
import Derived.Test.YtmpdmejlpicdlaaDoorDiskWb
import Derived.Test.YtmpdmejlpicdlaaDoorIter
import Derived.CallsIn
namespace Go.Proofs.YtmpdmejlpicdlaaDoor
open Go.RowKit Go.Bw Go.Maps Go.Sort
set_option linter.unusedVariables false
set_option linter.unusedSimpArgs false

theorem before_lt : ∀ a b : List UInt8, bytesBefore a b = true ↔ a < b
  | [], [] => by simp [bytesBefore]
  | [], _ :: _ => by simp [bytesBefore]
  | _ :: _, [] => by simp [bytesBefore]
  | x :: r, y :: s => by
    simp only [bytesBefore, Bool.or_eq_true, Bool.and_eq_true, decide_eq_true_eq, beq_iff_eq, List.cons_lt_cons_iff, before_lt r s]

theorem sorted_names {α : Type} {F : List (Nm × α)} (hr : Rising F) {ss : List (List UInt8)} (hp : ss.Perm (F.map (·.1))) : ss.mergeSort (fun x y => decide (x ≤ y)) = F.map (·.1) := by
  refine List.Perm.eq_of_pairwise (le := fun a b => a ≤ b) (fun a b _ _ h1 h2 => List.le_antisymm h1 h2) ?_ ?_ ((List.mergeSort_perm ss _).trans hp)
  · refine (List.pairwise_mergeSort (le := fun x y : List UInt8 => decide (x ≤ y)) (fun a b c h1 h2 => ?_) (fun a b => ?_) ss).imp (fun h => by simpa using h)
    · simp only [decide_eq_true_eq] at h1 h2 ⊢; exact List.le_trans h1 h2
    · simp only [Bool.or_eq_true, decide_eq_true_eq]; exact List.le_total a b
  · rw [List.pairwise_map]
    refine hr.imp (fun {p q} h => ?_)
    exact List.not_lt.1 (fun hx => by
      have h1 := (before_lt q.1 p.1).2 hx
      have h2 := WideShapes.bytes_trans _ _ _ h h1
      rw [before_irrefl] at h2; cases h2)

/-- A new row of strings; nothing that was there has turned. -/
def NamesOut (w : World) (ns : List Nm) (e : Ending) (w' : World) : Prop := ∃ v, e = .returned v ∧ w'.ownsRow w.heap.size 9 1 v ns.length (ns.map encStr) ∧ Below w.heap.size w w'

section
variable {w : World} {d : Nat} {D : Dsk}

set_option maxRecDepth 10000 in
set_option maxHeartbeats 1000000 in
theorem names_any (h : DiskAt w d D) :
    Calls Tryd.prog 26 #[.pointer (some ⟨d, 0, none⟩)] w (NamesOut w D.abs.names) := by
  have c0 := h.c0
  have c2 := h.c2
  cases ho : D.off
  · have en : D.abs.names = D.files.map (·.1) := by simp [ADsk.names, Dsk.abs, ho, List.map_map, Function.comp_def]
    rw [en]
    rw [ho] at c2
    have K := Lib.hid (callsIn_wide.1 (Tryd.maps_Keys_52 (some D.m) w))
    have hfew : D.files.length ≤ 16 := by have := h.ok.few; simpa [Dsk.abs] using this
    have S := Lib.hid (callsIn_wide.1 (Tryd.slices_Sorted_keys_51_52 D.m 16 (fdata D.files) ptrElem w h.map (by rw [size_fdata]; unfold maxLen; omega) (by rw [size_fdata]; omega)))
    have hr := Lib.hid (Dsk.rising h.ok)
    clear h ho en
    go_enter Tryd.func26, Tryd.ntmps26
    go_wp2_with fail
    refine K.out.mono ?_
    rintro e w1 ⟨rfl, rfl⟩
    go_wp2_with fail
    refine S.out.mono ?_
    rintro e w1 ⟨v, ss, rfl, hp, hown, hnil, hb⟩
    rw [strKeys_fdata] at hp
    have hlen : ss.length = (D.files.map (·.1)).length := hp.length_eq
    have HF := Lib.hid (show NamesOut w (D.files.map (·.1)) (.returned v) w1 from ⟨v, rfl, by
      rw [sorted_names hr.out hp, hlen] at hown
      exact ownsRow_base hown (fun k hk => by have := (hown.lt k hk).1; simp at this; omega), ((Below.refl _ w).alloc (Nat.le_refl _) _).trans (hb.mono (by simp))⟩)
    clear hp hown hnil hb hlen
    go_wp2_with fail
    go_ret
    exact HF.out
  · have en : D.abs.names = [] := by simp [ADsk.names, Dsk.abs, ho]
    rw [en]
    rw [ho] at c2
    have Hs := Lib.hid (show NamesOut w [] (.returned (.slice none 0 0)) w from ⟨_, rfl, World.ownsRow_nil _ _ _ _, Below.refl _ _⟩)
    clear h ho en
    go_enter Tryd.func26, Tryd.ntmps26
    go_wp2_with fail
    go_ret
    exact Hs.out
end
end Go.Proofs.YtmpdmejlpicdlaaDoor

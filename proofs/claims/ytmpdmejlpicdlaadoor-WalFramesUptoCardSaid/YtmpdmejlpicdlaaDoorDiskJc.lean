/- Joined: DiskWc, DiskLa, DiskLb, DiskLc, DiskKa, DiskKb. -/
import Derived.Test.YtmpdmejlpicdlaaDoorDiskJb
import Derived.Test.YtmpdmejlpicdlaaDoorIter
import Derived.CallsIn
import Derived.Lib.SlBytesConst
import Derived.Laws.BytesArg
/- Names, walked: the library's sorted keys by the shelf's contracts. -/
namespace Go.Proofs.YtmpdmejlpicdlaaDoor
open Go.RowKit Go.Bw Go.Maps Go.Sort
set_option linter.unusedVariables false
set_option linter.unusedSimpArgs false

theorem before_lt : ∀ a b : List UInt8, bytesBefore a b = true ↔ a < b
  | [], [] => by simp [bytesBefore]
  | [], _ :: _ => by simp [bytesBefore]
  | _ :: _, [] => by simp [bytesBefore]
  | x :: r, y :: s => by
    simp only [bytesBefore, Bool.or_eq_true, Bool.and_eq_true, decide_eq_true_eq, beq_iff_eq, List.cons_lt_cons_iff, before_lt r s]

theorem sorted_names {α : Type} {F : List (Nm × α)} (hr : Rising F) {ss : List (List UInt8)} (hp : ss.Perm (F.map (·.1))) : ss.mergeSort (fun x y => decide (x ≤ y)) = F.map (·.1) := by
  refine List.Perm.eq_of_pairwise (le := fun a b => a ≤ b) (fun a b _ _ h1 h2 => List.le_antisymm h1 h2) ?_ ?_ ((List.mergeSort_perm ss _).trans hp)
  · refine (List.pairwise_mergeSort (le := fun x y : List UInt8 => decide (x ≤ y)) (fun a b c h1 h2 => ?_) (fun a b => ?_) ss).imp (fun h => by simpa using h)
    · simp only [decide_eq_true_eq] at h1 h2 ⊢; exact List.le_trans h1 h2
    · simp only [Bool.or_eq_true, decide_eq_true_eq]; exact List.le_total a b
  · rw [List.pairwise_map]
    refine hr.imp (fun {p q} h => ?_)
    exact List.not_lt.1 (fun hx => by
      have h1 := (before_lt q.1 p.1).2 hx
      have h2 := WideShapes.bytes_trans _ _ _ h h1
      rw [before_irrefl] at h2; cases h2)

/-- A new row of strings; nothing that was there has turned. -/
def NamesOut (w : World) (ns : List Nm) (e : Ending) (w' : World) : Prop := ∃ v, e = .returned v ∧ w'.ownsRow w.heap.size 9 1 v ns.length (ns.map encStr) ∧ Below w.heap.size w w'

section
variable {w : World} {d : Nat} {D : Dsk}

set_option maxRecDepth 10000 in
set_option maxHeartbeats 1000000 in
theorem names_any (h : DiskAt w d D) :
    Calls Tryd.prog 26 #[.pointer (some ⟨d, 0, none⟩)] w (NamesOut w D.abs.names) := by
  have c0 := h.c0
  have c2 := h.c2
  cases ho : D.off
  · have en : D.abs.names = D.files.map (·.1) := by simp [ADsk.names, Dsk.abs, ho, List.map_map, Function.comp_def]
    rw [en]
    rw [ho] at c2
    have K := Lib.hid (callsIn_wide.1 (Tryd.maps_Keys_52 (some D.m) w))
    have hfew : D.files.length ≤ 16 := by have := h.ok.few; simpa [Dsk.abs] using this
    have S := Lib.hid (callsIn_wide.1 (Tryd.slices_Sorted_keys_51_52 D.m 16 (fdata D.files) ptrElem w h.map (by rw [size_fdata]; unfold maxLen; omega) (by rw [size_fdata]; omega)))
    have hr := Lib.hid (Dsk.rising h.ok)
    clear h ho en
    go_enter Tryd.func26, Tryd.ntmps26
    go_wp2_with fail
    refine K.out.mono ?_
    rintro e w1 ⟨rfl, rfl⟩
    go_wp2_with fail
    refine S.out.mono ?_
    rintro e w1 ⟨v, ss, rfl, hp, hown, hnil, hb⟩
    rw [strKeys_fdata] at hp
    have hlen : ss.length = (D.files.map (·.1)).length := hp.length_eq
    have HF := Lib.hid (show NamesOut w (D.files.map (·.1)) (.returned v) w1 from ⟨v, rfl, by
      rw [sorted_names hr.out hp, hlen] at hown
      exact ownsRow_base hown (fun k hk => by have := (hown.lt k hk).1; simp at this; omega), ((Below.refl _ w).alloc (Nat.le_refl _) _).trans (hb.mono (by simp))⟩)
    clear hp hown hnil hb hlen
    go_wp2_with fail
    go_ret
    exact HF.out
  · have en : D.abs.names = [] := by simp [ADsk.names, Dsk.abs, ho]
    rw [en]
    rw [ho] at c2
    have Hs := Lib.hid (show NamesOut w [] (.returned (.slice none 0 0)) w from ⟨_, rfl, World.ownsRow_nil _ _ _ _, Below.refl _ _⟩)
    clear h ho en
    go_enter Tryd.func26, Tryd.ntmps26
    go_wp2_with fail
    go_ret
    exact Hs.out
end
end Go.Proofs.YtmpdmejlpicdlaaDoor
/- 'same': two rows of bytes told apart. -/
namespace Go.Proofs.YtmpdmejlpicdlaaDoor
open Go.RowKit Go.Bw Go.Maps
set_option linter.unusedVariables false
set_option linter.unusedSimpArgs false

/-- A yes or a no; nothing that was there has turned. -/
def SaysOut (w : World) (b : Bool) (e : Ending) (w' : World) : Prop := e = .returned (.bool b) ∧ Below w.heap.size w w'

theorem reads_at {w : World} {a : Addr} {c : Nat} {xs : List Int} (h : Reads w 1 (.slice (some a) xs.length c) xs.length (bcells xs)) {k : Nat} (hk : k < xs.length) : w.cell? (a.add k) = some (.int .u8 xs[k]) := by
  rcases h.2 with ⟨c', e, h0⟩ | ⟨a', c', e, hc⟩
  · cases e
  · cases e
    exact hc k (.int .u8 xs[k]) (by simp [bcells, List.getElem?_eq_getElem hk])

theorem reads_empty {w : World} {n c : Nat} {xs : List Int} (h : Reads w 1 (.slice none n c) xs.length (bcells xs)) : n = 0 ∧ xs = [] := by
  rcases h.2 with ⟨c', e, h0⟩ | ⟨a, c', e, hc⟩
  · cases e; exact ⟨rfl, List.eq_nil_of_length_eq_zero h0⟩
  · cases e

/-- The slice's form. -/
theorem reads_form {w : World} {v : Value} {m : Nat} {cs : List Value} (h : Reads w 1 v m cs) : ∃ a c, v = .slice a m c := by
  rcases h.2 with ⟨c', e, h0⟩ | ⟨a, c', e, hc⟩
  · exact ⟨none, c', by rw [e, h0]⟩
  · exact ⟨some a, c', e⟩

theorem not_same_len {xs ys : List Int} (h : xs.length ≠ ys.length) : decide (xs = ys) = false := by
  rw [decide_eq_false_iff_not]; intro e; exact h (by rw [e])

theorem take_succ_same {xs ys : List Int} {k : Nat} (h : xs.take k = ys.take k) (h1 : k < xs.length) (h2 : k < ys.length) (e : xs[k] = ys[k]) : xs.take (k + 1) = ys.take (k + 1) := by
  rw [List.take_succ_eq_append_getElem h1, List.take_succ_eq_append_getElem h2, h, e]

set_option maxHeartbeats 1000000 in
theorem same_any (w : World) (v1 v2 : Value) (xs ys : List Int) (h1 : Reads w 1 v1 xs.length (bcells xs)) (h2 : Reads w 1 v2 ys.length (bcells ys)) (hl1 : xs.length ≤ 140737488355328) (hl2 : ys.length ≤ 140737488355328) :
    Calls Tryd.prog 16 #[v1, v2] w (SaysOut w (decide (xs = ys))) := by
  obtain ⟨a1, c1, rfl⟩ := reads_form h1
  obtain ⟨a2, c2, rfl⟩ := reads_form h2
  by_cases hl : xs.length = ys.length
  · have K : ∀ k (g1 : k < xs.length) (g2 : k < ys.length), ∃ p q : Nat × Nat × Option (Nat × Nat), True := fun _ _ _ => ⟨(0, 0, none), (0, 0, none), trivial⟩
    have H1 := Lib.hid h1
    have H2 := Lib.hid h2
    have L1 := Lib.hid hl1
    have L2 := Lib.hid hl2
    clear h1 h2 hl1 hl2 K
    go_enter Tryd.func16, Tryd.ntmps16
    go_wp2_with fail
    go_loopw [13] (fun i wr => ∃ k : Nat, k ≤ xs.length ∧ i = .int .i64 k ∧ xs.take k = ys.take k ∧ Below w.heap.size w wr) (fun i _ => xs.length - (intOf i).toNat)
    case atStart => exact ⟨0, Nat.zero_le _, rfl, rfl, Below.refl _ _⟩
    case round =>
      obtain ⟨k, hk, rfl, hs, hb⟩ := hrel
      have Hs := Lib.hid hs
      have Hb := Lib.hid hb
      clear hs hb
      by_cases hlt : k < xs.length
      · have hlt2 : k < ys.length := by omega
        cases a1 with
        | none => have := (reads_empty H1.out).2; rw [this] at hlt; cases hlt
        | some a1 =>
          cases a2 with
          | none => have := (reads_empty H2.out).2; rw [this] at hlt2; cases hlt2
          | some a2 =>
            have e1 := reads_at H1.out hlt
            have e2 := reads_at H2.out hlt2
            have g1 := (Hb.out.cell (World.block_lt_of_cell? w _ e1)).trans e1
            have g2 := (Hb.out.cell (World.block_lt_of_cell? w _ e2)).trans e2
            have HT := Lib.hid (fun e => take_succ_same Hs.out hlt hlt2 e)
            have HN := Lib.hid (show xs[k] ≠ ys[k] → decide (xs = ys) = false from fun h => by
              rw [decide_eq_false_iff_not]; intro e; exact h (by simp [e]))
            have hl1 := L1.out
            clear e1 e2
            go_wp2
            go_quiet (fail)
            go_wp2
            · rename_i hh
              go_ret
              exact ⟨congrArg _ (congrArg _ (HN.out (by simpa using hh)).symm), (⟨Hb.out.os, Hb.out.tape, Hb.out.output, Hb.out.size, Hb.out.block⟩ : Below w.heap.size w (wr.drewN _))⟩
            · rename_i hh
              exact ⟨⟨k + 1, by omega, by go_num, HT.out (by simpa using hh), (⟨Hb.out.os, Hb.out.tape, Hb.out.output, Hb.out.size, Hb.out.block⟩ : Below w.heap.size w (wr.drewN _))⟩, by simp [intOf]; omega⟩
      · obtain rfl : k = xs.length := by omega
        go_wp2_with fail
        go_ret
        exact ⟨by
          have := Hs.out
          rw [List.take_length, hl, List.take_length] at this
          simp [this], Hb.out⟩
  · have E := Lib.hid (not_same_len hl)
    have hl' : ¬ ((xs.length : Int) = ys.length) := by omega
    clear h1 h2
    go_enter Tryd.func16, Tryd.ntmps16
    go_wp2_with fail
    go_ret
    rw [E.out]
    exact ⟨rfl, Below.refl _ _⟩
end Go.Proofs.YtmpdmejlpicdlaaDoor
/- A disk held beside what is not its own: the methods' contracts in the form that the laws walk by. -/
namespace Go.Proofs.YtmpdmejlpicdlaaDoor
open Go.RowKit Go.Bw Go.Maps
set_option linter.unusedVariables false
set_option linter.unusedSimpArgs false

/-- A disk at d that reads as A; the blocks of O are not its own. -/
structure Held (O : Nat → Prop) (w : World) (d : Nat) (A : ADsk) : Prop where
  ex : ∃ D, DiskAt w d D ∧ D.abs = A ∧ ∀ k ∈ D.blocks d, ¬ O k
  lt : ∀ k, O k → k < w.heap.size

theorem DiskAt.blk_lt {w : World} {d : Nat} {D : Dsk} (h : DiskAt w d D) {k : Nat} (hk : k ∈ D.blocks d) : k < w.heap.size := by
  simp only [Dsk.blocks, fblocks, List.mem_cons, List.mem_flatMap] at hk
  rcases hk with rfl | rfl | ⟨p, hp, hk⟩
  · exact lt_of_heap h.cells
  · obtain ⟨es, clock, hb, F, hs, hD⟩ := h.map
    exact lt_of_heap hb
  · have hf := h.files p hp
    simp only [Fil.blocks, List.mem_cons, List.mem_append, Option.mem_toList] at hk
    rcases hk with rfl | hk | hk
    · exact lt_of_heap hf.cells
    · exact (hf.safe.lt k hk).2
    · exact (hf.wait.lt k hk).2

variable {O : Nat → Prop} {w w' : World} {d : Nat} {A A' : ADsk}

theorem Held.mod (h : Held O w d A) {T : Nat → Prop} (hm : Mod T w w') (hT : ∀ k, k < w.heap.size → T k → O k) : Held O w' d A := by
  obtain ⟨D, hd, e, hk⟩ := h.ex
  exact ⟨⟨D, hd.kept hm (fun k hk' hS => hk k hk' (hT k (hd.blk_lt hk') hS)), e, hk⟩, fun k hk => Nat.lt_of_lt_of_le (h.lt k hk) hm.size⟩

theorem Mod.ofBelow (h : Below w.heap.size w w') : Mod (fun _ => False) w w' := ⟨h.os, h.tape, h.output, h.size, fun k hk _ => h.block k hk⟩

/-- What was made by others is theirs. -/
theorem Held.fresh (h : Held O w d A) {T : Nat → Prop} (hm : Mod T w w') (hT : ∀ k, k < w.heap.size → T k → O k) : Held (fun k => O k ∨ (w.heap.size ≤ k ∧ k < w'.heap.size)) w' d A := by
  obtain ⟨D, hd, e, hk⟩ := (h.mod hm hT).ex
  obtain ⟨D0, hd0, e0, hk0⟩ := h.ex
  exact ⟨⟨D0, hd0.kept hm (fun k hk' hS => hk0 k hk' (hT k (hd0.blk_lt hk') hS)), e0, fun k hk' hO => hO.elim (hk0 k hk') (fun h2 => by have := hd0.blk_lt hk'; omega)⟩, fun k hk => hk.elim (fun h1 => Nat.lt_of_lt_of_le (h.lt k h1) hm.size) (fun h2 => h2.2)⟩

theorem Held.weaken (h : Held O w d A) {T : Nat → Prop} (hT : ∀ k, T k → O k) : Held T w d A := by
  obtain ⟨D, hd, e, hk⟩ := h.ex
  exact ⟨⟨D, hd, e, fun k hk' hT' => hk k hk' (hT k hT')⟩, fun k hk => h.lt k (hT k hk)⟩

theorem Held.ok (h : Held O w d A) : A.Ok := by
  obtain ⟨D, hd, e, hk⟩ := h.ex
  rw [← e]; exact hd.ok

theorem Held.step (h : Held O w d A) {B : Dsk → ADsk} (hs : ∀ D, DiskAt w d D → D.abs = A → DStep w d D w' A') : Held O w' d A' ∧ Mod (fun k => ¬ O k) w w' := by
  obtain ⟨D, hd, e, hk⟩ := h.ex
  obtain ⟨D', hd', e', hm, hn⟩ := hs D hd e
  exact ⟨⟨⟨D', hd', e', fun k hk' hO => (hn k hk').elim (fun h1 => hk k h1 hO) (fun h1 => by have := h.lt k hO; omega)⟩, fun k hO => Nat.lt_of_lt_of_le (h.lt k hO) hm.size⟩, hm.mono (fun k _ h1 => hk k h1)⟩

/-- A method has been called: the disk reads as A', what is not the disk's stands as it was. -/
def HStep (O : Nat → Prop) (w : World) (d : Nat) (v : Value) (A' : ADsk) (e : Ending) (w' : World) : Prop := e = .returned v ∧ Held O w' d A' ∧ Mod (fun k => ¬ O k) w w'

theorem held_of {F : Nat} {args : Array Value} {v : Value} (h : Held O w d A) (hc : ∀ D, DiskAt w d D → D.abs = A → (∀ k ∈ D.blocks d, ¬ O k) → Calls Tryd.prog F args w fun e w' => e = .returned v ∧ DStep w d D w' A') : Calls Tryd.prog F args w (HStep O w d v A') := by
  obtain ⟨D, hd, e, hk⟩ := h.ex
  refine (hc D hd e hk).mono ?_
  rintro e1 w1 ⟨rfl, D', hd', e', hm, hn⟩
  exact ⟨rfl, ⟨⟨D', hd', e', fun k hk' hO => (hn k hk').elim (fun h1 => hk k h1 hO) (fun h1 => by have := h.lt k hO; omega)⟩, fun k hO => Nat.lt_of_lt_of_le (h.lt k hO) hm.size⟩, hm.mono (fun k _ h1 => hk k h1)⟩

theorem held_new (w : World) (room : Int) :
    Calls Tryd.prog 19 #[.int .i64 room] w fun e w' => e = .returned (.pointer (some ⟨w.heap.size + 1, 0, none⟩)) ∧ Held (fun k => k < w.heap.size) w' (w.heap.size + 1) (ADsk.new room) ∧ Below w.heap.size w w' ∧ w'.heap.size = w.heap.size + 2 := by
  refine (new_any w room).mono ?_
  rintro e w1 ⟨rfl, hd, hb, hs⟩
  exact ⟨rfl, ⟨⟨_, hd, rfl, fun k hk hO => by simp [Dsk.blocks, fblocks] at hk; omega⟩, fun k hk => Nat.lt_of_lt_of_le hk hb.size⟩, hb, hs⟩

theorem held_append (h : Held O w d A) (s : ByteArray) (hs : s.size ≤ maxLen) (v : Value) (bs : List Int) (hrd : Reads w 1 v bs.length (bcells bs)) (hO : bs ≠ [] → ∀ k, v.ownBlock = some k → O k) (hbn : bs.length ≤ 140737488355328) :
    Calls Tryd.prog 47 #[.pointer (some ⟨d, 0, none⟩), .string s, v] w (HStep O w d (.int .i64 (A.append s.data.toList bs).2) (A.append s.data.toList bs).1) := by
  obtain ⟨a, c, rfl⟩ := reads_form hrd
  exact held_of h (fun D hd e hk => by
    subst e
    exact append_any hd s hs a bs.length c bs hrd (fun hne k hk' => ⟨h.lt k (hO hne k hk'), fun hin => hk k hin (hO hne k hk')⟩) hbn)

theorem held_sync (h : Held O w d A) (s : ByteArray) (hs : s.size ≤ maxLen) :
    Calls Tryd.prog 48 #[.pointer (some ⟨d, 0, none⟩), .string s] w (HStep O w d (.int .i64 (A.sync s.data.toList).2) (A.sync s.data.toList).1) :=
  held_of h (fun D hd e hk => by subst e; exact sync_any hd s hs)

theorem held_trunc (h : Held O w d A) (s : ByteArray) (hs : s.size ≤ maxLen) (n : Int) (hn0 : -9223372036854775808 ≤ n) (hn1 : n ≤ 9223372036854775807) :
    Calls Tryd.prog 71 #[.pointer (some ⟨d, 0, none⟩), .string s, .int .i64 n] w (HStep O w d (.int .i64 (A.trunc s.data.toList n).2) (A.trunc s.data.toList n).1) :=
  held_of h (fun D hd e hk => by subst e; exact trunc_any hd s hs n hn0 hn1)

theorem held_rename (h : Held O w d A) (s t : ByteArray) (hs : s.size ≤ maxLen) (ht : t.size ≤ maxLen) :
    Calls Tryd.prog 49 #[.pointer (some ⟨d, 0, none⟩), .string s, .string t] w (HStep O w d (.int .i64 (A.rename s.data.toList t.data.toList).2) (A.rename s.data.toList t.data.toList).1) :=
  held_of h (fun D hd e hk => by subst e; exact rename_any hd s t hs ht)

theorem held_remove (h : Held O w d A) (s : ByteArray) (hs : s.size ≤ maxLen) :
    Calls Tryd.prog 46 #[.pointer (some ⟨d, 0, none⟩), .string s] w (HStep O w d (.int .i64 (A.remove s.data.toList).2) (A.remove s.data.toList).1) :=
  held_of h (fun D hd e hk => by subst e; exact remove_any hd s hs)

theorem held_off (h : Held O w d A) (keep : Int) (hk0 : -9223372036854775808 ≤ keep) (hk1 : keep ≤ 9223372036854775807) :
    Calls Tryd.prog 24 #[.pointer (some ⟨d, 0, none⟩), .int .i64 keep] w (HStep O w d (.tuple #[]) (A.goesOff keep)) :=
  held_of h (fun D hd e hk => by subst e; exact off_any hd keep hk0 hk1)

theorem held_on (h : Held O w d A) :
    Calls Tryd.prog 25 #[.pointer (some ⟨d, 0, none⟩)] w (HStep O w d (.tuple #[]) { A with off := false }) :=
  held_of h (fun D hd e hk => by subst e; exact on_any hd)

theorem held_arm (h : Held O w d A) (n keep : Int) (hn1 : n ≤ 9223372036854775807) (hk0 : -9223372036854775808 ≤ keep) (hk1 : keep ≤ 9223372036854775807) :
    Calls Tryd.prog 22 #[.pointer (some ⟨d, 0, none⟩), .int .i64 n, .int .i64 keep] w (HStep O w d (.tuple #[]) (A.arm n keep)) :=
  held_of h (fun D hd e hk => by subst e; exact arm_any hd n keep hn1 hk0 hk1)

theorem held_down (h : Held O w d A) : Calls Tryd.prog 23 #[.pointer (some ⟨d, 0, none⟩)] w fun e w' => e = .returned (.bool A.off) ∧ w = w' := by
  obtain ⟨D, hd, rfl, hk⟩ := h.ex
  exact down_any hd

/-- Read: a new row, which from now on is not the disk's. -/
def HRead (O : Nat → Prop) (w : World) (d : Nat) (A : ADsk) (xs : List Int) (er : Int) (e : Ending) (w' : World) : Prop :=
  ∃ v, e = .returned (.tuple #[v, .int .i64 er]) ∧ w'.ownsRow w.heap.size 5 1 v xs.length (bcells xs) ∧ Below w.heap.size w w' ∧ Held (fun k => O k ∨ (w.heap.size ≤ k ∧ k < w'.heap.size)) w' d A

theorem held_read (h : Held O w d A) (s : ByteArray) (hs : s.size ≤ maxLen) :
    Calls Tryd.prog 45 #[.pointer (some ⟨d, 0, none⟩), .string s] w (HRead O w d A (A.read s.data.toList).1 (A.read s.data.toList).2) := by
  obtain ⟨D, hd, e, hk⟩ := h.ex
  subst e
  refine (read_any hd s hs).mono ?_
  rintro e1 w1 ⟨v, rfl, ho, hb⟩
  exact ⟨v, rfl, ho, hb, h.fresh (Mod.ofBelow hb) (fun _ _ h => h.elim)⟩

def HNames (O : Nat → Prop) (w : World) (d : Nat) (A : ADsk) (ns : List Nm) (e : Ending) (w' : World) : Prop :=
  ∃ v, e = .returned v ∧ w'.ownsRow w.heap.size 9 1 v ns.length (ns.map encStr) ∧ Below w.heap.size w w' ∧ Held (fun k => O k ∨ (w.heap.size ≤ k ∧ k < w'.heap.size)) w' d A

theorem held_names (h : Held O w d A) :
    Calls Tryd.prog 26 #[.pointer (some ⟨d, 0, none⟩)] w (HNames O w d A A.names) := by
  obtain ⟨D, hd, e, hk⟩ := h.ex
  subst e
  refine (names_any hd).mono ?_
  rintro e1 w1 ⟨v, rfl, ho, hb⟩
  exact ⟨v, rfl, ho, hb, h.fresh (Mod.ofBelow hb) (fun _ _ h => h.elim)⟩

end Go.Proofs.YtmpdmejlpicdlaaDoor
/- 'wakes': the package's own proof that it is awake. -/
namespace Go.Proofs.YtmpdmejlpicdlaaDoor
open Go.RowKit Go.Bw Go.Maps
set_option linter.unusedVariables false
set_option linter.unusedSimpArgs false

theorem reads_const (w : World) (xs : List Int) (p : Nat × Nat) :
    Reads (w.alloc (.cells (bcells xs).toArray 5 p)) 1 (.slice (some ⟨w.heap.size, 0, none⟩) xs.length xs.length) xs.length (bcells xs) := by
  refine ⟨by simp [bcells], Or.inr ⟨_, _, rfl, fun j u hj => ?_⟩⟩
  have e : (w.alloc (.cells (bcells xs).toArray 5 p)).heap[w.heap.size]? = some (.cells (bcells xs).toArray 5 p) := by
    show (w.heap.push _)[w.heap.size]? = _
    simp
  have e2 : (⟨w.heap.size, 0, none⟩ : Addr).add j = ⟨w.heap.size, j, none⟩ := by cases j <;> simp [Addr.add]
  rw [e2, cell_of_heap e]
  simpa using hj

/-- Held beside a new row. -/
theorem Held.row {O : Nat → Prop} {w : World} {d : Nat} {A : ADsk} (h : Held O w d A) (o : Obj) : Held (fun k => O k ∨ k = w.heap.size) (w.alloc o) d A :=
  (h.fresh ((Mod.refl (fun _ => False) w).alloc o) (fun _ _ h => h.elim)).weaken (fun k hk => hk.elim Or.inl (fun e => Or.inr (by subst e; simp)))

theorem ne_const {a b : Int} (h : a = b) : (a != b) = false := by simp [h]

theorem held_append_to {O : Nat → Prop} {w : World} {d : Nat} {A A' : ADsk} {r : Int} (h : Held O w d A) (s : ByteArray) (hs : s.size ≤ maxLen) (v : Value) (bs : List Int) (hrd : Reads w 1 v bs.length (bcells bs)) (hO : bs ≠ [] → ∀ k, v.ownBlock = some k → O k) (hbn : bs.length ≤ 140737488355328) (hr : A.append s.data.toList bs = (A', r)) :
    Calls Tryd.prog 47 #[.pointer (some ⟨d, 0, none⟩), .string s, v] w (HStep O w d (.int .i64 r) A') := by
  have := held_append h s hs v bs hrd hO hbn; rw [hr] at this; exact this
theorem held_sync_to {O : Nat → Prop} {w : World} {d : Nat} {A A' : ADsk} {r : Int} (h : Held O w d A) (s : ByteArray) (hs : s.size ≤ maxLen) (hr : A.sync s.data.toList = (A', r)) :
    Calls Tryd.prog 48 #[.pointer (some ⟨d, 0, none⟩), .string s] w (HStep O w d (.int .i64 r) A') := by
  have := held_sync h s hs; rw [hr] at this; exact this
theorem held_rename_to {O : Nat → Prop} {w : World} {d : Nat} {A A' : ADsk} {r : Int} (h : Held O w d A) (s t : ByteArray) (hs : s.size ≤ maxLen) (ht : t.size ≤ maxLen) (hr : A.rename s.data.toList t.data.toList = (A', r)) :
    Calls Tryd.prog 49 #[.pointer (some ⟨d, 0, none⟩), .string s, .string t] w (HStep O w d (.int .i64 r) A') := by
  have := held_rename h s t hs ht; rw [hr] at this; exact this
theorem held_read_to {O : Nat → Prop} {w : World} {d : Nat} {A : ADsk} {xs : List Int} {r : Int} (h : Held O w d A) (s : ByteArray) (hs : s.size ≤ maxLen) (hr : A.read s.data.toList = (xs, r)) :
    Calls Tryd.prog 45 #[.pointer (some ⟨d, 0, none⟩), .string s] w (HRead O w d A xs r) := by
  have := held_read h s hs; rw [hr] at this; exact this

/-- The bytes of a new row, beside a disk. -/
theorem Held.reads_const {O : Nat → Prop} {w : World} {d : Nat} {A A' : ADsk} {r : Int} (h : Held O w d A) (s : ByteArray) (hs : s.size ≤ maxLen) (xs : List Int) (p : Nat × Nat) (hl : xs.length ≤ 140737488355328) (hr : A.append s.data.toList xs = (A', r)) (cs : Array Value) (hcs : cs = (bcells xs).toArray) (n : Nat) (hn : n = xs.length) :
    Calls Tryd.prog 47 #[.pointer (some ⟨d, 0, none⟩), .string s, .slice (some ⟨w.heap.size, 0, none⟩) n n] (w.alloc (.cells cs 5 p)) fun e w' => e = .returned (.int .i64 r) ∧ Held O w' d A' ∧ Mod (fun k => ¬ O k) w w' := by
  subst hcs; subst hn
  refine (held_append_to (h.row _) s hs _ xs (Go.Proofs.YtmpdmejlpicdlaaDoor.reads_const w xs p) (fun _ k hk => Or.inr (by simpa [Value.ownBlock] using hk.symm)) hl hr).mono ?_
  rintro e w1 ⟨rfl, hH, hm⟩
  exact ⟨rfl, hH.weaken (fun k hk => Or.inl hk), ((Mod.refl (fun k => ¬ O k) w).alloc _).trans hm (fun k hk h1 h2 => h1 (Or.inl h2))⟩

theorem addr_add (b o j : Nat) : (⟨b, o, none⟩ : Addr).add j = ⟨b, o + j, none⟩ := by cases j <;> simp [Addr.add]

/-- The bytes of a row that is not empty, as a string. -/
theorem convert_reads {w : World} {v : Value} {x : Int} {xs : List Int} (h : Reads w 1 v (x :: xs).length (bcells (x :: xs))) :
    (convert 22 9 v).run Tryd.prog w = .ok (.string (strOfNums (x :: xs))) w := by
  obtain ⟨a, c, rfl⟩ := reads_form h
  cases a with
  | none => exact absurd (reads_empty h).2 (by simp)
  | some a =>
    obtain ⟨b, o, sp⟩ := a
    have h0 := reads_at h (k := 0) (by simp)
    have hs : sp = none := by
      cases sp with
      | none => rfl
      | some s => simp [World.cell?, Addr.add] at h0; split at h0 <;> cases h0
    subst hs
    refine run_convert_bytes_arg (P := Tryd.prog) (w := w) 22 5 Tryd.underlying22 Tryd.underlying5 b o _ c (x :: xs) rfl (fun i hi => ?_) 9 Tryd.underlying9
    have := reads_at h hi
    rw [addr_add] at this
    simp only [List.getD_eq_getElem?_getD, List.getElem?_eq_getElem hi, Option.getD_some]; exact this

end Go.Proofs.YtmpdmejlpicdlaaDoor
/- For DiskKeeps and its like: rows that came in, rows made by appending, the abstract disk with one file. -/
namespace Go.Proofs.YtmpdmejlpicdlaaDoor
open Go.RowKit Go.Bw Go.Maps
set_option linter.unusedVariables false
set_option linter.unusedSimpArgs false

/-- A row of bytes grown by another one. -/
theorem app_run (wr : World) (B : Nat) (v x : Value) (cur new : List Int) (hor : wr.ownsRow B 5 1 v cur.length (bcells cur)) (hB : B ≤ wr.heap.size)
    (hR : Reads wr 1 x new.length (bcells new)) (hl : cur.length + new.length ≤ 140737488355328) :
    ∃ v' w3, (Builtin.append_ #[22, 22] 22 #[v, x]).run Tryd.prog wr = .ok v' w3 ∧ w3.ownsRow B 5 1 v' (cur ++ new).length (bcells (cur ++ new)) ∧
      Mod (fun k => v.ownBlock = some k) wr w3 := by
  obtain ⟨i0, h1, h2, h3, h4⟩ := info_parts TByte.info
  obtain ⟨v', w3, hrun, ho3, hm3, hb3, _⟩ := run_append_to (P := Tryd.prog) 22 22 5 i0 (.int .u8 0) 1 1 Tryd.underlying22 h1 h2 h3 h4 rfl (by decide) v _ _ (ownsRow_base hor (base' := 0) (fun _ _ => Nat.zero_le _)) _ _ _ hR (bcells_one _) (by unfold maxLen; omega) (by omega)
  refine ⟨v', w3, hrun, ?_, hm3⟩
  have eb : bcells (cur ++ new) = bcells cur ++ bcells new := by simp [bcells]
  rw [eb, List.length_append]
  exact ownsRow_base ho3 (fun j hj => by
    rcases hb3 j hj with h5 | h5
    · exact (hor.lt j h5).1
    · omega)

theorem row_empty (w : World) : (w.alloc (.cells #[] 5)).ownsRow w.heap.size 5 1 (.slice (some ⟨w.heap.size, 0, none⟩) 0 0) 0 (bcells []) := by
  refine ⟨rfl, Or.inr ⟨w.heap.size, 0, #[], rfl, Nat.le_refl _, ?_, Nat.le_refl _, by decide, rfl, rfl⟩⟩
  show (w.heap.push _)[w.heap.size]? = _
  simp

theorem kp1 (xs : List Int) (h : xs.length ≤ 65536) : (ADsk.new 1048576).append [102] xs = (⟨[([102], ⟨[], xs⟩)], 1048576, false, 1, 0, 0⟩, 0) := by
  have e1 : ¬ (xs.length > 1048576) := by omega
  have e2 : ¬ (1048576 < (xs.length : Int)) := by omega
  simp [ADsk.append, ADsk.new, ADsk.ready, namedB, lookF, put, drop, ins, Cont.len, total, ADsk.armed, e1, e2]
  first | exact (show RowKit.wrap64 1 = 1 from by kernel_rfl) | exact (show RowKit.wrap64 3 = 3 from by kernel_rfl)
theorem kp2 (xs : List Int) : (⟨[([102], ⟨[], xs⟩)], 1048576, false, 1, 0, 0⟩ : ADsk).sync [102] = (⟨[([102], ⟨xs, []⟩)], 1048576, false, 2, 0, 0⟩, 0) := by
  simp [ADsk.sync, ADsk.there, ADsk.ready, namedB, lookF, ADsk.does, ADsk.onFile, ADsk.armed]
  kernel_rfl
theorem kp3 (xs ys : List Int) (h : xs.length + ys.length ≤ 65536) : (⟨[([102], ⟨xs, []⟩)], 1048576, false, 2, 0, 0⟩ : ADsk).append [102] ys = (⟨[([102], ⟨xs, ys⟩)], 1048576, false, 3, 0, 0⟩, 0) := by
  have e1 : ¬ (xs.length + ys.length > 1048576) := by omega
  have e2 : ¬ (1048576 < (xs.length : Int) + ys.length) := by omega
  simp [ADsk.append, ADsk.new, ADsk.ready, namedB, lookF, put, drop, ins, Cont.len, total, ADsk.armed, e1, e2]
  first | exact (show RowKit.wrap64 1 = 1 from by kernel_rfl) | exact (show RowKit.wrap64 3 = 3 from by kernel_rfl)
theorem kp4 (xs ys : List Int) : (⟨[([102], ⟨xs, ys⟩)], 1048576, false, 3, 0, 0⟩ : ADsk).read [102] = (xs ++ ys, 0) := by
  simp [ADsk.read, ADsk.there, ADsk.ready, namedB, lookF]
theorem kp5 (xs ys : List Int) : (⟨[([102], ⟨xs, ys⟩)], 1048576, false, 3, 0, 0⟩ : ADsk).names = [[102]] := rfl
theorem kp6 : (ADsk.new 1048576).names = [] := rfl

/-- A cell of a row of bytes that is one's own is written: the row stays one's own. -/
theorem ownsRow_set {w : World} {B : Nat} {e : TypeId} {v : Value} {n : Nat} {xs : List Value} (h : w.ownsRow B e 1 v n xs) {g c : Nat} (hv : v = .slice (some ⟨g, 0, none⟩) n c) {k : Nat} (hk : k < n) (u : Value) :
    (w.setCell ⟨g, k, none⟩ u).ownsRow B e 1 v n (xs.set k u) := by
  obtain ⟨h1, h2⟩ := h
  rcases h2 with ⟨rfl, rfl⟩ | ⟨g', cap, cur, rfl, hb, hg, hn, hc, hs, ht⟩
  · cases hv
  · cases hv
    refine ⟨by rw [List.length_set]; exact h1, Or.inr ⟨g, c, cur.setIfInBounds k u, rfl, hb, heap_setCell_at hg k u, hn, hc, by simp [hs], ?_⟩⟩
    subst ht
    simp [List.take_set, Array.toList_setIfInBounds]

theorem ownsRow_cell {w : World} {B : Nat} {e : TypeId} {g c n : Nat} {xs : List Value} (h : w.ownsRow B e 1 (.slice (some ⟨g, 0, none⟩) n c) n xs) {k : Nat} (hk : k < n) :
    ∃ u, xs[k]? = some u ∧ w.cell? ⟨g, k, none⟩ = some u ∧ w.frozen? ⟨g, k, none⟩ = false := by
  obtain ⟨h1, h2⟩ := h
  rcases h2 with ⟨e, rfl⟩ | ⟨g', cap, cur, e, hb, hg, hn, hc, hs, ht⟩
  · cases e
  · cases e
    refine ⟨cur[k]'(by omega), ?_, ?_, free_of_heap hg k⟩
    · subst ht; rw [List.getElem?_take]; simp [hk]
    · rw [cell_of_heap hg]; simp

theorem reads_lt {w : World} {v : Value} {xs : List Int} (h : Reads w 1 v xs.length (bcells xs)) (hne : xs ≠ []) (k : Nat) (hk : v.ownBlock = some k) : k < w.heap.size := by
  obtain ⟨a, c, rfl⟩ := reads_form h
  cases a with
  | none => cases hk
  | some a =>
    cases hk
    have h0 := World.block_lt_of_cell? w _ (reads_at h (k := 0) (List.length_pos_iff.2 hne))
    have : (a.add 0).block = a.block := by unfold Addr.add; split <;> rfl
    rw [this] at h0; exact h0

theorem bcells_ne {xs : List Int} (h : bcells xs ≠ []) : xs ≠ [] := fun e => h (by rw [e]; rfl)

/-- The bytes that came in, later. -/
theorem reads_later {w w' : World} {v : Value} {xs : List Int} (h : Reads w 1 v xs.length (bcells xs)) {T : Nat → Prop} (hm : Mod T w w') (hT : ∀ k, k < w.heap.size → ¬ T k) : Reads w' 1 v xs.length (bcells xs) :=
  Reads.kept' h hm (fun hne k hk => hT k (reads_lt h (bcells_ne hne) k hk))

theorem reads_prefix {w : World} {B g c n : Nat} {xs ys : List Int} (h : w.ownsRow B 5 1 (.slice (some ⟨g, 0, none⟩) n c) n (bcells (xs ++ ys))) : Reads w 1 (.slice (some ⟨g, 0, none⟩) xs.length c) xs.length (bcells xs) := by
  refine ⟨by simp [bcells], Or.inr ⟨_, _, rfl, fun j u hj => ?_⟩⟩
  rcases (ownsRow_reads h).2 with ⟨c', e, h0⟩ | ⟨a', c', e, hc⟩
  · cases e
  · cases e
    refine hc j u ?_
    rw [show bcells (xs ++ ys) = bcells xs ++ bcells ys from by simp [bcells], List.getElem?_append_left]
    · exact hj
    · exact (List.getElem?_eq_some_iff.1 hj).1

end Go.Proofs.YtmpdmejlpicdlaaDoor
/- DiskKeeps, walked. -/
namespace Go.Proofs.YtmpdmejlpicdlaaDoor
open Go.RowKit Go.Bw Go.Maps
set_option linter.unusedVariables false
set_option linter.unusedSimpArgs false

theorem same_yes (w : World) (v1 v2 : Value) (xs : List Int) (h1 : Reads w 1 v1 xs.length (bcells xs)) (h2 : Reads w 1 v2 xs.length (bcells xs)) (hl : xs.length ≤ 140737488355328) :
    Calls Tryd.prog 16 #[v1, v2] w (SaysOut w true) := by
  have := same_any w v1 v2 xs xs h1 h2 hl hl
  rwa [show decide (xs = xs) = true from by simp] at this

theorem own_cell {w : World} {B : Nat} {e : TypeId} {g n c : Nat} {cs : List Value} (h : w.ownsRow B e 1 (.slice (some ⟨g, 0, none⟩) n c) n cs) {k : Nat} {u : Value} (hk : cs[k]? = some u) : w.cell? ⟨g, k, none⟩ = some u := by
  rcases (ownsRow_reads h).2 with ⟨c', e, h0⟩ | ⟨a', c', e, hc⟩
  · cases e
  · cases e
    have := hc k u hk
    rwa [addr_add, Nat.zero_add] at this

theorem bcells_set (zs : List Int) (k : Nat) (x : Int) : bcells (zs.set k x) = (bcells zs).set k (.int .u8 x) := by simp [bcells, List.map_set]
theorem bcells_len (zs : List Int) : (bcells zs).length = zs.length := by simp [bcells]

end Go.Proofs.YtmpdmejlpicdlaaDoor

/- A disk held beside what is not its own: the methods' contracts in the form that the laws walk by. -/
import Derived.Test.YtmpdmejlpicdlaaDoorDiskLa
namespace Go.Proofs.YtmpdmejlpicdlaaDoor
open Go.RowKit Go.Bw Go.Maps
set_option linter.unusedVariables false
set_option linter.unusedSimpArgs false

/-- A disk at d that reads as A; the blocks of O are not its own. -/
structure Held (O : Nat → Prop) (w : World) (d : Nat) (A : ADsk) : Prop where
  ex : ∃ D, DiskAt w d D ∧ D.abs = A ∧ ∀ k ∈ D.blocks d, ¬ O k
  lt : ∀ k, O k → k < w.heap.size

theorem DiskAt.blk_lt {w : World} {d : Nat} {D : Dsk} (h : DiskAt w d D) {k : Nat} (hk : k ∈ D.blocks d) : k < w.heap.size := by
  simp only [Dsk.blocks, fblocks, List.mem_cons, List.mem_flatMap] at hk
  rcases hk with rfl | rfl | ⟨p, hp, hk⟩
  · exact lt_of_heap h.cells
  · obtain ⟨es, clock, hb, F, hs, hD⟩ := h.map
    exact lt_of_heap hb
  · have hf := h.files p hp
    simp only [Fil.blocks, List.mem_cons, List.mem_append, Option.mem_toList] at hk
    rcases hk with rfl | hk | hk
    · exact lt_of_heap hf.cells
    · exact (hf.safe.lt k hk).2
    · exact (hf.wait.lt k hk).2

variable {O : Nat → Prop} {w w' : World} {d : Nat} {A A' : ADsk}

theorem Held.mod (h : Held O w d A) {T : Nat → Prop} (hm : Mod T w w') (hT : ∀ k, k < w.heap.size → T k → O k) : Held O w' d A := by
  obtain ⟨D, hd, e, hk⟩ := h.ex
  exact ⟨⟨D, hd.kept hm (fun k hk' hS => hk k hk' (hT k (hd.blk_lt hk') hS)), e, hk⟩, fun k hk => Nat.lt_of_lt_of_le (h.lt k hk) hm.size⟩

theorem Mod.ofBelow (h : Below w.heap.size w w') : Mod (fun _ => False) w w' := ⟨h.os, h.tape, h.output, h.size, fun k hk _ => h.block k hk⟩

/-- What was made by others is theirs. -/
theorem Held.fresh (h : Held O w d A) {T : Nat → Prop} (hm : Mod T w w') (hT : ∀ k, k < w.heap.size → T k → O k) : Held (fun k => O k ∨ (w.heap.size ≤ k ∧ k < w'.heap.size)) w' d A := by
  obtain ⟨D, hd, e, hk⟩ := (h.mod hm hT).ex
  obtain ⟨D0, hd0, e0, hk0⟩ := h.ex
  exact ⟨⟨D0, hd0.kept hm (fun k hk' hS => hk0 k hk' (hT k (hd0.blk_lt hk') hS)), e0, fun k hk' hO => hO.elim (hk0 k hk') (fun h2 => by have := hd0.blk_lt hk'; omega)⟩, fun k hk => hk.elim (fun h1 => Nat.lt_of_lt_of_le (h.lt k h1) hm.size) (fun h2 => h2.2)⟩

theorem Held.weaken (h : Held O w d A) {T : Nat → Prop} (hT : ∀ k, T k → O k) : Held T w d A := by
  obtain ⟨D, hd, e, hk⟩ := h.ex
  exact ⟨⟨D, hd, e, fun k hk' hT' => hk k hk' (hT k hT')⟩, fun k hk => h.lt k (hT k hk)⟩

theorem Held.ok (h : Held O w d A) : A.Ok := by
  obtain ⟨D, hd, e, hk⟩ := h.ex
  rw [← e]; exact hd.ok

theorem Held.step (h : Held O w d A) {B : Dsk → ADsk} (hs : ∀ D, DiskAt w d D → D.abs = A → DStep w d D w' A') : Held O w' d A' ∧ Mod (fun k => ¬ O k) w w' := by
  obtain ⟨D, hd, e, hk⟩ := h.ex
  obtain ⟨D', hd', e', hm, hn⟩ := hs D hd e
  exact ⟨⟨⟨D', hd', e', fun k hk' hO => (hn k hk').elim (fun h1 => hk k h1 hO) (fun h1 => by have := h.lt k hO; omega)⟩, fun k hO => Nat.lt_of_lt_of_le (h.lt k hO) hm.size⟩, hm.mono (fun k _ h1 => hk k h1)⟩

/-- A method has been called: the disk reads as A', what is not the disk's stands as it was. -/
def HStep (O : Nat → Prop) (w : World) (d : Nat) (v : Value) (A' : ADsk) (e : Ending) (w' : World) : Prop := e = .returned v ∧ Held O w' d A' ∧ Mod (fun k => ¬ O k) w w'

theorem held_of {F : Nat} {args : Array Value} {v : Value} (h : Held O w d A) (hc : ∀ D, DiskAt w d D → D.abs = A → (∀ k ∈ D.blocks d, ¬ O k) → Calls Tryd.prog F args w fun e w' => e = .returned v ∧ DStep w d D w' A') : Calls Tryd.prog F args w (HStep O w d v A') := by
  obtain ⟨D, hd, e, hk⟩ := h.ex
  refine (hc D hd e hk).mono ?_
  rintro e1 w1 ⟨rfl, D', hd', e', hm, hn⟩
  exact ⟨rfl, ⟨⟨D', hd', e', fun k hk' hO => (hn k hk').elim (fun h1 => hk k h1 hO) (fun h1 => by have := h.lt k hO; omega)⟩, fun k hO => Nat.lt_of_lt_of_le (h.lt k hO) hm.size⟩, hm.mono (fun k _ h1 => hk k h1)⟩

theorem held_new (w : World) (room : Int) :
    Calls Tryd.prog 19 #[.int .i64 room] w fun e w' => e = .returned (.pointer (some ⟨w.heap.size + 1, 0, none⟩)) ∧ Held (fun k => k < w.heap.size) w' (w.heap.size + 1) (ADsk.new room) ∧ Below w.heap.size w w' ∧ w'.heap.size = w.heap.size + 2 := by
  refine (new_any w room).mono ?_
  rintro e w1 ⟨rfl, hd, hb, hs⟩
  exact ⟨rfl, ⟨⟨_, hd, rfl, fun k hk hO => by simp [Dsk.blocks, fblocks] at hk; omega⟩, fun k hk => Nat.lt_of_lt_of_le hk hb.size⟩, hb, hs⟩

theorem held_append (h : Held O w d A) (s : ByteArray) (hs : s.size ≤ maxLen) (v : Value) (bs : List Int) (hrd : Reads w 1 v bs.length (bcells bs)) (hO : bs ≠ [] → ∀ k, v.ownBlock = some k → O k) (hbn : bs.length ≤ 140737488355328) :
    Calls Tryd.prog 47 #[.pointer (some ⟨d, 0, none⟩), .string s, v] w (HStep O w d (.int .i64 (A.append s.data.toList bs).2) (A.append s.data.toList bs).1) := by
  obtain ⟨a, c, rfl⟩ := reads_form hrd
  exact held_of h (fun D hd e hk => by
    subst e
    exact append_any hd s hs a bs.length c bs hrd (fun hne k hk' => ⟨h.lt k (hO hne k hk'), fun hin => hk k hin (hO hne k hk')⟩) hbn)

theorem held_sync (h : Held O w d A) (s : ByteArray) (hs : s.size ≤ maxLen) :
    Calls Tryd.prog 48 #[.pointer (some ⟨d, 0, none⟩), .string s] w (HStep O w d (.int .i64 (A.sync s.data.toList).2) (A.sync s.data.toList).1) :=
  held_of h (fun D hd e hk => by subst e; exact sync_any hd s hs)

theorem held_trunc (h : Held O w d A) (s : ByteArray) (hs : s.size ≤ maxLen) (n : Int) (hn0 : -9223372036854775808 ≤ n) (hn1 : n ≤ 9223372036854775807) :
    Calls Tryd.prog 71 #[.pointer (some ⟨d, 0, none⟩), .string s, .int .i64 n] w (HStep O w d (.int .i64 (A.trunc s.data.toList n).2) (A.trunc s.data.toList n).1) :=
  held_of h (fun D hd e hk => by subst e; exact trunc_any hd s hs n hn0 hn1)

theorem held_rename (h : Held O w d A) (s t : ByteArray) (hs : s.size ≤ maxLen) (ht : t.size ≤ maxLen) :
    Calls Tryd.prog 49 #[.pointer (some ⟨d, 0, none⟩), .string s, .string t] w (HStep O w d (.int .i64 (A.rename s.data.toList t.data.toList).2) (A.rename s.data.toList t.data.toList).1) :=
  held_of h (fun D hd e hk => by subst e; exact rename_any hd s t hs ht)

theorem held_remove (h : Held O w d A) (s : ByteArray) (hs : s.size ≤ maxLen) :
    Calls Tryd.prog 46 #[.pointer (some ⟨d, 0, none⟩), .string s] w (HStep O w d (.int .i64 (A.remove s.data.toList).2) (A.remove s.data.toList).1) :=
  held_of h (fun D hd e hk => by subst e; exact remove_any hd s hs)

theorem held_off (h : Held O w d A) (keep : Int) (hk0 : -9223372036854775808 ≤ keep) (hk1 : keep ≤ 9223372036854775807) :
    Calls Tryd.prog 24 #[.pointer (some ⟨d, 0, none⟩), .int .i64 keep] w (HStep O w d (.tuple #[]) (A.goesOff keep)) :=
  held_of h (fun D hd e hk => by subst e; exact off_any hd keep hk0 hk1)

theorem held_on (h : Held O w d A) :
    Calls Tryd.prog 25 #[.pointer (some ⟨d, 0, none⟩)] w (HStep O w d (.tuple #[]) { A with off := false }) :=
  held_of h (fun D hd e hk => by subst e; exact on_any hd)

theorem held_arm (h : Held O w d A) (n keep : Int) (hn1 : n ≤ 9223372036854775807) (hk0 : -9223372036854775808 ≤ keep) (hk1 : keep ≤ 9223372036854775807) :
    Calls Tryd.prog 22 #[.pointer (some ⟨d, 0, none⟩), .int .i64 n, .int .i64 keep] w (HStep O w d (.tuple #[]) (A.arm n keep)) :=
  held_of h (fun D hd e hk => by subst e; exact arm_any hd n keep hn1 hk0 hk1)

theorem held_down (h : Held O w d A) : Calls Tryd.prog 23 #[.pointer (some ⟨d, 0, none⟩)] w fun e w' => e = .returned (.bool A.off) ∧ w = w' := by
  obtain ⟨D, hd, rfl, hk⟩ := h.ex
  exact down_any hd

/-- Read: a new row, which from now on is not the disk's. -/
def HRead (O : Nat → Prop) (w : World) (d : Nat) (A : ADsk) (xs : List Int) (er : Int) (e : Ending) (w' : World) : Prop :=
  ∃ v, e = .returned (.tuple #[v, .int .i64 er]) ∧ w'.ownsRow w.heap.size 5 1 v xs.length (bcells xs) ∧ Below w.heap.size w w' ∧ Held (fun k => O k ∨ (w.heap.size ≤ k ∧ k < w'.heap.size)) w' d A

theorem held_read (h : Held O w d A) (s : ByteArray) (hs : s.size ≤ maxLen) :
    Calls Tryd.prog 45 #[.pointer (some ⟨d, 0, none⟩), .string s] w (HRead O w d A (A.read s.data.toList).1 (A.read s.data.toList).2) := by
  obtain ⟨D, hd, e, hk⟩ := h.ex
  subst e
  refine (read_any hd s hs).mono ?_
  rintro e1 w1 ⟨v, rfl, ho, hb⟩
  exact ⟨v, rfl, ho, hb, h.fresh (Mod.ofBelow hb) (fun _ _ h => h.elim)⟩

def HNames (O : Nat → Prop) (w : World) (d : Nat) (A : ADsk) (ns : List Nm) (e : Ending) (w' : World) : Prop :=
  ∃ v, e = .returned v ∧ w'.ownsRow w.heap.size 9 1 v ns.length (ns.map encStr) ∧ Below w.heap.size w w' ∧ Held (fun k => O k ∨ (w.heap.size ≤ k ∧ k < w'.heap.size)) w' d A

theorem held_names (h : Held O w d A) :
    Calls Tryd.prog 26 #[.pointer (some ⟨d, 0, none⟩)] w (HNames O w d A A.names) := by
  obtain ⟨D, hd, e, hk⟩ := h.ex
  subst e
  refine (names_any hd).mono ?_
  rintro e1 w1 ⟨v, rfl, ho, hb⟩
  exact ⟨v, rfl, ho, hb, h.fresh (Mod.ofBelow hb) (fun _ _ h => h.elim)⟩

end Go.Proofs.YtmpdmejlpicdlaaDoor

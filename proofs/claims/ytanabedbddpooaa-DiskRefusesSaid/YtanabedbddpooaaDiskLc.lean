/- 'wakes': the package's own proof that it is awake. -/
import Derived.Test.YtanabedbddpooaaDiskLb
import Derived.Lib.SlBytesConst
import Derived.Laws.BytesArg
namespace Go.Proofs.Ytanabedbddpooaa
open Go.RowKit Go.Bw Go.Maps
set_option linter.unusedVariables false
set_option linter.unusedSimpArgs false

theorem reads_const (w : World) (xs : List Int) (p : Nat × Nat) :
    Reads (w.alloc (.cells (bcells xs).toArray 5 p)) 1 (.slice (some ⟨w.heap.size, 0, none⟩) xs.length xs.length) xs.length (bcells xs) := by
  refine ⟨by simp [bcells], Or.inr ⟨_, _, rfl, fun j u hj => ?_⟩⟩
  have e : (w.alloc (.cells (bcells xs).toArray 5 p)).heap[w.heap.size]? = some (.cells (bcells xs).toArray 5 p) := by
    show (w.heap.push _)[w.heap.size]? = _
    simp
  have e2 : (⟨w.heap.size, 0, none⟩ : Addr).add j = ⟨w.heap.size, j, none⟩ := by cases j <;> simp [Addr.add]
  rw [e2, cell_of_heap e]
  simpa using hj

/-- Held beside a new row. -/
theorem Held.row {O : Nat → Prop} {w : World} {d : Nat} {A : ADsk} (h : Held O w d A) (o : Obj) : Held (fun k => O k ∨ k = w.heap.size) (w.alloc o) d A :=
  (h.fresh ((Mod.refl (fun _ => False) w).alloc o) (fun _ _ h => h.elim)).weaken (fun k hk => hk.elim Or.inl (fun e => Or.inr (by subst e; simp)))

theorem ne_const {a b : Int} (h : a = b) : (a != b) = false := by simp [h]

theorem held_append_to {O : Nat → Prop} {w : World} {d : Nat} {A A' : ADsk} {r : Int} (h : Held O w d A) (s : ByteArray) (hs : s.size ≤ maxLen) (v : Value) (bs : List Int) (hrd : Reads w 1 v bs.length (bcells bs)) (hO : bs ≠ [] → ∀ k, v.ownBlock = some k → O k) (hbn : bs.length ≤ 140737488355328) (hr : A.append s.data.toList bs = (A', r)) :
    Calls Try.prog 10 #[.pointer (some ⟨d, 0, none⟩), .string s, v] w (HStep O w d (.int .i64 r) A') := by
  have := held_append h s hs v bs hrd hO hbn; rw [hr] at this; exact this
theorem held_sync_to {O : Nat → Prop} {w : World} {d : Nat} {A A' : ADsk} {r : Int} (h : Held O w d A) (s : ByteArray) (hs : s.size ≤ maxLen) (hr : A.sync s.data.toList = (A', r)) :
    Calls Try.prog 13 #[.pointer (some ⟨d, 0, none⟩), .string s] w (HStep O w d (.int .i64 r) A') := by
  have := held_sync h s hs; rw [hr] at this; exact this
theorem held_rename_to {O : Nat → Prop} {w : World} {d : Nat} {A A' : ADsk} {r : Int} (h : Held O w d A) (s t : ByteArray) (hs : s.size ≤ maxLen) (ht : t.size ≤ maxLen) (hr : A.rename s.data.toList t.data.toList = (A', r)) :
    Calls Try.prog 27 #[.pointer (some ⟨d, 0, none⟩), .string s, .string t] w (HStep O w d (.int .i64 r) A') := by
  have := held_rename h s t hs ht; rw [hr] at this; exact this
theorem held_read_to {O : Nat → Prop} {w : World} {d : Nat} {A : ADsk} {xs : List Int} {r : Int} (h : Held O w d A) (s : ByteArray) (hs : s.size ≤ maxLen) (hr : A.read s.data.toList = (xs, r)) :
    Calls Try.prog 12 #[.pointer (some ⟨d, 0, none⟩), .string s] w (HRead O w d A xs r) := by
  have := held_read h s hs; rw [hr] at this; exact this

/-- The bytes of a new row, beside a disk. -/
theorem Held.reads_const {O : Nat → Prop} {w : World} {d : Nat} {A A' : ADsk} {r : Int} (h : Held O w d A) (s : ByteArray) (hs : s.size ≤ maxLen) (xs : List Int) (p : Nat × Nat) (hl : xs.length ≤ 140737488355328) (hr : A.append s.data.toList xs = (A', r)) (cs : Array Value) (hcs : cs = (bcells xs).toArray) (n : Nat) (hn : n = xs.length) :
    Calls Try.prog 10 #[.pointer (some ⟨d, 0, none⟩), .string s, .slice (some ⟨w.heap.size, 0, none⟩) n n] (w.alloc (.cells cs 5 p)) fun e w' => e = .returned (.int .i64 r) ∧ Held O w' d A' ∧ Mod (fun k => ¬ O k) w w' := by
  subst hcs; subst hn
  refine (held_append_to (h.row _) s hs _ xs (Go.Proofs.Ytanabedbddpooaa.reads_const w xs p) (fun _ k hk => Or.inr (by simpa [Value.ownBlock] using hk.symm)) hl hr).mono ?_
  rintro e w1 ⟨rfl, hH, hm⟩
  exact ⟨rfl, hH.weaken (fun k hk => Or.inl hk), ((Mod.refl (fun k => ¬ O k) w).alloc _).trans hm (fun k hk h1 h2 => h1 (Or.inl h2))⟩

theorem addr_add (b o j : Nat) : (⟨b, o, none⟩ : Addr).add j = ⟨b, o + j, none⟩ := by cases j <;> simp [Addr.add]

/-- The bytes of a row that is not empty, as a string. -/
theorem convert_reads {w : World} {v : Value} {x : Int} {xs : List Int} (h : Reads w 1 v (x :: xs).length (bcells (x :: xs))) :
    (convert 28 9 v).run Try.prog w = .ok (.string (strOfNums (x :: xs))) w := by
  obtain ⟨a, c, rfl⟩ := reads_form h
  cases a with
  | none => exact absurd (reads_empty h).2 (by simp)
  | some a =>
    obtain ⟨b, o, sp⟩ := a
    have h0 := reads_at h (k := 0) (by simp)
    have hs : sp = none := by
      cases sp with
      | none => rfl
      | some s => simp [World.cell?, Addr.add] at h0; split at h0 <;> cases h0
    subst hs
    refine run_convert_bytes_arg (P := Try.prog) (w := w) 28 5 Try.underlying28 Try.underlying5 b o _ c (x :: xs) rfl (fun i hi => ?_) 9 Try.underlying9
    have := reads_at h hi
    rw [addr_add] at this
    simp only [List.getD_eq_getElem?_getD, List.getElem?_eq_getElem hi, Option.getD_some]; exact this

def wk1 : ADsk := ⟨[([97], ⟨[], [120, 121]⟩)], 9, false, 1, 0, 0⟩
def wk2 : ADsk := ⟨[([97], ⟨[120, 121], []⟩)], 9, false, 2, 0, 0⟩
def wk3 : ADsk := ⟨[([97], ⟨[120, 121], [122]⟩)], 9, false, 3, 0, 0⟩
def wk4 : ADsk := ⟨[([98], ⟨[120, 121], [122]⟩)], 9, false, 4, 0, 0⟩
def wk5 : ADsk := ⟨[([98], ⟨[120, 121], []⟩)], 9, false, 4, 0, 0⟩
theorem wke1 : (ADsk.new 9).append [97] [120, 121] = (wk1, 0) := by kernel_rfl
theorem wke2 : wk1.sync [97] = (wk2, 0) := by kernel_rfl
theorem wke3 : wk2.append [97] [122] = (wk3, 0) := by kernel_rfl
theorem wke4 : wk3.rename [97] [98] = (wk4, 0) := by kernel_rfl
theorem wke5 : ({ wk4.goesOff 0 with off := false } : ADsk) = wk5 := by kernel_rfl
theorem wke6 : wk5.read [98] = ([120, 121], 0) := by kernel_rfl
theorem wke7 : wk5.read [97] = ([], 21) := by kernel_rfl
set_option maxRecDepth 100000 in
set_option maxHeartbeats 4000000 in
theorem wakes_any (w : World) : Calls Try.prog 8 #[] w (SaysOut w true) := by
  have kc := fun (w : World) (C : Array Value) (n c : Nat) => Lib.run_convert_bytes_const (P := Try.prog) w 28 5 C n c Try.underlying28 Try.underlying5
  go_enter Try.func8, Try.ntmps8
  go_wp2_with fail
  refine (held_new w 9).mono ?_
  rintro e w1 ⟨rfl, hH, hb, hs⟩
  have H1 := Lib.hid hH
  have B1 := Lib.hid hb
  clear hH hb hs
  go_wp2_with fail
  refine (H1.out.reads_const ⟨#[97]⟩ (by unfold maxLen; decide) [120, 121] _ (by decide) wke1 _ rfl 2 rfl).mono ?_
  rintro e w2 ⟨rfl, hH, hm⟩
  have H2 := Lib.hid hH
  have M2 := Lib.hid hm
  clear hH hm
  go_wp2_with fail
  refine (held_sync_to H2.out ⟨#[97]⟩ (by unfold maxLen; decide) wke2).mono ?_
  rintro e w3 ⟨rfl, hH, hm⟩
  have H3 := Lib.hid hH
  have M3 := Lib.hid hm
  clear hH hm
  go_wp2_with fail
  refine (H3.out.reads_const ⟨#[97]⟩ (by unfold maxLen; decide) [122] _ (by decide) wke3 _ rfl 1 rfl).mono ?_
  rintro e w4 ⟨rfl, hH, hm⟩
  have H4 := Lib.hid hH
  have M4 := Lib.hid hm
  clear hH hm
  go_wp2_with fail
  refine (held_rename_to H4.out ⟨#[97]⟩ ⟨#[98]⟩ (by unfold maxLen; decide) (by unfold maxLen; decide) wke4).mono ?_
  rintro e w5 ⟨rfl, hH, hm⟩
  have H5 := Lib.hid hH
  have M5 := Lib.hid hm
  clear hH hm
  go_wp2_with fail
  refine (held_off H5.out 0 (by decide) (by decide)).mono ?_
  rintro e w6 ⟨rfl, hH, hm⟩
  have H6 := Lib.hid hH
  have M6 := Lib.hid hm
  clear hH hm
  go_wp2_with fail
  refine (held_on H6.out).mono ?_
  rintro e w7 ⟨rfl, hH, hm⟩
  rw [wke5] at hH
  have H7 := Lib.hid hH
  have M7 := Lib.hid hm
  clear hH hm
  go_wp2_with fail
  refine (held_read_to H7.out ⟨#[98]⟩ (by unfold maxLen; decide) wke6).mono ?_
  rintro e w8 ⟨v, rfl, ho, hb, hH⟩
  have H8 := Lib.hid hH
  have O8 := Lib.hid ho
  have M8 := Lib.hid hb
  clear hH hb ho
  go_wp2_with fail
  refine (held_read_to H8.out ⟨#[97]⟩ (by unfold maxLen; decide) wke7).mono ?_
  rintro e w9 ⟨v2, rfl, ho, hb, hH⟩
  have M9 := Lib.hid hb
  clear hH hb ho
  have hr := ownsRow_reads (ownsRow_kept O8.out (fun k hk => M9.out.block k (O8.out.lt k hk).2))
  have kv := convert_reads hr
  rw [show strOfNums [120, 121] = ⟨#[120, 121]⟩ from by kernel_rfl] at kv
  clear hr
  have HB := Lib.hid (show Below w.heap.size w w9 from by
    have m1 := (Mod.refl (fun k => ¬ k < w.heap.size) w).below B1.out (fun i hi h => by omega)
    have m7 := (((((m1.trans M2.out (fun _ _ h => h)).trans M3.out (fun _ _ h => h)).trans M4.out (fun _ _ h => h)).trans M5.out (fun _ _ h => h)).trans M6.out (fun _ _ h => h)).trans M7.out (fun _ _ h => h)
    have m9 := (m7.trans (Mod.ofBelow M8.out) (fun _ _ h => h.elim)).trans (Mod.ofBelow M9.out) (fun _ _ h => h.elim)
    exact (m9.mono (T := fun _ => False) (fun k hk h => h hk)).toBelow)
  go_wp2_with fail
  go_ret
  exact ⟨rfl, HB.out⟩
end Go.Proofs.Ytanabedbddpooaa

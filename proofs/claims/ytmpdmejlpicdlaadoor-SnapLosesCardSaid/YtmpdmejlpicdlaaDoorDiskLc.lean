/- 'wakes': the package's own proof that it is awake. -/
import Derived.Test.YtmpdmejlpicdlaaDoorDiskLb
import Derived.Lib.SlBytesConst
import Derived.Laws.BytesArg
namespace Go.Proofs.YtmpdmejlpicdlaaDoor
open Go.RowKit Go.Bw Go.Maps
set_option linter.unusedVariables false
set_option linter.unusedSimpArgs false

theorem reads_const (w : World) (xs : List Int) (p : Nat × Nat) :
    Reads (w.alloc (.cells (bcells xs).toArray 5 p)) 1 (.slice (some ⟨w.heap.size, 0, none⟩) xs.length xs.length) xs.length (bcells xs) := by
  refine ⟨by simp [bcells], Or.inr ⟨_, _, rfl, fun j u hj => ?_⟩⟩
  have e : (w.alloc (.cells (bcells xs).toArray 5 p)).heap[w.heap.size]? = some (.cells (bcells xs).toArray 5 p) := by
    show (w.heap.push _)[w.heap.size]? = _
    simp
  have e2 : (⟨w.heap.size, 0, none⟩ : Addr).add j = ⟨w.heap.size, j, none⟩ := by cases j <;> simp [Addr.add]
  rw [e2, cell_of_heap e]
  simpa using hj

/-- Held beside a new row. -/
theorem Held.row {O : Nat → Prop} {w : World} {d : Nat} {A : ADsk} (h : Held O w d A) (o : Obj) : Held (fun k => O k ∨ k = w.heap.size) (w.alloc o) d A :=
  (h.fresh ((Mod.refl (fun _ => False) w).alloc o) (fun _ _ h => h.elim)).weaken (fun k hk => hk.elim Or.inl (fun e => Or.inr (by subst e; simp)))

theorem ne_const {a b : Int} (h : a = b) : (a != b) = false := by simp [h]

theorem held_append_to {O : Nat → Prop} {w : World} {d : Nat} {A A' : ADsk} {r : Int} (h : Held O w d A) (s : ByteArray) (hs : s.size ≤ maxLen) (v : Value) (bs : List Int) (hrd : Reads w 1 v bs.length (bcells bs)) (hO : bs ≠ [] → ∀ k, v.ownBlock = some k → O k) (hbn : bs.length ≤ 140737488355328) (hr : A.append s.data.toList bs = (A', r)) :
    Calls Tryd.prog 47 #[.pointer (some ⟨d, 0, none⟩), .string s, v] w (HStep O w d (.int .i64 r) A') := by
  have := held_append h s hs v bs hrd hO hbn; rw [hr] at this; exact this
theorem held_sync_to {O : Nat → Prop} {w : World} {d : Nat} {A A' : ADsk} {r : Int} (h : Held O w d A) (s : ByteArray) (hs : s.size ≤ maxLen) (hr : A.sync s.data.toList = (A', r)) :
    Calls Tryd.prog 48 #[.pointer (some ⟨d, 0, none⟩), .string s] w (HStep O w d (.int .i64 r) A') := by
  have := held_sync h s hs; rw [hr] at this; exact this
theorem held_rename_to {O : Nat → Prop} {w : World} {d : Nat} {A A' : ADsk} {r : Int} (h : Held O w d A) (s t : ByteArray) (hs : s.size ≤ maxLen) (ht : t.size ≤ maxLen) (hr : A.rename s.data.toList t.data.toList = (A', r)) :
    Calls Tryd.prog 49 #[.pointer (some ⟨d, 0, none⟩), .string s, .string t] w (HStep O w d (.int .i64 r) A') := by
  have := held_rename h s t hs ht; rw [hr] at this; exact this
theorem held_read_to {O : Nat → Prop} {w : World} {d : Nat} {A : ADsk} {xs : List Int} {r : Int} (h : Held O w d A) (s : ByteArray) (hs : s.size ≤ maxLen) (hr : A.read s.data.toList = (xs, r)) :
    Calls Tryd.prog 45 #[.pointer (some ⟨d, 0, none⟩), .string s] w (HRead O w d A xs r) := by
  have := held_read h s hs; rw [hr] at this; exact this

/-- The bytes of a new row, beside a disk. -/
theorem Held.reads_const {O : Nat → Prop} {w : World} {d : Nat} {A A' : ADsk} {r : Int} (h : Held O w d A) (s : ByteArray) (hs : s.size ≤ maxLen) (xs : List Int) (p : Nat × Nat) (hl : xs.length ≤ 140737488355328) (hr : A.append s.data.toList xs = (A', r)) (cs : Array Value) (hcs : cs = (bcells xs).toArray) (n : Nat) (hn : n = xs.length) :
    Calls Tryd.prog 47 #[.pointer (some ⟨d, 0, none⟩), .string s, .slice (some ⟨w.heap.size, 0, none⟩) n n] (w.alloc (.cells cs 5 p)) fun e w' => e = .returned (.int .i64 r) ∧ Held O w' d A' ∧ Mod (fun k => ¬ O k) w w' := by
  subst hcs; subst hn
  refine (held_append_to (h.row _) s hs _ xs (Go.Proofs.YtmpdmejlpicdlaaDoor.reads_const w xs p) (fun _ k hk => Or.inr (by simpa [Value.ownBlock] using hk.symm)) hl hr).mono ?_
  rintro e w1 ⟨rfl, hH, hm⟩
  exact ⟨rfl, hH.weaken (fun k hk => Or.inl hk), ((Mod.refl (fun k => ¬ O k) w).alloc _).trans hm (fun k hk h1 h2 => h1 (Or.inl h2))⟩

theorem addr_add (b o j : Nat) : (⟨b, o, none⟩ : Addr).add j = ⟨b, o + j, none⟩ := by cases j <;> simp [Addr.add]

/-- The bytes of a row that is not empty, as a string. -/
theorem convert_reads {w : World} {v : Value} {x : Int} {xs : List Int} (h : Reads w 1 v (x :: xs).length (bcells (x :: xs))) :
    (convert 22 9 v).run Tryd.prog w = .ok (.string (strOfNums (x :: xs))) w := by
  obtain ⟨a, c, rfl⟩ := reads_form h
  cases a with
  | none => exact absurd (reads_empty h).2 (by simp)
  | some a =>
    obtain ⟨b, o, sp⟩ := a
    have h0 := reads_at h (k := 0) (by simp)
    have hs : sp = none := by
      cases sp with
      | none => rfl
      | some s => simp [World.cell?, Addr.add] at h0; split at h0 <;> cases h0
    subst hs
    refine run_convert_bytes_arg (P := Tryd.prog) (w := w) 22 5 Tryd.underlying22 Tryd.underlying5 b o _ c (x :: xs) rfl (fun i hi => ?_) 9 Tryd.underlying9
    have := reads_at h hi
    rw [addr_add] at this
    simp only [List.getD_eq_getElem?_getD, List.getElem?_eq_getElem hi, Option.getD_some]; exact this

end Go.Proofs.YtmpdmejlpicdlaaDoor

/- ledger.Named and the small tests of ledger, walked. -/
import Derived.Test.YtcjbhgnlmmeeeaaGreatDoorThing
namespace Go.Proofs.YtcjbhgnlmmeeeaaGreatDoor
open Go.RowKit Go.Bw Go.Maps Go.Shelf
set_option linter.unusedVariables false
set_option linter.unusedSimpArgs false

theorem toList_beq (a b : ByteArray) : (a.toList == b.toList) = true ↔ a = b := by
  rw [beq_iff_eq, ByteArray.toList_eq, ByteArray.toList_eq]
  constructor
  · intro h; exact ByteArray.ext (by simpa [Array.toList_inj] using h)
  · intro h; rw [h]
/-- A box's cells. -/
structure BoxAt (w : World) (b : Nat) (cs : Array Value) : Prop where
  at_ : ∀ (j : Nat) v, cs[j]? = some v → w.cell? ⟨b, j, none⟩ = some v
  lt : b < w.heap.size
theorem BoxAt.mod {w w' : World} {b : Nat} {cs : Array Value} {S : Nat → Prop} (h : BoxAt w b cs) (hm : Mod S w w') (hS : ¬ S b) : BoxAt w' b cs :=
  ⟨fun j v hj => hm.cell (h.at_ j v hj) hS, Nat.lt_of_lt_of_le h.lt hm.size⟩
theorem BoxAt.below {w w' : World} {b : Nat} {cs : Array Value} (h : BoxAt w b cs) (hb : Below w.heap.size w w') : BoxAt w' b cs := h.mod (Mod.of_below hb) (fun h => h)
theorem BoxAt.new (w : World) (cs : Array Value) (T : TypeId) : BoxAt (w.alloc (.cells cs T)) w.heap.size cs :=
  ⟨fun j v hj => by rw [cell_of_heap (heap_alloc_new w _)]; exact hj, by simp⟩

set_option maxHeartbeats 400000 in
theorem named1_any (w : World) (u : Und) (s : ByteArray) (b : Nat) (hb : w.cell? ⟨b, 0, none⟩ = some (.string s)) :
    Calls Tryz.prog 136 #[.agg #[.string u.name, .int .i64 u.cur, .int .i64 u.price, .int .i64 u.vol], .pointer (some ⟨b, 0, none⟩)] w fun e w' => e = .returned (.bool (u.name.toList == s.toList)) ∧ Below w.heap.size w w' := by
  have M := (Mod.refl (fun _ => False) w).alloc (.cells #[.string u.name, .int .i64 u.cur, .int .i64 u.price, .int .i64 u.vol] 60)
  have c := M.cell hb (fun h => h)
  clear M hb
  go_enter Tryz.func136, Tryz.ntmps136
  go_wp2_with fail
  go_ret
  refine ⟨?_, (Below.refl _ _).alloc (Nat.le_refl _) _⟩
  rfl
set_option maxHeartbeats 1000000 in
theorem named_any (w : World) (v : Value) (l : List Und) (s : ByteArray) (hR : RowOf w 4 Und.cells v l) :
    Calls Tryz.prog 95 #[v, .string s] w fun e w' => e = .returned (.int .i64 (idxL (fun u => u.name.toList == s.toList) l)) ∧ Below w.heap.size w w' := by
  have B1 := Lib.hid ((Below.refl w.heap.size w).alloc (Nat.le_refl _) (.cells #[.string s] 9))
  have X := BoxAt.new w #[.string s] 9
  have FI := Lib.hid (indexFunc_under (w.alloc (.cells #[.string s] 9)) v l 136 #[.pointer (some ⟨w.heap.size, 0, none⟩)] (fun u => u.name.toList == s.toList) (enters_of Tryz.func136 (by kernel_rfl) rfl) (hR.below B1.out)
    (fun W x hb hx => named1_any W x s w.heap.size ((X.below hb).at_ 0 _ rfl)))
  obtain ⟨R, hRr⟩ : ∃ R, R = idxL (fun u => u.name.toList == s.toList) l := ⟨_, rfl⟩
  rw [← hRr] at FI ⊢
  obtain ⟨a, c, rfl⟩ := hR.form
  clear hRr hR X
  go_enter Tryz.func95, Tryz.ntmps95
  go_wp2_with fail
  refine FI.out.mono ?_
  rintro e w' ⟨rfl, hb⟩
  have B := Lib.hid (B1.out.trans (hb.mono (by simp)))
  clear hb
  go_wp2_with fail
  go_ret
  exact ⟨rfl, B.out⟩
open Classical in
set_option maxHeartbeats 1000000 in
theorem things1_any (w : World) (x : Ins) (n : Nat) (hn : n ≤ 6) (b : Nat) (a : Option Addr) (cc : Nat) (hb : w.cell? ⟨b, 2, none⟩ = some (.slice a n cc)) :
    Calls Tryz.prog 97 #[.agg #[.int .i64 x.kind, .int .i64 x.under, .int .i64 x.mult, .int .i64 x.strike, .int .i64 x.expiry, .bool x.call, .int .i64 x.mark], .pointer (some ⟨b, 0, none⟩)] w fun e w' => e = .returned (.bool (!decide (x.Ok n))) ∧ Below w.heap.size w w' := by
  have B1 := Lib.hid ((Below.refl w.heap.size w).alloc (Nat.le_refl _) (.cells #[.int .i64 x.kind, .int .i64 x.under, .int .i64 x.mult, .int .i64 x.strike, .int .i64 x.expiry, .bool x.call, .int .i64 x.mark] 54))
  have M := (Mod.refl (fun _ => False) w).alloc (.cells #[.int .i64 x.kind, .int .i64 x.under, .int .i64 x.mult, .int .i64 x.strike, .int .i64 x.expiry, .bool x.call, .int .i64 x.mark] 54)
  have c := M.cell hb (fun h => h)
  obtain ⟨R, hRr⟩ : ∃ R, R = decide (x.Ok n) := ⟨_, rfl⟩
  have I := Lib.hid (ins_any x n hn)
  rw [← hRr] at I ⊢
  clear M hb hRr
  go_enter Tryz.func97, Tryz.ntmps97
  go_wp2_with fail
  refine (I.out _).mono ?_
  rintro e w' ⟨rfl, hb⟩
  have B := Lib.hid (B1.out.trans (hb.mono (by simp)))
  clear hb
  go_wp2_with fail
  go_ret
  exact ⟨rfl, B.out⟩
set_option maxHeartbeats 1000000 in
theorem accounts1_any (w : World) (x : Int) (hx : I64 x) :
    Calls Tryz.prog 102 #[.int .i64 x] w fun e w' => e = .returned (.bool (!fitsA x)) ∧ Below w.heap.size w w' := by
  have F := Lib.hid (ffits_any x hx)
  obtain ⟨R, hRr⟩ : ∃ R, R = fitsA x := ⟨_, rfl⟩
  rw [← hRr] at F ⊢
  clear hRr hx
  go_enter Tryz.func102, Tryz.ntmps102
  go_wp2_with fail
  refine (F.out _).mono ?_
  rintro e w' ⟨rfl, rfl⟩
  go_wp2_with fail
  go_ret
  exact ⟨rfl, Below.refl _ _⟩
set_option maxHeartbeats 1000000 in
theorem good1_any (w : World) (o : Ord) (p : List (Acc × Value)) (x : Acc × Value) (b : Nat) (a : Option Addr) (cc : Nat) (hb : w.cell? ⟨b, 4, none⟩ = some (.slice a p.length cc)) (hR : RowOf w 4 Acc.cells (.slice a p.length cc) p)
    (h0 : 0 ≤ o.acct) (hx : p[o.acct.toNat]? = some x) :
    Calls Tryz.prog 59 #[.agg #[.int .i64 o.acct, .int .i64 o.id, .int .i64 o.instr, .int .i64 o.qty, .int .i64 o.price], .pointer (some ⟨b, 0, none⟩)] w fun e w' => e = .returned (.bool (decide (x.1.last < o.id))) ∧ Below w.heap.size w w' := by
  have B1 := Lib.hid ((Below.refl w.heap.size w).alloc (Nat.le_refl _) (.cells #[.int .i64 o.acct, .int .i64 o.id, .int .i64 o.instr, .int .i64 o.qty, .int .i64 o.price] 46))
  have M := (Mod.refl (fun _ => False) w).alloc (.cells #[.int .i64 o.acct, .int .i64 o.id, .int .i64 o.instr, .int .i64 o.qty, .int .i64 o.price] 46)
  have c := M.cell hb (fun h => h)
  obtain ⟨ab, ao, rfl, _, hc⟩ := hR.at_ hx
  obtain ⟨k, hk⟩ : ∃ k : Nat, o.acct = (k : Int) := ⟨o.acct.toNat, by omega⟩
  have kt : o.acct.toNat = k := by omega
  rw [kt] at hc
  have c3 := M.cell (hc 3 (.int .i64 x.1.last) rfl) (fun h => h)
  have k1 : k < p.length := by rw [kt] at hx; exact (List.getElem?_eq_some_iff.1 hx).1
  have i1 : (0 : Int) ≤ o.acct := h0
  have i2 : o.acct < (p.length : Int) := by omega
  rw [hk] at B1 c c3 i1 i2 ⊢
  clear M hb hR hc hx h0 k1 kt hk
  go_enter Tryz.func59, Tryz.ntmps59
  go_wp2_with fail
  go_quiet (fail)
  go_wp2_with fail
  go_ret
  exact ⟨rfl, below_drewN B1.out _⟩
end Go.Proofs.YtcjbhgnlmmeeeaaGreatDoor

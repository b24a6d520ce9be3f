/- A ledger of one's own and boxes, changed: plain steps. -/
import Derived.Test.YtcjbhgnlmmeeeaaGreatDoorLedS
namespace Go.Bw
open Go.RowKit
set_option linter.unusedVariables false
set_option linter.unusedSimpArgs false
theorem At.sub {w W : World} {bs cs : List (Nat × TypeId × Array Value)} (h : At w W bs) (hs : cs.Sublist bs) : At w W cs :=
  ⟨h.low, fun x hx => h.has x (hs.subset hx), fun x hx => h.new x (hs.subset hx), h.nod.sublist (hs.map _)⟩
/-- One thing in a block just made is a row of one's own. -/
theorem own_one {α : Type} {n : Nat} {f : α → List Value} (w : World) (B : Nat) (e : TypeId) (hB : B ≤ w.heap.size) (x : α) (cs : Array Value) (hcs : cs.toList = f x) (hf : (f x).length = n) : OwnOf (w.alloc (.cells cs e)) B e n f (.slice (some ⟨w.heap.size, 0, none⟩) 1 1) [x] := by
  have h1 : cs.size = n := by rw [← hf, ← hcs]; simp
  refine ⟨by simp [hf], Or.inr ⟨w.heap.size, 1, cs, rfl, hB, heap_alloc_new w _, Nat.le_refl _, by unfold maxLen; omega, by omega, ?_⟩⟩
  rw [hcs]
  simp
  exact List.take_of_length_le (by omega)
structure FBs (w : World) (R0 : Nat) (bs : List (Nat × TypeId × Array Value)) (V : LedV) (l : Led) (W : World) : Prop where
  at_ : At w W bs
  own : LedOwn W R0 V l
  nin : ∀ x ∈ bs, V.NotIn x.1
  rb : R0 ≤ W.heap.size
  lo : w.heap.size ≤ R0
variable {w W W' : World} {R0 b i o : Nat} {bs : List (Nat × TypeId × Array Value)} {V : LedV} {l L : Led} {T : TypeId} {cs : Array Value}
theorem FBs.go (h : FBs w R0 bs V l W) (hb : Below W.heap.size W W') : FBs w R0 bs V l W' := ⟨h.at_.go hb, h.own.below hb, h.nin, Nat.le_trans h.rb hb.size, h.lo⟩
theorem FBs.box (h : FBs w R0 bs V l W) (T : TypeId) (cs : Array Value) : FBs w R0 (bs ++ [(W.heap.size, T, cs)]) V l (W.alloc (.cells cs T)) := by
  have hb : Below W.heap.size W (W.alloc (.cells cs T)) := (Below.refl _ _).alloc (Nat.le_refl _) _
  refine ⟨h.at_.alloc T cs, h.own.below hb, fun x hx => ?_, Nat.le_trans h.rb hb.size, h.lo⟩
  rcases List.mem_append.1 hx with hx | hx
  · exact h.nin x hx
  · obtain rfl := List.mem_singleton.1 hx
    exact h.own.notin (Or.inr (Nat.le_refl _))
theorem FBs.cell (h : FBs w R0 bs V l W) (i : Nat) (hi : bs[i]? = some (b, T, cs)) (o : Nat) (u : Value) : FBs w R0 (bs.set i (b, T, cs.setIfInBounds o u)) V l (W.setCell ⟨b, o, none⟩ u) := by
  refine ⟨h.at_.setCell i hi o u, h.own.keep ((Mod.refl (fun k => k = b) W).setCell u (fun _ => rfl)) (fun k e => by rw [e]; exact h.nin _ (List.mem_of_getElem? hi)), fun x hx => ?_, Nat.le_trans h.rb (by simp [World.setCell]), h.lo⟩
  rcases List.mem_or_eq_of_mem_set hx with hx | rfl
  · exact h.nin x hx
  · exact h.nin (b, T, cs) (List.mem_of_getElem? hi)
theorem notin_set {V V' : LedV} {q : Nat} {v : Value} (h : V.NotIn b) (hr : V'.rows = V.rows.set q v) (hv : v.ownBlock ≠ some b) : V'.NotIn b := by
  intro x hx
  rw [hr] at hx
  rcases List.mem_or_eq_of_mem_set hx with hx | rfl
  · exact h x hx
  · exact hv
/-- A row is another one, just made of one thing, and stored in the ledger's box. -/
theorem FBs.orders1 (h : FBs w R0 bs V l W) (i : Nat) (hi : bs[i]? = some (b, T, V.cells L)) (x : Ord) (cs : Array Value) (hcs : cs.toList = Ord.cells x) :
    FBs w R0 (bs.set i (b, T, ({ V with orders := .slice (some ⟨W.heap.size, 0, none⟩) 1 1 } : LedV).cells L)) { V with orders := .slice (some ⟨W.heap.size, 0, none⟩) 1 1 } { l with orders := [x] } ((W.alloc (.cells cs 46)).setCell ⟨b, 6, none⟩ (.slice (some ⟨W.heap.size, 0, none⟩) 1 1)) := by
  have hb : Below W.heap.size W (W.alloc (.cells cs 46)) := (Below.refl _ _).alloc (Nat.le_refl _) _
  have o1 := h.own.new_orders (w' := W.alloc (.cells cs 46)) (v := .slice (some ⟨W.heap.size, 0, none⟩) 1 1) (xs := [x]) ((Mod.of_below hb).mono (fun _ _ h => h.elim)) (own_one W R0 46 h.rb x cs hcs rfl) (fun k hk => Or.inr (by simp [Value.ownBlock] at hk; omega))
  have hlt := h.at_.lt
  have nn : ∀ y ∈ bs, LedV.NotIn { V with orders := .slice (some ⟨W.heap.size, 0, none⟩) 1 1 } y.1 := fun y hy => notin_set (q := 5) (h.nin y hy) rfl (by have := hlt y hy; simp [Value.ownBlock]; omega)
  have F : FBs w R0 bs { V with orders := .slice (some ⟨W.heap.size, 0, none⟩) 1 1 } { l with orders := [x] } (W.alloc (.cells cs 46)) := ⟨h.at_.go hb, o1, nn, Nat.le_trans h.rb hb.size, h.lo⟩
  exact F.cell i hi 6 _
theorem FBs.poss1 (h : FBs w R0 bs V l W) (i : Nat) (hi : bs[i]? = some (b, T, V.cells L)) (x : Pos) (cs : Array Value) (hcs : cs.toList = Pos.cells x) :
    FBs w R0 (bs.set i (b, T, ({ V with poss := .slice (some ⟨W.heap.size, 0, none⟩) 1 1 } : LedV).cells L)) { V with poss := .slice (some ⟨W.heap.size, 0, none⟩) 1 1 } { l with poss := [x] } ((W.alloc (.cells cs 43)).setCell ⟨b, 5, none⟩ (.slice (some ⟨W.heap.size, 0, none⟩) 1 1)) := by
  have hb : Below W.heap.size W (W.alloc (.cells cs 43)) := (Below.refl _ _).alloc (Nat.le_refl _) _
  have o1 := h.own.new_poss (w' := W.alloc (.cells cs 43)) (v := .slice (some ⟨W.heap.size, 0, none⟩) 1 1) (xs := [x]) ((Mod.of_below hb).mono (fun _ _ h => h.elim)) (own_one W R0 43 h.rb x cs hcs rfl) (fun k hk => Or.inr (by simp [Value.ownBlock] at hk; omega))
  have hlt := h.at_.lt
  have nn : ∀ y ∈ bs, LedV.NotIn { V with poss := .slice (some ⟨W.heap.size, 0, none⟩) 1 1 } y.1 := fun y hy => notin_set (q := 4) (h.nin y hy) rfl (by have := hlt y hy; simp [Value.ownBlock]; omega)
  have F : FBs w R0 bs { V with poss := .slice (some ⟨W.heap.size, 0, none⟩) 1 1 } { l with poss := [x] } (W.alloc (.cells cs 43)) := ⟨h.at_.go hb, o1, nn, Nat.le_trans h.rb hb.size, h.lo⟩
  exact F.cell i hi 5 _
/-- No positions; no orders. -/
theorem FBs.poss0 (h : FBs w R0 bs V l W) (i : Nat) (hi : bs[i]? = some (b, T, V.cells L)) : FBs w R0 (bs.set i (b, T, ({ V with poss := .slice none 0 0 } : LedV).cells L)) { V with poss := .slice none 0 0 } { l with poss := [] } (W.setCell ⟨b, 5, none⟩ (.slice none 0 0)) := by
  have o1 := h.own.new_poss (w' := W) (v := .slice none 0 0) (xs := []) (Mod.refl _ W) (OwnOf.nil _ _ _ _ _) (fun k hk => by simp [Value.ownBlock] at hk)
  have F : FBs w R0 bs { V with poss := .slice none 0 0 } { l with poss := [] } W := ⟨h.at_, o1, fun y hy => notin_set (q := 4) (h.nin y hy) rfl (by simp [Value.ownBlock]), h.rb, h.lo⟩
  exact F.cell i hi 5 _
theorem FBs.orders0 (h : FBs w R0 bs V l W) (i : Nat) (hi : bs[i]? = some (b, T, V.cells L)) : FBs w R0 (bs.set i (b, T, ({ V with orders := .slice none 0 0 } : LedV).cells L)) { V with orders := .slice none 0 0 } { l with orders := [] } (W.setCell ⟨b, 6, none⟩ (.slice none 0 0)) := by
  have o1 := h.own.new_orders (w' := W) (v := .slice none 0 0) (xs := []) (Mod.refl _ W) (OwnOf.nil _ _ _ _ _) (fun k hk => by simp [Value.ownBlock] at hk)
  have F : FBs w R0 bs { V with orders := .slice none 0 0 } { l with orders := [] } W := ⟨h.at_, o1, fun y hy => notin_set (q := 5) (h.nin y hy) rfl (by simp [Value.ownBlock]), h.rb, h.lo⟩
  exact F.cell i hi 6 _
/-- An instrument's mark. -/
theorem FBs.mark (h : FBs w R0 bs V l W) {g c k : Nat} (hv : V.instrs = .slice (some ⟨g, 0, none⟩) l.instrs.length c) {x : Ins} (hk : l.instrs[k]? = some x) (m : Int) :
    FBs w R0 bs V { l with instrs := l.instrs.set k { x with mark := m } } (W.setCell ⟨g, k * 7 + 6, none⟩ (.int .i64 m)) := by
  obtain ⟨o1, M⟩ := h.own.set_instrs hv (x' := { x with mark := m }) (u := .int .i64 m) hk (j := 6) (by decide) rfl
  have hg := h.own.lts V.instrs (by simp [LedV.rows]) g (by rw [hv]; rfl)
  have hlo := h.lo
  exact ⟨h.at_.mod M (fun j e => by omega) (fun y hy e => h.nin y hy V.instrs (by simp [LedV.rows]) (by rw [hv, e]; rfl)), o1, h.nin, Nat.le_trans h.rb M.size, h.lo⟩
end Go.Bw

/- For DiskRefuses: a call that is refused without a raw write changes nothing; a row of rows that one makes. -/
import Derived.Test.YtanabedbddpooaaDiskRa
namespace Go.Proofs.Ytanabedbddpooaa
open Go.RowKit Go.Bw Go.Maps
set_option linter.unusedVariables false
set_option linter.unusedSimpArgs false

theorem wrap_ne (x : Int) : RowKit.wrap64 (x + 1) ≠ x := by unfold RowKit.wrap64; omega
theorem goesOff_wr (A : ADsk) (k : Int) : (A.goesOff k).wr = A.wr := by unfold ADsk.goesOff; split <;> rfl
theorem refused_does {A : ADsk} {f : List (Nm × Cont) → List (Nm × Cont)} (h : (A.does f).2 ≠ 0) : (A.does f).1.wr ≠ A.wr := by
  unfold ADsk.does at *
  split at h
  · rename_i ha; rw [if_pos ha]; show (ADsk.goesOff _ _).wr ≠ _; rw [goesOff_wr]; exact wrap_ne A.wr
  · exact absurd rfl h
theorem refused_append {A : ADsk} {n : Nm} {b : List Int} (h : (A.append n b).2 ≠ 0) (hw : (A.append n b).1.wr = A.wr) : (A.append n b).1 = A := by
  unfold ADsk.append at *
  by_cases h1 : A.ready n ≠ 0
  · rw [if_pos h1]
  · rw [if_neg h1] at h hw ⊢
    dsimp only at h hw ⊢
    by_cases h2 : ((lookF A.files n).getD ⟨[], []⟩).len + b.length > 1048576
    · rw [if_pos h2]
    · rw [if_neg h2] at h hw ⊢
      by_cases h3 : ((lookF A.files n).isNone = true ∧ 16 ≤ A.files.length) ∨ A.room < ((total A.files + b.length : Nat) : Int)
      · rw [if_pos h3]
      · rw [if_neg h3] at h hw ⊢
        by_cases h4 : A.ar = 1
        · rw [if_pos h4] at hw
          rw [goesOff_wr] at hw
          exact absurd hw (wrap_ne A.wr)
        · rw [if_neg h4] at h; exact absurd rfl h
theorem refused_sync {A : ADsk} {n : Nm} (h : (A.sync n).2 ≠ 0) (hw : (A.sync n).1.wr = A.wr) : (A.sync n).1 = A := by
  unfold ADsk.sync at *
  by_cases h1 : A.there n ≠ 0
  · rw [if_pos h1]
  · rw [if_neg h1] at h hw; exact absurd hw (refused_does h)
theorem refused_trunc {A : ADsk} {n : Nm} {k : Int} (h : (A.trunc n k).2 ≠ 0) (hw : (A.trunc n k).1.wr = A.wr) : (A.trunc n k).1 = A := by
  unfold ADsk.trunc at *
  by_cases h1 : A.there n ≠ 0
  · rw [if_pos h1]
  · rw [if_neg h1] at h hw ⊢
    dsimp only at h hw ⊢
    by_cases h2 : k < 0 ∨ (((lookF A.files n).getD ⟨[], []⟩).len : Int) < k
    · rw [if_pos h2]
    · rw [if_neg h2] at h hw; exact absurd hw (refused_does h)
theorem refused_rename {A : ADsk} {n to : Nm} (h : (A.rename n to).2 ≠ 0) (hw : (A.rename n to).1.wr = A.wr) : (A.rename n to).1 = A := by
  unfold ADsk.rename at *
  by_cases h1 : A.there n = 1
  · rw [if_pos h1]
  · rw [if_neg h1] at h hw ⊢
    by_cases h2 : namedB to = false
    · rw [if_pos h2]
    · rw [if_neg h2] at h hw ⊢
      by_cases h3 : A.there n ≠ 0
      · rw [if_pos h3]
      · rw [if_neg h3] at h hw; exact absurd hw (refused_does h)
theorem refused_remove {A : ADsk} {n : Nm} (h : (A.remove n).2 ≠ 0) (hw : (A.remove n).1.wr = A.wr) : (A.remove n).1 = A := by
  unfold ADsk.remove at *
  by_cases h1 : A.there n ≠ 0
  · rw [if_pos h1]
  · rw [if_neg h1] at h hw; exact absurd hw (refused_does h)
theorem play_refused {A : ADsk} {o : SOp} (h : (play A o).2.2 ≠ 0) (hw : (play A o).1.wr = A.wr) : (play A o).1 = A := by
  unfold play at *
  by_cases h0 : o.kind = 0
  · rw [if_pos h0] at h hw ⊢; exact refused_append h hw
  rw [if_neg h0] at h hw ⊢
  by_cases h0 : o.kind = 1
  · rw [if_pos h0] at h hw ⊢; exact refused_sync h hw
  rw [if_neg h0] at h hw ⊢
  by_cases h0 : o.kind = 2
  · rw [if_pos h0] at h hw ⊢; exact refused_trunc h hw
  rw [if_neg h0] at h hw ⊢
  by_cases h0 : o.kind = 3
  · rw [if_pos h0] at h hw ⊢; exact refused_rename h hw
  rw [if_neg h0] at h hw ⊢
  by_cases h0 : o.kind = 4
  · rw [if_pos h0] at h hw ⊢; exact refused_remove h hw
  rw [if_neg h0] at h hw ⊢
  by_cases h0 : o.kind = 5
  · rw [if_pos h0] at h hw ⊢
  rw [if_neg h0] at h hw ⊢
  by_cases h0 : o.kind = 6
  · rw [if_pos h0] at h; exact absurd rfl h
  rw [if_neg h0] at h hw ⊢
  by_cases h0 : o.kind = 7
  · rw [if_pos h0] at h; exact absurd rfl h
  rw [if_neg h0] at h hw ⊢
  by_cases h0 : o.kind = 8
  · rw [if_pos h0] at h; exact absurd rfl h
  rw [if_neg h0] at h hw ⊢
  by_cases h0 : o.kind = 9
  · rw [if_pos h0] at h; exact absurd rfl h
  rw [if_neg h0] at h hw ⊢

theorem TBytes.info : (Try.prog.info? 28).map (fun i => (i.zero, i.size, i.bytes)) = some (some (.slice none 0 0), 1, 24) := by kernel_rfl

/-- A row of rows grown by one. -/
theorem app_row_run (wr : World) (B : Nat) (v : Value) (cs : List Value) (hor : wr.ownsRow B 28 1 v cs.length cs) (hB : B ≤ wr.heap.size) (p : Addr) (c : Nat) (x : Value) (hx : wr.cell? p = some x) (h1 : x.oneCell' = true) (hl : cs.length ≤ 1000000) :
    ∃ v' w3, (Builtin.append_ #[22, 22] 22 #[v, .slice (some p) 1 c]).run Try.prog wr = .ok v' w3 ∧ w3.ownsRow B 28 1 v' (cs.length + 1) (cs ++ [x]) ∧
      Mod (fun k => v.ownBlock = some k) wr w3 ∧ ∀ k, v'.ownBlock = some k → v.ownBlock = some k ∨ wr.heap.size ≤ k := by
  obtain ⟨i0, h1', h2, h3, h4⟩ := info_parts TBytes.info
  obtain ⟨v', w3, hrun, ho3, hm3, hb3, _⟩ := run_append_to (P := Try.prog) 22 22 28 i0 (.slice none 0 0) 1 24 Try.underlying22 h1' h2 h3 h4 rfl (by decide) v _ _ (ownsRow_base hor (base' := 0) (fun _ _ => Nat.zero_le _)) (.slice (some p) 1 c) 1 [x]
    ⟨rfl, Or.inr ⟨p, c, rfl, fun j u hj => by
      cases j with
      | zero => simp at hj; subst hj; simpa [Addr.add] using hx
      | succ j => simp at hj⟩⟩ (by simpa using h1) (by unfold maxLen; omega) (by omega)
  refine ⟨v', w3, hrun, ?_, hm3, fun k hk => (hb3 k hk).imp id (fun e => by omega)⟩
  exact ownsRow_base ho3 (fun j hj => by
    rcases hb3 j hj with h5 | h5
    · exact (hor.lt j h5).1
    · omega)

/-- All bytes of a file. -/
def _root_.Go.Bw.Cont.all (c : Cont) : List Int := c.safe ++ c.wait

/-- How DiskRefuses stands having read j files since the world wo. -/
structure WasAt (O : Nat → Prop) (wo wx : World) (d : Nat) (A : ADsk) (F : List (Nm × Cont)) (j : Nat) (v : Value) : Prop where
  ex : ∃ cs : List Value, cs.length = j ∧ wx.ownsRow wo.heap.size 28 1 v j cs ∧ ∀ i q, i < j → F[i]? = some q → ∃ u, cs[i]? = some u ∧ Reads wx 1 u (q.2.all).length (bcells (q.2.all)) ∧
    ∀ k, u.ownBlock = some k → wo.heap.size ≤ k ∧ k < wx.heap.size ∧ v.ownBlock ≠ some k
  held : Held (fun k => O k ∨ (wo.heap.size ≤ k ∧ k < wx.heap.size)) wx d A
  mod : Mod (fun _ => False) wo wx

theorem WasAt.start {O : Nat → Prop} {wo : World} {d : Nat} {A : ADsk} (F : List (Nm × Cont)) (h : Held O wo d A) : WasAt O wo wo d A F 0 (.slice none 0 0) :=
  ⟨⟨[], rfl, World.ownsRow_nil _ _ _ _, fun i q hi => by omega⟩, h.weaken (fun k hk => hk.elim id (fun h => by omega)), Mod.refl _ _⟩

theorem slice_oneCell (a : Option Addr) (n c : Nat) : (Value.slice a n c).oneCell' = true := rfl

/-- A file more has been read, in w1, and is being put behind the others. -/
theorem WasAt.step {O : Nat → Prop} {wo wx w1 : World} {d : Nat} {A : ADsk} {F : List (Nm × Cont)} {j : Nat} {v : Value} (h : WasAt O wo wx d A F j v) {q : Nm × Cont} (hq : F[j]? = some q) (hj : j ≤ 1000000) {u : Value}
    (ho : w1.ownsRow wx.heap.size 5 1 u (q.2.all).length (bcells (q.2.all))) (hb : Below wx.heap.size wx w1) (hH : Held (fun k => (O k ∨ (wo.heap.size ≤ k ∧ k < wx.heap.size)) ∨ (wx.heap.size ≤ k ∧ k < w1.heap.size)) w1 d A) (hu : u.oneCell' = true) :
    ∃ v' w3, (Builtin.append_ #[22, 22] 22 #[v, .slice (some ⟨w1.heap.size, 0, none⟩) 1 1]).run Try.prog (w1.alloc (.cells #[u] 28)) = .ok v' w3 ∧ WasAt O wo w3 d A F (j + 1) v' ∧ ∃ a c, v' = .slice a (j + 1) c := by
  obtain ⟨cs, hl, hown, hall⟩ := h.ex
  subst hl
  have hm1 : Mod (fun _ => False) wx (w1.alloc (.cells #[u] 28)) := (Mod.ofBelow hb).alloc _
  have hown1 := ownsRow_kept hown (fun k hk => hm1.block k (hown.lt k hk).2 (fun h => h))
  obtain ⟨v', w3, hrun, ho3, hm3, hb3⟩ := app_row_run (w1.alloc (.cells #[u] 28)) wo.heap.size v cs hown1 (Nat.le_trans h.mod.size hm1.size) ⟨w1.heap.size, 0, none⟩ 1 u (by
    have : (w1.alloc (.cells #[u] 28)).heap[w1.heap.size]? = some (.cells #[u] 28 (0, 0)) := by show (w1.heap.push _)[w1.heap.size]? = _; simp
    rw [cell_of_heap this]; rfl) hu hj
  have e1 : (w1.alloc (.cells #[u] 28)).heap.size = w1.heap.size + 1 := by simp
  have s1 := hb.size
  have s3 := hm3.size
  have s0 := h.mod.size
  refine ⟨v', w3, hrun, ⟨⟨cs ++ [u], by simp, ho3, ?_⟩, ?_, (h.mod.trans hm1 (fun _ _ h => h)).trans hm3 (fun k hk hv => by have := (hown.lt k hv).1; omega)⟩, ownsRow_slice ho3 |>.imp fun a => fun ⟨c, hc⟩ => ⟨c, hc.1⟩⟩
  · intro i p hi hp
    by_cases hij : i < cs.length
    · obtain ⟨x, hx, hr, hk⟩ := hall i p hij hp
      refine ⟨x, by rw [List.getElem?_append_left hij]; exact hx, ?_, fun k hxk => ?_⟩
      · have hr1 : Reads (w1.alloc (.cells #[u] 28)) 1 x _ _ := Reads.kept hr hm1 (fun k _ h => h)
        exact Reads.kept hr1 hm3 (fun k hxk hvk => (hk k hxk).2.2 hvk)
      · obtain ⟨k1, k2, k3⟩ := hk k hxk
        refine ⟨k1, by omega, fun e => ?_⟩
        rcases hb3 k e with h5 | h5
        · exact k3 h5
        · omega
    · obtain rfl : i = cs.length := by omega
      rw [hq] at hp
      cases hp
      refine ⟨u, by simp, ?_, fun k huk => ?_⟩
      · have hr1 : Reads (w1.alloc (.cells #[u] 28)) 1 u _ _ := Reads.kept (ownsRow_reads ho) ((Mod.refl (fun _ => False) w1).alloc _) (fun k _ h => h)
        exact Reads.kept hr1 hm3 (fun k huk hvk => by have a1 := (ho.lt k huk).1; have a2 := (hown.lt k hvk).2; omega)
      · have a1 := ho.lt k huk
        refine ⟨by omega, by omega, fun e => ?_⟩
        rcases hb3 k e with h5 | h5
        · have := (hown.lt k h5).2; omega
        · omega
  · have hH2 := (hH.fresh ((Mod.refl (fun _ => False) w1).alloc (.cells #[u] 28)) (fun _ _ h => h.elim))
    have hH3 := hH2.fresh hm3 (fun k hk hvk => Or.inl (Or.inl (Or.inr (hown.lt k hvk))))
    refine hH3.weaken (fun k hk => ?_)
    rcases hk with hk | ⟨k1, k2⟩
    · exact Or.inl (Or.inl (Or.inl (Or.inl hk)))
    · by_cases c1 : k < wx.heap.size
      · exact Or.inl (Or.inl (Or.inl (Or.inr ⟨k1, c1⟩)))
      · by_cases c2 : k < w1.heap.size
        · exact Or.inl (Or.inl (Or.inr ⟨by omega, c2⟩))
        · by_cases c3 : k < (w1.alloc (.cells #[u] 28)).heap.size
          · exact Or.inl (Or.inr ⟨by omega, c3⟩)
          · exact Or.inr ⟨by omega, k2⟩
end Go.Proofs.Ytanabedbddpooaa

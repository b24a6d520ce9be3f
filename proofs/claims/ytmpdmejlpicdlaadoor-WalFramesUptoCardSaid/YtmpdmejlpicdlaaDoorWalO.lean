/- wal.Open, walked. -/
import Derived.Test.YtmpdmejlpicdlaaDoorWalI
import Derived.Test.YtmpdmejlpicdlaaDoorWalN
import Derived.Test.YtmpdmejlpicdlaaDoorLexC
namespace Go.Proofs.YtmpdmejlpicdlaaDoor
open Go.RowKit Go.Bw Go.Maps
set_option linter.unusedVariables false
set_option linter.unusedSimpArgs false

/-- A journal's block. -/
def walCells (d : Nat) (per first next sick : Int) : Obj := .cells #[.pointer (some ⟨d, 0, none⟩), .int .i64 per, .int .i64 first, .int .i64 next, .int .i64 sick] 86 (0, 0)
def OpenOut (Q : Nat → Prop) (w : World) (d : Nat) (per : Int) (R : OpenR) (e : Ending) (w' : World) : Prop :=
  ∃ Q', Left Q w d R.dsk w' Q' ∧ ((R.er = 0 ∧ ∃ wp rv, e = .returned (.tuple #[.pointer (some ⟨wp, 0, none⟩), rv, .int .i64 R.first, .int .i64 0]) ∧ w'.heap[wp]? = some (walCells d per R.wf R.wn 0) ∧ Q' wp ∧ ¬ Q wp ∧ RowsAt w' Q' rv R.out) ∨
    (R.er ≠ 0 ∧ e = .returned (.tuple #[.pointer none, .slice none 0 0, .int .i64 0, .int .i64 R.er])))

/-- How memory stands while an opening goes from file to file. -/
structure OpenM (Q3 : Nat → Prop) (w3 : World) (N n0 n1 n2 n3 wp d : Nat) (per : Int) (Aj : ADsk) (f wf wn : Int) (L : List (List Int)) (rv : Value) (Q' : Nat → Prop) (wr : World) : Prop where
  res : Res4 wr n0 n1 n2 n3 (.pointer (some ⟨wp, 0, none⟩)) rv f 0
  wal : wr.heap[wp]? = some (walCells d per wf wn 0)
  rows : RowsAt wr Q' rv L
  held : Held Q' wr d Aj
  grow : ∀ k, Q3 k → Q' k
  mod : Mod (fun k => ¬ Q3 k ∨ (N ≤ k ∧ k < N + 5)) w3 wr
  own : ∀ k, N ≤ k → k < N + 5 → Q3 k
  fresh : ∀ k, rv.ownBlock = some k → w3.heap.size ≤ k
  ad : n0 = N ∧ n1 = N + 1 ∧ n2 = N + 2 ∧ n3 = N + 3 ∧ wp = N + 4
section
variable {Q3 Q' : Nat → Prop} {w3 wr w' : World} {N n0 n1 n2 n3 wp d : Nat} {per f wf wn : Int} {Aj A' : ADsk} {L : List (List Int)} {rv : Value}
theorem OpenM.disk (h : OpenM Q3 w3 N n0 n1 n2 n3 wp d per Aj f wf wn L rv Q' wr) {Q6 : Nat → Prop} (hg : ∀ k, Q' k → Q6 k) (hH : Held Q6 w' d A') (hm : Mod (fun k => ¬ Q' k) wr w') : OpenM Q3 w3 N n0 n1 n2 n3 wp d per A' f wf wn L rv Q6 w' := by
  obtain ⟨a0, a1, a2, a3, a4⟩ := h.ad
  have own : ∀ k, N ≤ k → k < N + 5 → Q' k := fun k h1 h2 => h.grow k (h.own k h1 h2)
  refine ⟨h.res.mod hm (fun k hk => ⟨fun e => hk (own k (by omega) (by omega)), fun e => hk (own k (by omega) (by omega)), fun e => hk (own k (by omega) (by omega)), fun e => hk (own k (by omega) (by omega))⟩), hm.heap h.wal (fun hk => hk (own wp (by omega) (by omega))), (h.rows.mod hm (fun k hq hk => hk hq)).weaken (fun k _ hq => hg k hq), hH, fun k hk => hg k (h.grow k hk), h.mod.trans hm (fun k _ hk => Or.inl (fun hq => hk (h.grow k hq))), h.own, h.fresh, h.ad⟩
theorem OpenM.below (h : OpenM Q3 w3 N n0 n1 n2 n3 wp d per Aj f wf wn L rv Q' wr) (hb : Below wr.heap.size wr w') : OpenM Q3 w3 N n0 n1 n2 n3 wp d per Aj f wf wn L rv Q' w' :=
  h.disk (fun _ h => h) (h.held.mod (Mod.ofBelow hb) (fun _ _ h => h.elim)) ((Mod.ofBelow hb).mono (fun _ _ h => h.elim))
theorem OpenM.cells (h : OpenM Q3 w3 N n0 n1 n2 n3 wp d per Aj f wf wn L rv Q' wr) :
    wr.cell? ⟨n0, 0, none⟩ = some (.pointer (some ⟨wp, 0, none⟩)) ∧ wr.cell? ⟨n1, 0, none⟩ = some rv ∧ wr.cell? ⟨n2, 0, none⟩ = some (.int .i64 f) ∧ wr.cell? ⟨n3, 0, none⟩ = some (.int .i64 0) ∧ wr.cell? ⟨wp, 2, none⟩ = some (.int .i64 wf) ∧ wr.cell? ⟨wp, 3, none⟩ = some (.int .i64 wn) :=
  ⟨cell_of_heap h.res.w0 0, cell_of_heap h.res.r1 0, cell_of_heap h.res.f2 0, cell_of_heap h.res.e3 0, cell_of_heap h.wal 2, cell_of_heap h.wal 3⟩
theorem OpenM.free (h : OpenM Q3 w3 N n0 n1 n2 n3 wp d per Aj f wf wn L rv Q' wr) :
    wr.frozen? ⟨n0, 0, none⟩ = false ∧ wr.frozen? ⟨n1, 0, none⟩ = false ∧ wr.frozen? ⟨n2, 0, none⟩ = false ∧ wr.frozen? ⟨n3, 0, none⟩ = false ∧ wr.frozen? ⟨wp, 2, none⟩ = false ∧ wr.frozen? ⟨wp, 3, none⟩ = false :=
  ⟨free_of_heap h.res.w0 0, free_of_heap h.res.r1 0, free_of_heap h.res.f2 0, free_of_heap h.res.e3 0, free_of_heap h.wal 2, free_of_heap h.wal 3⟩
theorem RowsAt.set {w : World} {Q : Nat → Prop} {v : Value} {L : List (List Int)} (h : RowsAt w Q v L) {b : Nat} {cs : Array Value} {T : TypeId} {z : Nat × Nat} (hb : w.heap[b]? = some (.cells cs T z)) (h1 : T ≠ 22) (h2 : T ≠ 5) (o : Nat) (u : Value) : RowsAt (w.setCell ⟨b, o, none⟩ u) Q v L := by
  obtain ⟨vs, g1, hq, g2⟩ := h.ex
  have ne : ∀ {e : TypeId} {x : Value} {n : Nat} {xs : List Value} {k : Nat}, w.ownsRow 0 e 1 x n xs → T ≠ e → x.ownBlock = some k → k ≠ b := fun {e x n xs k} ho hT hk hkb => by
    rcases ho.2 with ⟨rfl, _⟩ | ⟨g, c, cur, rfl, _, hg, _⟩
    · cases hk
    · simp only [Value.ownBlock, Option.some.injEq] at hk
      subst hk; subst hkb
      rw [hb] at hg
      injection hg with hg
      injection hg with _ ht _
      exact hT ht
  refine ⟨⟨vs, ownsRow_kept g1 (fun k e => heap_setCell_ne (by exact ne g1 h1 e)), hq, fun i x hi => ?_⟩⟩
  obtain ⟨x', h3, h4, h5⟩ := g2 i x hi
  exact ⟨x', h3, ownsRow_kept h4 (fun k e => heap_setCell_ne (by exact ne h4 h2 e)), h5⟩
theorem OpenM.setF (h : OpenM Q3 w3 N n0 n1 n2 n3 wp d per Aj f wf wn L rv Q' wr) (f' : Int) : OpenM Q3 w3 N n0 n1 n2 n3 wp d per Aj f' wf wn L rv Q' (wr.setCell ⟨n2, 0, none⟩ (.int .i64 f')) := by
  obtain ⟨a0, a1, a2, a3, a4⟩ := h.ad
  have m := (Mod.refl (fun k => k = n2) wr).setCell (p := ⟨n2, 0, none⟩) (.int .i64 f') (fun _ => rfl)
  refine ⟨⟨m.heap h.res.w0 (by omega), m.heap h.res.r1 (by omega), by rw [heap_setCell_at h.res.f2 0]; rfl, m.heap h.res.e3 (by omega)⟩, m.heap h.wal (by omega), h.rows.set h.res.f2 (by decide) (by decide) 0 _, h.held.mod m (fun k _ e => h.grow k (h.own k (by omega) (by omega))), h.grow, h.mod.trans m (fun k _ e => Or.inr (by omega)), h.own, h.fresh, h.ad⟩
theorem OpenM.setR (h : OpenM Q3 w3 N n0 n1 n2 n3 wp d per Aj f wf wn L rv Q' wr) {v' : Value} {L' : List (List Int)} {Q6 : Nat → Prop} (hm : Mod (fun k => rv.ownBlock = some k) wr w') (hr : RowsAt w' Q6 v' L') (hg : ∀ k, Q' k → Q6 k) (hH : Held Q6 w' d Aj) (hf : ∀ k, v'.ownBlock = some k → rv.ownBlock = some k ∨ wr.heap.size ≤ k) :
    OpenM Q3 w3 N n0 n1 n2 n3 wp d per Aj f wf wn L' v' Q6 (w'.setCell ⟨n1, 0, none⟩ v') ∧ w'.cell? ⟨n1, 0, none⟩ = some rv ∧ w'.frozen? ⟨n1, 0, none⟩ = false := by
  obtain ⟨a0, a1, a2, a3, a4⟩ := h.ad
  obtain ⟨vs, g1, hq, _⟩ := h.rows.ex
  have ne : ∀ {b : Nat} {cs : Array Value} {T : TypeId} {z : Nat × Nat}, wr.heap[b]? = some (.cells cs T z) → T ≠ 22 → ¬ rv.ownBlock = some b := fun {b cs T z} hb hT hk => by
    rcases g1.2 with ⟨rfl, _⟩ | ⟨g, c, cur, rfl, _, hg', _⟩
    · cases hk
    · simp only [Value.ownBlock, Option.some.injEq] at hk
      subst hk
      rw [hb] at hg'
      injection hg' with hg'
      injection hg' with _ ht _
      exact hT ht
  have e0 := hm.heap h.res.w0 (ne h.res.w0 (by decide))
  have e1 := hm.heap h.res.r1 (ne h.res.r1 (by decide))
  have e2 := hm.heap h.res.f2 (ne h.res.f2 (by decide))
  have e3 := hm.heap h.res.e3 (ne h.res.e3 (by decide))
  have e4 := hm.heap h.wal (ne h.wal (by decide))
  have m := (Mod.refl (fun k => k = n1) w').setCell (p := ⟨n1, 0, none⟩) v' (fun _ => rfl)
  have hgrow : ∀ k, Q3 k → Q6 k := fun k hk => hg k (h.grow k hk)
  refine ⟨⟨⟨m.heap e0 (by omega), by rw [heap_setCell_at e1 0]; rfl, m.heap e2 (by omega), m.heap e3 (by omega)⟩, m.heap e4 (by omega), hr.set e1 (by decide) (by decide) 0 _, hH.mod m (fun k _ e => hgrow k (h.own k (by omega) (by omega))), hgrow, ?_, h.own, fun k hk => (hf k hk).elim (h.fresh k) (fun e => Nat.le_trans h.mod.size e), h.ad⟩, cell_of_heap e1 0, free_of_heap e1 0⟩
  exact (h.mod.trans hm (fun k hk e => by have := h.fresh k e; omega)).trans m (fun k _ e => Or.inr (by omega))
theorem OpenM.set2 (h : OpenM Q3 w3 N n0 n1 n2 n3 wp d per Aj f wf wn L rv Q' wr) (a : Int) : OpenM Q3 w3 N n0 n1 n2 n3 wp d per Aj f a wn L rv Q' (wr.setCell ⟨wp, 2, none⟩ (.int .i64 a)) := by
  obtain ⟨a0, a1, a2, a3, a4⟩ := h.ad
  have m := (Mod.refl (fun k => k = wp) wr).setCell (p := ⟨wp, 2, none⟩) (.int .i64 a) (fun _ => rfl)
  exact ⟨⟨m.heap h.res.w0 (by omega), m.heap h.res.r1 (by omega), m.heap h.res.f2 (by omega), m.heap h.res.e3 (by omega)⟩, by rw [heap_setCell_at h.wal 2]; rfl, h.rows.set h.wal (by decide) (by decide) 2 _, h.held.mod m (fun k _ e => h.grow k (h.own k (by omega) (by omega))), h.grow, h.mod.trans m (fun k _ e => Or.inr (by omega)), h.own, h.fresh, h.ad⟩
theorem OpenM.set3 (h : OpenM Q3 w3 N n0 n1 n2 n3 wp d per Aj f wf wn L rv Q' wr) (a : Int) : OpenM Q3 w3 N n0 n1 n2 n3 wp d per Aj f wf a L rv Q' (wr.setCell ⟨wp, 3, none⟩ (.int .i64 a)) := by
  obtain ⟨a0, a1, a2, a3, a4⟩ := h.ad
  have m := (Mod.refl (fun k => k = wp) wr).setCell (p := ⟨wp, 3, none⟩) (.int .i64 a) (fun _ => rfl)
  exact ⟨⟨m.heap h.res.w0 (by omega), m.heap h.res.r1 (by omega), m.heap h.res.f2 (by omega), m.heap h.res.e3 (by omega)⟩, by rw [heap_setCell_at h.wal 3]; rfl, h.rows.set h.wal (by decide) (by decide) 3 _, h.held.mod m (fun k _ e => h.grow k (h.own k (by omega) (by omega))), h.grow, h.mod.trans m (fun k _ e => Or.inr (by omega)), h.own, h.fresh, h.ad⟩
end
/-- How an opening stands ahead of file j. -/
structure OpenAt (Q3 : Nat → Prop) (w3 : World) (N n0 n1 n2 n3 wp d : Nat) (per : Int) (F : List (Nm × Cont)) (R0 : OpenR) (j : Nat) (Aj : ADsk) (f wf wn : Int) (br : Bool) (L : List (List Int)) (rv : Value) (Q' : Nat → Prop) (wr : World) : Prop where
  mem : OpenM Q3 w3 N n0 n1 n2 n3 wp d per Aj f wf wn L rv Q' wr
  eq : R0 = openGo ((F.drop j).map (·.1)) Aj f wf wn br L
  inv : Inv Aj (F.drop j)
  b1 : 0 ≤ f ∧ f ≤ 999999999
  b2 : 0 ≤ wn ∧ wn ≤ 1000000000 + 131072
  b3 : L.length ≤ 131072 * j
theorem res4_new (w : World) : Res4 ((((w.alloc (.cells #[.pointer none] 50)).alloc (.cells #[.slice none 0 0] 37)).alloc (.cells #[.int .i64 0] 3)).alloc (.cells #[.int .i64 0] 24)) w.heap.size (w.heap.size + 1) (w.heap.size + 1 + 1) (w.heap.size + 1 + 1 + 1) (.pointer none) (.slice none 0 0) 0 0 ∧
    ((((w.alloc (.cells #[.pointer none] 50)).alloc (.cells #[.slice none 0 0] 37)).alloc (.cells #[.int .i64 0] 3)).alloc (.cells #[.int .i64 0] 24)).heap.size = w.heap.size + 4 := by
  have a0 := heap_alloc_new w (.cells #[.pointer none] 50)
  have s0 : (w.alloc (.cells #[.pointer none] 50)).heap.size = w.heap.size + 1 := by simp
  generalize w.alloc (.cells #[.pointer none] 50) = w1 at *
  have a1 := heap_alloc_new w1 (.cells #[.slice none 0 0] 37)
  have s1 : (w1.alloc (.cells #[.slice none 0 0] 37)).heap.size = w1.heap.size + 1 := by simp
  have k1 := ((Mod.refl (fun _ => False) w1).alloc (.cells #[.slice none 0 0] 37)).heap a0 (fun h => h)
  generalize w1.alloc (.cells #[.slice none 0 0] 37) = w2 at *
  have a2 := heap_alloc_new w2 (.cells #[.int .i64 0] 3)
  have s2 : (w2.alloc (.cells #[.int .i64 0] 3)).heap.size = w2.heap.size + 1 := by simp
  have M2 := (Mod.refl (fun _ => False) w2).alloc (.cells #[.int .i64 0] 3)
  have k2 := M2.heap k1 (fun h => h)
  have l2 := M2.heap a1 (fun h => h)
  clear M2
  generalize w2.alloc (.cells #[.int .i64 0] 3) = w3 at *
  have a3 := heap_alloc_new w3 (.cells #[.int .i64 0] 24)
  have s3 : (w3.alloc (.cells #[.int .i64 0] 24)).heap.size = w3.heap.size + 1 := by simp
  have M3 := (Mod.refl (fun _ => False) w3).alloc (.cells #[.int .i64 0] 24)
  have k3 := M3.heap k2 (fun h => h)
  have l3 := M3.heap l2 (fun h => h)
  have m3 := M3.heap a2 (fun h => h)
  clear M3
  generalize w3.alloc (.cells #[.int .i64 0] 24) = w4 at *
  rw [s0] at l3 s1
  rw [s1] at m3 s2
  rw [s2] at a3 s3
  exact ⟨⟨k3, l3, m3, a3⟩, s3⟩
theorem walNo_bounds (l : Nm) : 0 ≤ walNo l ∧ walNo l ≤ 999999999 := by
  by_cases h : walNo l = 0
  · rw [h]; decide
  · have h1 := nm9_num9 h
    have h2 : nm9 106 1 (walNo l) ≠ [] := by rw [show nm9 106 1 (walNo l) = l from h1.1]; exact h1.2
    have := nm9_bounds h2
    omega

theorem open_fail {Q Q3 Q' : Nat → Prop} {w w3 w' w9 : World} {n0 n1 n2 n3 wp d : Nat} {per f wf wn : Int} {Aj : ADsk} {L : List (List Int)} {rv : Value} {RO R0 : OpenR} {er : Int}
    (h : OpenM Q3 w3 w.heap.size n0 n1 n2 n3 wp d per Aj f wf wn L rv Q' w') (hQ : ∀ k, Q k → Q3 k) (h3 : Mod (fun k => w.heap.size ≤ k) w w3) (h9 : Mod (fun k => w.heap.size ≤ k ∧ k < w.heap.size + 4) w' w9) (h0 : er ≠ 0)
    (hR : RO = { R0 with first := if R0.er ≠ 0 then 0 else if R0.first = 0 then 1 else R0.first }) (hE : R0 = ⟨Aj, er, 0, 0, 0, []⟩) :
    OpenOut Q w d per RO (.returned (.tuple #[.pointer none, .slice none 0 0, .int .i64 0, .int .i64 er])) w9 := by
  subst hE
  subst hR
  refine ⟨Q', ⟨fun k hk => h.grow k (hQ k hk), h.held.mod h9 (fun k _ hk => h.grow k (h.own k hk.1 (by omega))), ?_⟩, Or.inr ⟨h0, rfl⟩⟩
  exact ((h3.mono (T := fun k => ¬ Q k) (fun k h1 h2 => by omega)).trans h.mod (fun k h1 h2 hq => by
    rcases h2 with h2 | h2
    · exact h2 (hQ k hq)
    · omega)).trans h9 (fun k h1 h2 => by omega)

theorem setCell_same {w : World} {b : Nat} {cs : Array Value} {T : TypeId} {z : Nat × Nat} (h : w.heap[b]? = some (.cells cs T z)) (o : Nat) {v : Value} (hv : cs[o]? = some v) : w.setCell ⟨b, o, none⟩ v = w := by
  have e : cs.setIfInBounds o v = cs := by
    apply Array.ext_getElem?
    intro i
    rw [Array.getElem?_setIfInBounds]
    by_cases hi : o = i
    · subst hi; rw [if_pos rfl, if_pos (Array.getElem?_eq_some_iff.1 hv).1, hv]
    · simp [hi]
  have hh : (w.setCell ⟨b, o, none⟩ v).heap = w.heap := by
    apply Array.ext_getElem?
    intro i
    by_cases hi : i = b
    · subst hi; rw [heap_setCell_at h, e, h]
    · exact heap_setCell_ne hi
  have : w.setCell ⟨b, o, none⟩ v = { w with heap := (w.setCell ⟨b, o, none⟩ v).heap } := rfl
  rw [this, hh]
theorem open_done {Q Q3 Q' : Nat → Prop} {w w3 w' : World} {n0 n1 n2 n3 wp d : Nat} {per f f' wf wn : Int} {Aj : ADsk} {L : List (List Int)} {rv : Value} {RO R0 : OpenR}
    (h : OpenM Q3 w3 w.heap.size n0 n1 n2 n3 wp d per Aj f' wf wn L rv Q' w') (hQ : ∀ k, Q k → Q3 k) (h3 : Mod (fun k => w.heap.size ≤ k) w w3) (hlt : ∀ k, Q k → k < w.heap.size)
    (hR : RO = { R0 with first := if R0.er ≠ 0 then 0 else if R0.first = 0 then 1 else R0.first }) (hE : R0 = ⟨Aj, 0, f, wf, wn, L⟩) (hf : f' = if f = 0 then 1 else f) :
    OpenOut Q w d per RO (.returned (.tuple #[.pointer (some ⟨wp, 0, none⟩), rv, .int .i64 f', .int .i64 0])) w' := by
  subst hE
  subst hR
  have ad := h.ad
  refine ⟨Q', ⟨fun k hk => h.grow k (hQ k hk), h.held, ?_⟩, Or.inl ⟨rfl, wp, rv, by subst hf; rfl, h.wal, h.grow _ (h.own _ (by omega) (by omega)), fun hq => by have := hlt _ hq; omega, h.rows⟩⟩
  exact (h3.mono (T := fun k => ¬ Q k) (fun k h1 h2 hq => by have := hlt _ hq; omega)).trans h.mod (fun k h1 h2 hq => by
    rcases h2 with h2 | h2
    · exact h2 (hQ k hq)
    · omega)
set_option maxRecDepth 100000 in
set_option maxHeartbeats 3000000 in
theorem open_any {Q : Nat → Prop} {w : World} {d : Nat} {A : ADsk} (h : Held Q w d A) (hB : BytesF A.files) (per : Int) (hp0 : 1 ≤ per) (hp1 : per ≤ 9223372036854775807) (hoff : A.off = false) (hL : Laid w) (hLQ : ∀ k, Lk k → Q k) :
    Calls Tryd.prog 36 #[.pointer (some ⟨d, 0, none⟩), .int .i64 per] w (OpenOut Q w d per (openA A per)) := by
  have hmf : ∀ (fn : Fn) (first cap : Array Value) (w : World), (Instr.makeFunc fn first cap).run Tryd.prog w = .ok (.func fn first cap) w := fun _ _ _ _ => rfl
  have H := Lib.hid h
  have HB := Lib.hid hB
  have HL := Lib.hid hL
  have HLQ := Lib.hid hLQ
  have HOFF := Lib.hid hoff
  obtain ⟨RO, hRO⟩ : ∃ RO, RO = openA A per := ⟨_, rfl⟩
  rw [← hRO]
  have ERO := Lib.hid hRO
  obtain ⟨R0, hR0⟩ : ∃ R0, R0 = openGo A.names A 0 1 1 false [] := ⟨_, rfl⟩
  have ER := Lib.hid (show RO = { R0 with first := if R0.er ≠ 0 then 0 else if R0.first = 0 then 1 else R0.first } from by
    rw [hRO]; unfold openA; rw [if_neg (by omega), hoff, hR0]; rfl)
  obtain ⟨F, hF⟩ : ∃ F, F = A.files := ⟨_, rfl⟩
  have HN := Lib.hid (show A.names = F.map (·.1) from by unfold ADsk.names; rw [hoff, hF]; rfl)
  have EQ0 := Lib.hid (show R0 = openGo ((F.drop 0).map (·.1)) A 0 1 1 false [] from by rw [hR0, HN.out]; rfl)
  have INV0 := Lib.hid (show Inv A (F.drop 0) from by rw [List.drop_zero, hF]; exact inv_start h.ok hoff)
  have HBF := Lib.hid (show BytesF F from by rw [hF]; exact hB)
  have HSM := Lib.hid (show ∀ q ∈ F, q.2.all.length ≤ 1048576 ∧ namedB q.1 = true from fun q hq => by
    rw [hF] at hq
    exact ⟨by have := h.ok.small q hq; unfold Cont.all; rw [List.length_append]; exact this, h.ok.names q hq⟩)
  have hFl : F.length ≤ 16 := by rw [hF]; exact h.ok.few
  clear h hB hL hLQ hoff hRO hR0 hF
  go_enter_defers Tryd.func36, Tryd.ntmps36
  go_wp2_with fail
  have M1 := (((((Mod.refl (fun _ => False) w).alloc (.cells #[.pointer none] 50)).alloc (.cells #[.slice none 0 0] 37)).alloc (.cells #[.int .i64 0] 3)).alloc (.cells #[.int .i64 0] 24))
  obtain ⟨RES, hsz⟩ := res4_new w
  generalize ((((w.alloc (.cells #[.pointer none] 50)).alloc (.cells #[.slice none 0 0] 37)).alloc (.cells #[.int .i64 0] 3)).alloc (.cells #[.int .i64 0] 24)) = w1 at M1 RES hsz ⊢
  obtain ⟨n3, h3⟩ : ∃ n, n = w.heap.size + 1 + 1 + 1 := ⟨_, rfl⟩
  obtain ⟨n2, h2⟩ : ∃ n, n = w.heap.size + 1 + 1 := ⟨_, rfl⟩
  obtain ⟨n1, h1⟩ : ∃ n, n = w.heap.size + 1 := ⟨_, rfl⟩
  obtain ⟨n0, h0⟩ : ∃ n, n = w.heap.size := ⟨_, rfl⟩
  obtain ⟨wp, hwp⟩ : ∃ n, n = w.heap.size + 4 := ⟨_, rfl⟩
  rw [← h3, ← h2, ← h1, ← h0] at RES
  rw [← h3, ← h2, ← h1, ← h0]
  rw [← hwp] at hsz
  have H1 := Lib.hid ((H.out.fresh M1 (fun _ _ h => h.elim)))
  have MM1 := Lib.hid M1
  have c0 := ((Mod.refl (fun _ => False) w1).alloc (walCells d per 1 1 0)).cell (cell_of_heap RES.w0 0) (fun h => h)
  have z0 := frozen_mod ((Mod.refl (fun _ => False) w1).alloc (walCells d per 1 1 0)) RES.w0 (fun h => h) 0
  unfold walCells at c0 z0
  have RES1 := Lib.hid RES
  have AD := Lib.hid (show n0 = w.heap.size ∧ n1 = w.heap.size + 1 ∧ n2 = w.heap.size + 2 ∧ n3 = w.heap.size + 3 ∧ wp = w.heap.size + 4 from ⟨h0, h1, h2, h3, hwp⟩)
  clear M1 RES h0 h1 h2 h3 hwp
  refine (held_down H1.out).mono ?_
  rw [HOFF.out]
  rintro e w1' ⟨rfl, rfl⟩
  go_wp2_with fail
  have SZ1 := Lib.hid hsz
  have M12 := ((Mod.refl (fun k => k = n0) w1).alloc (walCells d per 1 1 0)).setCell (p := ⟨n0, 0, none⟩) (.pointer (some ⟨wp, 0, none⟩)) (fun _ => rfl)
  have WAL2 : ((w1.alloc (walCells d per 1 1 0)).setCell ⟨n0, 0, none⟩ (.pointer (some ⟨wp, 0, none⟩))).heap[wp]? = some (walCells d per 1 1 0) := by
    have ad := AD.out
    rw [heap_setCell_ne (by show wp ≠ n0; omega), ← hsz]; exact heap_alloc_new w1 _
  have R2 : Res4 ((w1.alloc (walCells d per 1 1 0)).setCell ⟨n0, 0, none⟩ (.pointer (some ⟨wp, 0, none⟩))) n0 n1 n2 n3 (.pointer (some ⟨wp, 0, none⟩)) (.slice none 0 0) 0 0 := by
    have ad := AD.out
    refine ⟨?_, M12.heap RES1.out.r1 (by omega), M12.heap RES1.out.f2 (by omega), M12.heap RES1.out.e3 (by omega)⟩
    rw [heap_setCell_at (((Mod.refl (fun _ => False) w1).alloc (walCells d per 1 1 0)).heap RES1.out.w0 (fun h => h)) 0]; rfl
  have S2 : ((w1.alloc (walCells d per 1 1 0)).setCell ⟨n0, 0, none⟩ (.pointer (some ⟨wp, 0, none⟩))).heap.size = w.heap.size + 5 := by
    have ad := AD.out; simp [hsz]; omega
  unfold walCells at M12 WAL2 R2 S2
  generalize ((w1.alloc (.cells #[.pointer (some ⟨d, 0, none⟩), .int .i64 per, .int .i64 1, .int .i64 1, .int .i64 0] 86)).setCell ⟨n0, 0, none⟩ (.pointer (some ⟨wp, 0, none⟩))) = w2 at M12 WAL2 R2 S2 ⊢
  have H2 := Lib.hid (H1.out.fresh M12 (fun k hk h => Or.inr (by have ad := AD.out; omega)))
  have M2 := Lib.hid ((MM1.out.mono (T := fun k => w.heap.size ≤ k) (fun _ _ h => h.elim)).trans M12 (fun k _ h => by have ad := AD.out; omega))
  have RES2 := Lib.hid R2
  have WW2 := Lib.hid WAL2
  have SZ2 := Lib.hid S2
  clear c0 z0 M12 WAL2 R2 S2
  refine (held_names H2.out).mono ?_
  rintro e w3 ⟨v3, rfl, ho, hb, hH⟩
  rw [HN.out, List.length_map] at ho
  obtain ⟨a3, c3, hv3, _⟩ := ownsRow_slice ho
  subst hv3
  have NROW := Lib.hid ho
  obtain ⟨Q3, hQ3⟩ : ∃ Q3 : Nat → Prop, Q3 = (fun k => ((Q k ∨ (w.heap.size ≤ k ∧ k < w1.heap.size)) ∨ (w1.heap.size ≤ k ∧ k < w2.heap.size)) ∨ (w2.heap.size ≤ k ∧ k < w3.heap.size)) := ⟨_, rfl⟩
  have H3 := Lib.hid hH
  rw [← hQ3] at H3
  have QQ := Lib.hid (show ∀ k, Q k → Q3 k from fun k hk => by rw [hQ3]; exact Or.inl (Or.inl (Or.inl hk)))
  have QN := Lib.hid (show ∀ k, w.heap.size ≤ k → k < w3.heap.size → Q3 k from fun k h1 h2 => by
    rw [hQ3]
    by_cases g1 : k < w1.heap.size
    · exact Or.inl (Or.inl (Or.inr ⟨h1, g1⟩))
    · by_cases g2 : k < w2.heap.size
      · exact Or.inl (Or.inr ⟨by omega, g2⟩)
      · exact Or.inr ⟨by omega, h2⟩)
  have M3 := Lib.hid (M2.out.trans (Mod.ofBelow hb) (fun _ _ h => h.elim))
  have L3 := Lib.hid (HL.out.grown M3.out)
  have SZ3 := Lib.hid (show w.heap.size + 5 ≤ w3.heap.size from by have := hb.size; have := SZ2.out; omega)
  have START := Lib.hid (show OpenAt Q3 w3 w.heap.size n0 n1 n2 n3 wp d per F R0 0 A 0 1 1 false [] (.slice none 0 0) Q3 w3 from
    ⟨⟨RES2.out.mod (Mod.ofBelow hb) (fun _ h => h.elim), (Mod.ofBelow hb).heap WW2.out (fun h => h), RowsAt.nil _ _, H3.out, fun _ h => h, Mod.refl _ _, fun k h1 h2 => QN.out k h1 (by have := SZ3.out; omega), (fun k hk => by cases hk), AD.out⟩, EQ0.out, INV0.out, by omega, by omega, by simp⟩)
  clear ho hb hH hQ3
  go_wp2_with fail
  go_loopw [8, 30] (fun bv i wr => ∃ (j : Nat) (Aj : ADsk) (f wf wn : Int) (br : Bool) (L : List (List Int)) (rv : Value) (Q' : Nat → Prop), j ≤ F.length ∧ i = .int .i64 j ∧ bv = .bool br ∧ OpenAt Q3 w3 w.heap.size n0 n1 n2 n3 wp d per F R0 j Aj f wf wn br L rv Q' wr) (fun _ i _ => F.length - (intOf i).toNat)
  case atStart => exact ⟨0, A, 0, 1, 1, false, [], .slice none 0 0, Q3, Nat.zero_le _, rfl, rfl, START.out⟩
  case round =>
    obtain ⟨j, Aj, f, wf, wn, br, L, rv, Q', hj, rfl, rfl, hS⟩ := hrel
    have S := Lib.hid hS
    clear hS
    have NR := Lib.hid (ownsRow_kept NROW.out (fun k hk => S.out.mem.mod.block k (NROW.out.lt k hk).2 (fun h => by
      have h1 := NROW.out.lt k hk
      have h2 := SZ2.out
      have h3 := QN.out k (by omega) h1.2
      rcases h with h | h
      · exact h h3
      · omega)))
    have LJ := Lib.hid (L3.out.mod S.out.mem.mod (fun k hk h => by
      have h1 := HL.out.lt hk
      rcases h with h | h
      · exact h (QQ.out k (HLQ.out k hk))
      · omega))
    by_cases hjl : j < F.length
    · obtain ⟨q, hq⟩ : ∃ q, F[j]? = some q := ⟨_, List.getElem?_eq_getElem hjl⟩
      have hdrop : F.drop j = q :: F.drop (j + 1) := by rw [List.drop_eq_getElem_cons hjl, (List.getElem?_eq_some_iff.1 hq).2]
      have hmem := List.mem_of_getElem? hq
      have hcell := row_cell NR.out (j := j) (u := .string ⟨q.1.toArray⟩) (by rw [List.getElem?_map, List.getElem?_map, hq]; rfl)
      obtain ⟨b3, rfl⟩ := hcell.1
      have hcell := hcell.2 _ rfl
      have QNm := Lib.hid (nm_small (HSM.out q hmem).2)
      have QL := Lib.hid (HSM.out q hmem).1
      have QB := Lib.hid (HBF.out q hmem)
      have IV := Lib.hid (show Inv Aj (q :: F.drop (j + 1)) from by rw [← hdrop]; exact S.out.inv)
      have EQ1 := Lib.hid (show R0 = openGo (q.1 :: (F.drop (j + 1)).map (·.1)) Aj f wf wn br L from by rw [S.out.eq, hdrop]; rfl)
      have B := Lib.hid (show (0 ≤ f ∧ f ≤ 999999999) ∧ (0 ≤ wn ∧ wn ≤ 1000000000 + 131072) ∧ L.length ≤ 131072 * j from ⟨S.out.b1, S.out.b2, S.out.b3⟩)
      have MM := Lib.hid S.out.mem
      clear hq hdrop hmem S
      go_wp2_with fail
      refine (walNumber_any _ ⟨q.1.toArray⟩ QNm.out LJ.out).mono ?_
      rintro e w4 ⟨rfl, hb⟩
      obtain ⟨nn, hnn⟩ : ∃ nn, nn = walNo q.1 := ⟨_, rfl⟩
      rw [show num9 106 1 0 (⟨q.1.toArray⟩ : ByteArray).data.toList = nn from hnn.symm]
      have hn0 : 0 ≤ nn := by rw [hnn]; exact (walNo_bounds q.1).1
      have hn1 : nn ≤ 999999999 := by rw [hnn]; exact (walNo_bounds q.1).2
      have HNN := Lib.hid hnn
      have M4 := Lib.hid (MM.out.below hb)
      have L4 := Lib.hid (LJ.out.below hb)
      clear hnn hb hcell
      by_cases hz : nn = 0
      · have EQ2 := Lib.hid (EQ1.out.trans (show _ = openGo ((F.drop (j + 1)).map (·.1)) Aj f wf wn br L from by rw [openGo, ← HNN.out, if_pos hz]))
        subst hz
        go_wp2_with fail
        go_roundw
        case rel => exact ⟨j + 1, Aj, f, wf, wn, br, L, rv, Q', by omega, by go_num, rfl, ⟨M4.out, EQ2.out, IV.out.skip, B.out.1, B.out.2.1, by have := B.out.2.2; omega⟩⟩
        case measure => simp [intOf]; omega
      have EQ2 := Lib.hid (EQ1.out.trans (show _ = (if 0 < f ∧ (br = true ∨ nn ≠ wn) then (if (Aj.remove q.1).2 ≠ 0 then ⟨(Aj.remove q.1).1, (Aj.remove q.1).2, 0, 0, 0, []⟩ else openGo ((F.drop (j + 1)).map (·.1)) (Aj.remove q.1).1 f wf wn true L)
        else (if (segA Aj q.1).2 ≠ 0 then ⟨(segA Aj q.1).1, (segA Aj q.1).2, 0, 0, 0, []⟩
          else openGo ((F.drop (j + 1)).map (·.1)) (segA Aj q.1).1 (if f = 0 then nn else f) nn (nn + (recs q.2.all).length) br (L ++ recs q.2.all))) from by
        rw [openGo, ← HNN.out, if_neg hz, IV.out.read]))
      have hz' : (nn == 0) = false := by simp [hz]
      have CC := M4.out.cells
      obtain ⟨k0, k1, k2, k3, k4, k5⟩ := CC
      have hf0 := B.out.1.1
      by_cases hf : 0 < f
      · cases br
        case true =>
          go_wp2_with fail
          refine (held_remove M4.out.held ⟨q.1.toArray⟩ QNm.out).mono ?_
          obtain ⟨T, hT⟩ : ∃ T, T = Aj.remove (⟨q.1.toArray⟩ : ByteArray).data.toList := ⟨_, rfl⟩
          rw [← hT]
          have hT' : T = Aj.remove q.1 := hT
          have INVR := Lib.hid (show T.2 = 0 → Inv T.1 (F.drop (j + 1)) from fun h => by rw [hT'] at h ⊢; exact IV.out.remove h)
          have EQ3 := Lib.hid (EQ2.out.trans (by rw [if_pos (by simp [hf]), ← hT']))
          clear hT hT'
          rintro e w5 ⟨rfl, hH, hm⟩
          have M5 := Lib.hid (M4.out.disk (fun _ h => h) hH hm)
          clear hH hm
          obtain ⟨A5, e5⟩ := T
          by_cases h0 : e5 = 0
          · subst h0
            have EQ4 := Lib.hid (EQ3.out.trans (if_neg (by simp)))
            go_wp2_with fail
            refine (must_ok w5).mono ?_
            rintro e w6 ⟨rfl, rfl⟩
            go_wp2_with fail
            go_roundw
            case rel => exact ⟨j + 1, A5, f, wf, wn, true, L, rv, Q', by omega, by go_num, rfl, ⟨M5.out, EQ4.out, INVR.out (by first | rfl | trivial), B.out.1, B.out.2.1, by have := B.out.2.2; omega⟩⟩
            case measure => simp [intOf]; omega
          · have EQ4 := Lib.hid (EQ3.out.trans (if_pos (by simpa using h0)))
            go_wp2_with fail
            refine (must_bad w5 e5 h0).mono ?_
            rintro e w6 ⟨rfl, rfl⟩
            refine leaves_cons (f := 54) (args := #[.pointer (some ⟨n3, 0, none⟩), .pointer (some ⟨n0, 0, none⟩), .pointer (some ⟨n1, 0, none⟩), .pointer (some ⟨n2, 0, none⟩)]) (by simp) (by simp [go_sem]) ?_
            have ad := M5.out.ad
            refine (opened_stop w.heap.size n0 n1 n2 n3 ⟨ad.1, ad.2.1, ad.2.2.1, ad.2.2.2.1⟩ _ e5 h0 _ _ _ _ M5.out.res).mono ?_
            rintro e u' w9 ⟨rfl, rfl, RES9, hm9⟩
            have g0 := cell_of_heap RES9.w0 0
            have g1 := cell_of_heap RES9.r1 0
            have g2 := cell_of_heap RES9.f2 0
            have g3 := cell_of_heap RES9.e3 0
            simp [Leaves, settle, results, Tryd.results36, go_sem, g0, g1, g2, g3]
            exact open_fail (R0 := R0) M5.out QQ.out M3.out hm9 h0 ER.out EQ4.out
        case false =>
          by_cases hne : nn = wn
          · have hne' : (nn != wn) = false := by simp [hne]
            have COND := Lib.hid (show ¬ (0 < f ∧ (false = true ∨ nn ≠ wn)) from by rintro ⟨_, h | h⟩; cases h; exact h hne)
            clear hne
            have M5 := Lib.hid M4.out
            have L5 := Lib.hid L4.out
            go_wp2_with fail
            refine (segment_any M5.out.held ⟨q.1.toArray⟩ QNm.out q.2.all IV.out.read QB.out QL.out L5.out).mono ?_
            obtain ⟨T, hT⟩ : ∃ T, T = segA Aj (⟨q.1.toArray⟩ : ByteArray).data.toList := ⟨_, rfl⟩
            rw [← hT]
            have hT' : T = segA Aj q.1 := hT
            obtain ⟨M, hM⟩ : ∃ M, M = recs q.2.all := ⟨_, rfl⟩
            have MFEW : M.length ≤ 131072 := by have h1 := recs_few q.2.all; have h2 := QL.out; rw [hM]; omega
            rw [← hM] at EQ2 ⊢
            have INVR := Lib.hid (show T.2 = 0 → Inv T.1 (F.drop (j + 1)) from fun h => by rw [hT'] at h ⊢; exact IV.out.seg h)
            have EQ3 := Lib.hid (EQ2.out.trans (by rw [if_neg COND.out, ← hT']))
            clear hT hT' hM
            rintro e w6 ⟨Q6, left, hcase⟩
            have M6 := Lib.hid (M5.out.disk left.grow left.disk left.mod)
            clear left
            obtain ⟨A6, e6⟩ := T
            rcases hcase with ⟨h0, v6, rfl, hrow⟩ | ⟨h0, rfl⟩
            · obtain rfl : e6 = 0 := h0
              have EQ4 := Lib.hid (EQ3.out.trans (if_neg (by simp)))
              obtain ⟨vs, hvs, hvq, heach⟩ := hrow.ex
              have BL := B.out.2.2
              obtain ⟨v7, w7, R7, ROW7, MM7, FR7⟩ := app_rows w6 (fun k => Q6 k ∨ w6.heap.size ≤ k) rv v6 L M vs (M6.out.rows.weaken (fun k _ h => Or.inl h)) (ownsRow_reads hvs) (fun i x hi => by
                obtain ⟨u, ga, gb, gc⟩ := heach i x hi
                exact ⟨u, ga, gb, fun k hk => Or.inl (gc k hk)⟩) (by omega) (fun k hk => Or.inr hk)
              obtain ⟨Z, hZ⟩ : ∃ Z, Z = L ++ M := ⟨_, rfl⟩
              rw [← hZ] at ROW7 EQ4
              have EQ5 := Lib.hid (EQ4.out.trans (show _ = openGo ((F.drop (j + 1)).map (·.1)) A6 f nn (nn + M.length) false Z from by first | rfl | rw [if_neg (by omega)]))
              have ZL := Lib.hid (show Z.length = L.length + M.length from by rw [hZ, List.length_append])
              clear hZ
              have HF := M6.out.held.fresh MM7 (fun k _ h => by obtain ⟨_, _, hq6, _⟩ := M6.out.rows.ex; exact hq6 k h)
              have ROW7' : RowsAt w7 (fun k => Q6 k ∨ (w6.heap.size ≤ k ∧ k < w7.heap.size)) v7 Z := ROW7.weaken (fun k hk h => h.imp id (fun e => ⟨e, hk⟩))
              obtain ⟨m8, y1, x1⟩ := M6.out.setR MM7 ROW7' (fun k h => Or.inl h) HF FR7
              have M8 := Lib.hid m8
              obtain ⟨vs7, hvs7, _⟩ := ROW7.ex
              obtain ⟨a7, c7, rfl, _⟩ := ownsRow_slice hvs7
              have R7' := Lib.hid R7
              obtain ⟨a6, c6, rfl, _⟩ := ownsRow_slice hvs
              obtain ⟨_, s1, _⟩ := M6.out.cells
              clear hvs7 hvs hvq heach hrow BL R7 ROW7 MM7 FR7 HF ROW7' m8
              go_wp2_with (at_builtin; refine wpList_append_run rfl (.tmp 64) (.tmp 65) 37 rfl rfl rfl R7'.out ?_)
              clear s1 y1 x1
              obtain ⟨s0, s1, s2, s3, s4, s5⟩ := M8.out.cells
              obtain ⟨x0, x1, x2, x3, x4, x5⟩ := M8.out.free
              generalize hW8 : w7.setCell ⟨n1, 0, none⟩ (.slice a7 Z.length c7) = w8 at *
              clear s0 s1 s2 s3 s4 s5 x0 x1 x2 x3 x4 x5
              have MD := Lib.hid (M8.out.below ((Mod.refl (fun _ => False) w8).drew.toBelow))
              refine Keep.wp_region_lex (C := fun w' => ∃ x : Cls (fun W => W.cell? ⟨n0, 0, none⟩ = some (.pointer (some ⟨wp, 0, none⟩))), w' = x.w) [9, 12] [0, 1, 2, 3, 4, 5, 6] (by kernel_rfl) (by kernel_rfl) ⟨⟨w8.drew, MD.out.cells.1⟩, rfl⟩ ?_
              generalize w8.drew = wd at MD ⊢
              obtain ⟨s0, s1, s2, s3, s4, s5⟩ := MD.out.cells
              obtain ⟨x0, x1, x2, x3, x4, x5⟩ := MD.out.free
              have cx : ∀ x : Cls (fun W => W.cell? ⟨n0, 0, none⟩ = some (.pointer (some ⟨wp, 0, none⟩))), x.w.cell? ⟨n0, 0, none⟩ = some (.pointer (some ⟨wp, 0, none⟩)) := fun x => x.ok
              haveI ne : Nonempty (Cls (fun W => W.cell? ⟨n0, 0, none⟩ = some (.pointer (some ⟨wp, 0, none⟩)))) := ⟨⟨wd, s0⟩⟩
              refine Keep.LexG_pure 7 (by kernel_rfl) ?_
              simp only [List.take_succ_cons, List.take_zero, List.drop_succ_cons, List.drop_zero, Nat.reduceAdd]
              repeat (go_big_quiet_step (fail))
              refine wpQuiet_nil ?_
              refine Keep.LexG_still 2 (by kernel_rfl) ?_
              simp only [List.take_succ_cons, List.take_zero, List.drop_succ_cons, List.drop_zero, Nat.reduceAdd]
              repeat (go_big_quiet_step (fail))
              refine wpQuiet_nil ?_
              refine Keep.LexG_eff (by kernel_rfl) rfl (fun K hK => ?_)
              go_simp
              refine hK _ _ ⟨⟨_, (MD.out.set2 nn).cells.1⟩, rfl⟩ ?_
              clear hK K
              have ME := Lib.hid (MD.out.set2 nn)
              clear s0 s1 s2 s3 s4 s5 x0 x1 x2 x3 x4 x5 cx ne
              generalize wd.setCell ⟨wp, 2, none⟩ (.int .i64 nn) = we at ME ⊢
              obtain ⟨s0, s1, s2, s3, s4, s5⟩ := ME.out.cells
              obtain ⟨x0, x1, x2, x3, x4, x5⟩ := ME.out.free
              refine Keep.LexG_still 2 (by kernel_rfl) ?_
              simp only [List.take_succ_cons, List.take_zero, List.drop_succ_cons, List.drop_zero, Nat.reduceAdd]
              repeat (go_big_quiet_step (fail))
              refine wpQuiet_nil ?_
              refine Keep.LexG_eff (by kernel_rfl) rfl (fun K hK => ?_)
              go_simp
              refine hK _ _ ⟨⟨_, (ME.out.set3 (nn + M.length)).cells.1⟩, rfl⟩ ?_
              clear hK K
              have M9 := Lib.hid (ME.out.set3 (nn + M.length))
              clear s0 s1 s2 s3 s4 s5 x0 x1 x2 x3 x4 x5
              generalize we.setCell ⟨wp, 3, none⟩ (.int .i64 (nn + M.length)) = wg at M9 ⊢
              refine Keep.LexG_nil ?_
              go_wp2_with fail
              go_roundw
              case rel => exact ⟨j + 1, A6, f, nn, nn + M.length, false, Z, .slice a7 Z.length c7, _, by omega, by go_num, rfl, ⟨M9.out, EQ5.out, INVR.out (by first | rfl | trivial), B.out.1, by omega, by have := B.out.2.2; rw [ZL.out]; omega⟩⟩
              case measure => simp [intOf]; omega
            · have EQ4 := Lib.hid (EQ3.out.trans (if_pos (by simpa using h0)))
              go_wp2_with fail
              refine leaves_cons (f := 54) (args := #[.pointer (some ⟨n3, 0, none⟩), .pointer (some ⟨n0, 0, none⟩), .pointer (some ⟨n1, 0, none⟩), .pointer (some ⟨n2, 0, none⟩)]) (by simp) (by simp [go_sem]) ?_
              have ad := M6.out.ad
              refine (opened_stop w.heap.size n0 n1 n2 n3 ⟨ad.1, ad.2.1, ad.2.2.1, ad.2.2.2.1⟩ _ e6 h0 _ _ _ _ M6.out.res).mono ?_
              rintro e u' w9 ⟨rfl, rfl, RES9, hm9⟩
              have g0 := cell_of_heap RES9.w0 0
              have g1 := cell_of_heap RES9.r1 0
              have g2 := cell_of_heap RES9.f2 0
              have g3 := cell_of_heap RES9.e3 0
              simp [Leaves, settle, results, Tryd.results36, go_sem, g0, g1, g2, g3]
              exact open_fail (R0 := R0) M6.out QQ.out M3.out hm9 h0 ER.out EQ4.out
          · have hne' : (nn != wn) = true := by simp [hne]
            have COND := Lib.hid hne
            clear hne
            go_wp2_with fail
            refine (held_remove M4.out.held ⟨q.1.toArray⟩ QNm.out).mono ?_
            obtain ⟨T, hT⟩ : ∃ T, T = Aj.remove (⟨q.1.toArray⟩ : ByteArray).data.toList := ⟨_, rfl⟩
            rw [← hT]
            have hT' : T = Aj.remove q.1 := hT
            have INVR := Lib.hid (show T.2 = 0 → Inv T.1 (F.drop (j + 1)) from fun h => by rw [hT'] at h ⊢; exact IV.out.remove h)
            have EQ3 := Lib.hid (EQ2.out.trans (by rw [if_pos ⟨hf, Or.inr COND.out⟩, ← hT']))
            clear hT hT'
            rintro e w5 ⟨rfl, hH, hm⟩
            have M5 := Lib.hid (M4.out.disk (fun _ h => h) hH hm)
            clear hH hm
            obtain ⟨A5, e5⟩ := T
            by_cases h0 : e5 = 0
            · subst h0
              have EQ4 := Lib.hid (EQ3.out.trans (if_neg (by simp)))
              go_wp2_with fail
              refine (must_ok w5).mono ?_
              rintro e w6 ⟨rfl, rfl⟩
              go_wp2_with fail
              go_roundw
              case rel => exact ⟨j + 1, A5, f, wf, wn, true, L, rv, Q', by omega, by go_num, rfl, ⟨M5.out, EQ4.out, INVR.out (by first | rfl | trivial), B.out.1, B.out.2.1, by have := B.out.2.2; omega⟩⟩
              case measure => simp [intOf]; omega
            · have EQ4 := Lib.hid (EQ3.out.trans (if_pos (by simpa using h0)))
              go_wp2_with fail
              refine (must_bad w5 e5 h0).mono ?_
              rintro e w6 ⟨rfl, rfl⟩
              refine leaves_cons (f := 54) (args := #[.pointer (some ⟨n3, 0, none⟩), .pointer (some ⟨n0, 0, none⟩), .pointer (some ⟨n1, 0, none⟩), .pointer (some ⟨n2, 0, none⟩)]) (by simp) (by simp [go_sem]) ?_
              have ad := M5.out.ad
              refine (opened_stop w.heap.size n0 n1 n2 n3 ⟨ad.1, ad.2.1, ad.2.2.1, ad.2.2.2.1⟩ _ e5 h0 _ _ _ _ M5.out.res).mono ?_
              rintro e u' w9 ⟨rfl, rfl, RES9, hm9⟩
              have g0 := cell_of_heap RES9.w0 0
              have g1 := cell_of_heap RES9.r1 0
              have g2 := cell_of_heap RES9.f2 0
              have g3 := cell_of_heap RES9.e3 0
              simp [Leaves, settle, results, Tryd.results36, go_sem, g0, g1, g2, g3]
              exact open_fail (R0 := R0) M5.out QQ.out M3.out hm9 h0 ER.out EQ4.out
      · obtain rfl : f = 0 := by omega
        obtain ⟨z0, z1, z2, z3, z4, z5⟩ := M4.out.free
        have M5 := Lib.hid (M4.out.setF nn)
        have L5 := Lib.hid (L4.out.mod ((Mod.refl (fun k => k = n2) w4).setCell (p := ⟨n2, 0, none⟩) (.int .i64 nn) (fun _ => rfl)) (fun k hk e => by
          have h1 := HL.out.lt hk
          have h2 := M4.out.ad
          omega))
        go_wp2_with fail
        generalize w4.setCell ⟨n2, 0, none⟩ (.int .i64 nn) = w5 at M5 L5 ⊢
        refine (segment_any M5.out.held ⟨q.1.toArray⟩ QNm.out q.2.all IV.out.read QB.out QL.out L5.out).mono ?_
        obtain ⟨T, hT⟩ : ∃ T, T = segA Aj (⟨q.1.toArray⟩ : ByteArray).data.toList := ⟨_, rfl⟩
        rw [← hT]
        have hT' : T = segA Aj q.1 := hT
        obtain ⟨M, hM⟩ : ∃ M, M = recs q.2.all := ⟨_, rfl⟩
        have MFEW : M.length ≤ 131072 := by have h1 := recs_few q.2.all; have h2 := QL.out; rw [hM]; omega
        rw [← hM] at EQ2 ⊢
        have INVR := Lib.hid (show T.2 = 0 → Inv T.1 (F.drop (j + 1)) from fun h => by rw [hT'] at h ⊢; exact IV.out.seg h)
        have EQ3 := Lib.hid (EQ2.out.trans (by rw [if_neg (by omega), ← hT']))
        clear hT hT' hM
        rintro e w6 ⟨Q6, left, hcase⟩
        have M6 := Lib.hid (M5.out.disk left.grow left.disk left.mod)
        clear left
        obtain ⟨A6, e6⟩ := T
        rcases hcase with ⟨h0, v6, rfl, hrow⟩ | ⟨h0, rfl⟩
        · obtain rfl : e6 = 0 := h0
          have EQ4 := Lib.hid (EQ3.out.trans (if_neg (by simp)))
          obtain ⟨vs, hvs, hvq, heach⟩ := hrow.ex
          have BL := B.out.2.2
          obtain ⟨v7, w7, R7, ROW7, MM7, FR7⟩ := app_rows w6 (fun k => Q6 k ∨ w6.heap.size ≤ k) rv v6 L M vs (M6.out.rows.weaken (fun k _ h => Or.inl h)) (ownsRow_reads hvs) (fun i x hi => by
            obtain ⟨u, ga, gb, gc⟩ := heach i x hi
            exact ⟨u, ga, gb, fun k hk => Or.inl (gc k hk)⟩) (by omega) (fun k hk => Or.inr hk)
          obtain ⟨Z, hZ⟩ : ∃ Z, Z = L ++ M := ⟨_, rfl⟩
          rw [← hZ] at ROW7 EQ4
          have EQ5 := Lib.hid (EQ4.out.trans (show _ = openGo ((F.drop (j + 1)).map (·.1)) A6 nn nn (nn + M.length) br Z from by first | rfl | rw [if_neg (by omega)]))
          have ZL := Lib.hid (show Z.length = L.length + M.length from by rw [hZ, List.length_append])
          clear hZ
          have HF := M6.out.held.fresh MM7 (fun k _ h => by obtain ⟨_, _, hq6, _⟩ := M6.out.rows.ex; exact hq6 k h)
          have ROW7' : RowsAt w7 (fun k => Q6 k ∨ (w6.heap.size ≤ k ∧ k < w7.heap.size)) v7 Z := ROW7.weaken (fun k hk h => h.imp id (fun e => ⟨e, hk⟩))
          obtain ⟨m8, y1, x1⟩ := M6.out.setR MM7 ROW7' (fun k h => Or.inl h) HF FR7
          have M8 := Lib.hid m8
          obtain ⟨vs7, hvs7, _⟩ := ROW7.ex
          obtain ⟨a7, c7, rfl, _⟩ := ownsRow_slice hvs7
          have R7' := Lib.hid R7
          obtain ⟨a6, c6, rfl, _⟩ := ownsRow_slice hvs
          obtain ⟨_, s1, _⟩ := M6.out.cells
          clear hvs7 hvs hvq heach hrow BL R7 ROW7 MM7 FR7 HF ROW7' m8
          go_wp2_with (at_builtin; refine wpList_append_run rfl (.tmp 64) (.tmp 65) 37 rfl rfl rfl R7'.out ?_)
          clear s1 y1 x1
          obtain ⟨s0, s1, s2, s3, s4, s5⟩ := M8.out.cells
          obtain ⟨x0, x1, x2, x3, x4, x5⟩ := M8.out.free
          generalize hW8 : w7.setCell ⟨n1, 0, none⟩ (.slice a7 Z.length c7) = w8 at *
          clear s0 s1 s2 s3 s4 s5 x0 x1 x2 x3 x4 x5
          have MD := Lib.hid (M8.out.below ((Mod.refl (fun _ => False) w8).drew.toBelow))
          refine Keep.wp_region_lex (C := fun w' => ∃ x : Cls (fun W => W.cell? ⟨n0, 0, none⟩ = some (.pointer (some ⟨wp, 0, none⟩))), w' = x.w) [9, 12] [0, 1, 2, 3, 4, 5, 6] (by kernel_rfl) (by kernel_rfl) ⟨⟨w8.drew, MD.out.cells.1⟩, rfl⟩ ?_
          generalize w8.drew = wd at MD ⊢
          obtain ⟨s0, s1, s2, s3, s4, s5⟩ := MD.out.cells
          obtain ⟨x0, x1, x2, x3, x4, x5⟩ := MD.out.free
          have cx : ∀ x : Cls (fun W => W.cell? ⟨n0, 0, none⟩ = some (.pointer (some ⟨wp, 0, none⟩))), x.w.cell? ⟨n0, 0, none⟩ = some (.pointer (some ⟨wp, 0, none⟩)) := fun x => x.ok
          haveI ne : Nonempty (Cls (fun W => W.cell? ⟨n0, 0, none⟩ = some (.pointer (some ⟨wp, 0, none⟩)))) := ⟨⟨wd, s0⟩⟩
          refine Keep.LexG_pure 7 (by kernel_rfl) ?_
          simp only [List.take_succ_cons, List.take_zero, List.drop_succ_cons, List.drop_zero, Nat.reduceAdd]
          repeat (go_big_quiet_step (fail))
          refine wpQuiet_nil ?_
          refine Keep.LexG_still 2 (by kernel_rfl) ?_
          simp only [List.take_succ_cons, List.take_zero, List.drop_succ_cons, List.drop_zero, Nat.reduceAdd]
          repeat (go_big_quiet_step (fail))
          refine wpQuiet_nil ?_
          refine Keep.LexG_eff (by kernel_rfl) rfl (fun K hK => ?_)
          go_simp
          refine hK _ _ ⟨⟨_, (MD.out.set2 nn).cells.1⟩, rfl⟩ ?_
          clear hK K
          have ME := Lib.hid (MD.out.set2 nn)
          clear s0 s1 s2 s3 s4 s5 x0 x1 x2 x3 x4 x5 cx ne
          generalize wd.setCell ⟨wp, 2, none⟩ (.int .i64 nn) = we at ME ⊢
          obtain ⟨s0, s1, s2, s3, s4, s5⟩ := ME.out.cells
          obtain ⟨x0, x1, x2, x3, x4, x5⟩ := ME.out.free
          refine Keep.LexG_still 2 (by kernel_rfl) ?_
          simp only [List.take_succ_cons, List.take_zero, List.drop_succ_cons, List.drop_zero, Nat.reduceAdd]
          repeat (go_big_quiet_step (fail))
          refine wpQuiet_nil ?_
          refine Keep.LexG_eff (by kernel_rfl) rfl (fun K hK => ?_)
          go_simp
          refine hK _ _ ⟨⟨_, (ME.out.set3 (nn + M.length)).cells.1⟩, rfl⟩ ?_
          clear hK K
          have M9 := Lib.hid (ME.out.set3 (nn + M.length))
          clear s0 s1 s2 s3 s4 s5 x0 x1 x2 x3 x4 x5
          generalize we.setCell ⟨wp, 3, none⟩ (.int .i64 (nn + M.length)) = wg at M9 ⊢
          refine Keep.LexG_nil ?_
          go_wp2_with fail
          go_roundw
          case rel => exact ⟨j + 1, A6, nn, nn, nn + M.length, br, Z, .slice a7 Z.length c7, _, by omega, by go_num, rfl, ⟨M9.out, EQ5.out, INVR.out (by first | rfl | trivial), by omega, by omega, by have := B.out.2.2; rw [ZL.out]; omega⟩⟩
          case measure => simp [intOf]; omega
        · have EQ4 := Lib.hid (EQ3.out.trans (if_pos (by simpa using h0)))
          go_wp2_with fail
          refine leaves_cons (f := 54) (args := #[.pointer (some ⟨n3, 0, none⟩), .pointer (some ⟨n0, 0, none⟩), .pointer (some ⟨n1, 0, none⟩), .pointer (some ⟨n2, 0, none⟩)]) (by simp) (by simp [go_sem]) ?_
          have ad := M6.out.ad
          refine (opened_stop w.heap.size n0 n1 n2 n3 ⟨ad.1, ad.2.1, ad.2.2.1, ad.2.2.2.1⟩ _ e6 h0 _ _ _ _ M6.out.res).mono ?_
          rintro e u' w9 ⟨rfl, rfl, RES9, hm9⟩
          have g0 := cell_of_heap RES9.w0 0
          have g1 := cell_of_heap RES9.r1 0
          have g2 := cell_of_heap RES9.f2 0
          have g3 := cell_of_heap RES9.e3 0
          simp [Leaves, settle, results, Tryd.results36, go_sem, g0, g1, g2, g3]
          exact open_fail (R0 := R0) M6.out QQ.out M3.out hm9 h0 ER.out EQ4.out
    · obtain rfl : j = F.length := by omega
      have EQ2 := Lib.hid (S.out.eq.trans (show _ = (⟨Aj, 0, f, wf, wn, L⟩ : OpenR) from by rw [List.drop_of_length_le (Nat.le_refl _)]; rfl))
      obtain ⟨vsr, hvsr, _⟩ := S.out.mem.rows.ex
      obtain ⟨ar, cr, rfl, _⟩ := ownsRow_slice hvsr
      clear hvsr
      have MM := Lib.hid S.out.mem
      have hf0 := S.out.b1.1
      clear S NR LJ
      obtain ⟨k0, k1, k2, k3, k4, k5⟩ := MM.out.cells
      obtain ⟨z0, z1, z2, z3, z4, z5⟩ := MM.out.free
      by_cases hf : f = 0
      · subst hf
        have M5 := Lib.hid (MM.out.setF 1)
        go_wp2_with fail
        generalize wr.setCell ⟨n2, 0, none⟩ (.int .i64 1) = we at M5 ⊢
        clear k0 k1 k2 k3 k4 k5 z0 z1 z2 z3 z4 z5
        have MD := Lib.hid (M5.out.below ((Mod.refl (fun _ => False) we).drew.toBelow))
        refine Keep.wp_region_lex (C := fun w' => w' = we.drew) [3, 4, 5, 6] [0, 1, 2] (by kernel_rfl) (by kernel_rfl) rfl ?_
        generalize we.drew = wd at MD ⊢
        obtain ⟨s0, s1, s2, s3, s4, s5⟩ := MD.out.cells
        obtain ⟨x0, x1, x2, x3, x4, x5⟩ := MD.out.free
        refine Keep.LexG_pure 3 (by kernel_rfl) ?_
        simp only [List.take_succ_cons, List.take_zero, List.drop_succ_cons, List.drop_zero, Nat.reduceAdd]
        repeat (go_big_quiet_step (fail))
        refine wpQuiet_nil ?_
        refine Keep.LexG_eff (by kernel_rfl) rfl (fun K hK => ?_)
        go_simp
        rw [show wd.setCell ⟨n0, 0, none⟩ (.pointer (some ⟨wp, 0, none⟩)) = wd from setCell_same MD.out.res.w0 0 rfl]
        refine hK _ _ rfl ?_
        clear hK K
        refine Keep.LexG_eff (by kernel_rfl) rfl (fun K hK => ?_)
        go_simp
        rw [show wd.setCell ⟨n1, 0, none⟩ (.slice ar L.length cr) = wd from setCell_same MD.out.res.r1 0 rfl]
        refine hK _ _ rfl ?_
        clear hK K
        refine Keep.LexG_eff (by kernel_rfl) rfl (fun K hK => ?_)
        go_simp
        rw [show wd.setCell ⟨n2, 0, none⟩ (.int .i64 1) = wd from setCell_same MD.out.res.f2 0 rfl]
        refine hK _ _ rfl ?_
        clear hK K
        refine Keep.LexG_eff (by kernel_rfl) rfl (fun K hK => ?_)
        go_simp
        rw [show wd.setCell ⟨n3, 0, none⟩ (.int .i64 0) = wd from setCell_same MD.out.res.e3 0 rfl]
        refine hK _ _ rfl ?_
        clear hK K
        refine Keep.LexG_nil ?_
        go_wp2_with fail
        refine leaves_cons (f := 54) (args := #[.pointer (some ⟨n3, 0, none⟩), .pointer (some ⟨n0, 0, none⟩), .pointer (some ⟨n1, 0, none⟩), .pointer (some ⟨n2, 0, none⟩)]) (by simp) (by simp [go_sem]) ?_
        refine (opened_ok n3 n0 n1 n2 wd s3).mono ?_
        rintro e u' w9 ⟨rfl, rfl, rfl⟩
        simp [Leaves, settle, results, Tryd.results36, go_sem, s0, s1, s2, s3]
        exact open_done (R0 := R0) MD.out QQ.out M3.out H.out.lt ER.out EQ2.out (by simp)
      · have hf' : (f == 0) = false := by simp [hf]
        have M5 := Lib.hid MM.out
        have HF := Lib.hid hf
        clear hf
        go_wp2_with fail
        clear k0 k1 k2 k3 k4 k5 z0 z1 z2 z3 z4 z5
        generalize hwe : wr = we at M5 ⊢
        have MD := Lib.hid (M5.out.below ((Mod.refl (fun _ => False) we).drew.toBelow))
        refine Keep.wp_region_lex (C := fun w' => w' = we.drew) [3, 4, 5, 6] [0, 1, 2] (by kernel_rfl) (by kernel_rfl) rfl ?_
        generalize we.drew = wd at MD ⊢
        obtain ⟨s0, s1, s2, s3, s4, s5⟩ := MD.out.cells
        obtain ⟨x0, x1, x2, x3, x4, x5⟩ := MD.out.free
        refine Keep.LexG_pure 3 (by kernel_rfl) ?_
        simp only [List.take_succ_cons, List.take_zero, List.drop_succ_cons, List.drop_zero, Nat.reduceAdd]
        repeat (go_big_quiet_step (fail))
        refine wpQuiet_nil ?_
        refine Keep.LexG_eff (by kernel_rfl) rfl (fun K hK => ?_)
        go_simp
        rw [show wd.setCell ⟨n0, 0, none⟩ (.pointer (some ⟨wp, 0, none⟩)) = wd from setCell_same MD.out.res.w0 0 rfl]
        refine hK _ _ rfl ?_
        clear hK K
        refine Keep.LexG_eff (by kernel_rfl) rfl (fun K hK => ?_)
        go_simp
        rw [show wd.setCell ⟨n1, 0, none⟩ (.slice ar L.length cr) = wd from setCell_same MD.out.res.r1 0 rfl]
        refine hK _ _ rfl ?_
        clear hK K
        refine Keep.LexG_eff (by kernel_rfl) rfl (fun K hK => ?_)
        go_simp
        rw [show wd.setCell ⟨n2, 0, none⟩ (.int .i64 f) = wd from setCell_same MD.out.res.f2 0 rfl]
        refine hK _ _ rfl ?_
        clear hK K
        refine Keep.LexG_eff (by kernel_rfl) rfl (fun K hK => ?_)
        go_simp
        rw [show wd.setCell ⟨n3, 0, none⟩ (.int .i64 0) = wd from setCell_same MD.out.res.e3 0 rfl]
        refine hK _ _ rfl ?_
        clear hK K
        refine Keep.LexG_nil ?_
        go_wp2_with fail
        refine leaves_cons (f := 54) (args := #[.pointer (some ⟨n3, 0, none⟩), .pointer (some ⟨n0, 0, none⟩), .pointer (some ⟨n1, 0, none⟩), .pointer (some ⟨n2, 0, none⟩)]) (by simp) (by simp [go_sem]) ?_
        refine (opened_ok n3 n0 n1 n2 wd s3).mono ?_
        rintro e u' w9 ⟨rfl, rfl, rfl⟩
        simp [Leaves, settle, results, Tryd.results36, go_sem, s0, s1, s2, s3]
        exact open_done (R0 := R0) MD.out QQ.out M3.out H.out.lt ER.out EQ2.out (by rw [if_neg HF.out])
end Go.Proofs.YtmpdmejlpicdlaaDoor

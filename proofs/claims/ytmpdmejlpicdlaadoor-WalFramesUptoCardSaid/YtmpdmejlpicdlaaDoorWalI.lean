/- What stays of a disk while an opening goes from file to file. -/
import Derived.Test.YtmpdmejlpicdlaaDoorWalC
import Derived.Test.YtmpdmejlpicdlaaDoorSnapL
import Derived.Test.YtmpdmejlpicdlaaDoorSnapJ
namespace Go.Proofs.YtmpdmejlpicdlaaDoor
open Go.RowKit Go.Bw Go.Maps
set_option linter.unusedVariables false
set_option linter.unusedSimpArgs false

theorem rec1_le {b r : List Int} (h : rec1 b = some r) : 8 + r.length ≤ b.length := by
  unfold rec1 at h
  split at h
  · cases h
  · split at h
    · cases h
    · split at h
      · cases h
        rw [List.length_take, List.length_drop]
        omega
      · cases h
theorem recsGo_le : ∀ (f : Nat) (b : List Int), ends (recsGo f b) ≤ b.length
  | 0, b => Nat.zero_le _
  | f + 1, b => by
    unfold recsGo
    cases h : rec1 b with
    | none => exact Nat.zero_le _
    | some r =>
      have h1 := rec1_le h
      have h2 := recsGo_le f (b.drop (8 + r.length))
      rw [List.length_drop] at h2
      show 8 + r.length + ends (recsGo f (b.drop (8 + r.length))) ≤ b.length
      omega
theorem ends_eight : ∀ L : List (List Int), 8 * L.length ≤ ends L
  | [] => Nat.le_refl _
  | r :: L => by have := ends_eight L; simp only [ends, List.length_cons]; omega
theorem recs_few (b : List Int) : 8 * (recs b).length ≤ b.length := Nat.le_trans (ends_eight _) (recsGo_le _ b)

/-- These files are still there, the power is on. -/
structure Inv (A : ADsk) (G : List (Nm × Cont)) : Prop where
  on : A.off = false
  dis : (G.map (·.1)).Nodup
  look : ∀ q ∈ G, lookF A.files q.1 = some q.2 ∧ namedB q.1 = true
theorem Inv.read {A : ADsk} {q : Nm × Cont} {G : List (Nm × Cont)} (h : Inv A (q :: G)) : A.read q.1 = (q.2.all, 0) := by
  obtain ⟨h1, h2⟩ := h.look q (by simp)
  simp [ADsk.read, ADsk.there, ADsk.ready, h1, h2, h.on, Cont.all]
theorem Inv.there {A : ADsk} {q : Nm × Cont} {G : List (Nm × Cont)} (h : Inv A (q :: G)) : A.there q.1 = 0 := by
  obtain ⟨h1, h2⟩ := h.look q (by simp)
  simp [ADsk.there, ADsk.ready, h1, h2, h.on]
theorem Inv.skip {A : ADsk} {q : Nm × Cont} {G : List (Nm × Cont)} (h : Inv A (q :: G)) : Inv A G :=
  ⟨h.on, (List.nodup_cons.1 (show (q.1 :: G.map (·.1)).Nodup from h.dis)).2, fun p hp => h.look p (by simp [hp])⟩
theorem look_onFile {F : List (Nm × Cont)} {n x : Nm} (h : x ≠ n) (g : Cont → Cont) : lookF (ADsk.onFile n g F) x = lookF F x := by
  induction F with
  | nil => rfl
  | cons y r ih =>
    unfold lookF ADsk.onFile at *
    rw [List.map_cons, List.find?_cons, List.find?_cons]
    by_cases hy : y.1 = n
    · have e1 : (y.1 == x) = false := by rw [hy]; simpa using Ne.symm h
      simp only [hy, if_true] at *
      rw [show (n == x) = false from by simpa using Ne.symm h]
      exact ih
    · simp only [hy, if_false]
      cases hh : (y.1 == x) with
      | true => rfl
      | false => exact ih
theorem Inv.file {A B : ADsk} {q : Nm × Cont} {G : List (Nm × Cont)} (h : Inv A (q :: G)) (ho : B.off = false) (hf : ∀ x, x ≠ q.1 → lookF B.files x = lookF A.files x) : Inv B G := by
  refine ⟨ho, h.skip.dis, fun p hp => ?_⟩
  have hne : p.1 ≠ q.1 := fun e => (List.nodup_cons.1 (show (q.1 :: G.map (·.1)).Nodup from h.dis)).1 (by rw [← e]; exact List.mem_map.2 ⟨p, hp, rfl⟩)
  rw [hf _ hne]
  exact h.look p (by simp [hp])
theorem does_ok {A : ADsk} {f : List (Nm × Cont) → List (Nm × Cont)} (h : (A.does f).2 = 0) : (A.does f).1.off = A.off ∧ (A.does f).1.files = f A.files := by
  unfold ADsk.does at *
  split at h
  · simp at h
  · rename_i hh; rw [if_neg hh]; exact ⟨rfl, rfl⟩
theorem Inv.remove {A : ADsk} {q : Nm × Cont} {G : List (Nm × Cont)} (h : Inv A (q :: G)) (h0 : (A.remove q.1).2 = 0) : Inv (A.remove q.1).1 G := by
  have ht := h.there
  unfold ADsk.remove at *
  rw [if_neg (by rw [ht]; simp)] at *
  obtain ⟨h1, h2⟩ := does_ok h0
  exact h.file (by rw [h1]; exact h.on) (fun x hx => by rw [h2]; exact look_drop_ne hx)
theorem sync_ok {A : ADsk} {n : Nm} (h : (A.sync n).2 = 0) : (A.sync n).1.off = A.off ∧ ∀ x, x ≠ n → lookF (A.sync n).1.files x = lookF A.files x := by
  have e : A.sync n = A.does (ADsk.onFile n (fun c => ⟨c.safe ++ c.wait, []⟩)) := by
    unfold ADsk.sync at *
    by_cases ht : A.there n ≠ 0
    · rw [if_pos ht] at h; exact absurd h ht
    · rw [if_neg ht]
  rw [e] at h ⊢
  obtain ⟨h1, h2⟩ := does_ok h
  exact ⟨h1, fun x hx => by rw [h2, look_onFile hx]⟩
theorem trunc_ok {A : ADsk} {n : Nm} {k : Int} (h : (A.trunc n k).2 = 0) : (A.trunc n k).1.off = A.off ∧ ∀ x, x ≠ n → lookF (A.trunc n k).1.files x = lookF A.files x := by
  have e : A.trunc n k = A.does (ADsk.onFile n (fun c => ⟨c.safe.take k.toNat, c.wait.take (k.toNat - c.safe.length)⟩)) := by
    unfold ADsk.trunc at *
    by_cases ht : A.there n ≠ 0
    · rw [if_pos ht] at h; exact absurd h ht
    · rw [if_neg ht] at h ⊢
      by_cases hk : k < 0 ∨ (((lookF A.files n).getD ⟨[], []⟩).len : Int) < k
      · simp only [hk, if_true] at h; exact absurd h (by decide)
      · simp only [hk, if_false]
  rw [e] at h ⊢
  obtain ⟨h1, h2⟩ := does_ok h
  exact ⟨h1, fun x hx => by rw [h2, look_onFile hx]⟩
theorem segA_eq {A : ADsk} {n : Nm} {b : List Int} (hr : A.read n = (b, 0)) :
    segA A n = if ends (recs b) < b.length then (if (A.trunc n (ends (recs b) : Nat)).2 ≠ 0 then A.trunc n (ends (recs b) : Nat) else (A.trunc n (ends (recs b) : Nat)).1.sync n) else A.sync n := by
  unfold segA
  rw [hr]
  show (if (0 : Int) ≠ 0 then _ else _) = _
  rw [if_neg (by decide)]
  by_cases hc : ends (recs b) < b.length
  · simp only [hc, if_true]
  · simp only [hc, if_false]
    rw [if_neg (by decide)]
theorem Inv.seg {A : ADsk} {q : Nm × Cont} {G : List (Nm × Cont)} (h : Inv A (q :: G)) (h0 : (segA A q.1).2 = 0) : Inv (segA A q.1).1 G := by
  rw [segA_eq h.read] at h0 ⊢
  by_cases hc : ends (recs q.2.all) < q.2.all.length
  · rw [if_pos hc] at h0 ⊢
    by_cases h1 : (A.trunc q.1 (ends (recs q.2.all) : Nat)).2 = 0
    · rw [if_neg (by simpa using h1)] at h0 ⊢
      obtain ⟨t1, t2⟩ := trunc_ok h1
      obtain ⟨s1, s2⟩ := sync_ok h0
      exact h.file (by rw [s1, t1]; exact h.on) (fun x hx => by rw [s2 x hx, t2 x hx])
    · rw [if_pos h1] at h0; exact absurd h0 h1
  · rw [if_neg hc] at h0 ⊢
    obtain ⟨s1, s2⟩ := sync_ok h0
    exact h.file (by rw [s1]; exact h.on) s2
theorem inv_start {A : ADsk} (ho : A.Ok) (on : A.off = false) : Inv A A.files :=
  ⟨on, rising_names ho.rising, fun q hq => ⟨look_of_mem ho.rising (by obtain ⟨a, b⟩ := q; exact hq), ho.names q hq⟩⟩
end Go.Proofs.YtmpdmejlpicdlaaDoor

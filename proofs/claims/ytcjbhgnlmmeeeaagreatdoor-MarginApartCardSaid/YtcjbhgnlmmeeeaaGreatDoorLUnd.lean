/- The law's own under, walked: does an account stand below another one? -/
import Derived.Test.YtcjbhgnlmmeeeaaGreatDoorGk
namespace Go.Proofs.YtcjbhgnlmmeeeaaGreatDoor
open Go.RowKit Go.Bw Go.Maps Go.Shelf Go.Bw.Fall
set_option linter.unusedVariables false
set_option linter.unusedSimpArgs false
theorem under_self (ps : List Int) (a : Nat) : underL ps a a = true := by unfold underL; exact decide_eq_true (pathL_self ps a)
theorem under_root {ps : List Int} {a v : Nat} (h : ps[v]? = some (-1)) (hne : v ≠ a) : underL ps a v = false := by
  unfold underL; rw [pathL_root h]; exact decide_eq_false (by simp; omega)
theorem under_step {ps : List Int} {n a v : Nat} {p : Int} (hf : Falls ps n) (hv : v < n) (h : ps[v]? = some p) (hp : p ≠ -1) (hne : v ≠ a) : underL ps a v = underL ps a p.toNat := by
  unfold underL; rw [pathL_step hf hv h hp]
  have : a ≠ v := fun e => hne e.symm
  simp [this]
set_option maxRecDepth 100000 in
set_option maxHeartbeats 4000000 in
theorem lunder_any (w : World) (V : LedV) (L : Led) (h : LedAt w V L) (hg : L.Good) (u : Nat) (hu : u < L.accts.length) (a : Nat) :
    Calls Tryz.prog 24 #[V.val L, .int .i64 (u : Int), .int .i64 (a : Int)] w fun e w' => e = .returned (.bool (underL L.parents a u)) ∧ Below w.heap.size w w' := by
  have HH := Lib.hid (fun W (hb : Below w.heap.size w W) => (h.below hb).accts)
  have SA := Lib.hid h.same
  have LC := Lib.hid (ledc h)
  obtain ⟨a4, c4, e4⟩ := h.accts.form
  obtain ⟨n4, hn4⟩ : ∃ n, n = L.accts.length := ⟨_, rfl⟩
  have e4 : V.accts = .slice a4 n4 c4 := by rw [e4, hn4, h.same, List.length_map]
  rw [e4] at HH
  have LN := Lib.hid hn4
  have FT := Lib.hid (hg.accounts.tree.falls L.accts.length)
  have m4 : n4 ≤ 16 := by rw [hn4]; exact (good_bulk hg).2.2
  rw [← hn4] at hu
  obtain ⟨R, hR⟩ : ∃ R, R = underL L.parents a u := ⟨_, rfl⟩
  rw [← hR]
  have ER := Lib.hid hR
  unfold LedV.val
  obtain ⟨C, hC⟩ : ∃ C, C = V.cells L := ⟨_, rfl⟩
  have C4 := Lib.hid (show C[4]? = some (.slice a4 n4 c4) from by rw [hC, ← e4]; rfl)
  rw [← hC] at LC ⊢
  have A0 := Lib.hid ((At.start w).alloc 31 C)
  clear h hg e4 hn4 hR hC
  go_enter Tryz.func24, Tryz.ntmps24
  go_upto_region 1 with (fail)
  obtain ⟨W0, hW0⟩ : ∃ s, s = w.alloc (.cells C 31) := ⟨_, rfl⟩
  obtain ⟨q2, hq2⟩ : ∃ n, n = w.heap.size := ⟨_, rfl⟩
  have X0 := Lib.hid (show At w W0 [(q2, 31, C)] from by rw [hW0, hq2]; exact A0.out)
  rw [← hW0, ← hq2]
  clear A0 hW0 hq2
  have y4 : W0.cell? ⟨q2, 4, none⟩ = some (.slice a4 n4 c4) := X0.out.cell 0 rfl 4 C4.out
  go_wp2_with fail
  go_loopw [1, 7] (fun i j wr => ∃ (k : Nat) (v : Int), j = .int .i64 k ∧ i = .int .i64 v ∧ W0 = wr ∧ ((v = -1 ∧ R = false ∧ k ≤ u + 1) ∨ (0 ≤ v ∧ v < n4 ∧ k + v ≤ u ∧ R = underL L.parents a v.toNat))) (fun i j _ => (intOf i + 1).toNat)
  case atStart => exact ⟨0, u, rfl, rfl, rfl, Or.inr ⟨by omega, by omega, by omega, ER.out⟩⟩
  case round =>
    obtain ⟨k, v, rfl, rfl, rfl, hv⟩ := hrel
    rcases hv with ⟨rfl, rfl, hk⟩ | ⟨v0, v1, v2, v3⟩
    · have k1 : (k : Int) ≤ (n4 : Int) := by omega
      have d1 : ¬ (0 : Int) ≤ -1 := by omega
      go_wp2_with fail
      go_ret
      exact ⟨rfl, X0.out.low⟩
    · obtain ⟨v, rfl⟩ := Int.eq_ofNat_of_zero_le v0
      have k1 : (k : Int) ≤ (n4 : Int) := by omega
      have k2 : k ≤ 16 := by omega
      simp only [Int.toNat_natCast] at v3
      by_cases hva : v = a
      · subst hva
        obtain rfl : R = true := by rw [v3]; exact under_self _ _
        clear v3
        go_wp2_with fail
        go_ret
        exact ⟨rfl, X0.out.low⟩
      · have hva' : ¬ (v : Int) = (a : Int) := by omega
        have hva2 : ((v : Int) == (a : Int)) = false := beq_false_of_ne hva'
        have hvn : v < n4 := by omega
        obtain ⟨p, hp⟩ : ∃ p, V.ac[v]? = some p := ⟨_, List.getElem?_eq_getElem (by have h := congrArg List.length SA.out; simp at h; have := LN.out; omega)⟩
        obtain ⟨b, o, e, _, hc⟩ := (HH.out W0 X0.out.low).at_ hp
        subst e
        have c0 := hc 0 (.int .i64 p.1.parent) rfl
        rw [Nat.add_zero] at c0
        have hps : L.parents[v]? = some p.1.parent := by unfold Led.parents; rw [SA.out, List.map_map, List.getElem?_map, hp]; rfl
        have hf := FT.out v p.1.parent (by rw [← LN.out]; exact hvn) hps
        obtain ⟨q, hq⟩ : ∃ q, q = p.1.parent := ⟨_, rfl⟩
        rw [← hq] at c0 hps hf
        have NX := Lib.hid (show (q = -1 ∧ R = false ∧ k + 1 ≤ u + 1) ∨ (0 ≤ q ∧ q < n4 ∧ ((k + 1 : Nat) : Int) + q ≤ u ∧ R = underL L.parents a q.toNat) from by
          by_cases h1 : q = -1
          · subst h1
            exact Or.inl ⟨rfl, by rw [v3]; exact under_root hps hva, by omega⟩
          · rcases hf with h2 | h2
            · exact absurd h2 h1
            · exact Or.inr ⟨by omega, by omega, by omega, by rw [v3]; exact under_step FT.out (by rw [← LN.out]; exact hvn) hps h1 hva⟩)
        have QL := Lib.hid (show q = -1 ∨ (0 ≤ q ∧ q < v) from hf)
        clear hc hp hq hps hf v3
        go_wp2_with fail
        go_roundw
        case rel => exact ⟨k + 1, q, by go_num, rfl, by trivial, NX.out⟩
        case measure => have := QL.out; simp [intOf]; omega
end Go.Proofs.YtcjbhgnlmmeeeaaGreatDoor

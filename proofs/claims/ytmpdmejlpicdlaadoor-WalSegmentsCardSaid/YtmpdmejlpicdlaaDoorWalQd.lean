/- The journal, plainly: what is pruned, and an opening behind it. -/
import Derived.Test.YtmpdmejlpicdlaaDoorWalJ
namespace Go.Proofs.YtmpdmejlpicdlaaDoor
open Go.RowKit Go.Bw Go.Maps
set_option linter.unusedVariables false
set_option linter.unusedSimpArgs false

/-- The segments' first records. -/
def sts : Int → List (List (List Int)) → List Int
  | _, [] => []
  | n, c :: r => n :: sts (n + c.length) r
theorem segs_starts : ∀ (C : List (List (List Int))) (n : Int), 1 ≤ n → n + many C ≤ 999999999 → (((segs n C).map (·.1)).map walNo).filter (fun n => decide (0 < n)) = sts n C
  | [], n, _, _ => rfl
  | c :: r, n, h0, h1 => by
    simp only [many] at h1
    simp only [segs, List.map_cons, sts]
    rw [wno h0 (by omega), List.filter_cons, if_pos (by simp; omega), segs_starts r (n + c.length) (by omega) (by omega)]
theorem starts_law {A : ADsk} {D : List (List (List Int))} {n : Int} (ho : A.off = false) (hF : A.files = segs n D) (h0 : 1 ≤ n) (h1 : n + many D ≤ 999999999) : starts A = sts n D := by
  unfold starts ADsk.names
  rw [ho, hF]
  exact segs_starts D n h0 h1
theorem segs_behind : ∀ (C : List (List (List Int))) (m n : Int), 1 ≤ n → n < m → m + many C ≤ 999999999 → ∀ p ∈ segs m C, bytesBefore (walNm n) p.1 = true
  | [], m, n, _, _, _ => fun p hp => by cases hp
  | c :: r, m, n, h0, h1, h2 => fun p hp => by
    simp only [many] at h2
    rcases List.mem_cons.1 hp with rfl | hp
    · exact wnm_before h0 h1 (by omega)
    · exact segs_behind r (m + c.length) n h0 (by omega) (by omega) p hp
theorem prune_law (below : Int) : ∀ (D : List (List (List Int))) (n : Int) (A : ADsk) (g : Int), A.off = false → A.ar = 0 → A.files = segs n D → (∀ c ∈ D, c ≠ []) → 1 ≤ n → n + many D ≤ 999999999 →
    ∃ C0 D' A', D = C0 ++ D' ∧ pruneGo below (sts n D) A g = (A', g + C0.length, 0) ∧ A'.files = segs (n + many C0) D' ∧ A'.off = false ∧ A'.ar = 0 ∧ A'.room = A.room ∧ (C0 ≠ [] → n + many C0 ≤ below) ∧ (D' = [] → D = []) ∧ (∀ c d r, D' = c :: d :: r → below < n + many C0 + c.length)
  | [], n, A, g, ho, ha, hF, hc, h0, h1 => ⟨[], [], A, rfl, by simp [sts, pruneGo], by rw [hF]; rfl, ho, ha, rfl, (fun h => absurd rfl h), (fun _ => rfl), (fun c d r h => by cases h)⟩
  | [c], n, A, g, ho, ha, hF, hc, h0, h1 => ⟨[], [c], A, rfl, by simp [sts, pruneGo], by rw [hF]; simp [many], ho, ha, rfl, (fun h => absurd rfl h), (fun h => by cases h), (fun c d r h => by cases h)⟩
  | c :: d :: r, n, A, g, ho, ha, hF, hc, h0, h1 => by
    simp only [many] at h1
    have hcl : 0 < c.length := List.length_pos_iff.2 (hc c (by simp))
    by_cases hb : n + c.length ≤ below
    · have hl : lookF A.files (walNm n) ≠ none := by rw [hF]; simp [segs, lookF]
      obtain ⟨A1, e1, o1, a1, f1, r1⟩ := remove_ok ho ha (wnm_named h0 (by omega)) hl
      have hdrop : drop (segs n (c :: d :: r)) (walNm n) = segs (n + c.length) (d :: r) := by
        have hne : ∀ p ∈ segs (n + c.length) (d :: r), p.1 ≠ walNm n := fun p hp => (before_ne (segs_behind (d :: r) (n + c.length) n h0 (by omega) (by simp only [many]; omega) p hp)).symm
        show drop ((walNm n, _) :: segs (n + c.length) (d :: r)) (walNm n) = _
        unfold Go.Bw.drop
        rw [List.filter_cons, if_neg (by simp)]
        exact List.filter_eq_self.2 (fun p hp => by simpa using hne p hp)
      obtain ⟨C0, D', A', g1, g2, g3, g4, g5, g6, g7, g8, g9⟩ := prune_law below (d :: r) (n + c.length) A1 (g + 1) o1 a1 (by rw [f1, hF, hdrop]) (fun x hx => hc x (by simp [hx])) (by omega) (by simp only [many]; omega)
      have em : n + (c.length : Int) + (many C0 : Int) = n + (many (c :: C0) : Int) := by simp only [many]; omega
      refine ⟨c :: C0, D', A', by rw [g1]; rfl, ?_, by rw [← em]; exact g3, g4, g5, by rw [g6, r1], fun _ => ?_, fun h => ?_, fun x y z h => by rw [← em]; exact g9 x y z h⟩
      · show pruneGo below (n :: (n + c.length) :: sts (n + c.length + d.length) r) A g = _
        rw [pruneGo, if_pos hb, e1, if_neg (by simp)]
        have : pruneGo below ((n + (c.length : Int)) :: sts (n + c.length + d.length) r) A1 (g + 1) = (A', g + 1 + C0.length, 0) := g2
        show pruneGo below ((n + (c.length : Int)) :: sts (n + c.length + d.length) r) A1 (g + 1) = _
        rw [this, List.length_cons]
        congr 2
        omega
      · by_cases hC : C0 = []
        · subst hC; simp only [many]; omega
        · rw [← em]; exact g7 hC
      · have := g8 h; cases this
    · refine ⟨[], c :: d :: r, A, rfl, ?_, by rw [hF]; simp [many], ho, ha, rfl, (fun h => absurd rfl h), (fun h => by cases h), fun x y z h => ?_⟩
      · show pruneGo below (n :: (n + c.length) :: sts (n + c.length + d.length) r) A g = _
        rw [pruneGo, if_neg hb]; simp
      · injection h with h1 _
        rw [← h1]; simp only [many]; omega
/-- An opening of segments that begin anywhere. -/
theorem open_from {A : ADsk} {D : List (List (List Int))} {m : Int} (ho : A.off = false) (ha : A.ar = 0) (hr : Rising A.files) (hF : A.files = segs m D) (hD : D ≠ []) (h0 : 1 ≤ m) (h1 : m + many D ≤ 999999999) (hs : ∀ e ∈ D, ∀ r ∈ e, r.length ≤ 65536) (per : Int) (hp : 1 ≤ per) :
    ∃ A', openA A per = ⟨A', 0, m, lastStart m D 1, m + many D, D.flatten⟩ := by
  have hn : A.names = A.files.map (·.1) := by unfold ADsk.names; rw [ho]; rfl
  have E : openA A per = { openGo A.names A 0 1 1 false [] with first := if (openGo A.names A 0 1 1 false []).er ≠ 0 then 0 else if (openGo A.names A 0 1 1 false []).first = 0 then 1 else (openGo A.names A 0 1 1 false []).first } := by
    unfold openA; rw [if_neg (by omega), ho]; rfl
  cases D with
  | nil => exact absurd rfl hD
  | cons c r =>
    have sw : openGo A.names A 0 1 1 false [] = openGo (((segs m (c :: r)).map (·.1)) ++ []) A 0 1 m false [] := by
      rw [hn, hF, List.append_nil]
      show openGo (walNm m :: (segs (m + c.length) r).map (·.1)) A 0 1 1 false [] = openGo (walNm m :: (segs (m + c.length) r).map (·.1)) A 0 1 m false []
      rw [openGo, openGo, if_neg (show ¬ ((0 : Int) < 0 ∧ _) by rintro ⟨h, _⟩; omega), if_neg (show ¬ ((0 : Int) < 0 ∧ _) by rintro ⟨h, _⟩; omega)]
      have hz : ¬ walNo (walNm m) = 0 := by rw [wno h0 (by omega)]; omega
      rw [if_neg hz, if_neg hz]
    rcases open_run (c :: r) m A 0 1 [] [] ho (by rw [hF]; exact segs_calm _ _) hr (fun p hp => by rw [hF]; exact hp) h0 h1 hs with ⟨g, _⟩ | ⟨A', g1, g2, g3, g4, g5⟩
    · exact absurd ha g
    · refine ⟨A', ?_⟩
      rw [E, sw, g1]
      have hf : firstOf 0 m (c :: r) = m := by unfold firstOf; rw [if_pos rfl]; exact firstOf_pos r m _ (by omega)
      simp only [openGo, hf, List.nil_append]
      have hm0 : ¬ m = 0 := by omega
      simp [hm0]
end Go.Proofs.YtmpdmejlpicdlaaDoor

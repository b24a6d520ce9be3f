/- Rows of rows of bytes that a call makes; wal.Records. -/
import Derived.Test.YtmpdmejlpicdlaaDoorWalF
namespace Go.Proofs.YtmpdmejlpicdlaaDoor
open Go.RowKit Go.Bw Go.Maps
set_option linter.unusedVariables false
set_option linter.unusedSimpArgs false

theorem TRow.info : (Tryd.prog.info? 22).map (fun i => (i.zero, i.size, i.bytes)) = some (some (.slice none 0 0), 1, 24) := by kernel_rfl

/-- Each of these values is a row of its own, in blocks of Q. -/
def Each (w : World) (Q : Nat → Prop) (vs : List Value) (L : List (List Int)) : Prop := ∀ (i : Nat) (x : List Int), L[i]? = some x → ∃ u, vs[i]? = some u ∧ w.ownsRow 0 5 1 u x.length (bcells x) ∧ ∀ k, u.ownBlock = some k → Q k
/-- A slice of rows, all in blocks of Q. -/
structure RowsAt (w : World) (Q : Nat → Prop) (v : Value) (L : List (List Int)) : Prop where
  ex : ∃ vs : List Value, w.ownsRow 0 22 1 v L.length vs ∧ (∀ k, v.ownBlock = some k → Q k) ∧ Each w Q vs L

theorem RowsAt.nil (w : World) (Q : Nat → Prop) : RowsAt w Q (.slice none 0 0) [] :=
  ⟨⟨[], World.ownsRow_nil _ _ _ _, (fun k h => by cases h), (fun i x h => by simp at h)⟩⟩
theorem RowsAt.kept {w w' : World} {Q : Nat → Prop} {v : Value} {L : List (List Int)} (h : RowsAt w Q v L) (hk : ∀ k, Q k → k < w.heap.size → w'.heap[k]? = w.heap[k]?) : RowsAt w' Q v L := by
  obtain ⟨vs, h1, hq, h2⟩ := h.ex
  refine ⟨⟨vs, ownsRow_kept h1 (fun k e => hk k (hq k e) (h1.lt k e).2), hq, fun i x hi => ?_⟩⟩
  obtain ⟨u, h3, h4, h5⟩ := h2 i x hi
  exact ⟨u, h3, ownsRow_kept h4 (fun k e => hk k (h5 k e) (h4.lt k e).2), h5⟩
theorem RowsAt.mod {w w' : World} {Q S : Nat → Prop} {v : Value} {L : List (List Int)} (h : RowsAt w Q v L) (hm : Mod S w w') (hS : ∀ k, Q k → ¬ S k) : RowsAt w' Q v L := h.kept (fun k hq hk => hm.block k hk (hS k hq))
theorem RowsAt.below {w w' : World} {Q : Nat → Prop} {v : Value} {L : List (List Int)} (h : RowsAt w Q v L) (hb : Below w.heap.size w w') : RowsAt w' Q v L := h.kept (fun k _ hk => hb.block k hk)
theorem RowsAt.weaken {w : World} {Q T : Nat → Prop} {v : Value} {L : List (List Int)} (h : RowsAt w Q v L) (hT : ∀ k, k < w.heap.size → Q k → T k) : RowsAt w T v L := by
  obtain ⟨vs, h1, hq, h2⟩ := h.ex
  refine ⟨⟨vs, h1, fun k e => hT k (h1.lt k e).2 (hq k e), fun i x hi => ?_⟩⟩
  obtain ⟨u, h3, h4, h5⟩ := h2 i x hi
  exact ⟨u, h3, h4, fun k e => hT k (h4.lt k e).2 (h5 k e)⟩
/-- A row of rows and a row of bytes lie apart. -/
theorem owns_apart {w : World} {B C : Nat} {v u : Value} {n m : Nat} {xs ys : List Value} (h1 : w.ownsRow B 22 1 v n xs) (h2 : w.ownsRow C 5 1 u m ys) (k : Nat) (e1 : v.ownBlock = some k) (e2 : u.ownBlock = some k) : False := by
  rcases h1.2 with ⟨rfl, _⟩ | ⟨g, c, cur, rfl, _, hg, _⟩
  · cases e1
  · rcases h2.2 with ⟨rfl, _⟩ | ⟨g', c', cur', rfl, _, hg', _⟩
    · cases e2
    · simp only [Value.ownBlock, Option.some.injEq] at e1 e2
      subst e1; subst e2
      rw [hg] at hg'
      injection hg' with hg'
      injection hg' with _ ht _
      exact absurd ht (by decide)
theorem Each.at_append {w : World} {Q : Nat → Prop} {vs us : List Value} {L M : List (List Int)} (hl : vs.length = L.length) (h1 : Each w Q vs L) (h2 : Each w Q us M) : Each w Q (vs ++ us) (L ++ M) := by
  intro i x hi
  by_cases hlt : i < L.length
  · rw [List.getElem?_append_left hlt] at hi
    obtain ⟨u, h3, h4⟩ := h1 i x hi
    exact ⟨u, by rw [List.getElem?_append_left (by omega)]; exact h3, h4⟩
  · rw [List.getElem?_append_right (by omega)] at hi
    obtain ⟨u, h3, h4⟩ := h2 _ x hi
    exact ⟨u, by rw [List.getElem?_append_right (by omega), hl]; exact h3, h4⟩
theorem ownsRow_len {w : World} {B : Nat} {e : TypeId} {v : Value} {n : Nat} {xs : List Value} (h : w.ownsRow B e 1 v n xs) : xs.length = n := by rw [h.1, Nat.mul_one]
theorem each_one {w : World} {Q : Nat → Prop} {us : List Value} {M : List (List Int)} (hl : us.length = M.length) (h : Each w Q us M) : ∀ u ∈ us, u.oneCell' = true := by
  intro u hu
  obtain ⟨i, hi, rfl⟩ := List.mem_iff_getElem.1 hu
  obtain ⟨u', h1, h2, _⟩ := h i (M[i]'(by omega)) (List.getElem?_eq_getElem _)
  rw [List.getElem?_eq_getElem hi] at h1
  injection h1 with h1
  obtain ⟨a, c, h3, _⟩ := ownsRow_slice h2
  rw [h1, h3]; rfl
/-- Rows are appended. -/
theorem app_rows (wr : World) (Q : Nat → Prop) (v x : Value) (L M : List (List Int)) (us : List Value) (h : RowsAt wr Q v L) (hx : Reads wr 1 x M.length us) (hu : Each wr Q us M) (hl : L.length + M.length ≤ 1099511627776) (hQ : ∀ k, wr.heap.size ≤ k → Q k) :
    ∃ v' w3, (Builtin.append_ #[37, 37] 37 #[v, x]).run Tryd.prog wr = .ok v' w3 ∧ RowsAt w3 Q v' (L ++ M) ∧ Mod (fun k => v.ownBlock = some k) wr w3 ∧ ∀ k, v'.ownBlock = some k → v.ownBlock = some k ∨ wr.heap.size ≤ k := by
  obtain ⟨vs, h1, hq, h2⟩ := h.ex
  have hul : us.length = M.length := by rw [hx.1, Nat.mul_one]
  obtain ⟨i0, hi, hz0, hz1, hz2⟩ := info_parts TRow.info
  obtain ⟨v', w3, hrun, ho3, hm3, hb3, _⟩ := run_append_to (P := Tryd.prog) 37 37 22 i0 (.slice none 0 0) 1 24 Tryd.underlying37 hi hz0 hz1 hz2 rfl (by decide) v _ _ h1 _ _ _ hx (each_one hul hu) (by unfold maxLen; omega) (by omega)
  refine ⟨v', w3, hrun, ⟨⟨vs ++ us, ?_, ?_, ?_⟩⟩, hm3, fun k hk => (hb3 k hk).imp id (fun e => by omega)⟩
  · rw [List.length_append]; exact ho3
  · intro j hj
    rcases hb3 j hj with h5 | h5
    · exact hq j h5
    · exact hQ j (by omega)
  · have keep : ∀ {vs' : List Value} {L' : List (List Int)}, Each wr Q vs' L' → Each w3 Q vs' L' := fun {vs' L'} hE i y hi => by
      obtain ⟨u, h3, h4, h5⟩ := hE i y hi
      exact ⟨u, h3, ownsRow_kept h4 (fun k hk => hm3.block k (h4.lt k hk).2 (fun e => owns_apart h1 h4 k e hk)), h5⟩
    exact Each.at_append (by rw [ownsRow_len h1]) (keep h2) (keep hu)

theorem slice_mid (w : World) (b o n c lo hi : Nat) (x y : Int) (hx : x = lo) (hy : y = hi) (h1 : lo ≤ hi) (h2 : hi ≤ c) :
    (Instr.slice 22 (.slice (some ⟨b, o, none⟩) n c) (some (.int .i64 x)) (some (.int .i64 y)) none).run Tryd.prog w = .ok (.slice (if c = lo then some ⟨b, o, none⟩ else some ⟨b, o + lo, none⟩) (hi - lo) (c - lo)) w := by
  have ht := Tryd.underlying22
  subst hx; subst hy
  have h3 : (lo : Int) ≤ (hi : Int) := by omega
  have h4 : (hi : Int) ≤ (c : Int) := by omega
  have h5 : ¬ ((hi : Int) < lo) := by omega
  have h6 : ¬ ((c : Int) < hi) := by omega
  have h7 : ¬ (hi < lo) := by omega
  have h8 : ¬ (c < hi) := by omega
  by_cases hck : c = lo
  · have h9 : hi ≤ lo := by omega
    simp [Instr.slice, go_sem, run_underlying ht, h1, h3, h4, h5, h6, h7, h8, h9, hck]
  · simp [Instr.slice, go_sem, run_underlying ht, h1, h2, h3, h4, h5, h6, h7, h8, hck]
theorem reads_mid {w : World} {b o n c lo k c' : Nat} {xs : List Int} (h : Reads w 1 (.slice (some ⟨b, o, none⟩) n c) n (bcells xs)) (hn : n ≤ c) (hk : lo + k ≤ n) :
    Reads w 1 (.slice (if c = lo then some ⟨b, o, none⟩ else some ⟨b, o + lo, none⟩) k c') k (bcells ((xs.drop lo).take k)) := by
  obtain ⟨h1, h2⟩ := h
  have hl : xs.length = n := by simpa [bcells] using h1
  refine ⟨by simp [bcells]; omega, ?_⟩
  rcases h2 with ⟨_, e, _⟩ | ⟨a', c2, e, hh⟩
  · cases e
  · cases e
    by_cases hck : c = lo
    · rw [if_pos hck]
      refine Or.inr ⟨_, _, rfl, fun j u hj => ?_⟩
      have := (List.getElem?_eq_some_iff.1 hj).1
      simp [bcells] at this; omega
    · rw [if_neg hck]
      refine Or.inr ⟨_, _, rfl, fun j u hj => ?_⟩
      have hjl := (List.getElem?_eq_some_iff.1 hj).1
      rw [bcells_len, List.length_take, List.length_drop] at hjl
      have := hh (lo + j) u (by
        rw [← hj]
        simp only [bcells, List.map_take, List.map_drop]
        rw [List.getElem?_take, if_pos (by omega), List.getElem?_drop])
      rw [addr_add] at this ⊢
      rw [Nat.add_assoc]; exact this

theorem ofInt_u64 (a : Nat) (ha : a < 4294967296) : (BitVec.ofInt 64 (a : Int)).toNat = a := by
  rw [BitVec.ofInt_natCast, BitVec.toNat_ofNat]; exact Nat.mod_eq_of_lt (by omega)
theorem i64_or_nat (a b : Nat) (ha : a < 4294967296) (hb : b < 4294967296) : bits .or .i64 (a : Int) (b : Int) = ((a ||| b : Nat) : Int) := by
  have hx : a ||| b < 2 ^ 32 := Nat.or_lt_two_pow (by omega) (by omega)
  show IntKind.i64.wrap ((BitVec.ofInt 64 (a : Int) ||| BitVec.ofInt 64 (b : Int)).toNat : Int) = _
  rw [BitVec.toNat_or, ofInt_u64 a ha, ofInt_u64 b hb, IntKind.wrap_i64]
  omega
theorem or_at64 (a b k : Nat) (ha : a < 2 ^ k) (hb : a + b * 2 ^ k < 4294967296) : bits .or .i64 (a : Int) ((b * 2 ^ k : Nat) : Int) = ((a + b * 2 ^ k : Nat) : Int) := by
  rw [i64_or_nat a (b * 2 ^ k) (by omega) (by omega)]
  have h := Nat.two_pow_add_eq_or_of_lt ha b
  rw [Nat.or_comm, Nat.mul_comm b, ← h]
  congr 1; omega
theorem or_bytes64 {x0 x1 x2 x3 : Int} (g0 : 0 ≤ x0 ∧ x0 ≤ 255) (g1 : 0 ≤ x1 ∧ x1 ≤ 255) (g2 : 0 ≤ x2 ∧ x2 ≤ 255) (g3 : 0 ≤ x3 ∧ x3 ≤ 255) :
    bits .or .i64 (bits .or .i64 (bits .or .i64 x0 (x1 * 256)) (x2 * 65536)) (x3 * 16777216) = x0 + 256 * x1 + 65536 * x2 + 16777216 * x3 := by
  obtain ⟨a, rfl⟩ := Int.eq_ofNat_of_zero_le g0.1
  obtain ⟨b, rfl⟩ := Int.eq_ofNat_of_zero_le g1.1
  obtain ⟨c, rfl⟩ := Int.eq_ofNat_of_zero_le g2.1
  obtain ⟨d, rfl⟩ := Int.eq_ofNat_of_zero_le g3.1
  have e1 := or_at64 a b 8 (by omega) (by omega)
  have e2 := or_at64 (a + b * 2 ^ 8) c 16 (by omega) (by omega)
  have e3 := or_at64 (a + b * 2 ^ 8 + c * 2 ^ 16) d 24 (by omega) (by omega)
  have f1 : ((b * 2 ^ 8 : Nat) : Int) = (b : Int) * 256 := by simp
  have f2 : ((c * 2 ^ 16 : Nat) : Int) = (c : Int) * 65536 := by simp
  have f3 : ((d * 2 ^ 24 : Nat) : Int) = (d : Int) * 16777216 := by simp
  rw [f1] at e1
  rw [f2] at e2
  rw [f3] at e3
  rw [e1, e2, e3]
  omega

/-- Records, and how many bytes they have. -/
def RecsOut (w : World) (b : List Int) (e : Ending) (w' : World) : Prop := ∃ v, e = .returned (.tuple #[v, .int .i64 (ends (recs b) : Nat)]) ∧ RowsAt w' (fun k => w.heap.size ≤ k) v (recs b) ∧ Below w.heap.size w w'
end Go.Proofs.YtmpdmejlpicdlaaDoor

/- For DiskFull: an abstract disk of at most two files that nothing was synced on. -/
import Derived.Test.YtmpdmejlpicdlaaDoorDiskSa
namespace Go.Proofs.YtmpdmejlpicdlaaDoor
open Go.RowKit Go.Bw Go.Maps
set_option linter.unusedVariables false
set_option linter.unusedSimpArgs false

theorem total_cons (p : Nm × Cont) (F : List (Nm × Cont)) : total (p :: F) = p.2.len + total F := by simp [total]
theorem total_ins (x : Nm × Cont) : ∀ F : List (Nm × Cont), total (ins x F) = x.2.len + total F
  | [] => by simp [ins, total]
  | y :: r => by
    unfold ins
    split
    · rw [total_cons]
    · rw [total_cons, total_ins x r, total_cons]; omega
theorem drop_absent {F : List (Nm × Cont)} {n : Nm} (h : ∀ p ∈ F, p.1 ≠ n) : drop F n = F := List.filter_eq_self.2 (fun p hp => by simp [h p hp])
theorem total_drop {n : Nm} : ∀ {F : List (Nm × Cont)}, Rising F → total (drop F n) + ((lookF F n).getD ⟨[], []⟩).len = total F
  | [], _ => by simp [drop, total, lookF, Cont.len]
  | y :: r, h => by
    obtain ⟨h1, h2⟩ := List.pairwise_cons.1 h
    by_cases hy : y.1 = n
    · have hd : drop (y :: r) n = r := by
        show List.filter _ (y :: r) = r
        rw [List.filter_cons]
        simp only [hy, beq_self_eq_true, Bool.not_true, Bool.false_eq_true, if_false]
        exact drop_absent (fun p hp e => before_ne (h1 p hp) (by rw [hy, e]))
      have hl : lookF (y :: r) n = some y.2 := by simp [lookF, hy]
      rw [hd, hl, total_cons]; simp only [Option.getD_some]; omega
    · have hd : drop (y :: r) n = y :: drop r n := by simp [drop, List.filter_cons, hy]
      have hl : lookF (y :: r) n = lookF r n := by simp [lookF, List.find?_cons, hy]
      have := total_drop (n := n) h2
      rw [hd, hl, total_cons, total_cons]; omega
theorem total_put {F : List (Nm × Cont)} (h : Rising F) (n : Nm) (c : Cont) : total (put F n c) + ((lookF F n).getD ⟨[], []⟩).len = total F + c.len := by
  have := total_drop (n := n) h
  unfold put; rw [total_ins]; show c.len + _ + _ = _; omega

/-- Two files at the most, whose names are 'a', 'b'. -/
structure Full2 (A : ADsk) (room : Int) (used : Nat) : Prop where
  room : A.room = room
  on : A.off = false
  ar : A.ar = 0
  used : total A.files = used
  names : ∀ p ∈ A.files, p.1 = [97] ∨ p.1 = [98]

theorem full_new (room : Int) : Full2 (ADsk.new room) room 0 := ⟨rfl, rfl, rfl, rfl, fun p hp => by cases hp⟩

theorem two_few {F : List (Nm × Cont)} (h : Rising F) (hn : ∀ p ∈ F, p.1 = [97] ∨ p.1 = [98]) : F.length ≤ 2 := by
  match F, h, hn with
  | [], _, _ => simp
  | [_], _, _ => simp
  | [_, _], _, _ => simp
  | x :: y :: z :: r, h, hn =>
    have h1 := List.pairwise_cons.1 h
    have h2 := List.pairwise_cons.1 h1.2
    have a := h1.1 y (by simp)
    have b := h1.1 z (by simp)
    have c := h2.1 z (by simp)
    have e0 : bytesBefore [98] [97] = false := by decide
    rcases hn x (by simp) with hx | hx <;> rcases hn y (by simp) with hy | hy <;> rcases hn z (by simp) with hz | hz <;> rw [hx, hy] at a <;> rw [hx, hz] at b <;> rw [hy, hz] at c <;> simp [before_irrefl, e0] at a b c

theorem full_append {A : ADsk} {room : Int} {used : Nat} (ho : A.Ok) (h : Full2 A room used) {p : List Int} (hu : used + p.length ≤ 1048576) (n : Nm) (hn : n = [97] ∨ n = [98]) :
    (room < ((used + p.length : Nat) : Int) → A.append n p = (A, 22)) ∧
    (¬ room < ((used + p.length : Nat) : Int) → A.append n p = ((A.append n p).1, 0) ∧ Full2 (A.append n p).1 room (used + p.length)) := by
  have hr : A.ready n = 0 := by
    unfold ADsk.ready
    rw [show namedB n = true from by rcases hn with rfl | rfl <;> rfl, h.on]; rfl
  have hc : ((lookF A.files n).getD ⟨[], []⟩).len ≤ used := by
    have := total_drop (n := n) ho.rising
    rw [h.used] at this; omega
  have e1 : ¬ (((lookF A.files n).getD ⟨[], []⟩).len + p.length > 1048576) := by omega
  have hf := two_few ho.rising h.names
  have e2 : ¬ ((lookF A.files n).isNone = true ∧ 16 ≤ A.files.length) := fun hh => by omega
  constructor
  · intro hlt
    unfold ADsk.append
    rw [hr]
    simp only [ne_eq, not_true, if_false, e1, e2, false_or, h.room, h.used, hlt, if_true]
  · intro hlt
    have hap : A.append n p = ({ A with files := put A.files n ⟨((lookF A.files n).getD ⟨[], []⟩).safe, ((lookF A.files n).getD ⟨[], []⟩).wait ++ p⟩ } |>.armed, 0) := by
      unfold ADsk.append
      rw [hr]
      simp only [ne_eq, not_true, if_false, e1, e2, false_or, h.room, h.used, hlt, h.ar]
      simp
    rw [hap]
    refine ⟨rfl, h.room, h.on, ?_, ?_, ?_⟩
    · show (if A.ar = 0 then 0 else A.ar - 1) = 0
      rw [h.ar]; rfl
    · show total (put A.files n _) = _
      have := total_put ho.rising n ⟨((lookF A.files n).getD ⟨[], []⟩).safe, ((lookF A.files n).getD ⟨[], []⟩).wait ++ p⟩
      rw [h.used] at this
      simp only [Cont.len, List.length_append] at this ⊢
      omega
    · intro q hq
      have hq' : q ∈ put A.files n _ := hq
      unfold put at hq'
      rcases mem_ins.1 hq' with rfl | hq'
      · exact hn
      · exact h.names q (mem_drop.1 hq').1

/-- The sum of the first files' lengths. -/
def upTo (F : List (Nm × Cont)) (j : Nat) : Nat := total (F.take j)
theorem upTo_succ {F : List (Nm × Cont)} {j : Nat} {q : Nm × Cont} (h : F[j]? = some q) : upTo F (j + 1) = upTo F j + q.2.len := by
  have hj := (List.getElem?_eq_some_iff.1 h).1
  have he := (List.getElem?_eq_some_iff.1 h).2
  unfold upTo
  rw [List.take_succ_eq_append_getElem hj, he]
  simp [total]
theorem upTo_all (F : List (Nm × Cont)) : upTo F F.length = total F := by unfold upTo; rw [List.take_length]
theorem upTo_le (F : List (Nm × Cont)) : ∀ j, upTo F j ≤ total F := fun j => by
  have : total F = total (F.take j) + total (F.drop j) := by
    unfold total
    rw [← List.sum_append, ← List.map_append, List.take_append_drop]
  unfold upTo; omega

theorem read_at {A : ADsk} (ho : A.Ok) (on : A.off = false) {j : Nat} {q : Nm × Cont} (h : A.files[j]? = some q) : A.read q.1 = (q.2.safe ++ q.2.wait, 0) := by
  have hm := List.mem_of_getElem? h
  have hl := look_of_mem ho.rising hm
  have hr : A.ready q.1 = 0 := by unfold ADsk.ready; rw [ho.names q hm, on]; rfl
  have ht : A.there q.1 = 0 := by unfold ADsk.there; rw [hr, hl]; rfl
  unfold ADsk.read
  rw [ht, hl]; rfl

theorem row_cell {w : World} {B : Nat} {e : TypeId} {a : Option Addr} {n c : Nat} {xs : List Value} (h : w.ownsRow B e 1 (.slice a n c) n xs) {j : Nat} {u : Value} (hj : xs[j]? = some u) : (∃ g, a = some ⟨g, 0, none⟩) ∧ ∀ g, a = some ⟨g, 0, none⟩ → w.cell? ⟨g, j, none⟩ = some u := by
  rcases h.2 with ⟨e, h0⟩ | ⟨g, cap, cur, e, _⟩
  · cases e
    have := h.1
    have hx : xs = [] := List.length_eq_zero_iff.1 (by omega)
    rw [hx] at hj; cases hj
  · cases e
    exact ⟨⟨g, rfl⟩, fun g' hg => by cases hg; exact own_cell h hj⟩
theorem nm_small {n : Nm} (h : namedB n = true) : (⟨n.toArray⟩ : ByteArray).size ≤ maxLen := by
  unfold namedB at h
  have := of_decide_eq_true h
  show n.toArray.size ≤ maxLen
  rw [List.size_toArray]; unfold maxLen; omega

/-- Numbers that came in, in a row. -/
def IntsIn (w : World) (b : Option Addr) (m : Nat) : Prop := ∀ j, j < m → ∃ b' x, b = some b' ∧ w.cell? (b'.add j) = some (.int .i64 x)

theorem bit_or (x : Int) : bits .and .i64 x 1 = 0 ∨ bits .and .i64 x 1 = 1 := by
  have e : (BitVec.ofInt 64 x &&& BitVec.ofInt 64 1).toNat = (BitVec.ofInt 64 x).toNat &&& 1 := by rw [BitVec.toNat_and]; rfl
  have h : ∀ m : Nat, m &&& 1 = 0 ∨ m &&& 1 = 1 := fun m => by rw [Nat.and_one_is_mod]; omega
  show IntKind.i64.wrap ((BitVec.ofInt 64 x &&& BitVec.ofInt 64 1).toNat : Int) = 0 ∨ IntKind.i64.wrap ((BitVec.ofInt 64 x &&& BitVec.ofInt 64 1).toNat : Int) = 1
  rw [e]
  rcases h (BitVec.ofInt 64 x).toNat with h | h <;> rw [h]
  · exact Or.inl (by kernel_rfl)
  · exact Or.inr (by kernel_rfl)
end Go.Proofs.YtmpdmejlpicdlaaDoor

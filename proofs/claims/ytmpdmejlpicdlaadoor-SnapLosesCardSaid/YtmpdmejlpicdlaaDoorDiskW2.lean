/- The disk's size and the loss of power: the two loops over its map. -/
import Derived.Test.YtmpdmejlpicdlaaDoorDiskW1
import Derived.LoopTactic
namespace Go.Proofs.YtmpdmejlpicdlaaDoor
open Go.RowKit Go.Bw Go.Maps
set_option linter.unusedVariables false
set_option linter.unusedSimpArgs false

theorem atKey_fdata' (n : Nm) (F : List (Nm × Fil)) (z : DataW Unit) : (fdata F).atKey (.string n) z = match lookF F n with | some f => .lit (.int .i64 f.blk) | none => z := by
  have e2 : ((fun p : Lit × DataW Unit => p.1.sameKey (.string n)) ∘ fent) = fun p => p.1 == n := rfl
  have e3 : (F.map fent).find? (fun p => p.1.sameKey (.string n)) = (F.find? (fun p => p.1 == n)).map fent := by rw [List.find?_map, e2]
  unfold lookF fdata DataW.atKey
  dsimp only
  split
  · rename_i p hp
    have hp' := hp.symm.trans e3
    cases hf : F.find? (fun p => p.1 == n) with
    | none => rw [hf] at hp'; cases hp'
    | some q => rw [hf] at hp'; cases hp'; rfl
  · rename_i hp
    have hp' := hp.symm.trans e3
    cases hf : F.find? (fun p => p.1 == n) with
    | none => rfl
    | some q => rw [hf] at hp'; cases hp'

theorem key_inv {key : Value} {kl : Lit} (h : keyOf Tryd.prog 9 key = some kl) : ∃ x : ByteArray, key = .string x ∧ kl = .string x.data.toList := by
  cases key <;> simp [keyOf, Tryd.underlying9, mapKey] at h
  obtain ⟨_, rfl⟩ := h
  exact ⟨_, rfl, rfl⟩

section
variable {P : Program} (w : World) {ops : Array Oper} {rest : List Oper} {o : Oper} {a : Act} {Q : Exit → Act → World → Prop}
def strike (left : Lit → Bool) (n : Nm) : Lit → Bool := fun z => left z && !z.sameKey (.string n)
/-- The step of a range over the disk's map. -/
theorem wpList_next_disk (hg : o.guard = none) (it : Operand) (hop : o.op = Op.next it false) (b r n : Nat) (F : List (Nm × Fil)) (left : Lit → Bool) (cnt : Nat)
    (hit : a.eval it = .pointer (some ⟨r, 0, none⟩)) (h : w.ranges Tryd.prog 9 ptrElem b r n (fdata F) left cnt)
    (hDone : (∀ kl, left kl = false) → wpList Tryd.prog ops Q rest (a.put o.dst (.tuple #[.bool false])) w)
    (hMore : ∀ (x : ByteArray) (m : Nm) (f : Fil) (w' : World) (cnt' : Nat), (m, f) ∈ F → m = x.data.toList → left (.string m) = true → w'.ranges Tryd.prog 9 ptrElem b r n (fdata F) (strike left m) cnt' → cnt' < cnt →
      w.grownBy w' (some r) → w'.heap.size = w.heap.size → (Instr.entry (.pointer (some ⟨r, 0, none⟩))).run Tryd.prog w' = .ok (.tuple #[.string x, .pointer (some ⟨f.blk, 0, none⟩)]) w' → wpList Tryd.prog ops Q rest (a.put o.dst (.tuple #[.bool true, .string x, .pointer (some ⟨f.blk, 0, none⟩)])) w') :
    wpList Tryd.prog ops Q (o :: rest) a w := by
  refine wpList_next_ranges w hg it hop 9 (string_keyed Tryd.underlying9) ptrElem (fun s : ByteArray => Value.string s) (fun q : Option Addr => Value.pointer q) (fun key kl hk => ?_) (fun v y hv => ?_) b r n (fdata F) left cnt hit h (fun _ hl => hDone hl) ?_
  · obtain ⟨x, hx, _⟩ := key_inv hk; exact ⟨x, hx⟩
  · unfold ptrElem at hv
    split at hv
    · exact ⟨_, rfl⟩
    · exact ⟨_, rfl⟩
    · cases hv
  · intro x c kl y w' cnt' hkey hlk hv hat hrg hlt hgr hsz hen
    obtain ⟨x', ex, rfl⟩ := key_inv hkey
    cases ex
    cases hl : lookF F x.data.toList with
    | none =>
      have h1 := hat .nil
      have h2 := hat (.lit (.bool true))
      rw [atKey_fdata', hl] at h1 h2
      dsimp only at h1 h2
      exact absurd (h1.trans h2.symm) (by simp)
    | some f =>
      have h1 := hat .nil
      rw [atKey_fdata', hl] at h1
      dsimp only at h1
      obtain ⟨y1, y2⟩ := y
      dsimp only at h1
      subst h1
      have hc := ptrElem_inv hv
      cases hc
      exact hMore x x.data.toList f w' cnt' (look_some hl) rfl hlk hrg hlt hgr hsz hen
end

/-! ### Sums over what has come -/
def partSum (left : Lit → Bool) (F : List (Nm × Fil)) : Nat := ((F.filter (fun p => !left (.string p.1))).map (fun p => p.2.c.len)).sum

theorem sum_filter_step {α : Type} (g : α → Nat) (u v : α → Bool) : ∀ (F : List α) (q : α), q ∈ F → F.Nodup → u q = false → v q = true → (∀ p ∈ F, p ≠ q → v p = u p) →
    ((F.filter v).map g).sum = ((F.filter u).map g).sum + g q
  | [], _, h, _, _, _, _ => by cases h
  | y :: r, q, h, hd, hu, hv, he => by
    obtain ⟨h1, h2⟩ := List.nodup_cons.1 hd
    by_cases hy : y = q
    · subst hy
      have hr : r.filter v = r.filter u := List.filter_congr (fun p hp => he p (by simp [hp]) (fun e => h1 (e ▸ hp)))
      rw [List.filter_cons, List.filter_cons, hu, hv, hr]
      simp; omega
    · have hq : q ∈ r := by rcases List.mem_cons.1 h with e | e; exact absurd e.symm hy; exact e
      have ih := sum_filter_step g u v r q hq h2 hu hv (fun p hp => he p (by simp [hp]))
      rw [List.filter_cons, List.filter_cons, he y (by simp) hy]
      split <;> simp [ih]; omega

theorem rising_nodup {α : Type} {F : List (Nm × α)} (h : Rising F) : F.Nodup :=
  List.Pairwise.imp (fun {p q} hb e => by subst e; rw [before_irrefl] at hb; cases hb) h

theorem partSum_step {left : Lit → Bool} {F : List (Nm × Fil)} (hr : Rising F) {p : Nm × Fil} (hp : p ∈ F) (hl : left (.string p.1) = true) :
    partSum (strike left p.1) F = partSum left F + p.2.c.len := by
  unfold partSum
  refine sum_filter_step (fun p : Nm × Fil => p.2.c.len) (fun p => !left (.string p.1)) (fun q => !strike left p.1 (.string q.1)) F p hp (rising_nodup hr) (by simp [hl]) (by simp [strike, Lit.sameKey]) ?_
  intro q hq hne
  have : q.1 ≠ p.1 := fun e => hne (rising_inj hr hq hp e)
  simp [strike, Lit.sameKey, this]

theorem partSum_done {left : Lit → Bool} {D : Dsk} (hl : ∀ kl, left kl = false) : partSum left D.files = total D.abs.files := by
  unfold partSum total Dsk.abs
  rw [List.filter_eq_self.2 (fun p _ => by simp [hl])]
  simp [List.map_map, Function.comp_def]

theorem has_fdata {F : List (Nm × Fil)} {p : Nm × Fil} (hp : p ∈ F) : Maps.has (fdata F) (.string p.1) = true := by
  show (F.map fent).any (fun q => q.1.sameKey (.string p.1)) = true
  rw [List.any_eq_true]
  exact ⟨fent p, List.mem_map_of_mem hp, by simp [fent, Lit.sameKey]⟩

theorem partSum_start (F : List (Nm × Fil)) : partSum (Maps.has (fdata F)) F = 0 := by
  unfold partSum
  have : F.filter (fun p => !Maps.has (fdata F) (.string p.1)) = [] := List.filter_eq_nil_iff.2 (fun p hp => by simp [has_fdata hp])
  rw [this]; rfl

theorem sum_le {α : Type} (g : α → Nat) (B : Nat) : ∀ l : List α, (∀ p ∈ l, g p ≤ B) → (l.map g).sum ≤ l.length * B
  | [], _ => by simp
  | y :: r, h => by
    have := sum_le g B r (fun p hp => h p (by simp [hp]))
    have h1 := h y (by simp)
    simp only [List.map_cons, List.sum_cons, List.length_cons, Nat.succ_mul]; omega

theorem partSum_le {left : Lit → Bool} {D : Dsk} (h : D.abs.Ok) : partSum left D.files ≤ 16777216 := by
  unfold partSum
  have h1 := sum_le (fun p : Nm × Fil => p.2.c.len) 1048576 (D.files.filter (fun p => !left (.string p.1))) (fun p hp => by
    have := h.small (p.1, p.2.c) (by simp only [Dsk.abs]; exact List.mem_map.2 ⟨p, (List.mem_filter.1 hp).1, rfl⟩)
    exact this)
  have h2 := List.length_filter_le (fun p : Nm × Fil => !left (.string p.1)) D.files
  have h3 := h.few
  simp only [Dsk.abs, List.length_map] at h3
  have h4 : (D.files.filter (fun p => !left (.string p.1))).length * 1048576 ≤ 16 * 1048576 := Nat.mul_le_mul_right _ (by omega)
  omega

theorem FileAt.shape {w : World} {f : Fil} (h : FileAt w f) : ∃ a1 c1 a2 c2, f.sv = .slice a1 f.c.safe.length c1 ∧ f.wv = .slice a2 f.c.wait.length c2 ∧ w.cell? ⟨f.blk, 0, none⟩ = some (.slice a1 f.c.safe.length c1) ∧ w.cell? ⟨f.blk, 1, none⟩ = some (.slice a2 f.c.wait.length c2) := by
  have h1 := cell_of_heap h.cells 0
  have h2 := cell_of_heap h.cells 1
  obtain ⟨_, hs⟩ := h.safe
  obtain ⟨_, hw⟩ := h.wait
  have s1 : ∃ a1 c1, f.sv = .slice a1 f.c.safe.length c1 := by
    rcases hs with ⟨e, e2⟩ | ⟨g, cap, cur, e, _⟩
    · exact ⟨none, 0, by rw [e, e2]⟩
    · exact ⟨_, _, e⟩
  have s2 : ∃ a1 c1, f.wv = .slice a1 f.c.wait.length c1 := by
    rcases hw with ⟨e, e2⟩ | ⟨g, cap, cur, e, _⟩
    · exact ⟨none, 0, by rw [e, e2]⟩
    · exact ⟨_, _, e⟩
  obtain ⟨a1, c1, e1⟩ := s1
  obtain ⟨a2, c2, e2⟩ := s2
  exact ⟨a1, c1, a2, c2, e1, e2, by rw [h1, ← e1]; rfl, by rw [h2, ← e2]; rfl⟩

theorem Dsk.rising {D : Dsk} (h : D.abs.Ok) : Rising D.files := by
  have := h.rising
  simp only [Dsk.abs, Rising] at this
  exact List.pairwise_map.1 this

set_option maxHeartbeats 800000 in
theorem size_any {w : World} {d : Nat} {D : Dsk} (h : DiskAt w d D) :
    Calls Tryd.prog 65 #[.pointer (some ⟨d, 0, none⟩)] w fun e w' => e = .returned (.int .i64 (total D.abs.files)) ∧ Below w.heap.size w w' := by
  have c0 := h.c0
  have H := Lib.hid h
  have hown := Lib.hid h.map
  clear h
  go_enter Tryd.func65, Tryd.ntmps65
  go_wp2_with (at_range; refine wpList_range_own _ rfl _ 68 rfl 9 76 (string_keyed Tryd.underlying9) Tryd.underlying68 _ D.m 16 _ rfl hown.out ?_; intro w0 hrg0 hg0 hs0)
  go_frame
  go_loopw [3] (fun v wr => ∃ left cnt, v = .int .i64 (partSum left D.files) ∧ wr.ranges Tryd.prog 9 ptrElem D.m w.heap.size 16 (fdata D.files) left cnt ∧ Below w.heap.size w wr) (fun _ wr => wr.rangeLeft D.m w.heap.size)
  case atStart => exact ⟨_, _, by rw [partSum_start]; rfl, hrg0, (Below.refl _ _).grown hg0 (Nat.le_refl _) (by simp)⟩
  case round =>
    obtain ⟨left, cnt, rfl, hrg, hb⟩ := hrel
    have Hrg := Lib.hid hrg
    have Hb := Lib.hid hb
    clear hrg hb hrg0 hg0
    go_wp2_with (at_next; refine wpList_next_disk _ rfl _ rfl D.m w.heap.size 16 _ left cnt rfl Hrg.out ?_ ?_)
    · intro hdone
      have e := Lib.hid (partSum_done (D := D) hdone)
      clear hdone
      go_wp2
      go_ret
      exact ⟨ret_int (by rw [e.out]), Hb.out⟩
    · intro x m f w1 cnt1 hp hx hl hrg1 hlt hg1 hs1 hen
      have hb1 : Below w.heap.size w w1 := Hb.out.grown hg1 Hb.out.size (by simp)
      obtain ⟨a1, k1, a2, k2, _, _, f1, f2⟩ := (H.out.files (m, f) hp).shape
      have g1 := (hb1.cell (p := ⟨f.blk, 0, none⟩) (World.block_lt_of_cell? w _ f1)).trans f1
      have g2 := (hb1.cell (p := ⟨f.blk, 1, none⟩) (World.block_lt_of_cell? w _ f2)).trans f2
      have hstep := Lib.hid (partSum_step (Dsk.rising H.out.ok) hp hl)
      have hle := partSum_le (left := strike left m) H.out.ok
      have hle0 := partSum_le (left := left) H.out.ok
      have hlen : f.c.safe.length + f.c.wait.length ≤ 1048576 := H.out.ok.small (m, f.c) (List.mem_map.2 ⟨(m, f), hp, rfl⟩)
      have Hm := Lib.hid (show w1.rangeLeft D.m w.heap.size < wr.rangeLeft D.m w.heap.size by rw [hrg1.left_eq, Hrg.out.left_eq]; exact hlt)
      have Hrg1 := Lib.hid hrg1
      have Hb1 := Lib.hid hb1
      clear hx hl hrg1 hlt hg1 hs1 hb1 f1 f2 c0 hp hs0
      go_wp2
      go_quiet (fail)
      go_wp2
      go_roundw
      case rel =>
        refine ⟨_, _, ?_, Hrg1.out, ?_⟩
        · rw [hstep.out]; simp [Cont.len]
        · exact ⟨Hb1.out.os, Hb1.out.tape, Hb1.out.output, Hb1.out.size, Hb1.out.block⟩
      case measure => exact Hm.out
end Go.Proofs.YtmpdmejlpicdlaaDoor

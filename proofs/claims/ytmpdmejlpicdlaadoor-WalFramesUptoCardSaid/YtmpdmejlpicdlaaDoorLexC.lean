/- XLex once more, with a class of worlds that every operation keeps: a pure operation may read memory of the class. No program is named. -/
import Derived.Test.YtmpdmejlpicdlaaDoorDiskJa
namespace Go.Bw.Keep
open Go.Bw
set_option linter.unusedVariables false
set_option linter.unusedSimpArgs false

/-- An operation whose run gives a value or nothing. -/
def simpleOp : Op → Bool
  | .move _ | .assign _ | .pick .. | .nilCheck _ | .fieldAddr .. | .extract .. | .convert .. | .slice .. | .load .. | .index .. | .indexAddr .. | .field .. | .unOp .. | .binOp .. => true
  | .call ⟨.builtin .len, _, _⟩ => true
  | _ => false

theorem simple_value {P : Program} {ρ : Operand → Value} {o : Oper} (hs : simpleOp o.op = true) : OnlyVal P (execOp ρ o) := by
  obtain ⟨dst, op, type, pos, after, guard⟩ := o
  by_cases hc : ∃ as0 ts, op = .call ⟨.builtin .len, as0, ts⟩
  · obtain ⟨as0, ts, rfl⟩ := hc
    intro w n w' h
    have h' : (do let x ← Builtin.len_ ts type (as0.map ρ); pure (.value x) : Sem Next).run P w = .ok n w' := by
      simpa [execOp, resolve, invoke, builtin] using h
    exact OnlyVal.bind (fun _ => OnlyVal.pure _) w n w' h'
  cases op <;> first | (simp only [simpleOp] at hs; done) | skip
  case call c =>
    exfalso
    obtain ⟨callee, as0, ts⟩ := c
    cases callee with
    | builtin b => cases b <;> first | (exact hc ⟨as0, ts, rfl⟩) | (simp [simpleOp] at hs)
    | _ => simp [simpleOp] at hs
  all_goals try (simp only [simpleOp] at hs; cases hs; done)
  case move x => exact OnlyVal.pure _
  case assign x => exact OnlyVal.pure _
  case pick c x y => exact OnlyVal.bind (fun _ => OnlyVal.pure _)
  case fieldAddr s x f => exact OnlyVal.bind (fun _ => OnlyVal.pure _)
  case extract t ix => exact OnlyVal.bind (fun _ => OnlyVal.pure _)
  case convert => exact OnlyVal.bind (fun _ => OnlyVal.pure _)
  case slice => exact OnlyVal.bind (fun _ => OnlyVal.pure _)
  case load => exact OnlyVal.bind (fun _ => OnlyVal.pure _)
  case index => exact OnlyVal.bind (fun _ => OnlyVal.pure _)
  case indexAddr => exact OnlyVal.bind (fun _ => OnlyVal.pure _)
  case field => exact OnlyVal.bind (fun _ => OnlyVal.pure _)
  case unOp => exact OnlyVal.bind (fun _ => OnlyVal.pure _)
  case binOp => exact OnlyVal.bind (fun _ => OnlyVal.pure _)
  case nilCheck x =>
    simp only [execOp]
    split
    · exact OnlyVal.nil
    · exact OnlyVal.nil
    · exact OnlyVal.nil
    · split
      · exact OnlyVal.nil
      · refine OnlyVal.bind (fun _ => OnlyVal.bind (fun _ => ?_))
        split
        · exact OnlyVal.bind (fun _ => OnlyVal.pure _)
        · exact OnlyVal.pure _
      · exact OnlyVal.pure _
    · exact OnlyVal.pure _

section
variable {P : Program} {ops : Array Oper} {Q : Exit → Act → World → Prop} {effs pures : List Nat} {C : World → Prop}

/-- Operation i comes next: one that may do anything; one that yields its value in whatever world; one that leaves the world alone. -/
def lexStep (P : Program) (ops : Array Oper) (Q : Exit → Act → World → Prop) (C : World → Prop) (effs pures : List Nat) (i : Nat) (K : Act → World → Prop) (a : Act) (w : World) : Prop :=
  match ops[i]? with
  | none => K a w
  | some o =>
    if effs.contains i then wpOp P ops (Strict Q) i (fun a w => C w ∧ K a w) a w
    else if pures.contains i then ∃ v, YieldsIf P ops C o v a ∧ K (a.put o.dst v) w
    else ∃ v, YieldsIn P ops (fun w' => w' = w) o v a ∧ K (a.put o.dst v) w

def lexAll (P : Program) (ops : Array Oper) (Q : Exit → Act → World → Prop) (C : World → Prop) (effs pures : List Nat) : List Nat → Act → World → Prop
  | [], a, w => Q .normal a w
  | i :: rest, a, w => lexStep P ops Q C effs pures i (lexAll P ops Q C effs pures rest) a w

theorem lexStep_mono {i : Nat} {K K' : Act → World → Prop} (h : ∀ a w, K a w → K' a w) {a : Act} {w : World} (hh : lexStep P ops Q C effs pures i K a w) : lexStep P ops Q C effs pures i K' a w := by
  unfold lexStep at *
  split
  · rename_i ho; simp only [ho] at hh; exact h _ _ hh
  · rename_i o ho
    simp only [ho] at hh
    split
    · rename_i he; rw [if_pos he] at hh; exact wpOp_mono (fun a w hx => ⟨hx.1, h _ _ hx.2⟩) hh
    · rename_i he
      rw [if_neg he] at hh
      split
      · rename_i hp; rw [if_pos hp] at hh; obtain ⟨v, h1, h2⟩ := hh; exact ⟨v, h1, h _ _ h2⟩
      · rename_i hp; rw [if_neg hp] at hh; obtain ⟨v, h1, h2⟩ := hh; exact ⟨v, h1, h _ _ h2⟩

theorem lexStep_wpOp {i : Nat} {K : Act → World → Prop} {a : Act} {w : World} (hw : C w) (hh : lexStep P ops Q C effs pures i K a w) : wpOp P ops (Strict Q) i (fun a w => C w ∧ K a w) a w := by
  unfold lexStep at hh
  split at hh
  · rename_i ho; unfold wpOp; simp only [ho]; exact ⟨hw, hh⟩
  · rename_i o ho
    split at hh
    · exact hh
    · split at hh
      · obtain ⟨v, h1, h2⟩ := hh; exact h1.wpOp (S := C) ho hw ⟨hw, h2⟩
      · obtain ⟨v, h1, h2⟩ := hh
        exact wpOp_of_qOp (C := fun w' => w' = w) (K := fun a' => a' = a.put o.dst v) rfl (fun a' w' e h => by subst e; subst h; exact ⟨hw, h2⟩) (h1.qOp ho rfl)

def lexB (ops : Array Oper) (effs pures : List Nat) : Bool :=
  ops.all (fun o => plainOp o.op) &&
  (List.range ops.size).all (fun j =>
    ((ops[j]?).map (fun o => o.after.all (fun e => !Region.binds .any e || decide (e.on < j)))).getD true &&
    ((ops[j]?).map (fun o => !pures.contains j || (simpleOp o.op && !effs.contains j))).getD true &&
    (List.range j).all (fun i => commB ops effs pures i j || waits ops 12 j i))

theorem uniq (hI : ∃ w, C w) {o : Oper} {a : Act} {v u : Value} (h1 : YieldsIf P ops C o v a) (h2 : YieldsIf P ops C o u a) : v = u := by
  obtain ⟨w0, hw0⟩ := hI
  rcases h1 with ⟨a1, b1⟩ | ⟨a1, b1⟩ <;> rcases h2 with ⟨a2, b2⟩ | ⟨a2, b2⟩
  · have e := (b1 w0 hw0).symm.trans (b2 w0 hw0)
    simpa using e
  · rw [a1] at a2; cases a2
  · rw [a1] at a2; cases a2
  · rw [b1, b2]

theorem lex_swap (hI : ∃ w, C w) {i j : Nat} {oi oj : Oper} (hi : ops[i]? = some oi) (hj : ops[j]? = some oj) (hpi : plainOp oi.op = true) (hpj : plainOp oj.op = true) (hc : commB ops effs pures i j = true) (hei : pures.contains i = true → effs.contains i = false) (hej : pures.contains j = true → effs.contains j = false)
    {K : Act → World → Prop} {a : Act} {w : World} (h : lexStep P ops Q C effs pures i (lexStep P ops Q C effs pures j K) a w) : lexStep P ops Q C effs pures j (lexStep P ops Q C effs pures i K) a w := by
  unfold commB at hc
  simp only [hi, hj, Bool.and_eq_true, Bool.or_eq_true, Bool.not_eq_true'] at hc
  obtain ⟨⟨apij, apji⟩, hk⟩ := hc
  obtain ⟨h1, h2, h3⟩ := Oper.apart_spec apij
  have hsi := plain_select hpi
  have hsj := plain_select hpj
  unfold lexStep at h ⊢
  simp only [hi, hj] at h ⊢
  by_cases ej : effs.contains j = true
  · -- j may do anything: i is pure
    have pj : pures.contains j = false := by cases hp : pures.contains j; rfl; rw [hej hp] at ej; cases ej
    have pi : pures.contains i = true := by
      rcases hk with (hk | hk) | hk
      · exact hk
      · rw [pj] at hk; cases hk
      · rw [hk.2] at ej; cases ej
    have ei := hei pi
    simp only [ej, ei, pi, if_true, Bool.false_eq_true, if_false] at h ⊢
    obtain ⟨v, hv, hh⟩ := h
    have := wpOp_putIf (S := C) hj apij hsi hsj (fun _ _ _ hq => hq.elim) hv hh
    exact wpOp_mono (fun a' w' hx => ⟨hx.2.1, v, hx.1, hx.2.2⟩) this
  · have ej' : effs.contains j = false := by simpa using ej
    by_cases ei : effs.contains i = true
    · -- i may do anything: j is pure
      have pi : pures.contains i = false := by cases hp : pures.contains i; rfl; rw [hei hp] at ei; cases ei
      have pj : pures.contains j = true := by
        rcases hk with (hk | hk) | hk
        · rw [pi] at hk; cases hk
        · exact hk
        · rw [hk.1] at ei; cases ei
      simp only [ei, ej', pj, if_true, Bool.false_eq_true, if_false] at h ⊢
      obtain ⟨g1, g2, g3⟩ := Oper.apart_spec apij
      have same : ∀ a', (∃ ds v, a' = ({ a with defers := ds } : Act).put oi.dst v) → execOp a'.eval oj = execOp a.eval oj ∧ Region.wanted oj (yielded ops a'.tmps) = Region.wanted oj (yielded ops a.tmps) := by
        rintro a' ⟨ds, v, rfl⟩
        exact ⟨execOp_put oj hsj ({ a with defers := ds } : Act) oi.dst v g1, wanted_put oj ({ a with defers := ds } : Act) oi.dst v g1⟩
      have hsh := wpOp_shape hi h
      by_cases hex : ∃ u, YieldsIf P ops C oj u a
      · obtain ⟨u, hu⟩ := hex
        refine ⟨u, hu, wpOp_ahead hi apji hsi (wpOp_mono (fun a' w' hx => ?_) hsh)⟩
        obtain ⟨hs, hcw, u', hu', hK⟩ := hx
        obtain ⟨s1, s2⟩ := same a' hs
        have : YieldsIf P ops C oj u' a := hu'.of_same s1.symm s2.symm
        rw [uniq hI hu this]; exact ⟨hcw, hK⟩
      · exfalso
        refine wpOp_false (P := P) (Q := Q) (a := a) (w := w) hi (wpOp_mono (fun a' w' hx => ?_) hsh)
        obtain ⟨hs, hcw, u', hu', hK⟩ := hx
        obtain ⟨s1, s2⟩ := same a' hs
        exact hex ⟨u', hu'.of_same s1.symm s2.symm⟩
    · have ei' : effs.contains i = false := by simpa using ei
      simp only [ei', ej', Bool.false_eq_true, if_false] at h ⊢
      -- neither does anything to the world
      have key : ∀ (Yi Yj : Value → Act → Prop), (∀ v (x : Act) d u, Yi v x → (∀ t, d = some t → t ∉ oi.looksAt ops) → Yi v (x.put d u)) → (∀ v (x : Act) d u, Yj v (x.put d u) → (∀ t, d = some t → t ∉ oj.looksAt ops) → Yj v x) →
          (∃ v, Yi v a ∧ ∃ u, Yj u (a.put oi.dst v) ∧ K ((a.put oi.dst v).put oj.dst u) w) → ∃ u, Yj u a ∧ ∃ v, Yi v (a.put oj.dst u) ∧ K ((a.put oj.dst u).put oi.dst v) w := by
        rintro Yi Yj ki kj ⟨v, hv, u, hu, hK⟩
        exact ⟨u, kj u a oi.dst v hu h1, v, ki v a oj.dst u hv h3, by rw [← Act.put_comm a v u h2]; exact hK⟩
      have pif : ∀ (o : Oper) (hs : ∀ cs b, o.op ≠ .select cs b) v (x : Act) d u, YieldsIf P ops C o v x → (∀ t, d = some t → t ∉ o.looksAt ops) → YieldsIf P ops C o v (x.put d u) :=
        fun o hs v x d u hy hd => hy.of_same (execOp_put o hs x d u hd) (wanted_put o x d u hd)
      have pif' : ∀ (o : Oper) (hs : ∀ cs b, o.op ≠ .select cs b) v (x : Act) d u, YieldsIf P ops C o v (x.put d u) → (∀ t, d = some t → t ∉ o.looksAt ops) → YieldsIf P ops C o v x :=
        fun o hs v x d u hy hd => hy.of_same (execOp_put o hs x d u hd).symm (wanted_put o x d u hd).symm
      have pin : ∀ (o : Oper) (hs : ∀ cs b, o.op ≠ .select cs b) v (x : Act) d u, YieldsIn P ops (fun w' => w' = w) o v x → (∀ t, d = some t → t ∉ o.looksAt ops) → YieldsIn P ops (fun w' => w' = w) o v (x.put d u) :=
        fun o hs v x d u hy hd => hy.of_same (execOp_put o hs x d u hd) (wanted_put o x d u hd)
      have pin' : ∀ (o : Oper) (hs : ∀ cs b, o.op ≠ .select cs b) v (x : Act) d u, YieldsIn P ops (fun w' => w' = w) o v (x.put d u) → (∀ t, d = some t → t ∉ o.looksAt ops) → YieldsIn P ops (fun w' => w' = w) o v x :=
        fun o hs v x d u hy hd => hy.of_same (execOp_put o hs x d u hd).symm (wanted_put o x d u hd).symm
      by_cases pi : pures.contains i = true <;> by_cases pj : pures.contains j = true
      · simp only [pi, pj, if_true] at h ⊢
        exact key _ _ (pif oi hsi) (pif' oj hsj) h
      · have pj' : pures.contains j = false := by simpa using pj
        simp only [pi, pj', if_true, Bool.false_eq_true, if_false] at h ⊢
        exact key _ _ (pif oi hsi) (pin' oj hsj) h
      · have pi' : pures.contains i = false := by simpa using pi
        simp only [pi', pj, if_true, Bool.false_eq_true, if_false] at h ⊢
        exact key _ _ (pin oi hsi) (pif' oj hsj) h
      · have pi' : pures.contains i = false := by simpa using pi
        have pj' : pures.contains j = false := by simpa using pj
        simp only [pi', pj', Bool.false_eq_true, if_false] at h ⊢
        exact key _ _ (pin oi hsi) (pin' oj hsj) h

/-! ### Whatever order is picked -/

theorem lex_front {l2 : List Nat} {j : Nat} : ∀ (l1 : List Nat), (∀ i ∈ l1, ∀ (K : Act → World → Prop) a w, lexStep P ops Q C effs pures i (lexStep P ops Q C effs pures j K) a w → lexStep P ops Q C effs pures j (lexStep P ops Q C effs pures i K) a w) →
    ∀ a w, lexAll P ops Q C effs pures (l1 ++ j :: l2) a w → lexAll P ops Q C effs pures (j :: (l1 ++ l2)) a w
  | [], _, a, w, h => h
  | i :: l1, hs, a, w, h => by
    have h1 : lexStep P ops Q C effs pures i (lexAll P ops Q C effs pures (j :: (l1 ++ l2))) a w :=
      lexStep_mono (fun a w hx => lex_front l1 (fun i hi => hs i (by simp [hi])) a w hx) h
    exact hs i (by simp) _ a w h1

theorem lexB_spec (h : lexB ops effs pures = true) : (∀ (j : Nat) o, ops[j]? = some o → plainOp o.op = true) ∧
    (∀ (j : Nat) o, ops[j]? = some o → ∀ e ∈ o.after, Region.binds .any e = true → e.on < j) ∧ (∀ (j : Nat) o, ops[j]? = some o → pures.contains j = true → effs.contains j = false) ∧
    (∀ i j : Nat, i < j → j < ops.size → commB ops effs pures i j = true ∨ waits ops 12 j i = true) := by
  unfold lexB at h
  rw [Bool.and_eq_true, List.all_eq_true] at h
  obtain ⟨h1, h2⟩ := h
  have lt : ∀ (j : Nat) o, ops[j]? = some o → j < ops.size := fun j o ho => (Array.getElem?_eq_some_iff.1 ho).1
  refine ⟨fun j o ho => ?_, fun j o ho e he hb => ?_, fun j o ho hp => ?_, fun i j hij hj => ?_⟩
  · obtain ⟨hlt, rfl⟩ := Array.getElem?_eq_some_iff.1 ho
    exact (Array.all_eq_true.1 h1) j hlt
  · have := h2 j (List.mem_range.2 (lt j o ho))
    simp only [ho, Option.map_some, Option.getD_some, Bool.and_eq_true] at this
    have h3 := this.1.1
    rw [Array.all_eq_true_iff_forall_mem] at h3
    have h4 := h3 e he
    simp only [hb, Bool.not_true, Bool.false_or, decide_eq_true_eq] at h4
    exact h4
  · have := h2 j (List.mem_range.2 (lt j o ho))
    simp only [ho, Option.map_some, Option.getD_some, Bool.and_eq_true, hp, Bool.not_true, Bool.false_or, Bool.not_eq_true'] at this
    exact this.1.2.2
  · have := h2 j (List.mem_range.2 hj)
    rw [Bool.and_eq_true, List.all_eq_true] at this
    have h3 := this.2 i (List.mem_range.2 hij)
    rwa [Bool.or_eq_true] at h3

theorem wpAny_of_lex (hB : lexB ops effs pures = true) : ∀ (fuel : Nat) (listed : Array Bool) (a : Act) (w : World), listed.size = ops.size → (rest ops.size listed).length = fuel → Closed ops listed →
    C w → lexAll P ops Q C effs pures (rest ops.size listed) a w → wpAny P .any ops (Strict Q) fuel listed a w := by
  obtain ⟨hp, hback, hpe, hcom⟩ := lexB_spec hB
  have mem_rest : ∀ (listed : Array Bool) i, i ∈ rest ops.size listed ↔ i < ops.size ∧ listed.getD i true = false := by
    intro listed i; simp [rest]
  -- where something is left something may come up: the first of what is left
  have first : ∀ (listed : Array Bool), listed.size = ops.size → rest ops.size listed ≠ [] → Region.ready .any ops listed ≠ [] := by
    intro listed hsz hne hr
    cases hl : rest ops.size listed with
    | nil => exact hne hl
    | cons i l =>
      have hi := (mem_rest listed i).1 (by rw [hl]; simp)
      have hsorted : (rest ops.size listed).Pairwise (· < ·) := List.Pairwise.filter _ List.pairwise_lt_range
      rw [hl] at hsorted
      have hmin : ∀ k, k < i → listed.getD k false = true := by
        intro k hk
        have hks : k < ops.size := Nat.lt_trans hk hi.1
        by_cases hx : listed.getD k true = false
        · have : k ∈ rest ops.size listed := (mem_rest listed k).2 ⟨hks, hx⟩
          rw [hl] at this
          rcases List.mem_cons.1 this with e | e
          · omega
          · have := (List.pairwise_cons.1 hsorted).1 k e; omega
        · have hks' : k < listed.size := by omega
          simp [hks'] at hx ⊢; exact hx
      have : i ∈ Region.ready .any ops listed := by
        obtain ⟨o, ho⟩ : ∃ o, ops[i]? = some o := ⟨_, Array.getElem?_eq_getElem hi.1⟩
        exact mem_ready.2 ⟨hi.2, o, ho, fun e he hb => hmin e.on (hback i o ho e he hb)⟩
      rw [hr] at this; cases this
  intro fuel
  induction fuel with
  | zero =>
    intro listed a w hsz hf hc hcw h
    have hnil := List.eq_nil_of_length_eq_zero hf
    rw [hnil] at h
    refine ⟨?_, h⟩
    cases hr : Region.ready .any ops listed with
    | nil => rfl
    | cons i l =>
      obtain ⟨h1, o, ho, _⟩ := mem_ready.1 (by rw [hr]; simp : i ∈ Region.ready .any ops listed)
      have : i ∈ rest ops.size listed := (mem_rest listed i).2 ⟨(Array.getElem?_eq_some_iff.1 ho).1, h1⟩
      rw [hnil] at this; cases this
  | succ fuel ih =>
    intro listed a w hsz hf hc hcw h
    refine ⟨fun h0 => absurd h0 (first listed hsz (fun e => by rw [e] at hf; cases hf)), fun j hj => ?_⟩
    obtain ⟨hjun, oj, hoj, hall⟩ := mem_ready.1 hj
    have hjs : j < ops.size := (Array.getElem?_eq_some_iff.1 hoj).1
    have hjr : j ∈ rest ops.size listed := (mem_rest listed j).2 ⟨hjs, hjun⟩
    obtain ⟨l1, l2, hl⟩ := List.append_of_mem hjr
    have hsorted : (rest ops.size listed).Pairwise (· < ·) := List.Pairwise.filter _ List.pairwise_lt_range
    rw [hl] at h hsorted
    have hlt1 : ∀ i ∈ l1, i < j := fun i hi => (List.pairwise_append.1 hsorted).2.2 i hi j (by simp)
    have h1 := lex_front l1 (fun i hi K a w hh => by
      have hir := (mem_rest listed i).1 (by rw [hl]; simp [hi])
      obtain ⟨oi, hoi⟩ : ∃ o, ops[i]? = some o := ⟨_, Array.getElem?_eq_getElem hir.1⟩
      rcases hcom i j (hlt1 i hi) hjs with hcm | hwt
      · exact lex_swap ⟨_, hcw⟩ hoi hoj (hp i oi hoi) (hp j oj hoj) hcm (hpe i oi hoi) (hpe j oj hoj) hh
      · exfalso
        have := waits_listed hc 12 j i hwt (fun o ho e he hb => by rw [hoj] at ho; cases ho; exact hall e he hb)
        have his : i < listed.size := by omega
        have h2 := hir.2
        simp [his] at this h2
        rw [this] at h2; cases h2) a w h
    have hjl : j < listed.size := by omega
    -- what is left behind j
    have hrest : rest ops.size (listed.setIfInBounds j true) = l1 ++ l2 := by
      have e1 : rest ops.size (listed.setIfInBounds j true) = (rest ops.size listed).filter (fun i => decide (i ≠ j)) := by
        unfold rest
        rw [List.filter_filter]
        refine List.filter_congr (fun i hi => ?_)
        by_cases e : i = j
        · subst e; simp [hjl]
        · rw [getD_set_ne true (Ne.symm e)]; simp [e]
      rw [e1, hl, List.filter_append, List.filter_cons]
      have hnd : ∀ i ∈ l1, i ≠ j := fun i hi e => by have := hlt1 i hi; omega
      have hnd2 : ∀ i ∈ l2, i ≠ j := fun i hi e => by
        have := (List.pairwise_cons.1 (List.pairwise_append.1 hsorted).2.1).1 i hi; omega
      have f1 : l1.filter (fun i => decide (i ≠ j)) = l1 := List.filter_eq_self.2 (fun i hi => by simp [hnd i hi])
      have f2 : l2.filter (fun i => decide (i ≠ j)) = l2 := List.filter_eq_self.2 (fun i hi => by simp [hnd2 i hi])
      rw [f1, f2]
      simp
    have hlen : (rest ops.size (listed.setIfInBounds j true)).length = fuel := by
      rw [hrest]
      rw [hl] at hf
      simp at hf ⊢; omega
    have hclosed : Closed ops (listed.setIfInBounds j true) := by
      intro k o ho hk e he hb
      by_cases e1 : k = j
      · subst e1
        rw [hoj] at ho; cases ho
        exact getD_set_true (hall e he hb)
      · rw [getD_set_ne false (Ne.symm e1)] at hk
        exact getD_set_true (hc k o ho hk e he hb)
    refine wpOp_mono (fun a' w' hx => ?_) (lexStep_wpOp hcw h1)
    exact ih (listed.setIfInBounds j true) a' w' (by simp [hsz]) hlen hclosed hx.1 (by rw [hrest]; exact hx.2)

theorem wp_region_lexAll {id : Nat} {a : Act} {w : World} (hm : P.follows .mixedOrders = true) (hB : lexB ops effs pures = true) (hC : C w.drew) (h : lexAll P ops Q C effs pures (List.range ops.size) a w.drew) : (Code.region id ops true).wp P Q a w := by
  have e0 : rest ops.size (Array.replicate ops.size false) = List.range ops.size := by
    unfold rest
    exact List.filter_eq_self.2 (fun i hi => by have := List.mem_range.1 hi; simp [this])
  have h1 : (Code.region id ops true).wp P (Strict Q) a w := by
    refine wp_region_any hm (wpAny_of_lex (effs := effs) (pures := pures) (Q := Q) hB ops.size (Array.replicate ops.size false) a w.drew (by simp) (by rw [e0]; simp) ?_ hC (by rw [e0]; exact h))
    intro k o ho hk
    have hks : k < ops.size := (Array.getElem?_eq_some_iff.1 ho).1
    simp [hks] at hk
  exact wp_mono h1 (fun e a w hq => hq.imp)

/-! ### The walk, piece by piece -/

/-- From operation k on, what is left written out. -/
def LexG (P : Program) (ops : Array Oper) (Q : Exit → Act → World → Prop) (C : World → Prop) (effs pures : List Nat) (k : Nat) (rem : List Oper) (a : Act) (w : World) : Prop :=
  (∀ j, rem[j]? = ops[k + j]?) → lexAll P ops Q C effs pures (List.range' k rem.length) a w

theorem LexG_nil {k : Nat} {a : Act} {w : World} (h : Q .normal a w) : LexG P ops Q C effs pures k [] a w := fun _ => h

def allPure (ops : Array Oper) (effs pures : List Nat) : Nat → Nat → Bool
  | _, 0 => true
  | k, m + 1 => !effs.contains k && pures.contains k && ((ops[k]?).map (fun o => simpleOp o.op)).getD true && allPure ops effs pures (k + 1) m

theorem LexG_still : ∀ (m : Nat) {k : Nat} {rem : List Oper} {a : Act} {w : World}, noneOf effs pures k m = true →
    wpQuiet P ops (fun w' => w' = w) (fun a' => LexG P ops Q C effs pures (k + m) (rem.drop m) a' w) (rem.take m) a → LexG P ops Q C effs pures k rem a w
  | 0, _, _, _, _, _, h => h
  | m + 1, k, rem, a, w, hn, h => by
    intro hrem
    cases rem with
    | nil => exact h (by
        intro j
        have e1 : ops.size ≤ k := by
          have := hrem 0
          simp at this; exact this
        rw [Array.getElem?_eq_none (by omega)]; simp)
    | cons o r =>
      unfold noneOf at hn
      simp only [Bool.and_eq_true, Bool.not_eq_true'] at hn
      have h0 : ops[k]? = some o := by simpa using (hrem 0).symm
      have hq : qOp P ops (fun w' => w' = w) k (wpQuiet P ops (fun w' => w' = w) (fun a' => LexG P ops Q C effs pures (k + (m + 1)) (r.drop m) a' w) (r.take m)) a := by
        unfold qOp; simp only [h0]; exact h
      obtain ⟨v, hy, hK⟩ := yieldsIn_of_qOp h0 hq
      show lexStep P ops Q C effs pures k (lexAll P ops Q C effs pures (List.range' (k + 1) r.length)) a w
      unfold lexStep
      simp only [h0, hn.1.1, hn.1.2, Bool.false_eq_true, if_false]
      refine ⟨v, hy, ?_⟩
      have e : k + (m + 1) = k + 1 + m := by omega
      rw [e] at hK
      exact LexG_still m hn.2 hK (fun j => by have := hrem (j + 1); simpa [Nat.add_assoc, Nat.add_comm 1 j] using this)

theorem LexG_pure : ∀ (m : Nat) {k : Nat} {rem : List Oper} {a : Act} {w : World}, allPure ops effs pures k m = true →
    wpQuiet P ops C (fun a' => LexG P ops Q C effs pures (k + m) (rem.drop m) a' w) (rem.take m) a → LexG P ops Q C effs pures k rem a w
  | 0, _, _, _, _, _, h => h
  | m + 1, k, rem, a, w, hn, h => by
    intro hrem
    cases rem with
    | nil => exact h (by
        intro j
        have e1 : ops.size ≤ k := by
          have := hrem 0
          simp at this; exact this
        rw [Array.getElem?_eq_none (by omega)]; simp)
    | cons o r =>
      unfold allPure at hn
      simp only [Bool.and_eq_true, Bool.not_eq_true'] at hn
      have h0 : ops[k]? = some o := by simpa using (hrem 0).symm
      have hs : simpleOp o.op = true := by have := hn.1.2; simpa [h0] using this
      have hq : qOp P ops C k (wpQuiet P ops C (fun a' => LexG P ops Q C effs pures (k + (m + 1)) (r.drop m) a' w) (r.take m)) a := by
        unfold qOp; simp only [h0]; exact h
      obtain ⟨v, hy, hK⟩ := yieldsIn_of_qOp h0 hq
      show lexStep P ops Q C effs pures k (lexAll P ops Q C effs pures (List.range' (k + 1) r.length)) a w
      unfold lexStep
      simp only [h0, hn.1.1.1, hn.1.1.2, Bool.false_eq_true, if_false, if_true]
      refine ⟨v, ?_, ?_⟩
      · rcases hy with ⟨hw, hv⟩ | ⟨hw, hv⟩
        · refine .inl ⟨hw, fun w' hw' => ?_⟩
          have h1 := hv w' hw'
          unfold Oper.quietAt at h1
          cases hr : (execOp a.eval o).run P w' with
          | halt x w1 => rw [hr] at h1; exact h1.elim
          | ok n w1 =>
            obtain ⟨u, rfl⟩ := simple_value hs w' n w1 hr
            rw [hr] at h1
            obtain ⟨e1, e2⟩ := h1
            rw [e1, e2]
        · exact .inr ⟨hw, hv⟩
      · have e : k + (m + 1) = k + 1 + m := by omega
        rw [e] at hK
        exact LexG_pure m hn.2 hK (fun j => by have := hrem (j + 1); simpa [Nat.add_assoc, Nat.add_comm 1 j] using this)

theorem LexG_eff {k : Nat} {o : Oper} {r : List Oper} {a : Act} {w : World} (he : effs.contains k = true) (hg : o.guard = none)
    (h : ∀ K : Act → World → Prop, (∀ a w, C w → LexG P ops Q C effs pures (k + 1) r a w → K a w) → o.wp P a w K (Strict Q)) : LexG P ops Q C effs pures k (o :: r) a w := by
  intro hrem
  have h0 : ops[k]? = some o := by simpa using (hrem 0).symm
  show lexStep P ops Q C effs pures k (lexAll P ops Q C effs pures (List.range' (k + 1) r.length)) a w
  unfold lexStep
  simp only [h0, he, if_true]
  unfold wpOp
  simp only [h0]
  rw [if_pos (by simp [Region.wanted, hg])]
  exact Or.inl (h _ (fun a w hcw hx => ⟨hcw, hx (fun j => by have := hrem (j + 1); simpa [Nat.add_assoc, Nat.add_comm 1 j] using this)⟩))

/-- Likewise, where the operation is guarded and wanted. -/
theorem LexG_effg {k : Nat} {o : Oper} {r : List Oper} {a : Act} {w : World} (he : effs.contains k = true) (hg : Region.wanted o (yielded ops a.tmps) = true)
    (h : ∀ K : Act → World → Prop, (∀ a w, C w → LexG P ops Q C effs pures (k + 1) r a w → K a w) → o.wp P a w K (Strict Q)) : LexG P ops Q C effs pures k (o :: r) a w := by
  intro hrem
  have h0 : ops[k]? = some o := by simpa using (hrem 0).symm
  show lexStep P ops Q C effs pures k (lexAll P ops Q C effs pures (List.range' (k + 1) r.length)) a w
  unfold lexStep
  simp only [h0, he, if_true]
  unfold wpOp
  simp only [h0]
  rw [if_pos hg]
  exact Or.inl (h _ (fun a w hcw hx => ⟨hcw, hx (fun j => by have := hrem (j + 1); simpa [Nat.add_assoc, Nat.add_comm 1 j] using this)⟩))

theorem wp_region_lex {id : Nat} {l : List Oper} {a : Act} {w : World} (effs pures : List Nat) (hm : P.follows .mixedOrders = true) (hB : lexB l.toArray effs pures = true) (hC : C w.drew) (h : LexG P l.toArray Q C effs pures 0 l a w.drew) : (Code.region id l.toArray true).wp P Q a w :=
  wp_region_lexAll (C := C) (effs := effs) (pures := pures) hm hB hC (by
    have := h (by simp)
    rw [List.range_eq_range']
    simpa using this)

end
end Go.Bw.Keep

/- A region that draws its order, walked once in the order of its text: where each two operations that may come in either order do not touch each other. No program is named. -/
import Derived.OrdersHeld
import Derived.Deep.Quiet
namespace Go.Bw
set_option linter.unusedVariables false
set_option linter.unusedSimpArgs false

/-- Q, but False at a panic and at the end of memory. -/
def Strict (Q : Exit → Act → World → Prop) : Exit → Act → World → Prop
  | .panic _, _, _ => False
  | .outgrown, _, _ => False
  | e, a, w => Q e a w

theorem Strict.imp {Q : Exit → Act → World → Prop} {e : Exit} {a : Act} {w : World} (h : Strict Q e a w) : Q e a w := by
  cases e <;> first | exact h | exact h.elim

/-- An operation whose run gives a value or nothing. -/
def simpleOp : Op → Bool
  | .move _ | .assign _ | .pick .. | .nilCheck _ | .fieldAddr .. | .extract .. => true
  | _ => false

def OnlyVal (P : Program) (s : Sem Next) : Prop := ∀ w n w', s.run P w = .ok n w' → ∃ v, n = .value v
theorem OnlyVal.bind {P : Program} {β : Type} {s : Sem β} {f : β → Sem Next} (h : ∀ x, OnlyVal P (f x)) : OnlyVal P (s >>= f) := by
  intro w n w' hb
  rw [Sem.run_bind] at hb
  cases hr : s.run P w with
  | ok v w1 => rw [hr, Result.andThen_ok] at hb; exact h v w1 n w' hb
  | halt x w1 => rw [hr] at hb; simp at hb
theorem OnlyVal.pure {P : Program} (v : Value) : OnlyVal P (pure (.value v)) := by
  intro w n w' h; simp at h; exact ⟨v, h.1.symm⟩
theorem OnlyVal.halt {P : Program} (x : Halt) : OnlyVal P (.halt x) := by
  intro w n w' h; simp [Sem.run] at h
theorem OnlyVal.nil {P : Program} : OnlyVal P (runtimePanic .nilDeref) := by
  intro w n w' h; simp [runtimePanic, goPanic] at h

theorem simple_value {P : Program} {ρ : Operand → Value} {o : Oper} (hs : simpleOp o.op = true) : OnlyVal P (execOp ρ o) := by
  obtain ⟨dst, op, type, pos, after, guard⟩ := o
  cases op <;> simp only [simpleOp] at hs <;> try cases hs
  case move x => exact OnlyVal.pure _
  case assign x => exact OnlyVal.pure _
  case pick c x y => exact OnlyVal.bind (fun _ => OnlyVal.pure _)
  case fieldAddr s x f => exact OnlyVal.bind (fun _ => OnlyVal.pure _)
  case extract t ix => exact OnlyVal.bind (fun _ => OnlyVal.pure _)
  case nilCheck x =>
    simp only [execOp]
    split
    · exact OnlyVal.nil
    · exact OnlyVal.nil
    · exact OnlyVal.nil
    · split
      · exact OnlyVal.nil
      · refine OnlyVal.bind (fun _ => OnlyVal.bind (fun _ => ?_))
        split
        · exact OnlyVal.bind (fun _ => OnlyVal.pure _)
        · exact OnlyVal.pure _
      · exact OnlyVal.pure _
    · exact OnlyVal.pure _

section
variable {P : Program} {ops : Array Oper} {Q : Exit → Act → World → Prop} {effs pures : List Nat}

/-- Operation i comes next: one that may do anything; one that yields its value in whatever world; one that leaves the world alone. -/
def lexStep (P : Program) (ops : Array Oper) (Q : Exit → Act → World → Prop) (effs pures : List Nat) (i : Nat) (K : Act → World → Prop) (a : Act) (w : World) : Prop :=
  match ops[i]? with
  | none => K a w
  | some o =>
    if effs.contains i then wpOp P ops (Strict Q) i K a w
    else if pures.contains i then ∃ v, YieldsIf P ops (fun _ => True) o v a ∧ K (a.put o.dst v) w
    else ∃ v, YieldsIn P ops (fun w' => w' = w) o v a ∧ K (a.put o.dst v) w

def lexAll (P : Program) (ops : Array Oper) (Q : Exit → Act → World → Prop) (effs pures : List Nat) : List Nat → Act → World → Prop
  | [], a, w => Q .normal a w
  | i :: rest, a, w => lexStep P ops Q effs pures i (lexAll P ops Q effs pures rest) a w

theorem lexStep_mono {i : Nat} {K K' : Act → World → Prop} (h : ∀ a w, K a w → K' a w) {a : Act} {w : World} (hh : lexStep P ops Q effs pures i K a w) : lexStep P ops Q effs pures i K' a w := by
  unfold lexStep at *
  split
  · rename_i ho; simp only [ho] at hh; exact h _ _ hh
  · rename_i o ho
    simp only [ho] at hh
    split
    · rename_i he; rw [if_pos he] at hh; exact wpOp_mono h hh
    · rename_i he
      rw [if_neg he] at hh
      split
      · rename_i hp; rw [if_pos hp] at hh; obtain ⟨v, h1, h2⟩ := hh; exact ⟨v, h1, h _ _ h2⟩
      · rename_i hp; rw [if_neg hp] at hh; obtain ⟨v, h1, h2⟩ := hh; exact ⟨v, h1, h _ _ h2⟩

theorem lexStep_wpOp {i : Nat} {K : Act → World → Prop} {a : Act} {w : World} (hh : lexStep P ops Q effs pures i K a w) : wpOp P ops (Strict Q) i K a w := by
  unfold lexStep at hh
  split at hh
  · rename_i ho; unfold wpOp; simp only [ho]; exact hh
  · rename_i o ho
    split at hh
    · exact hh
    · split at hh
      · obtain ⟨v, h1, h2⟩ := hh; exact h1.wpOp (S := fun _ => True) ho trivial h2
      · obtain ⟨v, h1, h2⟩ := hh
        exact wpOp_of_qOp (C := fun w' => w' = w) (K := fun a' => a' = a.put o.dst v) rfl (fun a' w' e h => by subst e; subst h; exact h2) (h1.qOp ho rfl)

/-- j must wait for i, by at most so many edges. -/
def waits (ops : Array Oper) : Nat → Nat → Nat → Bool
  | 0, _, _ => false
  | n + 1, j, i => match ops[j]? with
    | none => false
    | some o => o.after.toList.any (fun e => Region.binds .any e && e.on == i) || o.after.toList.any (fun e => Region.binds .any e && decide (i < e.on) && waits ops n e.on i)

def plainOp : Op → Bool
  | .select .. | .defer .. | .go .. | .recv .. | .send .. => false
  | _ => true

/-- i and j may come in either order. -/
def commB (ops : Array Oper) (effs pures : List Nat) (i j : Nat) : Bool :=
  match ops[i]?, ops[j]? with
  | some oi, some oj => oi.apart ops oj && oj.apart ops oi && (pures.contains i || pures.contains j || (!effs.contains i && !effs.contains j))
  | _, _ => false

def lexB (ops : Array Oper) (effs pures : List Nat) : Bool :=
  ops.all (fun o => plainOp o.op) &&
  (List.range ops.size).all (fun j =>
    ((ops[j]?).map (fun o => o.after.all (fun e => !Region.binds .any e || decide (e.on < j)))).getD true &&
    ((ops[j]?).map (fun o => !pures.contains j || (simpleOp o.op && !effs.contains j))).getD true &&
    (List.range j).all (fun i => commB ops effs pures i j || waits ops 12 j i))

theorem plain_select {o : Oper} (h : plainOp o.op = true) : ∀ cs b, o.op ≠ .select cs b := by
  intro cs b e; rw [e] at h; cases h

/-! ### Exchanging two neighbours -/

theorem letsOut_strict : ¬ LetsOut (Strict Q) := fun ⟨_, _, h⟩ => h

/-- What comes behind an operation is its act with the value put in. -/
theorem wpOp_shape {i : Nat} {o : Oper} (hi : ops[i]? = some o) {K : Act → World → Prop} {a : Act} {w : World} (h : wpOp P ops (Strict Q) i K a w) :
    wpOp P ops (Strict Q) i (fun a' w' => (∃ ds v, a' = ({ a with defers := ds } : Act).put o.dst v) ∧ K a' w') a w := by
  unfold wpOp at *
  simp only [hi] at *
  split
  · rename_i hw
    rw [if_pos hw] at h
    rcases h with h | h
    case inr => exact .inr h
    refine .inl ?_
    unfold Oper.wp at *
    generalize (execOp a.eval o).run P w = r at *
    cases r with
    | ok n w' =>
      cases n <;> simp only [Oper.upon] at h ⊢
      case value u => exact ⟨⟨a.defers, u, rfl⟩, h⟩
      case skip => exact ⟨⟨a.defers, undef, rfl⟩, h⟩
      case defer d => exact ⟨⟨d :: a.defers, undef, rfl⟩, h⟩
      case enter f args => exact Calls.mono h fun e w'' he => by cases e <;> first | exact ⟨⟨a.defers, _, rfl⟩, he⟩ | exact he
      case row row args => exact Rows.mono h fun u w'' he => ⟨⟨a.defers, _, rfl⟩, he⟩
    | halt x w' =>
      cases x <;> simp only [Oper.upon] at h ⊢
      case panic u => exact h
  · rename_i hw
    rw [if_neg hw] at h
    exact ⟨⟨a.defers, undef, rfl⟩, h⟩

theorem wpOp_false {i : Nat} {o : Oper} (hi : ops[i]? = some o) {a : Act} {w : World} (h : wpOp P ops (Strict Q) i (fun _ _ => False) a w) : False := by
  unfold wpOp at h
  simp only [hi] at h
  split at h
  · rcases h with h | ⟨_, h⟩
    · unfold Oper.wp at h
      generalize (execOp a.eval o).run P w = r at *
      cases r with
      | ok n w' =>
        cases n <;> simp only [Oper.upon] at h
        case enter f args =>
          obtain ⟨e, w'', fr, he, _⟩ := h []
          cases e <;> first | exact he | exact letsOut_strict he
        case row row args =>
          obtain ⟨v, w'', hv, _⟩ := h (Frame.enter P 0 #[] .normal) []
          exact hv
      | halt x w' =>
        cases x <;> simp only [Oper.upon] at h
        case panic u => exact h
    · exact letsOut_strict h
  · exact h

/-- What an operation does is done as well with another one's value put in ahead. -/
theorem wpOp_ahead {i : Nat} {oi oj : Oper} {u : Value} (hi : ops[i]? = some oi) (hap : oj.apart ops oi = true) (hsi : ∀ cs b, oi.op ≠ .select cs b) {K : Act → World → Prop} {a : Act} {w : World}
    (h : wpOp P ops (Strict Q) i (fun a' w' => K (a'.put oj.dst u) w') a w) : wpOp P ops (Strict Q) i K (a.put oj.dst u) w := by
  obtain ⟨h1, h2, h3⟩ := Oper.apart_spec hap
  unfold wpOp at *
  simp only [hi] at *
  rw [wanted_put oi a oj.dst u h1]
  split
  · rename_i hw
    rw [if_pos hw] at h
    rcases h with h | ⟨_, h⟩
    · refine .inl ?_
      unfold Oper.wp at *
      rw [execOp_put oi hsi a oj.dst u h1]
      generalize (execOp a.eval oi).run P w = r at *
      cases r with
      | ok n w' =>
        cases n <;> simp only [Oper.upon] at h ⊢
        case value x => rw [Act.put_comm a u x h2]; exact h
        case skip => rw [Act.put_comm a u undef h2]; exact h
        case defer d => rw [Act.put_defers, Act.put_comm _ u undef h2]; exact h
        case enter f args =>
          refine Calls.mono h fun e w'' he => ?_
          cases e with
          | returned x => show K _ _; rw [Act.put_comm a u x h2]; exact he
          | panicked c => exact he
          | outgrown => exact he
        case row row args => exact Rows.mono h fun x w'' he => by rw [Act.put_comm a u x h2]; exact he
      | halt x w' =>
        cases x <;> simp only [Oper.upon] at h ⊢
        case panic x => exact h
    · exact absurd h letsOut_strict
  · rename_i hw
    rw [if_neg hw] at h
    rw [Act.put_comm a u undef h2]; exact h

theorem YieldsIf.uniq {o : Oper} {a : Act} {v u : Value} (h1 : YieldsIf P ops (fun _ => True) o v a) (h2 : YieldsIf P ops (fun _ => True) o u a) : v = u := by
  rcases h1 with ⟨a1, b1⟩ | ⟨a1, b1⟩ <;> rcases h2 with ⟨a2, b2⟩ | ⟨a2, b2⟩
  · have e := (b1 default trivial).symm.trans (b2 default trivial)
    simpa using e
  · rw [a1] at a2; cases a2
  · rw [a1] at a2; cases a2
  · rw [b1, b2]

theorem lex_swap {i j : Nat} {oi oj : Oper} (hi : ops[i]? = some oi) (hj : ops[j]? = some oj) (hpi : plainOp oi.op = true) (hpj : plainOp oj.op = true) (hc : commB ops effs pures i j = true) (hei : pures.contains i = true → effs.contains i = false) (hej : pures.contains j = true → effs.contains j = false)
    {K : Act → World → Prop} {a : Act} {w : World} (h : lexStep P ops Q effs pures i (lexStep P ops Q effs pures j K) a w) : lexStep P ops Q effs pures j (lexStep P ops Q effs pures i K) a w := by
  unfold commB at hc
  simp only [hi, hj, Bool.and_eq_true, Bool.or_eq_true, Bool.not_eq_true'] at hc
  obtain ⟨⟨apij, apji⟩, hk⟩ := hc
  obtain ⟨h1, h2, h3⟩ := Oper.apart_spec apij
  have hsi := plain_select hpi
  have hsj := plain_select hpj
  unfold lexStep at h ⊢
  simp only [hi, hj] at h ⊢
  by_cases ej : effs.contains j = true
  · -- j may do anything: i is pure
    have pj : pures.contains j = false := by cases hp : pures.contains j; rfl; rw [hej hp] at ej; cases ej
    have pi : pures.contains i = true := by
      rcases hk with (hk | hk) | hk
      · exact hk
      · rw [pj] at hk; cases hk
      · rw [hk.2] at ej; cases ej
    have ei := hei pi
    simp only [ej, ei, pi, if_true, Bool.false_eq_true, if_false] at h ⊢
    obtain ⟨v, hv, hh⟩ := h
    have := wpOp_putIf (S := fun _ => True) hj apij hsi hsj (fun _ _ _ hq => hq.elim) hv hh
    exact wpOp_mono (fun a' w' hx => ⟨v, hx.1, hx.2⟩) this
  · have ej' : effs.contains j = false := by simpa using ej
    by_cases ei : effs.contains i = true
    · -- i may do anything: j is pure
      have pi : pures.contains i = false := by cases hp : pures.contains i; rfl; rw [hei hp] at ei; cases ei
      have pj : pures.contains j = true := by
        rcases hk with (hk | hk) | hk
        · rw [pi] at hk; cases hk
        · exact hk
        · rw [hk.1] at ei; cases ei
      simp only [ei, ej', pj, if_true, Bool.false_eq_true, if_false] at h ⊢
      obtain ⟨g1, g2, g3⟩ := Oper.apart_spec apij
      have same : ∀ a', (∃ ds v, a' = ({ a with defers := ds } : Act).put oi.dst v) → execOp a'.eval oj = execOp a.eval oj ∧ Region.wanted oj (yielded ops a'.tmps) = Region.wanted oj (yielded ops a.tmps) := by
        rintro a' ⟨ds, v, rfl⟩
        exact ⟨execOp_put oj hsj ({ a with defers := ds } : Act) oi.dst v g1, wanted_put oj ({ a with defers := ds } : Act) oi.dst v g1⟩
      have hsh := wpOp_shape hi h
      by_cases hex : ∃ u, YieldsIf P ops (fun _ => True) oj u a
      · obtain ⟨u, hu⟩ := hex
        refine ⟨u, hu, wpOp_ahead hi apji hsi (wpOp_mono (fun a' w' hx => ?_) hsh)⟩
        obtain ⟨hs, u', hu', hK⟩ := hx
        obtain ⟨s1, s2⟩ := same a' hs
        have : YieldsIf P ops (fun _ => True) oj u' a := hu'.of_same s1.symm s2.symm
        rw [YieldsIf.uniq hu this]; exact hK
      · exfalso
        refine wpOp_false (P := P) (Q := Q) (a := a) (w := w) hi (wpOp_mono (fun a' w' hx => ?_) hsh)
        obtain ⟨hs, u', hu', hK⟩ := hx
        obtain ⟨s1, s2⟩ := same a' hs
        exact hex ⟨u', hu'.of_same s1.symm s2.symm⟩
    · have ei' : effs.contains i = false := by simpa using ei
      simp only [ei', ej', Bool.false_eq_true, if_false] at h ⊢
      -- neither does anything to the world
      have key : ∀ (Yi Yj : Value → Act → Prop), (∀ v (x : Act) d u, Yi v x → (∀ t, d = some t → t ∉ oi.looksAt ops) → Yi v (x.put d u)) → (∀ v (x : Act) d u, Yj v (x.put d u) → (∀ t, d = some t → t ∉ oj.looksAt ops) → Yj v x) →
          (∃ v, Yi v a ∧ ∃ u, Yj u (a.put oi.dst v) ∧ K ((a.put oi.dst v).put oj.dst u) w) → ∃ u, Yj u a ∧ ∃ v, Yi v (a.put oj.dst u) ∧ K ((a.put oj.dst u).put oi.dst v) w := by
        rintro Yi Yj ki kj ⟨v, hv, u, hu, hK⟩
        exact ⟨u, kj u a oi.dst v hu h1, v, ki v a oj.dst u hv h3, by rw [← Act.put_comm a v u h2]; exact hK⟩
      have pif : ∀ (o : Oper) (hs : ∀ cs b, o.op ≠ .select cs b) v (x : Act) d u, YieldsIf P ops (fun _ => True) o v x → (∀ t, d = some t → t ∉ o.looksAt ops) → YieldsIf P ops (fun _ => True) o v (x.put d u) :=
        fun o hs v x d u hy hd => hy.of_same (execOp_put o hs x d u hd) (wanted_put o x d u hd)
      have pif' : ∀ (o : Oper) (hs : ∀ cs b, o.op ≠ .select cs b) v (x : Act) d u, YieldsIf P ops (fun _ => True) o v (x.put d u) → (∀ t, d = some t → t ∉ o.looksAt ops) → YieldsIf P ops (fun _ => True) o v x :=
        fun o hs v x d u hy hd => hy.of_same (execOp_put o hs x d u hd).symm (wanted_put o x d u hd).symm
      have pin : ∀ (o : Oper) (hs : ∀ cs b, o.op ≠ .select cs b) v (x : Act) d u, YieldsIn P ops (fun w' => w' = w) o v x → (∀ t, d = some t → t ∉ o.looksAt ops) → YieldsIn P ops (fun w' => w' = w) o v (x.put d u) :=
        fun o hs v x d u hy hd => hy.of_same (execOp_put o hs x d u hd) (wanted_put o x d u hd)
      have pin' : ∀ (o : Oper) (hs : ∀ cs b, o.op ≠ .select cs b) v (x : Act) d u, YieldsIn P ops (fun w' => w' = w) o v (x.put d u) → (∀ t, d = some t → t ∉ o.looksAt ops) → YieldsIn P ops (fun w' => w' = w) o v x :=
        fun o hs v x d u hy hd => hy.of_same (execOp_put o hs x d u hd).symm (wanted_put o x d u hd).symm
      by_cases pi : pures.contains i = true <;> by_cases pj : pures.contains j = true
      · simp only [pi, pj, if_true] at h ⊢
        exact key _ _ (pif oi hsi) (pif' oj hsj) h
      · have pj' : pures.contains j = false := by simpa using pj
        simp only [pi, pj', if_true, Bool.false_eq_true, if_false] at h ⊢
        exact key _ _ (pif oi hsi) (pin' oj hsj) h
      · have pi' : pures.contains i = false := by simpa using pi
        simp only [pi', pj, if_true, Bool.false_eq_true, if_false] at h ⊢
        exact key _ _ (pin oi hsi) (pif' oj hsj) h
      · have pi' : pures.contains i = false := by simpa using pi
        have pj' : pures.contains j = false := by simpa using pj
        simp only [pi', pj', Bool.false_eq_true, if_false] at h ⊢
        exact key _ _ (pin oi hsi) (pin' oj hsj) h

/-! ### Whatever order is picked -/

/-- What has come up has all that it waits for before it. -/
def Closed (ops : Array Oper) (listed : Array Bool) : Prop := ∀ k o, ops[k]? = some o → listed.getD k false = true → ∀ e ∈ o.after, Region.binds .any e = true → listed.getD e.on false = true

theorem waits_listed {listed : Array Bool} (hc : Closed ops listed) : ∀ (n j i : Nat), waits ops n j i = true → (∀ o, ops[j]? = some o → ∀ e ∈ o.after, Region.binds .any e = true → listed.getD e.on false = true) → listed.getD i false = true
  | 0, _, _, h, _ => by simp [waits] at h
  | n + 1, j, i, h, hj => by
    unfold waits at h
    split at h
    · cases h
    · rename_i o ho
      rw [Bool.or_eq_true, List.any_eq_true, List.any_eq_true] at h
      rcases h with ⟨e, he, h⟩ | ⟨e, he, h⟩
      · simp only [Bool.and_eq_true, beq_iff_eq] at h
        rw [← h.2]; exact hj o ho e (by simpa using he) h.1
      · simp only [Bool.and_eq_true] at h
        have hl := hj o ho e (by simpa using he) h.1.1
        exact waits_listed hc n e.on i h.2 (fun o' ho' e' he' hb' => hc e.on o' ho' hl e' he' hb')

def rest (n : Nat) (listed : Array Bool) : List Nat := (List.range n).filter (fun i => !listed.getD i true)

theorem lex_front {l2 : List Nat} {j : Nat} : ∀ (l1 : List Nat), (∀ i ∈ l1, ∀ (K : Act → World → Prop) a w, lexStep P ops Q effs pures i (lexStep P ops Q effs pures j K) a w → lexStep P ops Q effs pures j (lexStep P ops Q effs pures i K) a w) →
    ∀ a w, lexAll P ops Q effs pures (l1 ++ j :: l2) a w → lexAll P ops Q effs pures (j :: (l1 ++ l2)) a w
  | [], _, a, w, h => h
  | i :: l1, hs, a, w, h => by
    have h1 : lexStep P ops Q effs pures i (lexAll P ops Q effs pures (j :: (l1 ++ l2))) a w :=
      lexStep_mono (fun a w hx => lex_front l1 (fun i hi => hs i (by simp [hi])) a w hx) h
    exact hs i (by simp) _ a w h1

theorem lexB_spec (h : lexB ops effs pures = true) : (∀ (j : Nat) o, ops[j]? = some o → plainOp o.op = true) ∧
    (∀ (j : Nat) o, ops[j]? = some o → ∀ e ∈ o.after, Region.binds .any e = true → e.on < j) ∧ (∀ (j : Nat) o, ops[j]? = some o → pures.contains j = true → effs.contains j = false) ∧
    (∀ i j : Nat, i < j → j < ops.size → commB ops effs pures i j = true ∨ waits ops 12 j i = true) := by
  unfold lexB at h
  rw [Bool.and_eq_true, List.all_eq_true] at h
  obtain ⟨h1, h2⟩ := h
  have lt : ∀ (j : Nat) o, ops[j]? = some o → j < ops.size := fun j o ho => (Array.getElem?_eq_some_iff.1 ho).1
  refine ⟨fun j o ho => ?_, fun j o ho e he hb => ?_, fun j o ho hp => ?_, fun i j hij hj => ?_⟩
  · obtain ⟨hlt, rfl⟩ := Array.getElem?_eq_some_iff.1 ho
    exact (Array.all_eq_true.1 h1) j hlt
  · have := h2 j (List.mem_range.2 (lt j o ho))
    simp only [ho, Option.map_some, Option.getD_some, Bool.and_eq_true] at this
    have h3 := this.1.1
    rw [Array.all_eq_true_iff_forall_mem] at h3
    have h4 := h3 e he
    simp only [hb, Bool.not_true, Bool.false_or, decide_eq_true_eq] at h4
    exact h4
  · have := h2 j (List.mem_range.2 (lt j o ho))
    simp only [ho, Option.map_some, Option.getD_some, Bool.and_eq_true, hp, Bool.not_true, Bool.false_or, Bool.not_eq_true'] at this
    exact this.1.2.2
  · have := h2 j (List.mem_range.2 hj)
    rw [Bool.and_eq_true, List.all_eq_true] at this
    have h3 := this.2 i (List.mem_range.2 hij)
    rwa [Bool.or_eq_true] at h3

theorem wpAny_of_lex (hB : lexB ops effs pures = true) : ∀ (fuel : Nat) (listed : Array Bool) (a : Act) (w : World), listed.size = ops.size → (rest ops.size listed).length = fuel → Closed ops listed →
    lexAll P ops Q effs pures (rest ops.size listed) a w → wpAny P .any ops (Strict Q) fuel listed a w := by
  obtain ⟨hp, hback, hpe, hcom⟩ := lexB_spec hB
  have mem_rest : ∀ (listed : Array Bool) i, i ∈ rest ops.size listed ↔ i < ops.size ∧ listed.getD i true = false := by
    intro listed i; simp [rest]
  -- where something is left something may come up: the first of what is left
  have first : ∀ (listed : Array Bool), listed.size = ops.size → rest ops.size listed ≠ [] → Region.ready .any ops listed ≠ [] := by
    intro listed hsz hne hr
    cases hl : rest ops.size listed with
    | nil => exact hne hl
    | cons i l =>
      have hi := (mem_rest listed i).1 (by rw [hl]; simp)
      have hsorted : (rest ops.size listed).Pairwise (· < ·) := List.Pairwise.filter _ List.pairwise_lt_range
      rw [hl] at hsorted
      have hmin : ∀ k, k < i → listed.getD k false = true := by
        intro k hk
        have hks : k < ops.size := Nat.lt_trans hk hi.1
        by_cases hx : listed.getD k true = false
        · have : k ∈ rest ops.size listed := (mem_rest listed k).2 ⟨hks, hx⟩
          rw [hl] at this
          rcases List.mem_cons.1 this with e | e
          · omega
          · have := (List.pairwise_cons.1 hsorted).1 k e; omega
        · have hks' : k < listed.size := by omega
          simp [hks'] at hx ⊢; exact hx
      have : i ∈ Region.ready .any ops listed := by
        obtain ⟨o, ho⟩ : ∃ o, ops[i]? = some o := ⟨_, Array.getElem?_eq_getElem hi.1⟩
        exact mem_ready.2 ⟨hi.2, o, ho, fun e he hb => hmin e.on (hback i o ho e he hb)⟩
      rw [hr] at this; cases this
  intro fuel
  induction fuel with
  | zero =>
    intro listed a w hsz hf hc h
    have hnil := List.eq_nil_of_length_eq_zero hf
    rw [hnil] at h
    refine ⟨?_, h⟩
    cases hr : Region.ready .any ops listed with
    | nil => rfl
    | cons i l =>
      obtain ⟨h1, o, ho, _⟩ := mem_ready.1 (by rw [hr]; simp : i ∈ Region.ready .any ops listed)
      have : i ∈ rest ops.size listed := (mem_rest listed i).2 ⟨(Array.getElem?_eq_some_iff.1 ho).1, h1⟩
      rw [hnil] at this; cases this
  | succ fuel ih =>
    intro listed a w hsz hf hc h
    refine ⟨fun h0 => absurd h0 (first listed hsz (fun e => by rw [e] at hf; cases hf)), fun j hj => ?_⟩
    obtain ⟨hjun, oj, hoj, hall⟩ := mem_ready.1 hj
    have hjs : j < ops.size := (Array.getElem?_eq_some_iff.1 hoj).1
    have hjr : j ∈ rest ops.size listed := (mem_rest listed j).2 ⟨hjs, hjun⟩
    obtain ⟨l1, l2, hl⟩ := List.append_of_mem hjr
    have hsorted : (rest ops.size listed).Pairwise (· < ·) := List.Pairwise.filter _ List.pairwise_lt_range
    rw [hl] at h hsorted
    have hlt1 : ∀ i ∈ l1, i < j := fun i hi => (List.pairwise_append.1 hsorted).2.2 i hi j (by simp)
    have h1 := lex_front l1 (fun i hi K a w hh => by
      have hir := (mem_rest listed i).1 (by rw [hl]; simp [hi])
      obtain ⟨oi, hoi⟩ : ∃ o, ops[i]? = some o := ⟨_, Array.getElem?_eq_getElem hir.1⟩
      rcases hcom i j (hlt1 i hi) hjs with hcm | hwt
      · exact lex_swap hoi hoj (hp i oi hoi) (hp j oj hoj) hcm (hpe i oi hoi) (hpe j oj hoj) hh
      · exfalso
        have := waits_listed hc 12 j i hwt (fun o ho e he hb => by rw [hoj] at ho; cases ho; exact hall e he hb)
        have his : i < listed.size := by omega
        have h2 := hir.2
        simp [his] at this h2
        rw [this] at h2; cases h2) a w h
    have hjl : j < listed.size := by omega
    -- what is left behind j
    have hrest : rest ops.size (listed.setIfInBounds j true) = l1 ++ l2 := by
      have e1 : rest ops.size (listed.setIfInBounds j true) = (rest ops.size listed).filter (fun i => decide (i ≠ j)) := by
        unfold rest
        rw [List.filter_filter]
        refine List.filter_congr (fun i hi => ?_)
        by_cases e : i = j
        · subst e; simp [hjl]
        · rw [getD_set_ne true (Ne.symm e)]; simp [e]
      rw [e1, hl, List.filter_append, List.filter_cons]
      have hnd : ∀ i ∈ l1, i ≠ j := fun i hi e => by have := hlt1 i hi; omega
      have hnd2 : ∀ i ∈ l2, i ≠ j := fun i hi e => by
        have := (List.pairwise_cons.1 (List.pairwise_append.1 hsorted).2.1).1 i hi; omega
      have f1 : l1.filter (fun i => decide (i ≠ j)) = l1 := List.filter_eq_self.2 (fun i hi => by simp [hnd i hi])
      have f2 : l2.filter (fun i => decide (i ≠ j)) = l2 := List.filter_eq_self.2 (fun i hi => by simp [hnd2 i hi])
      rw [f1, f2]
      simp
    have hlen : (rest ops.size (listed.setIfInBounds j true)).length = fuel := by
      rw [hrest]
      rw [hl] at hf
      simp at hf ⊢; omega
    have hclosed : Closed ops (listed.setIfInBounds j true) := by
      intro k o ho hk e he hb
      by_cases e1 : k = j
      · subst e1
        rw [hoj] at ho; cases ho
        exact getD_set_true (hall e he hb)
      · rw [getD_set_ne false (Ne.symm e1)] at hk
        exact getD_set_true (hc k o ho hk e he hb)
    refine wpOp_mono (fun a' w' hx => ?_) (lexStep_wpOp h1)
    exact ih (listed.setIfInBounds j true) a' w' (by simp [hsz]) hlen hclosed (by rw [hrest]; exact hx)

theorem wp_region_lexAll {id : Nat} {a : Act} {w : World} (hm : P.follows .mixedOrders = true) (hB : lexB ops effs pures = true) (h : lexAll P ops Q effs pures (List.range ops.size) a w.drew) : (Code.region id ops true).wp P Q a w := by
  have e0 : rest ops.size (Array.replicate ops.size false) = List.range ops.size := by
    unfold rest
    exact List.filter_eq_self.2 (fun i hi => by have := List.mem_range.1 hi; simp [this])
  have h1 : (Code.region id ops true).wp P (Strict Q) a w := by
    refine wp_region_any hm (wpAny_of_lex (effs := effs) (pures := pures) (Q := Q) hB ops.size (Array.replicate ops.size false) a w.drew (by simp) (by rw [e0]; simp) ?_ (by rw [e0]; exact h))
    intro k o ho hk
    have hks : k < ops.size := (Array.getElem?_eq_some_iff.1 ho).1
    simp [hks] at hk
  exact wp_mono h1 (fun e a w hq => hq.imp)

/-! ### The walk, piece by piece -/

/-- From operation k on, what is left written out. -/
def LexG (P : Program) (ops : Array Oper) (Q : Exit → Act → World → Prop) (effs pures : List Nat) (k : Nat) (rem : List Oper) (a : Act) (w : World) : Prop :=
  (∀ j, rem[j]? = ops[k + j]?) → lexAll P ops Q effs pures (List.range' k rem.length) a w

theorem LexG_nil {k : Nat} {a : Act} {w : World} (h : Q .normal a w) : LexG P ops Q effs pures k [] a w := fun _ => h

def noneOf (effs pures : List Nat) : Nat → Nat → Bool
  | _, 0 => true
  | k, m + 1 => !effs.contains k && !pures.contains k && noneOf effs pures (k + 1) m
def allPure (ops : Array Oper) (effs pures : List Nat) : Nat → Nat → Bool
  | _, 0 => true
  | k, m + 1 => !effs.contains k && pures.contains k && ((ops[k]?).map (fun o => simpleOp o.op)).getD true && allPure ops effs pures (k + 1) m

theorem LexG_still : ∀ (m : Nat) {k : Nat} {rem : List Oper} {a : Act} {w : World}, noneOf effs pures k m = true →
    wpQuiet P ops (fun w' => w' = w) (fun a' => LexG P ops Q effs pures (k + m) (rem.drop m) a' w) (rem.take m) a → LexG P ops Q effs pures k rem a w
  | 0, _, _, _, _, _, h => h
  | m + 1, k, rem, a, w, hn, h => by
    intro hrem
    cases rem with
    | nil => exact h (by
        intro j
        have e1 : ops.size ≤ k := by
          have := hrem 0
          simp at this; exact this
        rw [Array.getElem?_eq_none (by omega)]; simp)
    | cons o r =>
      unfold noneOf at hn
      simp only [Bool.and_eq_true, Bool.not_eq_true'] at hn
      have h0 : ops[k]? = some o := by simpa using (hrem 0).symm
      have hq : qOp P ops (fun w' => w' = w) k (wpQuiet P ops (fun w' => w' = w) (fun a' => LexG P ops Q effs pures (k + (m + 1)) (r.drop m) a' w) (r.take m)) a := by
        unfold qOp; simp only [h0]; exact h
      obtain ⟨v, hy, hK⟩ := yieldsIn_of_qOp h0 hq
      show lexStep P ops Q effs pures k (lexAll P ops Q effs pures (List.range' (k + 1) r.length)) a w
      unfold lexStep
      simp only [h0, hn.1.1, hn.1.2, Bool.false_eq_true, if_false]
      refine ⟨v, hy, ?_⟩
      have e : k + (m + 1) = k + 1 + m := by omega
      rw [e] at hK
      exact LexG_still m hn.2 hK (fun j => by have := hrem (j + 1); simpa [Nat.add_assoc, Nat.add_comm 1 j] using this)

theorem LexG_pure : ∀ (m : Nat) {k : Nat} {rem : List Oper} {a : Act} {w : World}, allPure ops effs pures k m = true →
    wpQuiet P ops (fun _ => True) (fun a' => LexG P ops Q effs pures (k + m) (rem.drop m) a' w) (rem.take m) a → LexG P ops Q effs pures k rem a w
  | 0, _, _, _, _, _, h => h
  | m + 1, k, rem, a, w, hn, h => by
    intro hrem
    cases rem with
    | nil => exact h (by
        intro j
        have e1 : ops.size ≤ k := by
          have := hrem 0
          simp at this; exact this
        rw [Array.getElem?_eq_none (by omega)]; simp)
    | cons o r =>
      unfold allPure at hn
      simp only [Bool.and_eq_true, Bool.not_eq_true'] at hn
      have h0 : ops[k]? = some o := by simpa using (hrem 0).symm
      have hs : simpleOp o.op = true := by have := hn.1.2; simpa [h0] using this
      have hq : qOp P ops (fun _ => True) k (wpQuiet P ops (fun _ => True) (fun a' => LexG P ops Q effs pures (k + (m + 1)) (r.drop m) a' w) (r.take m)) a := by
        unfold qOp; simp only [h0]; exact h
      obtain ⟨v, hy, hK⟩ := yieldsIn_of_qOp h0 hq
      show lexStep P ops Q effs pures k (lexAll P ops Q effs pures (List.range' (k + 1) r.length)) a w
      unfold lexStep
      simp only [h0, hn.1.1.1, hn.1.1.2, Bool.false_eq_true, if_false, if_true]
      refine ⟨v, ?_, ?_⟩
      · rcases hy with ⟨hw, hv⟩ | ⟨hw, hv⟩
        · refine .inl ⟨hw, fun w' _ => ?_⟩
          have h1 := hv w' trivial
          unfold Oper.quietAt at h1
          cases hr : (execOp a.eval o).run P w' with
          | halt x w1 => rw [hr] at h1; exact h1.elim
          | ok n w1 =>
            obtain ⟨u, rfl⟩ := simple_value hs w' n w1 hr
            rw [hr] at h1
            obtain ⟨e1, e2⟩ := h1
            rw [e1, e2]
        · exact .inr ⟨hw, hv⟩
      · have e : k + (m + 1) = k + 1 + m := by omega
        rw [e] at hK
        exact LexG_pure m hn.2 hK (fun j => by have := hrem (j + 1); simpa [Nat.add_assoc, Nat.add_comm 1 j] using this)

theorem LexG_eff {k : Nat} {o : Oper} {r : List Oper} {a : Act} {w : World} (he : effs.contains k = true) (hg : o.guard = none)
    (h : ∀ K : Act → World → Prop, (∀ a w, LexG P ops Q effs pures (k + 1) r a w → K a w) → o.wp P a w K (Strict Q)) : LexG P ops Q effs pures k (o :: r) a w := by
  intro hrem
  have h0 : ops[k]? = some o := by simpa using (hrem 0).symm
  show lexStep P ops Q effs pures k (lexAll P ops Q effs pures (List.range' (k + 1) r.length)) a w
  unfold lexStep
  simp only [h0, he, if_true]
  unfold wpOp
  simp only [h0]
  rw [if_pos (by simp [Region.wanted, hg])]
  exact Or.inl (h _ (fun a w hx => hx (fun j => by have := hrem (j + 1); simpa [Nat.add_assoc, Nat.add_comm 1 j] using this)))

/-- Likewise, where the operation is guarded and wanted. -/
theorem LexG_effg {k : Nat} {o : Oper} {r : List Oper} {a : Act} {w : World} (he : effs.contains k = true) (hg : Region.wanted o (yielded ops a.tmps) = true)
    (h : ∀ K : Act → World → Prop, (∀ a w, LexG P ops Q effs pures (k + 1) r a w → K a w) → o.wp P a w K (Strict Q)) : LexG P ops Q effs pures k (o :: r) a w := by
  intro hrem
  have h0 : ops[k]? = some o := by simpa using (hrem 0).symm
  show lexStep P ops Q effs pures k (lexAll P ops Q effs pures (List.range' (k + 1) r.length)) a w
  unfold lexStep
  simp only [h0, he, if_true]
  unfold wpOp
  simp only [h0]
  rw [if_pos hg]
  exact Or.inl (h _ (fun a w hx => hx (fun j => by have := hrem (j + 1); simpa [Nat.add_assoc, Nat.add_comm 1 j] using this)))

theorem wp_region_lex {id : Nat} {l : List Oper} {a : Act} {w : World} (effs pures : List Nat) (hm : P.follows .mixedOrders = true) (hB : lexB l.toArray effs pures = true) (h : LexG P l.toArray Q effs pures 0 l a w.drew) : (Code.region id l.toArray true).wp P Q a w :=
  wp_region_lexAll (effs := effs) (pures := pures) hm hB (by
    have := h (by simp)
    rw [List.range_eq_range']
    simpa using this)

/-! ### A region that draws its order and only reads, with calls that leave a class of worlds -/
/-- The worlds of a class. -/
structure Cls (C : World → Prop) where
  w : World
  ok : C w

theorem wp_region_cls {C : World → Prop} {id : Nat} {Q : Exit → Act → World → Prop} {a : Act} {w : World} {l : List Oper} (hm : P.follows .mixedOrders = true) (hB : Region.lexB .any l.toArray = true) (hC : C w.drew)
    (h : Nonempty (Cls C) → wpQuiet P l.toArray (fun w' => ∃ x : Cls C, w' = x.w) (fun a' => ∀ w', C w' → Q .normal a' w') l a) : (Code.region id l.toArray true).wp P Q a w := by
  have hi := h ⟨⟨_, hC⟩⟩
  have mono : ∀ (l' : List Oper) (a : Act), wpQuiet P l.toArray (fun w' => ∃ x : Cls C, w' = x.w) (fun a' => ∀ w', C w' → Q .normal a' w') l' a →
      wpQuiet P l.toArray (fun w' => ∃ x : Cls C, w' = x.w) (fun a' => ∀ w', (∃ x : Cls C, w' = x.w) → Q .normal a' w') l' a := by
    intro l'
    induction l' with
    | nil => intro a hx w' hw; obtain ⟨x, rfl⟩ := hw; exact hx x.w x.ok
    | cons o r ih =>
      intro a hx
      unfold wpQuiet at hx ⊢
      split
      · rename_i hw; rw [if_pos hw] at hx; exact Oper.quiet_mono ih hx
      · rename_i hw; rw [if_neg hw] at hx; exact ih _ hx
  exact wp_region_quiet (C := fun w' => ∃ x : Cls C, w' = x.w) hm hB ⟨⟨_, hC⟩, rfl⟩ (by simpa using mono l a hi)
end
end Go.Bw

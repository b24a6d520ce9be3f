/- Joined: LexP, LexT, MapU. -/
import Derived.Test.YtcjbhgnlmmeeeaaGreatDoorMgA
import Derived.Maps.OwnSet
import Derived.WideKeyEntry
/- XLexC once more, where operations may panic: what stands behind an operation that may do anything waits for it, or is no operation that the walk goes through behind it. No program is named. -/
namespace Go.Bw.Fall
open Go.Bw Go.Bw.Keep
set_option linter.unusedVariables false
set_option linter.unusedSimpArgs false

/-- Q, but R at a panic, and False at the end of memory. -/
def Fall (R : List PanicEntry → List Deferred → World → Prop) (Q : Exit → Act → World → Prop) : Exit → Act → World → Prop
  | .panic c, a, w => R c a.defers w
  | .outgrown, _, _ => False
  | e, a, w => Q e a w
theorem Fall.imp {R : List PanicEntry → List Deferred → World → Prop} {Q : Exit → Act → World → Prop} (hR : ∀ c a w, R c a.defers w → Q (.panic c) a w) {e : Exit} {a : Act} {w : World} (h : Fall R Q e a w) : Q e a w := by
  cases e <;> first | exact h | exact hR _ _ _ h | exact h.elim

theorem put_same (a : Act) (d : Option Tmp) (v : Value) : (a.put d v).defers = a.defers := by cases d <;> rfl
theorem Fall.unput {R : List PanicEntry → List Deferred → World → Prop} {Q : Exit → Act → World → Prop} {c : List PanicEntry} {a : Act} {w : World} {d : Option Tmp} {v : Value} (h : Fall R Q (.panic c) (a.put d v) w) : Fall R Q (.panic c) a w := by
  have h' : R c (a.put d v).defers w := h
  rw [put_same] at h'
  exact h'
/-- Which two may come in either order. -/
def commP (ops : Array Oper) (effs pures : List Nat) (i j : Nat) : Bool :=
  match ops[i]?, ops[j]? with
  | some oi, some oj => oi.apart ops oj && oj.apart ops oi && !effs.contains i && (pures.contains i || !effs.contains j)
  | _, _ => true

section
variable {P : Program} {ops : Array Oper} {Q : Exit → Act → World → Prop} {effs pures : List Nat} {C : World → Prop} {R : List PanicEntry → List Deferred → World → Prop}

/-- Operation i comes next: one that may do anything; one that yields its value in whatever world; one that leaves the world alone. -/
def lexStep (P : Program) (ops : Array Oper) (R : List PanicEntry → List Deferred → World → Prop) (Q : Exit → Act → World → Prop) (C : World → Prop) (effs pures : List Nat) (i : Nat) (K : Act → World → Prop) (a : Act) (w : World) : Prop :=
  match ops[i]? with
  | none => K a w
  | some o =>
    if effs.contains i then wpOp P ops (Fall R Q) i (fun a w => C w ∧ K a w) a w
    else if pures.contains i then ∃ v, YieldsIf P ops C o v a ∧ K (a.put o.dst v) w
    else ∃ v, YieldsIn P ops (fun w' => w' = w) o v a ∧ K (a.put o.dst v) w

def lexAll (P : Program) (ops : Array Oper) (R : List PanicEntry → List Deferred → World → Prop) (Q : Exit → Act → World → Prop) (C : World → Prop) (effs pures : List Nat) : List Nat → Act → World → Prop
  | [], a, w => Q .normal a w
  | i :: rest, a, w => lexStep P ops R Q C effs pures i (lexAll P ops R Q C effs pures rest) a w

theorem lexStep_mono {i : Nat} {K K' : Act → World → Prop} (h : ∀ a w, K a w → K' a w) {a : Act} {w : World} (hh : lexStep P ops R Q C effs pures i K a w) : lexStep P ops R Q C effs pures i K' a w := by
  unfold lexStep at *
  split
  · rename_i ho; simp only [ho] at hh; exact h _ _ hh
  · rename_i o ho
    simp only [ho] at hh
    split
    · rename_i he; rw [if_pos he] at hh; exact wpOp_mono (fun a w hx => ⟨hx.1, h _ _ hx.2⟩) hh
    · rename_i he
      rw [if_neg he] at hh
      split
      · rename_i hp; rw [if_pos hp] at hh; obtain ⟨v, h1, h2⟩ := hh; exact ⟨v, h1, h _ _ h2⟩
      · rename_i hp; rw [if_neg hp] at hh; obtain ⟨v, h1, h2⟩ := hh; exact ⟨v, h1, h _ _ h2⟩

theorem lexStep_wpOp {i : Nat} {K : Act → World → Prop} {a : Act} {w : World} (hw : C w) (hh : lexStep P ops R Q C effs pures i K a w) : wpOp P ops (Fall R Q) i (fun a w => C w ∧ K a w) a w := by
  unfold lexStep at hh
  split at hh
  · rename_i ho; unfold wpOp; simp only [ho]; exact ⟨hw, hh⟩
  · rename_i o ho
    split at hh
    · exact hh
    · split at hh
      · obtain ⟨v, h1, h2⟩ := hh; exact h1.wpOp (S := C) ho hw ⟨hw, h2⟩
      · obtain ⟨v, h1, h2⟩ := hh
        exact wpOp_of_qOp (C := fun w' => w' = w) (K := fun a' => a' = a.put o.dst v) rfl (fun a' w' e h => by subst e; subst h; exact ⟨hw, h2⟩) (h1.qOp ho rfl)

def lexB (ops : Array Oper) (effs pures : List Nat) : Bool :=
  ops.all (fun o => plainOp o.op) &&
  (List.range ops.size).all (fun j =>
    ((ops[j]?).map (fun o => o.after.all (fun e => !Region.binds .any e || decide (e.on < j)))).getD true &&
    ((ops[j]?).map (fun o => !pures.contains j || (Keep.simpleOp o.op && !effs.contains j))).getD true &&
    (List.range j).all (fun i => commP ops effs pures i j || waits ops 12 j i))

theorem lex_swap {i j : Nat} {oi oj : Oper} (hi : ops[i]? = some oi) (hj : ops[j]? = some oj) (hpi : plainOp oi.op = true) (hpj : plainOp oj.op = true) (hc : commP ops effs pures i j = true) (hei : pures.contains i = true → effs.contains i = false) (hej : pures.contains j = true → effs.contains j = false)
    {K : Act → World → Prop} {a : Act} {w : World} (h : lexStep P ops R Q C effs pures i (lexStep P ops R Q C effs pures j K) a w) : lexStep P ops R Q C effs pures j (lexStep P ops R Q C effs pures i K) a w := by
  unfold commP at hc
  simp only [hi, hj, Bool.and_eq_true, Bool.or_eq_true, Bool.not_eq_true'] at hc
  obtain ⟨⟨⟨apij, apji⟩, ei'⟩, hk⟩ := hc
  obtain ⟨h1, h2, h3⟩ := Oper.apart_spec apij
  have hsi := plain_select hpi
  have hsj := plain_select hpj
  unfold lexStep at h ⊢
  simp only [hi, hj] at h ⊢
  by_cases ej : effs.contains j = true
  · -- j may do anything: i is pure
    have pj : pures.contains j = false := by cases hp : pures.contains j; rfl; rw [hej hp] at ej; cases ej
    have pi : pures.contains i = true := by
      rcases hk with hk | hk
      · exact hk
      · rw [hk] at ej; cases ej
    simp only [ej, ei', pi, if_true, Bool.false_eq_true, if_false] at h ⊢
    obtain ⟨v, hv, hh⟩ := h
    have := wpOp_putIf (S := C) hj apij hsi hsj (fun _ _ _ hq => hq.unput) hv hh
    exact wpOp_mono (fun a' w' hx => ⟨hx.2.1, v, hx.1, hx.2.2⟩) this
  · have ej' : effs.contains j = false := by simpa using ej
    · skip
      simp only [ei', ej', Bool.false_eq_true, if_false] at h ⊢
      -- neither does anything to the world
      have key : ∀ (Yi Yj : Value → Act → Prop), (∀ v (x : Act) d u, Yi v x → (∀ t, d = some t → t ∉ oi.looksAt ops) → Yi v (x.put d u)) → (∀ v (x : Act) d u, Yj v (x.put d u) → (∀ t, d = some t → t ∉ oj.looksAt ops) → Yj v x) →
          (∃ v, Yi v a ∧ ∃ u, Yj u (a.put oi.dst v) ∧ K ((a.put oi.dst v).put oj.dst u) w) → ∃ u, Yj u a ∧ ∃ v, Yi v (a.put oj.dst u) ∧ K ((a.put oj.dst u).put oi.dst v) w := by
        rintro Yi Yj ki kj ⟨v, hv, u, hu, hK⟩
        exact ⟨u, kj u a oi.dst v hu h1, v, ki v a oj.dst u hv h3, by rw [← Act.put_comm a v u h2]; exact hK⟩
      have pif : ∀ (o : Oper) (hs : ∀ cs b, o.op ≠ .select cs b) v (x : Act) d u, YieldsIf P ops C o v x → (∀ t, d = some t → t ∉ o.looksAt ops) → YieldsIf P ops C o v (x.put d u) :=
        fun o hs v x d u hy hd => hy.of_same (execOp_put o hs x d u hd) (wanted_put o x d u hd)
      have pif' : ∀ (o : Oper) (hs : ∀ cs b, o.op ≠ .select cs b) v (x : Act) d u, YieldsIf P ops C o v (x.put d u) → (∀ t, d = some t → t ∉ o.looksAt ops) → YieldsIf P ops C o v x :=
        fun o hs v x d u hy hd => hy.of_same (execOp_put o hs x d u hd).symm (wanted_put o x d u hd).symm
      have pin : ∀ (o : Oper) (hs : ∀ cs b, o.op ≠ .select cs b) v (x : Act) d u, YieldsIn P ops (fun w' => w' = w) o v x → (∀ t, d = some t → t ∉ o.looksAt ops) → YieldsIn P ops (fun w' => w' = w) o v (x.put d u) :=
        fun o hs v x d u hy hd => hy.of_same (execOp_put o hs x d u hd) (wanted_put o x d u hd)
      have pin' : ∀ (o : Oper) (hs : ∀ cs b, o.op ≠ .select cs b) v (x : Act) d u, YieldsIn P ops (fun w' => w' = w) o v (x.put d u) → (∀ t, d = some t → t ∉ o.looksAt ops) → YieldsIn P ops (fun w' => w' = w) o v x :=
        fun o hs v x d u hy hd => hy.of_same (execOp_put o hs x d u hd).symm (wanted_put o x d u hd).symm
      by_cases pi : pures.contains i = true <;> by_cases pj : pures.contains j = true
      · simp only [pi, pj, if_true] at h ⊢
        exact key _ _ (pif oi hsi) (pif' oj hsj) h
      · have pj' : pures.contains j = false := by simpa using pj
        simp only [pi, pj', if_true, Bool.false_eq_true, if_false] at h ⊢
        exact key _ _ (pif oi hsi) (pin' oj hsj) h
      · have pi' : pures.contains i = false := by simpa using pi
        simp only [pi', pj, if_true, Bool.false_eq_true, if_false] at h ⊢
        exact key _ _ (pin oi hsi) (pif' oj hsj) h
      · have pi' : pures.contains i = false := by simpa using pi
        have pj' : pures.contains j = false := by simpa using pj
        simp only [pi', pj', Bool.false_eq_true, if_false] at h ⊢
        exact key _ _ (pin oi hsi) (pin' oj hsj) h

/-! ### Whatever order is picked -/

theorem lex_front {l2 : List Nat} {j : Nat} : ∀ (l1 : List Nat), (∀ i ∈ l1, ∀ (K : Act → World → Prop) a w, lexStep P ops R Q C effs pures i (lexStep P ops R Q C effs pures j K) a w → lexStep P ops R Q C effs pures j (lexStep P ops R Q C effs pures i K) a w) →
    ∀ a w, lexAll P ops R Q C effs pures (l1 ++ j :: l2) a w → lexAll P ops R Q C effs pures (j :: (l1 ++ l2)) a w
  | [], _, a, w, h => h
  | i :: l1, hs, a, w, h => by
    have h1 : lexStep P ops R Q C effs pures i (lexAll P ops R Q C effs pures (j :: (l1 ++ l2))) a w :=
      lexStep_mono (fun a w hx => lex_front l1 (fun i hi => hs i (by simp [hi])) a w hx) h
    exact hs i (by simp) _ a w h1

theorem lexB_spec (h : lexB ops effs pures = true) : (∀ (j : Nat) o, ops[j]? = some o → plainOp o.op = true) ∧
    (∀ (j : Nat) o, ops[j]? = some o → ∀ e ∈ o.after, Region.binds .any e = true → e.on < j) ∧ (∀ (j : Nat) o, ops[j]? = some o → pures.contains j = true → effs.contains j = false) ∧
    (∀ i j : Nat, i < j → j < ops.size → commP ops effs pures i j = true ∨ waits ops 12 j i = true) := by
  unfold lexB at h
  rw [Bool.and_eq_true, List.all_eq_true] at h
  obtain ⟨h1, h2⟩ := h
  have lt : ∀ (j : Nat) o, ops[j]? = some o → j < ops.size := fun j o ho => (Array.getElem?_eq_some_iff.1 ho).1
  refine ⟨fun j o ho => ?_, fun j o ho e he hb => ?_, fun j o ho hp => ?_, fun i j hij hj => ?_⟩
  · obtain ⟨hlt, rfl⟩ := Array.getElem?_eq_some_iff.1 ho
    exact (Array.all_eq_true.1 h1) j hlt
  · have := h2 j (List.mem_range.2 (lt j o ho))
    simp only [ho, Option.map_some, Option.getD_some, Bool.and_eq_true] at this
    have h3 := this.1.1
    rw [Array.all_eq_true_iff_forall_mem] at h3
    have h4 := h3 e he
    simp only [hb, Bool.not_true, Bool.false_or, decide_eq_true_eq] at h4
    exact h4
  · have := h2 j (List.mem_range.2 (lt j o ho))
    simp only [ho, Option.map_some, Option.getD_some, Bool.and_eq_true, hp, Bool.not_true, Bool.false_or, Bool.not_eq_true'] at this
    exact this.1.2.2
  · have := h2 j (List.mem_range.2 hj)
    rw [Bool.and_eq_true, List.all_eq_true] at this
    have h3 := this.2 i (List.mem_range.2 hij)
    rwa [Bool.or_eq_true] at h3

theorem wpAny_of_lex (hB : lexB ops effs pures = true) : ∀ (fuel : Nat) (listed : Array Bool) (a : Act) (w : World), listed.size = ops.size → (rest ops.size listed).length = fuel → Closed ops listed →
    C w → lexAll P ops R Q C effs pures (rest ops.size listed) a w → wpAny P .any ops (Fall R Q) fuel listed a w := by
  obtain ⟨hp, hback, hpe, hcom⟩ := lexB_spec hB
  have mem_rest : ∀ (listed : Array Bool) i, i ∈ rest ops.size listed ↔ i < ops.size ∧ listed.getD i true = false := by
    intro listed i; simp [rest]
  -- where something is left something may come up: the first of what is left
  have first : ∀ (listed : Array Bool), listed.size = ops.size → rest ops.size listed ≠ [] → Region.ready .any ops listed ≠ [] := by
    intro listed hsz hne hr
    cases hl : rest ops.size listed with
    | nil => exact hne hl
    | cons i l =>
      have hi := (mem_rest listed i).1 (by rw [hl]; simp)
      have hsorted : (rest ops.size listed).Pairwise (· < ·) := List.Pairwise.filter _ List.pairwise_lt_range
      rw [hl] at hsorted
      have hmin : ∀ k, k < i → listed.getD k false = true := by
        intro k hk
        have hks : k < ops.size := Nat.lt_trans hk hi.1
        by_cases hx : listed.getD k true = false
        · have : k ∈ rest ops.size listed := (mem_rest listed k).2 ⟨hks, hx⟩
          rw [hl] at this
          rcases List.mem_cons.1 this with e | e
          · omega
          · have := (List.pairwise_cons.1 hsorted).1 k e; omega
        · have hks' : k < listed.size := by omega
          simp [hks'] at hx ⊢; exact hx
      have : i ∈ Region.ready .any ops listed := by
        obtain ⟨o, ho⟩ : ∃ o, ops[i]? = some o := ⟨_, Array.getElem?_eq_getElem hi.1⟩
        exact mem_ready.2 ⟨hi.2, o, ho, fun e he hb => hmin e.on (hback i o ho e he hb)⟩
      rw [hr] at this; cases this
  intro fuel
  induction fuel with
  | zero =>
    intro listed a w hsz hf hc hcw h
    have hnil := List.eq_nil_of_length_eq_zero hf
    rw [hnil] at h
    refine ⟨?_, h⟩
    cases hr : Region.ready .any ops listed with
    | nil => rfl
    | cons i l =>
      obtain ⟨h1, o, ho, _⟩ := mem_ready.1 (by rw [hr]; simp : i ∈ Region.ready .any ops listed)
      have : i ∈ rest ops.size listed := (mem_rest listed i).2 ⟨(Array.getElem?_eq_some_iff.1 ho).1, h1⟩
      rw [hnil] at this; cases this
  | succ fuel ih =>
    intro listed a w hsz hf hc hcw h
    refine ⟨fun h0 => absurd h0 (first listed hsz (fun e => by rw [e] at hf; cases hf)), fun j hj => ?_⟩
    obtain ⟨hjun, oj, hoj, hall⟩ := mem_ready.1 hj
    have hjs : j < ops.size := (Array.getElem?_eq_some_iff.1 hoj).1
    have hjr : j ∈ rest ops.size listed := (mem_rest listed j).2 ⟨hjs, hjun⟩
    obtain ⟨l1, l2, hl⟩ := List.append_of_mem hjr
    have hsorted : (rest ops.size listed).Pairwise (· < ·) := List.Pairwise.filter _ List.pairwise_lt_range
    rw [hl] at h hsorted
    have hlt1 : ∀ i ∈ l1, i < j := fun i hi => (List.pairwise_append.1 hsorted).2.2 i hi j (by simp)
    have h1 := lex_front l1 (fun i hi K a w hh => by
      have hir := (mem_rest listed i).1 (by rw [hl]; simp [hi])
      obtain ⟨oi, hoi⟩ : ∃ o, ops[i]? = some o := ⟨_, Array.getElem?_eq_getElem hir.1⟩
      rcases hcom i j (hlt1 i hi) hjs with hcm | hwt
      · exact lex_swap hoi hoj (hp i oi hoi) (hp j oj hoj) hcm (hpe i oi hoi) (hpe j oj hoj) hh
      · exfalso
        have := waits_listed hc 12 j i hwt (fun o ho e he hb => by rw [hoj] at ho; cases ho; exact hall e he hb)
        have his : i < listed.size := by omega
        have h2 := hir.2
        simp [his] at this h2
        rw [this] at h2; cases h2) a w h
    have hjl : j < listed.size := by omega
    -- what is left behind j
    have hrest : rest ops.size (listed.setIfInBounds j true) = l1 ++ l2 := by
      have e1 : rest ops.size (listed.setIfInBounds j true) = (rest ops.size listed).filter (fun i => decide (i ≠ j)) := by
        unfold rest
        rw [List.filter_filter]
        refine List.filter_congr (fun i hi => ?_)
        by_cases e : i = j
        · subst e; simp [hjl]
        · rw [getD_set_ne true (Ne.symm e)]; simp [e]
      rw [e1, hl, List.filter_append, List.filter_cons]
      have hnd : ∀ i ∈ l1, i ≠ j := fun i hi e => by have := hlt1 i hi; omega
      have hnd2 : ∀ i ∈ l2, i ≠ j := fun i hi e => by
        have := (List.pairwise_cons.1 (List.pairwise_append.1 hsorted).2.1).1 i hi; omega
      have f1 : l1.filter (fun i => decide (i ≠ j)) = l1 := List.filter_eq_self.2 (fun i hi => by simp [hnd i hi])
      have f2 : l2.filter (fun i => decide (i ≠ j)) = l2 := List.filter_eq_self.2 (fun i hi => by simp [hnd2 i hi])
      rw [f1, f2]
      simp
    have hlen : (rest ops.size (listed.setIfInBounds j true)).length = fuel := by
      rw [hrest]
      rw [hl] at hf
      simp at hf ⊢; omega
    have hclosed : Closed ops (listed.setIfInBounds j true) := by
      intro k o ho hk e he hb
      by_cases e1 : k = j
      · subst e1
        rw [hoj] at ho; cases ho
        exact getD_set_true (hall e he hb)
      · rw [getD_set_ne false (Ne.symm e1)] at hk
        exact getD_set_true (hc k o ho hk e he hb)
    refine wpOp_mono (fun a' w' hx => ?_) (lexStep_wpOp hcw h1)
    exact ih (listed.setIfInBounds j true) a' w' (by simp [hsz]) hlen hclosed hx.1 (by rw [hrest]; exact hx.2)

theorem wp_region_lexAll {id : Nat} {a : Act} {w : World} (hm : P.follows .mixedOrders = true) (hR : ∀ c a w, R c a.defers w → Q (.panic c) a w) (hB : lexB ops effs pures = true) (hC : C w.drew) (h : lexAll P ops R Q C effs pures (List.range ops.size) a w.drew) : (Code.region id ops true).wp P Q a w := by
  have e0 : rest ops.size (Array.replicate ops.size false) = List.range ops.size := by
    unfold rest
    exact List.filter_eq_self.2 (fun i hi => by have := List.mem_range.1 hi; simp [this])
  have h1 : (Code.region id ops true).wp P (Fall R Q) a w := by
    refine wp_region_any hm (wpAny_of_lex (effs := effs) (pures := pures) (Q := Q) (R := R) hB ops.size (Array.replicate ops.size false) a w.drew (by simp) (by rw [e0]; simp) ?_ hC (by rw [e0]; exact h))
    intro k o ho hk
    have hks : k < ops.size := (Array.getElem?_eq_some_iff.1 ho).1
    simp [hks] at hk
  exact wp_mono h1 (fun e a w hq => hq.imp hR)

/-! ### The walk, piece by piece -/

/-- From operation k on, what is left written out. -/
def LexG (P : Program) (ops : Array Oper) (R : List PanicEntry → List Deferred → World → Prop) (Q : Exit → Act → World → Prop) (C : World → Prop) (effs pures : List Nat) (k : Nat) (rem : List Oper) (a : Act) (w : World) : Prop :=
  (∀ j, rem[j]? = ops[k + j]?) → lexAll P ops R Q C effs pures (List.range' k rem.length) a w

theorem LexG_nil {k : Nat} {a : Act} {w : World} (h : Q .normal a w) : LexG P ops R Q C effs pures k [] a w := fun _ => h

def allPure (ops : Array Oper) (effs pures : List Nat) : Nat → Nat → Bool
  | _, 0 => true
  | k, m + 1 => !effs.contains k && pures.contains k && ((ops[k]?).map (fun o => Keep.simpleOp o.op)).getD true && allPure ops effs pures (k + 1) m

theorem LexG_still : ∀ (m : Nat) {k : Nat} {rem : List Oper} {a : Act} {w : World}, noneOf effs pures k m = true →
    wpQuiet P ops (fun w' => w' = w) (fun a' => LexG P ops R Q C effs pures (k + m) (rem.drop m) a' w) (rem.take m) a → LexG P ops R Q C effs pures k rem a w
  | 0, _, _, _, _, _, h => h
  | m + 1, k, rem, a, w, hn, h => by
    intro hrem
    cases rem with
    | nil => exact h (by
        intro j
        have e1 : ops.size ≤ k := by
          have := hrem 0
          simp at this; exact this
        rw [Array.getElem?_eq_none (by omega)]; simp)
    | cons o r =>
      unfold noneOf at hn
      simp only [Bool.and_eq_true, Bool.not_eq_true'] at hn
      have h0 : ops[k]? = some o := by simpa using (hrem 0).symm
      have hq : qOp P ops (fun w' => w' = w) k (wpQuiet P ops (fun w' => w' = w) (fun a' => LexG P ops R Q C effs pures (k + (m + 1)) (r.drop m) a' w) (r.take m)) a := by
        unfold qOp; simp only [h0]; exact h
      obtain ⟨v, hy, hK⟩ := yieldsIn_of_qOp h0 hq
      show lexStep P ops R Q C effs pures k (lexAll P ops R Q C effs pures (List.range' (k + 1) r.length)) a w
      unfold lexStep
      simp only [h0, hn.1.1, hn.1.2, Bool.false_eq_true, if_false]
      refine ⟨v, hy, ?_⟩
      have e : k + (m + 1) = k + 1 + m := by omega
      rw [e] at hK
      exact LexG_still m hn.2 hK (fun j => by have := hrem (j + 1); simpa [Nat.add_assoc, Nat.add_comm 1 j] using this)

theorem LexG_pure : ∀ (m : Nat) {k : Nat} {rem : List Oper} {a : Act} {w : World}, allPure ops effs pures k m = true →
    wpQuiet P ops C (fun a' => LexG P ops R Q C effs pures (k + m) (rem.drop m) a' w) (rem.take m) a → LexG P ops R Q C effs pures k rem a w
  | 0, _, _, _, _, _, h => h
  | m + 1, k, rem, a, w, hn, h => by
    intro hrem
    cases rem with
    | nil => exact h (by
        intro j
        have e1 : ops.size ≤ k := by
          have := hrem 0
          simp at this; exact this
        rw [Array.getElem?_eq_none (by omega)]; simp)
    | cons o r =>
      unfold allPure at hn
      simp only [Bool.and_eq_true, Bool.not_eq_true'] at hn
      have h0 : ops[k]? = some o := by simpa using (hrem 0).symm
      have hs : Keep.simpleOp o.op = true := by have := hn.1.2; simpa [h0] using this
      have hq : qOp P ops C k (wpQuiet P ops C (fun a' => LexG P ops R Q C effs pures (k + (m + 1)) (r.drop m) a' w) (r.take m)) a := by
        unfold qOp; simp only [h0]; exact h
      obtain ⟨v, hy, hK⟩ := yieldsIn_of_qOp h0 hq
      show lexStep P ops R Q C effs pures k (lexAll P ops R Q C effs pures (List.range' (k + 1) r.length)) a w
      unfold lexStep
      simp only [h0, hn.1.1.1, hn.1.1.2, Bool.false_eq_true, if_false, if_true]
      refine ⟨v, ?_, ?_⟩
      · rcases hy with ⟨hw, hv⟩ | ⟨hw, hv⟩
        · refine .inl ⟨hw, fun w' hw' => ?_⟩
          have h1 := hv w' hw'
          unfold Oper.quietAt at h1
          cases hr : (execOp a.eval o).run P w' with
          | halt x w1 => rw [hr] at h1; exact h1.elim
          | ok n w1 =>
            obtain ⟨u, rfl⟩ := Keep.simple_value hs w' n w1 hr
            rw [hr] at h1
            obtain ⟨e1, e2⟩ := h1
            rw [e1, e2]
        · exact .inr ⟨hw, hv⟩
      · have e : k + (m + 1) = k + 1 + m := by omega
        rw [e] at hK
        exact LexG_pure m hn.2 hK (fun j => by have := hrem (j + 1); simpa [Nat.add_assoc, Nat.add_comm 1 j] using this)

theorem LexG_eff {k : Nat} {o : Oper} {r : List Oper} {a : Act} {w : World} (he : effs.contains k = true) (hg : o.guard = none)
    (h : ∀ K : Act → World → Prop, (∀ a w, C w → LexG P ops R Q C effs pures (k + 1) r a w → K a w) → o.wp P a w K (Fall R Q)) : LexG P ops R Q C effs pures k (o :: r) a w := by
  intro hrem
  have h0 : ops[k]? = some o := by simpa using (hrem 0).symm
  show lexStep P ops R Q C effs pures k (lexAll P ops R Q C effs pures (List.range' (k + 1) r.length)) a w
  unfold lexStep
  simp only [h0, he, if_true]
  unfold wpOp
  simp only [h0]
  rw [if_pos (by simp [Region.wanted, hg])]
  exact Or.inl (h _ (fun a w hcw hx => ⟨hcw, hx (fun j => by have := hrem (j + 1); simpa [Nat.add_assoc, Nat.add_comm 1 j] using this)⟩))

/-- Likewise, where the operation is guarded and wanted. -/
theorem LexG_effg {k : Nat} {o : Oper} {r : List Oper} {a : Act} {w : World} (he : effs.contains k = true) (hg : Region.wanted o (yielded ops a.tmps) = true)
    (h : ∀ K : Act → World → Prop, (∀ a w, C w → LexG P ops R Q C effs pures (k + 1) r a w → K a w) → o.wp P a w K (Fall R Q)) : LexG P ops R Q C effs pures k (o :: r) a w := by
  intro hrem
  have h0 : ops[k]? = some o := by simpa using (hrem 0).symm
  show lexStep P ops R Q C effs pures k (lexAll P ops R Q C effs pures (List.range' (k + 1) r.length)) a w
  unfold lexStep
  simp only [h0, he, if_true]
  unfold wpOp
  simp only [h0]
  rw [if_pos hg]
  exact Or.inl (h _ (fun a w hcw hx => ⟨hcw, hx (fun j => by have := hrem (j + 1); simpa [Nat.add_assoc, Nat.add_comm 1 j] using this)⟩))

theorem wp_region_lex {id : Nat} {l : List Oper} {a : Act} {w : World} (effs pures : List Nat) (R : List PanicEntry → List Deferred → World → Prop) (hm : P.follows .mixedOrders = true) (hR : ∀ c a w, R c a.defers w → Q (.panic c) a w) (hB : lexB l.toArray effs pures = true) (hC : C w.drew) (h : LexG P l.toArray R Q C effs pures 0 l a w.drew) : (Code.region id l.toArray true).wp P Q a w :=
  wp_region_lexAll (C := C) (effs := effs) (pures := pures) hm hR hB hC (by
    have := h (by simp)
    rw [List.range_eq_range']
    simpa using this)

end
end Go.Bw.Fall
/- A region that draws its order, gone through by a plan: any order that the edges let, a fork where two operations that both do something may come either way. No program is named. -/
namespace Go.Bw.Fall
open Go.Bw Go.Bw.Keep
set_option linter.unusedVariables false
set_option linter.unusedSimpArgs false

/-- What is walked: this operation next; or either of these two. -/
inductive Plan
  | leaf
  | step (i : Nat) (t : Plan)
  | fork (i : Nat) (s : Plan) (k : Nat) (t : Plan)

def Plan.idx : Plan → List Nat
  | .leaf => []
  | .step i t => i :: t.idx
  | .fork i s _ _ => i :: s.idx

def Plan.steps : List Nat → Plan → Plan
  | [], t => t
  | i :: is, t => .step i (Plan.steps is t)

def nth : List Oper → Nat → Option Oper
  | [], _ => none
  | o :: _, 0 => some o
  | _ :: l, n + 1 => nth l n

theorem nth_eq : ∀ (l : List Oper) (n : Nat), nth l n = l[n]?
  | [], _ => by simp [nth]
  | o :: l, 0 => by simp [nth]
  | o :: l, n + 1 => by simp [nth, nth_eq l n]

/-- The operations of these numbers. -/
def pickL (l : List Oper) : List Nat → List Oper
  | [] => []
  | i :: is => match nth l i with
    | some o => o :: pickL l is
    | none => pickL l is

section
variable {P : Program} {ops : Array Oper} {Q : Exit → Act → World → Prop} {effs pures : List Nat} {C : World → Prop} {R : List PanicEntry → List Deferred → World → Prop}

def treeAll (P : Program) (ops : Array Oper) (R : List PanicEntry → List Deferred → World → Prop) (Q : Exit → Act → World → Prop) (C : World → Prop) (effs pures : List Nat) : Plan → Act → World → Prop
  | .leaf, a, w => Q .normal a w
  | .step i t, a, w => lexStep P ops R Q C effs pures i (treeAll P ops R Q C effs pures t) a w
  | .fork i s k t, a, w => lexStep P ops R Q C effs pures i (treeAll P ops R Q C effs pures s) a w ∧ lexStep P ops R Q C effs pures k (treeAll P ops R Q C effs pures t) a w

def okT (ops : Array Oper) (effs pures : List Nat) : Plan → Bool
  | .leaf => true
  | .step i t => okT ops effs pures t && !t.idx.contains i && t.idx.all (fun j => commP ops effs pures i j || waits ops 12 j i)
  | .fork i s k t => okT ops effs pures s && okT ops effs pures t && !s.idx.contains i && !t.idx.contains k && (s.idx.length == t.idx.length) &&
      (i :: s.idx).all (fun j => (k :: t.idx).contains j) && (k :: t.idx).all (fun j => (i :: s.idx).contains j) &&
      s.idx.all (fun j => (j == k) || waits ops 12 j i || waits ops 12 j k)

def treeB (ops : Array Oper) (effs pures : List Nat) (t : Plan) : Bool :=
  ops.all (fun o => plainOp o.op) &&
  (List.range ops.size).all (fun j =>
    ((ops[j]?).map (fun o => o.after.all (fun e => !Region.binds .any e || decide (e.on < j)))).getD true &&
    ((ops[j]?).map (fun o => !pures.contains j || (Keep.simpleOp o.op && !effs.contains j))).getD true) &&
  okT ops effs pures t && (t.idx.length == ops.size) && t.idx.all (fun i => decide (i < ops.size)) && (List.range ops.size).all (fun i => t.idx.contains i)

theorem pull {j : Nat} (hp : ∀ (j : Nat) o, ops[j]? = some o → plainOp o.op = true) (hpe : ∀ (j : Nat) o, ops[j]? = some o → pures.contains j = true → effs.contains j = false) :
    ∀ t : Plan, okT ops effs pures t = true → (∀ i ∈ t.idx, i < ops.size) → j ∈ t.idx → (∀ i ∈ t.idx, i ≠ j → waits ops 12 j i = false) →
    ∃ t' : Plan, okT ops effs pures t' = true ∧ (∀ i, i ∈ t'.idx ↔ i ∈ t.idx ∧ i ≠ j) ∧ t'.idx.length + 1 = t.idx.length ∧
      ∀ a w, treeAll P ops R Q C effs pures t a w → lexStep P ops R Q C effs pures j (treeAll P ops R Q C effs pures t') a w := by
  intro t
  induction t with
  | leaf => intro _ _ hj; cases hj
  | step i t ih =>
    intro hok hlt hj hw
    simp only [okT, Bool.and_eq_true, Bool.not_eq_true', List.all_eq_true] at hok
    obtain ⟨⟨h1, h2⟩, h3⟩ := hok
    have h2' : i ∉ t.idx := fun hm => by rw [List.contains_iff_mem.2 hm] at h2; cases h2
    by_cases e : j = i
    · subst e
      refine ⟨t, h1, fun i => ?_, rfl, fun a w h => h⟩
      simp only [Plan.idx, List.mem_cons]
      constructor
      · intro hi; exact ⟨Or.inr hi, fun e => h2' (e ▸ hi)⟩
      · rintro ⟨hi | hi, hne⟩
        · exact absurd hi hne
        · exact hi
    · have hj' : j ∈ t.idx := by
        rcases List.mem_cons.1 hj with h | h
        · exact absurd h e
        · exact h
      obtain ⟨t', o1, o2, o3, o4⟩ := ih h1 (fun i hi => hlt i (List.mem_cons_of_mem _ hi)) hj' (fun i hi => hw i (List.mem_cons_of_mem _ hi))
      have hcm : commP ops effs pures i j = true := by
        have := h3 j hj'
        rw [Bool.or_eq_true] at this
        rcases this with h | h
        · exact h
        · rw [hw i (by simp [Plan.idx]) (fun e2 => e e2.symm)] at h; cases h
      have hil := hlt i (by simp [Plan.idx])
      have hjl := hlt j hj
      obtain ⟨oi, hoi⟩ : ∃ o, ops[i]? = some o := ⟨_, Array.getElem?_eq_getElem hil⟩
      obtain ⟨oj, hoj⟩ : ∃ o, ops[j]? = some o := ⟨_, Array.getElem?_eq_getElem hjl⟩
      refine ⟨.step i t', ?_, fun x => ?_, by simp [Plan.idx]; omega, fun a w h => ?_⟩
      · simp only [okT, Bool.and_eq_true, Bool.not_eq_true', List.all_eq_true]
        refine ⟨⟨o1, ?_⟩, fun x hx => h3 x ((o2 x).1 hx).1⟩
        cases hc : t'.idx.contains i with
        | false => rfl
        | true => exact absurd ((o2 i).1 (List.contains_iff_mem.1 hc)).1 h2'
      · simp only [Plan.idx, List.mem_cons, o2]
        constructor
        · rintro (h | ⟨h, h'⟩)
          · exact ⟨Or.inl h, fun e2 => e (e2.symm.trans h)⟩
          · exact ⟨Or.inr h, h'⟩
        · rintro ⟨h | h, h'⟩
          · exact Or.inl h
          · exact Or.inr ⟨h, h'⟩
      · have h0 : lexStep P ops R Q C effs pures i (lexStep P ops R Q C effs pures j (treeAll P ops R Q C effs pures t')) a w := lexStep_mono o4 h
        exact lex_swap hoi hoj (hp i oi hoi) (hp j oj hoj) hcm (hpe i oi hoi) (hpe j oj hoj) h0
  | fork i s k t ihs iht =>
    intro hok hlt hj hw
    simp only [okT, Bool.and_eq_true, Bool.not_eq_true', List.all_eq_true, beq_iff_eq] at hok
    obtain ⟨⟨⟨⟨⟨⟨⟨h1, h2⟩, h3⟩, h4⟩, h5⟩, h6⟩, h7⟩, h8⟩ := hok
    have h3' : i ∉ s.idx := fun hm => by rw [List.contains_iff_mem.2 hm] at h3; cases h3
    have h4' : k ∉ t.idx := fun hm => by rw [List.contains_iff_mem.2 hm] at h4; cases h4
    have sub1 : ∀ x, x ∈ i :: s.idx → x ∈ k :: t.idx := fun x hx => List.contains_iff_mem.1 (h6 x hx)
    have sub2 : ∀ x, x ∈ k :: t.idx → x ∈ i :: s.idx := fun x hx => List.contains_iff_mem.1 (h7 x hx)
    have shape : ∀ (j : Nat) (l : List Nat), j ∉ l → ∀ x, x ∈ l ↔ x ∈ j :: l ∧ x ≠ j := fun j l hn x => by
      simp only [List.mem_cons]
      constructor
      · intro hi; exact ⟨Or.inr hi, fun e => hn (e ▸ hi)⟩
      · rintro ⟨hi | hi, hne⟩
        · exact absurd hi hne
        · exact hi
    by_cases e : j = i
    · subst e
      exact ⟨s, h1, shape j s.idx h3', rfl, fun a w h => h.1⟩
    by_cases e2 : j = k
    · subst e2
      refine ⟨t, h2, fun x => (shape j t.idx h4' x).trans ⟨fun h => ⟨sub2 x h.1, h.2⟩, fun h => ⟨sub1 x h.1, h.2⟩⟩, by simp [Plan.idx]; omega, fun a w h => h.2⟩
    · exfalso
      have hj' : j ∈ s.idx := by
        rcases List.mem_cons.1 hj with h | h
        · exact absurd h e
        · exact h
      have := h8 j hj'
      rw [Bool.or_eq_true, Bool.or_eq_true, beq_iff_eq] at this
      rcases this with (h | h) | h
      · exact e2 h
      · rw [hw i (by simp [Plan.idx]) (fun e3 => e e3.symm)] at h; cases h
      · rw [hw k (sub2 k (by simp)) (fun e3 => e2 e3.symm)] at h; cases h

theorem treeB_spec {t : Plan} (h : treeB ops effs pures t = true) : (∀ (j : Nat) o, ops[j]? = some o → plainOp o.op = true) ∧
    (∀ (j : Nat) o, ops[j]? = some o → ∀ e ∈ o.after, Region.binds .any e = true → e.on < j) ∧ (∀ (j : Nat) o, ops[j]? = some o → pures.contains j = true → effs.contains j = false) ∧
    okT ops effs pures t = true ∧ t.idx.length = ops.size ∧ ∀ i, i ∈ t.idx ↔ i < ops.size := by
  unfold treeB at h
  simp only [Bool.and_eq_true, List.all_eq_true, beq_iff_eq, decide_eq_true_eq] at h
  obtain ⟨⟨⟨⟨⟨h1, h2⟩, h3⟩, h4⟩, h5⟩, h6⟩ := h
  have lt : ∀ (j : Nat) o, ops[j]? = some o → j < ops.size := fun j o ho => (Array.getElem?_eq_some_iff.1 ho).1
  refine ⟨fun j o ho => ?_, fun j o ho e he hb => ?_, fun j o ho hp => ?_, h3, h4, fun i => ⟨h5 i, fun hi => List.contains_iff_mem.1 (h6 i (List.mem_range.2 hi))⟩⟩
  · obtain ⟨hlt, rfl⟩ := Array.getElem?_eq_some_iff.1 ho
    exact (Array.all_eq_true.1 h1) j hlt
  · have := h2 j (List.mem_range.2 (lt j o ho))
    simp only [ho, Option.map_some, Option.getD_some, Bool.and_eq_true] at this
    have h3 := this.1
    rw [Array.all_eq_true_iff_forall_mem] at h3
    have h4 := h3 e he
    simp only [hb, Bool.not_true, Bool.false_or, decide_eq_true_eq] at h4
    exact h4
  · have := h2 j (List.mem_range.2 (lt j o ho))
    simp only [ho, Option.map_some, Option.getD_some, Bool.and_eq_true, hp, Bool.not_true, Bool.false_or, Bool.not_eq_true'] at this
    exact this.2.2

theorem wpAny_of_tree (hp : ∀ (j : Nat) o, ops[j]? = some o → plainOp o.op = true) (hback : ∀ (j : Nat) o, ops[j]? = some o → ∀ e ∈ o.after, Region.binds .any e = true → e.on < j)
    (hpe : ∀ (j : Nat) o, ops[j]? = some o → pures.contains j = true → effs.contains j = false) : ∀ (fuel : Nat) (t : Plan) (listed : Array Bool) (a : Act) (w : World), listed.size = ops.size → okT ops effs pures t = true → t.idx.length = fuel →
    (∀ i, i ∈ t.idx ↔ i < ops.size ∧ listed.getD i true = false) → Closed ops listed →
    C w → treeAll P ops R Q C effs pures t a w → wpAny P .any ops (Fall R Q) fuel listed a w := by
  intro fuel
  induction fuel with
  | zero =>
    intro t listed a w hsz hok hf hmem hc hcw h
    have ht : t = .leaf := by
      cases t with
      | leaf => rfl
      | step i t => simp [Plan.idx] at hf
      | fork i s k t => simp [Plan.idx] at hf
    subst ht
    refine ⟨?_, h⟩
    cases hr : Region.ready .any ops listed with
    | nil => rfl
    | cons i l =>
      obtain ⟨h1, o, ho, _⟩ := mem_ready.1 (by rw [hr]; simp : i ∈ Region.ready .any ops listed)
      have := (hmem i).2 ⟨(Array.getElem?_eq_some_iff.1 ho).1, h1⟩
      cases this
  | succ fuel ih =>
    intro t listed a w hsz hok hf hmem hc hcw h
    -- something is left, so something may come up: the first of what is left
    have first : Region.ready .any ops listed ≠ [] := by
      intro hr
      have hne : rest ops.size listed ≠ [] := by
        intro he
        obtain ⟨i, hi⟩ : ∃ i, i ∈ t.idx := by
          cases hx : t.idx with
          | nil => rw [hx] at hf; cases hf
          | cons i l => exact ⟨i, by simp⟩
        have h2 := (hmem i).1 hi
        have : i ∈ rest ops.size listed := by simp [rest]; exact ⟨h2.1, by simpa using h2.2⟩
        rw [he] at this; cases this
      have mem_rest : ∀ i, i ∈ rest ops.size listed ↔ i < ops.size ∧ listed.getD i true = false := by
        intro i; simp [rest]
      cases hl : rest ops.size listed with
      | nil => exact hne hl
      | cons i l =>
        have hi := (mem_rest i).1 (by rw [hl]; simp)
        have hsorted : (rest ops.size listed).Pairwise (· < ·) := List.Pairwise.filter _ List.pairwise_lt_range
        rw [hl] at hsorted
        have hmin : ∀ k, k < i → listed.getD k false = true := by
          intro k hk
          have hks : k < ops.size := Nat.lt_trans hk hi.1
          by_cases hx : listed.getD k true = false
          · have : k ∈ rest ops.size listed := (mem_rest k).2 ⟨hks, hx⟩
            rw [hl] at this
            rcases List.mem_cons.1 this with e | e
            · omega
            · have := (List.pairwise_cons.1 hsorted).1 k e; omega
          · have hks' : k < listed.size := by omega
            simp [hks'] at hx ⊢; exact hx
        have : i ∈ Region.ready .any ops listed := by
          obtain ⟨o, ho⟩ : ∃ o, ops[i]? = some o := ⟨_, Array.getElem?_eq_getElem hi.1⟩
          exact mem_ready.2 ⟨hi.2, o, ho, fun e he hb => hmin e.on (hback i o ho e he hb)⟩
        rw [hr] at this; cases this
    refine ⟨fun h0 => absurd h0 first, fun j hj => ?_⟩
    obtain ⟨hjun, oj, hoj, hall⟩ := mem_ready.1 hj
    have hjs : j < ops.size := (Array.getElem?_eq_some_iff.1 hoj).1
    have hjm : j ∈ t.idx := (hmem j).2 ⟨hjs, hjun⟩
    obtain ⟨t', o1, o2, o3, o4⟩ := pull (P := P) (Q := Q) (R := R) (C := C) hp hpe t hok (fun i hi => ((hmem i).1 hi).1) hjm (fun i hi hne => by
      cases hwt : waits ops 12 j i with
      | false => rfl
      | true =>
        exfalso
        have := waits_listed hc 12 j i hwt (fun o ho e he hb => by rw [hoj] at ho; cases ho; exact hall e he hb)
        have hir := (hmem i).1 hi
        have his : i < listed.size := by omega
        have h2 := hir.2
        simp [his] at this h2
        rw [this] at h2; cases h2)
    have hjl : j < listed.size := by omega
    have hclosed : Closed ops (listed.setIfInBounds j true) := by
      intro k o ho hk e he hb
      by_cases e1 : k = j
      · subst e1
        rw [hoj] at ho; cases ho
        exact getD_set_true (hall e he hb)
      · rw [getD_set_ne false (Ne.symm e1)] at hk
        exact getD_set_true (hc k o ho hk e he hb)
    refine wpOp_mono (fun a' w' hx => ?_) (lexStep_wpOp hcw (o4 a w h))
    refine ih t' (listed.setIfInBounds j true) a' w' (by simp [hsz]) o1 (by omega) (fun i => ?_) hclosed hx.1 hx.2
    rw [o2, hmem]
    by_cases e : i = j
    · subst e; simp [hjl]
    · rw [getD_set_ne true (Ne.symm e)]; simp [e]

theorem wp_region_tree {id : Nat} {l : List Oper} {a : Act} {w : World} (effs pures : List Nat) (t : Plan) (R : List PanicEntry → List Deferred → World → Prop) (hm : P.follows .mixedOrders = true) (hR : ∀ c a w, R c a.defers w → Q (.panic c) a w) (hB : treeB l.toArray effs pures t = true) (hC : C w.drew) (h : treeAll P l.toArray R Q C effs pures t a w.drew) : (Code.region id l.toArray true).wp P Q a w := by
  obtain ⟨b1, b2, b3, b4, b5, b6⟩ := treeB_spec hB
  have h1 : (Code.region id l.toArray true).wp P (Fall R Q) a w := by
    refine wp_region_any hm (wpAny_of_tree (effs := effs) (pures := pures) (Q := Q) (R := R) b1 b2 b3 l.toArray.size t (Array.replicate l.toArray.size false) a w.drew (by simp) b4 b5 (fun i => ?_) ?_ hC h)
    · rw [b6]
      constructor
      · intro hi; refine ⟨hi, ?_⟩; simp at hi; simp [hi]
      · intro hi; exact hi.1
    · intro k o ho hk
      have hks : k < l.toArray.size := (Array.getElem?_eq_some_iff.1 ho).1
      simp at hks
      simp [hks] at hk
  exact wp_mono h1 (fun e a w hq => hq.imp hR)

/-! ### The walk, piece by piece -/
variable {l : List Oper}

theorem tree_nil {a : Act} {w : World} (h : Q .normal a w) : treeAll P l.toArray R Q C effs pures .leaf a w := h

theorem tree_fork {i k : Nat} {s t : Plan} {a : Act} {w : World} (h1 : treeAll P l.toArray R Q C effs pures (.step i s) a w) (h2 : treeAll P l.toArray R Q C effs pures (.step k t) a w) :
    treeAll P l.toArray R Q C effs pures (.fork i s k t) a w := ⟨h1, h2⟩

def stillL (l : List Oper) (effs pures is : List Nat) : Bool := is.all (fun i => !effs.contains i && !pures.contains i && (nth l i).isSome)
def pureL (l : List Oper) (effs pures is : List Nat) : Bool := is.all (fun i => !effs.contains i && pures.contains i && (nth l i).any (fun o => Keep.simpleOp o.op))

theorem tree_still : ∀ (is : List Nat) {t : Plan} {a : Act} {w : World}, stillL l effs pures is = true →
    wpQuiet P l.toArray (fun w' => w' = w) (fun a' => treeAll P l.toArray R Q C effs pures t a' w) (pickL l is) a → treeAll P l.toArray R Q C effs pures (.steps is t) a w
  | [], _, _, _, _, h => h
  | i :: is, t, a, w, hn, h => by
    unfold stillL at hn
    simp only [List.all_cons, Bool.and_eq_true, Bool.not_eq_true'] at hn
    obtain ⟨o, ho⟩ := Option.isSome_iff_exists.1 hn.1.2
    have h0 : l.toArray[i]? = some o := by rw [nth_eq] at ho; simpa using ho
    unfold pickL at h
    rw [ho] at h
    have hq : qOp P l.toArray (fun w' => w' = w) i (wpQuiet P l.toArray (fun w' => w' = w) (fun a' => treeAll P l.toArray R Q C effs pures t a' w) (pickL l is)) a := by
      unfold qOp; simp only [h0]; exact h
    obtain ⟨v, hy, hK⟩ := yieldsIn_of_qOp h0 hq
    show lexStep P l.toArray R Q C effs pures i (treeAll P l.toArray R Q C effs pures (.steps is t)) a w
    unfold lexStep
    simp only [h0, hn.1.1.1, hn.1.1.2, Bool.false_eq_true, if_false]
    exact ⟨v, hy, tree_still is (by unfold stillL; exact hn.2) hK⟩

theorem tree_pure : ∀ (is : List Nat) {t : Plan} {a : Act} {w : World}, pureL l effs pures is = true →
    wpQuiet P l.toArray C (fun a' => treeAll P l.toArray R Q C effs pures t a' w) (pickL l is) a → treeAll P l.toArray R Q C effs pures (.steps is t) a w
  | [], _, _, _, _, h => h
  | i :: is, t, a, w, hn, h => by
    unfold pureL at hn
    simp only [List.all_cons, Bool.and_eq_true, Bool.not_eq_true'] at hn
    have ho : ∃ o, nth l i = some o ∧ Keep.simpleOp o.op = true := by
      have h2 := hn.1.2
      cases hx : nth l i with
      | none => rw [hx] at h2; cases h2
      | some o => rw [hx] at h2; exact ⟨o, rfl, h2⟩
    obtain ⟨o, ho, hs⟩ := ho
    have h0 : l.toArray[i]? = some o := by rw [nth_eq] at ho; simpa using ho
    unfold pickL at h
    rw [ho] at h
    have hq : qOp P l.toArray C i (wpQuiet P l.toArray C (fun a' => treeAll P l.toArray R Q C effs pures t a' w) (pickL l is)) a := by
      unfold qOp; simp only [h0]; exact h
    obtain ⟨v, hy, hK⟩ := yieldsIn_of_qOp h0 hq
    show lexStep P l.toArray R Q C effs pures i (treeAll P l.toArray R Q C effs pures (.steps is t)) a w
    unfold lexStep
    simp only [h0, hn.1.1.1, hn.1.1.2, Bool.false_eq_true, if_false, if_true]
    refine ⟨v, ?_, tree_pure is (by unfold pureL; exact hn.2) hK⟩
    rcases hy with ⟨hw, hv⟩ | ⟨hw, hv⟩
    · refine .inl ⟨hw, fun w' hw' => ?_⟩
      have h1 := hv w' hw'
      unfold Oper.quietAt at h1
      cases hr : (execOp a.eval o).run P w' with
      | halt x w1 => rw [hr] at h1; exact h1.elim
      | ok n w1 =>
        obtain ⟨u, rfl⟩ := Keep.simple_value hs w' n w1 hr
        rw [hr] at h1
        obtain ⟨e1, e2⟩ := h1
        rw [e1, e2]
    · exact .inr ⟨hw, hv⟩

/-- The operation that may do anything, found. -/
def wpOne (P : Program) (K : Act → World → Prop) (Q : Exit → Act → World → Prop) : List Oper → Act → World → Prop
  | [o], a, w => o.wp P a w K Q
  | _, _, _ => False

theorem wpOne_one {K : Act → World → Prop} {Q : Exit → Act → World → Prop} {o : Oper} {a : Act} {w : World} (h : o.wp P a w K Q) : wpOne P K Q [o] a w := h

theorem tree_eff {k : Nat} {t : Plan} {a : Act} {w : World} (he : effs.contains k = true) (hg : (nth l k).all (fun o => o.guard.isNone) = true)
    (h : ∀ K : Act → World → Prop, (∀ a w, C w → treeAll P l.toArray R Q C effs pures t a w → K a w) → wpOne P K (Fall R Q) (pickL l [k]) a w) : treeAll P l.toArray R Q C effs pures (.step k t) a w := by
  show lexStep P l.toArray R Q C effs pures k (treeAll P l.toArray R Q C effs pures t) a w
  cases hx : nth l k with
  | none =>
    have := h (fun a w => C w ∧ treeAll P l.toArray R Q C effs pures t a w) (fun a w hc ht => ⟨hc, ht⟩)
    unfold pickL at this
    rw [hx] at this
    exact this.elim
  | some o =>
    have h0 : l.toArray[k]? = some o := by rw [nth_eq] at hx; simpa using hx
    unfold lexStep
    simp only [h0, he, if_true]
    unfold wpOp
    simp only [h0]
    rw [hx] at hg
    rw [if_pos (by
      have : o.guard = none := by simpa using hg
      simp [Region.wanted, this])]
    refine Or.inl ?_
    have := h (fun a w => C w ∧ treeAll P l.toArray R Q C effs pures t a w) (fun a w hc ht => ⟨hc, ht⟩)
    unfold pickL at this
    rw [hx] at this
    exact this
end
end Go.Bw.Fall
/- A map from numbers, each of which has the value that a function gives: looked up, entered. No program is named. -/
namespace Go.Bw
open Go.RowKit Go.Maps Go.ChangeMaps
set_option linter.unusedVariables false
set_option linter.unusedSimpArgs false

def idR (v : Value) : Option (DataW Value × List MemPlace) := some (.held v, [])
def nkey (j : Nat) : Lit := .int .i64 (j : Int)
theorem nkey_ne {i j : Nat} (h : i ≠ j) : nkey i ≠ nkey j := by
  unfold nkey; intro e; injection e with _ e2; omega
theorem nkey_lit (j : Nat) : WideAt.IsKeyLit (nkey j) := trivial
theorem nkey_wf {j : Nat} (hj : j < 9223372036854775808) : (nkey j).wf = true := by
  unfold nkey
  have m1 : IntKind.min .i64 = -9223372036854775808 := rfl
  have m2 : IntKind.max .i64 = 9223372036854775807 := rfl
  have h1 : IntKind.min .i64 ≤ (j : Int) := by rw [m1]; omega
  have h2 : (j : Int) ≤ IntKind.max .i64 := by rw [m2]; omega
  simp only [Lit.wf, decide_eq_true h1, decide_eq_true h2]; rfl

/-- How many of these are still missing. -/
def lack (D : DataW Value) (L : Nat) : Nat := (List.range L).countP (fun j => !has D (nkey j))
theorem countP_flip {p q : Nat → Bool} : ∀ {L k : Nat}, k < L → p k = true → q k = false → (∀ j, j ≠ k → q j = p j) → (List.range L).countP q + 1 = (List.range L).countP p
  | 0, _, h, _, _, _ => by omega
  | L + 1, k, h, h1, h2, h3 => by
    rw [List.range_succ, List.countP_append, List.countP_append]
    simp only [List.countP_cons, List.countP_nil]
    by_cases e : k = L
    · subst e
      have : (List.range k).countP q = (List.range k).countP p := List.countP_congr (fun j hj => by rw [h3 j (by have := List.mem_range.1 hj; omega)])
      rw [this, h1, h2]; simp
    · have := countP_flip (p := p) (q := q) (show k < L by omega) h1 h2 h3
      rw [h3 L (fun e2 => e e2.symm)]
      omega

/-- A map of numbers below L, each with its value. -/
structure MapAt (w : World) (P : Program) (k : TypeId) (b L : Nat) (g : Nat → Value) : Prop where
  ex : ∃ n D, w.ownsMap P k idR b n D ∧ n + lack D L ≤ L ∧ ∀ j, j < L → has D (nkey j) = true → ∀ z, D.atKey (nkey j) z = .held (g j)
/-- .. and this one is missing. -/
structure MapMiss (w : World) (P : Program) (k : TypeId) (b L : Nat) (g : Nat → Value) (j : Nat) : Prop where
  ex : ∃ n D, w.ownsMap P k idR b n D ∧ n + lack D L ≤ L ∧ (∀ j, j < L → has D (nkey j) = true → ∀ z, D.atKey (nkey j) z = .held (g j)) ∧ has D (nkey j) = false
/-- .. and its entry is made, its value to be stored. -/
def MapHole (w : World) (P : Program) (t k : TypeId) (b L : Nat) (g : Nat → Value) (j st : Nat) : Prop :=
  ∃ es clock, w.heap[b]? = some (.map es clock) ∧ ∀ w2 : World, w2.heap[b]? = some (.map es clock) → ∃ w3, (Instr.entryStore t (.map (some b)) (goInt st) (g j)).run P w2 = .ok () w3 ∧ MapAt w3 P k b L g ∧ Mod (fun i => i = b) w2 w3

variable {w w' : World} {P : Program} {t k e : TypeId} {b L j : Nat} {g : Nat → Value}

theorem ownsMap_mod {n : Nat} {D : DataW Value} {S : Nat → Prop} (h : w.ownsMap P k idR b n D) (hm : Mod S w w') (hS : ¬ S b) : w'.ownsMap P k idR b n D := by
  obtain ⟨es, clock, hb, F, hs, hD⟩ := h
  exact ⟨es, clock, hm.heap hb hS, F, hs, hD⟩
theorem MapAt.mod {S : Nat → Prop} (h : MapAt w P k b L g) (hm : Mod S w w') (hS : ¬ S b) : MapAt w' P k b L g := by
  obtain ⟨n, D, h1, h2, h3⟩ := h.ex
  exact ⟨n, D, ownsMap_mod h1 hm hS, h2, h3⟩
theorem MapMiss.mod {S : Nat → Prop} (h : MapMiss w P k b L g j) (hm : Mod S w w') (hS : ¬ S b) : MapMiss w' P k b L g j := by
  obtain ⟨n, D, h1, h2, h3⟩ := h.ex
  exact ⟨n, D, ownsMap_mod h1 hm hS, h2, h3⟩
theorem MapHole.mod {S : Nat → Prop} {st : Nat} (h : MapHole w P t k b L g j st) (hm : Mod S w w') (hS : ¬ S b) : MapHole w' P t k b L g j st := by
  obtain ⟨es, clock, hb, h2⟩ := h
  exact ⟨es, clock, hm.heap hb hS, h2⟩
theorem MapMiss.at_ (h : MapMiss w P k b L g j) : MapAt w P k b L g := by
  obtain ⟨n, D, h1, h2, h3, _⟩ := h.ex
  exact ⟨n, D, h1, h2, h3⟩
/-- A map has no cells. -/
theorem MapAt.blind (h : MapAt w P k b L g) (o : Nat) : w.cell? ⟨b, o, none⟩ = none := by
  obtain ⟨n, D, ⟨es, clock, hb, _⟩, _⟩ := h.ex
  simp [World.cell?, hb]
theorem MapAt.lt (h : MapAt w P k b L g) : b < w.heap.size := by
  obtain ⟨n, D, h1, _⟩ := h.ex
  exact h1.lt
theorem MapAt.new (w : World) (P : Program) (k : TypeId) (L : Nat) (g : Nat → Value) : MapAt (w.alloc (.map #[] 0)) P k w.heap.size L g := by
  refine ⟨0, .map [], World.ownsMap_made w P k idR, ?_, fun j hj h => ?_⟩
  · unfold lack
    rw [Nat.zero_add]
    have := List.countP_le_length (p := fun j => !has (DataW.map [] : DataW Value) (nkey j)) (l := List.range L)
    simpa using this
  · simp [has] at h

/-- A number is looked up. -/
theorem MapAt.look (h : MapAt w P k b L g) (hk : P.underlying k = some (.int .i64)) (ht : P.underlying t = some (.map k e)) {z : Value} (hz : (zeroValue e).run P w = .ok z w) (hj : j < L) (hL : L < 9223372036854775808) :
    ((Instr.lookup t (.map (some b)) (.int .i64 (j : Int)) true).run P w = .ok (.tuple #[g j, .bool true]) w) ∨
    ((Instr.lookup t (.map (some b)) (.int .i64 (j : Int)) true).run P w = .ok (.tuple #[z, .bool false]) w ∧ MapMiss w P k b L g j) := by
  obtain ⟨n, D, h1, h2, h3⟩ := h.ex
  have hkey : keyOf P k (.int .i64 (j : Int)) = some (nkey j) := keyOf_int_mk hk (nkey_wf (by omega))
  obtain ⟨v, ps, hrun, hv⟩ := h1.look_ok (t := t) (e := e) (Maps.int_keyed hk) ht hz (zd := .held z) (zp := []) rfl hkey
  cases hh : has D (nkey j) with
  | true =>
    rw [h3 j hj hh] at hv
    have : v = g j := by simp [idR] at hv; exact hv.1
    subst this
    rw [hh] at hrun
    exact Or.inl hrun
  | false =>
    rw [atKey_of_not_has hh] at hv
    have : v = z := by simp [idR] at hv; exact hv.1
    subst this
    rw [hh] at hrun
    exact Or.inr ⟨hrun, ⟨n, D, h1, h2, h3, hh⟩⟩

/-- It is entered. -/
theorem MapMiss.enter (h : MapMiss w P k b L g j) (hk : P.underlying k = some (.int .i64)) (ht : P.underlying t = some (.map k e)) {z : Value} (hz : ∀ u : World, (zeroValue e).run P u = .ok z u) (hj : j < L) (hL : L < 140737488355328) :
    ∃ (v : Value) (st : Nat) (w1 : World), (Instr.mapEntry t (.map (some b)) (.int .i64 (j : Int))).run P w = .ok (.tuple #[v, goInt st]) w1 ∧ Mod (fun i => i = b) w w1 ∧ MapHole w1 P t k b L g j st := by
  obtain ⟨n, D, h1, h2, h3, hh⟩ := h.ex
  have hkey : keyOf P k (.int .i64 (j : Int)) = some (nkey j) := keyOf_int_mk hk (nkey_wf (by omega))
  have hcnt : ∀ d, lack (D.put (nkey j) d) L + 1 = lack D L := fun d => countP_flip (p := fun i => !has D (nkey i)) (q := fun i => !has (D.put (nkey j) d) (nkey i)) hj (by rw [hh]; rfl) (by rw [has_put_same h1.isMap (nkey_lit j)]; rfl) (fun i hi => by rw [has_put_other (nkey_ne hi)])
  have hisMap := h1.isMap
  obtain ⟨es, clock, hb, F, hs, hD⟩ := h1
  have modSet : ∀ (u : World) (es' : Array MapEntry) (c' : Nat) (es0 : Array MapEntry) (c0 : Nat), u.heap[b]? = some (.map es0 c0) → Mod (fun i => i = b) u (setBlock u b (.map es' c')) := fun u es' c' es0 c0 hu =>
    ⟨rfl, rfl, rfl, by simp [setBlock], fun i _ hi => heap_setBlock_other hu _ hi⟩
  have K := Maps.int_keyed (P := P) hk
  have hown : w.ownsMap P k idR b n D := ⟨es, clock, hb, F, hs, hD⟩
  rcases K.find w hkey es.toList F.keys with ⟨h1, _⟩ | ⟨i, e0, h1, _, _⟩
  case inr =>
    obtain ⟨v, ps, hrun, hv⟩ := hown.look_ok (t := t) (e := e) K ht (hz w) (zd := .held z) (zp := []) rfl hkey
    rw [hh] at hrun
    simp [Instr.lookup, run_underlying ht, MapKept.run_getObj_map hb, K.check w _ hkey, h1, Result.andThen] at hrun
  obtain ⟨s1, s2, _⟩ := F.stamped
  refine ⟨z, clock, setBlock w b (.map (es.push ⟨.int .i64 (j : Int), z, clock⟩) (clock + 1)), ?_, modSet _ _ _ _ _ hb, _, _, heap_setBlock_same hb _, fun w2 hw2 => ?_⟩
  · simp [Instr.mapEntry, run_underlying ht, MapKept.run_getObj_map hb, K.check w false hkey, h1, hz, MapKept.run_setObj_map _ hb, Result.andThen, setBlock]
  have hidx : (es.push ⟨.int .i64 (j : Int), z, clock⟩).findIdx? (fun e => ((e.born : Nat) : Int) == ((clock : Nat) : Int)) = some es.size := by
    rw [Array.findIdx?_eq_some_iff_getElem]
    refine ⟨by simp, by simp, fun i hi => ?_⟩
    have hi' : i < es.size := hi
    rw [Array.getElem_push_lt hi']
    have := s1 es[i] (by simp)
    simp; omega
  have hmod : (es.push ⟨.int .i64 (j : Int), z, clock⟩).modify es.size (fun e => { e with val := g j }) = es.push ⟨.int .i64 (j : Int), g j, clock⟩ := by
    apply Array.ext_getElem?
    intro i
    rw [Array.getElem?_modify, Array.getElem?_push, Array.getElem?_push]
    by_cases e1 : es.size = i
    · subst e1; simp
    · have e2 : ¬ i = es.size := fun e => e1 e.symm
      simp [e1, e2]
  obtain ⟨w', u1, u2, u3⟩ := hown.update (t := t) (e := e) K ht (by unfold maxLen; omega) hkey (val := g j) (d := .held (g j)) (ps := []) rfl
  have u0 : (Instr.mapUpdate t (.map (some b)) (.int .i64 (j : Int)) (g j)).run P w = .ok () (setBlock w b (.map (es.push ⟨.int .i64 (j : Int), g j, clock⟩) (clock + 1))) := by
    simp [Instr.mapUpdate, run_underlying ht, MapKept.run_getObj_map hb, K.check w false hkey, h1, MapKept.run_setObj_map _ hb, Result.andThen, setBlock]
  rw [u0] at u1
  have hw' : setBlock w b (.map (es.push ⟨.int .i64 (j : Int), g j, clock⟩) (clock + 1)) = w' := by simpa using u1
  subst hw'
  obtain ⟨es2, c2, v1, v2, v3, v4⟩ := u2
  rw [heap_setBlock_same hb] at v1
  have ev : es2 = es.push ⟨.int .i64 (j : Int), g j, clock⟩ ∧ c2 = clock + 1 := by simp only [Option.some.injEq, Obj.map.injEq] at v1; exact ⟨v1.1.symm, v1.2.symm⟩
  obtain ⟨rfl, rfl⟩ := ev
  refine ⟨setBlock w2 b (.map (es.push ⟨.int .i64 (j : Int), g j, clock⟩) (clock + 1)), ?_, ⟨n + 1, D.put (nkey j) (.held (g j)), ⟨_, _, heap_setBlock_same hw2 _, v2, v3, v4⟩, ?_, fun i hi hhi z => ?_⟩, modSet _ _ _ _ _ hw2⟩
  · simp [Instr.entryStore, MapKept.run_getObj_map hw2, asInt, asIntOf, goInt, hidx, hmod, MapKept.run_setObj_map _ hw2, Result.andThen, setBlock]
  · have := hcnt (.held (g j)); omega
  · by_cases e : i = j
    · subst e; exact atKey_put_same hisMap (nkey_lit i) _ _
    · rw [atKey_put_other (nkey_ne e)]
      rw [has_put_other (nkey_ne e)] at hhi
      exact h3 i hi hhi z
end Go.Bw

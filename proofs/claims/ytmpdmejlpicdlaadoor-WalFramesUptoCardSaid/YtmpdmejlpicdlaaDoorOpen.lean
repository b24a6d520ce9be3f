/- A datum that came in, opened part by part, whatever its type: what stands in its cells, and that each part is within the reach. No program is named. -/
import Derived.OpenShut
import Derived.SizedLaws
import Derived.Deep.Slices
import Derived.ChangeMaps
namespace Go.Bw
open Go.RowKit
set_option linter.unusedVariables false
set_option linter.unusedSimpArgs false

/-- The cells 'cs' hold a datum of type t that can be read, each part of it within the reach. -/
def HasVal (P : Program) (w : World) (t : TypeId) (cs : List Value) : Prop :=
  ∃ (H : Type) (enc : TypeId × Value → H) (base : Nat) (held : Bool) (fuel : Nat) (x : DataW H × List MemPlace),
    DataW.trod enc P w base (fun _ => true) held fuel t cs = some x ∧ ∀ n ∈ x.1.weights P t, n ≤ reachBytes

variable {P : Program} {w : World} {t e : TypeId} {cs : List Value}

theorem HasVal.int {k : IntKind} (ht : P.underlying t = some (.int k)) (h : HasVal P w t cs) : ∃ n, cs = [.int k n] ∧ (Lit.int k n).wf = true := by
  obtain ⟨H, enc, base, held, fuel, x, hx, hw⟩ := h
  obtain ⟨n, h1, h2, h3⟩ := DataW.trod_int ht hx
  exact ⟨n, h1, by assumption⟩

theorem HasVal.bool (ht : P.underlying t = some .bool) (h : HasVal P w t cs) : ∃ b, cs = [.bool b] := by
  obtain ⟨H, enc, base, held, fuel, x, hx, hw⟩ := h
  obtain ⟨n, h1, h2⟩ := DataW.trod_bool ht hx
  exact ⟨n, h1⟩

theorem HasVal.string (ht : P.underlying t = some .string) (h : HasVal P w t cs) : ∃ s : ByteArray, cs = [.string s] ∧ s.size ≤ reachBytes ∧ s.size ≤ maxLen := by
  obtain ⟨H, enc, base, held, fuel, x, hx, hw⟩ := h
  obtain ⟨s, h1, h2, h3⟩ := DataW.trod_string ht hx
  subst h2
  have := hw s.data.toList.length (by simp [DataW.weights])
  exact ⟨s, h1, by simpa using this, by assumption⟩

theorem weightsEach_mem {H : Type} {x : DataW H} {n : Nat} : ∀ {ts : List TypeId} {ds : List (DataW H)} {j : Nat} {u : TypeId}, ts[j]? = some u → ds[j]? = some x → n ∈ x.weights P u → n ∈ DataW.weightsEach P ts ds :=
  fun ht hd hn => DataW.weights_mem_each ht hd n hn

theorem HasVal.struct {fs : Array Field} (ht : P.underlying t = some (.struct fs)) (h : HasVal P w t cs) :
    cs.length = P.cellsOf t ∧ ∀ (i : Nat) (f : Field), fs[i]? = some f → HasVal P w f.type ((cs.drop f.offset).take (P.cellsOf f.type)) := by
  obtain ⟨H, enc, base, held, fuel, x, hx, hw⟩ := h
  obtain ⟨xs, n, _, rfl, hl, hlen, hf⟩ := DataW.trod_struct ht hx
  refine ⟨hl, fun i f hfi => ?_⟩
  have hi : i < xs.length := by
    rw [hlen]; exact (Array.getElem?_eq_some_iff.1 hfi).1
  have h1 := hf i f hfi
  rw [List.getElem?_eq_getElem hi] at h1
  refine ⟨H, enc, base, held, n, xs[i], h1, fun m hm => hw m ?_⟩
  simp only [DataW.weights, ht]
  exact weightsEach_mem (j := i) (u := f.type) (x := xs[i].1) (by simp [hfi]) (by simp [hi]) hm

/-- A field of one cell. -/
theorem HasVal.field {fs : Array Field} (ht : P.underlying t = some (.struct fs)) (h : HasVal P w t cs) (i : Nat) {u : TypeId} (hf : (fs[i]?).map (fun f => (f.type, f.offset)) = some (u, i)) (hc : P.cellsOf u = 1) {c : Value} (hci : cs[i]? = some c) : HasVal P w u [c] := by
  obtain ⟨_, hh⟩ := h.struct ht
  obtain ⟨f, hfi, he⟩ := Option.map_eq_some_iff.1 hf
  have h1 := hh i f hfi
  simp only [Prod.mk.injEq] at he
  rw [he.1, he.2, hc] at h1
  have hi := (List.getElem?_eq_some_iff.1 hci).1
  have e : (cs.drop i).take 1 = [c] := by
    rw [List.drop_eq_getElem_cons hi]
    simp only [List.take_succ_cons, List.take_zero]
    rw [(List.getElem?_eq_some_iff.1 hci).2]
  rw [e] at h1
  exact h1

theorem weightsAll_mem {H : Type} {n : Nat} {x : DataW H} : ∀ {ds : List (DataW H)}, x ∈ ds → n ∈ x.weights P e → n ∈ DataW.weightsAll P e ds
  | d :: r, h, hn => by
    simp only [DataW.weightsAll, List.mem_append]
    rcases List.mem_cons.1 h with rfl | h
    · exact Or.inl hn
    · exact Or.inr (weightsAll_mem h hn)

theorem HasVal.slice (ht : P.underlying t = some (.slice e)) (h : HasVal P w t cs) :
    ∃ (a : Option Addr) (len cap : Nat), cs = [.slice a len cap] ∧ len ≤ cap ∧ cap ≤ maxLen ∧ (a = none → cap = 0) ∧ cap * P.bytesOf e ≤ reachBytes ∧
      ∀ x, a = some x → ∀ i, i < cap → ∃ cs', cs'.length = P.cellsOf e ∧ (∀ j v, cs'[j]? = some v → w.cell? (x.add (i * P.cellsOf e + j)) = some v) ∧ HasVal P w e cs' := by
  obtain ⟨H, enc, base, held, fuel, x, hx, hw⟩ := h
  rcases Deep.open_slice ht hx with ⟨rfl, rfl⟩ | ⟨a, len, cap, m, n, D, Pl, rfl, hb, hl, hm, hmm, rfl, hel⟩
  · exact ⟨none, 0, 0, rfl, Nat.le_refl _, Nat.zero_le _, fun _ => rfl, by simp, fun x hx => by cases hx⟩
  · simp only [if_true] at hmm
    subst hmm
    refine ⟨some a, len, m, rfl, hl, hm, (fun h => by cases h), ?_, fun x hxa i hi => ?_⟩
    · have := hw ((len + (m - len)) * P.bytesOf e) (by simp [DataW.weights, ht])
      rwa [show len + (m - len) = m from by omega] at this
    · cases hxa
      obtain ⟨cs', h1, h2⟩ := hel i hi
      obtain ⟨_, h3, h4⟩ := World.cells?_some h1
      refine ⟨cs', h3, fun j v hj => ?_, H, enc, base, held, n, (D i, Pl i), h2, fun q hq => hw q ?_⟩
      · have hjl : j < P.cellsOf e := by rw [← h3]; exact (List.getElem?_eq_some_iff.1 hj).1
        rw [← Deep.add_add, h4 j hjl]; exact hj
      · simp only [DataW.weights, ht, List.mem_cons, List.mem_append]
        right
        by_cases hil : i < len
        · exact Or.inl (weightsAll_mem (x := D i) (List.mem_map.2 ⟨i, List.mem_range.2 hil, rfl⟩) hq)
        · exact Or.inr (weightsAll_mem (x := D i) (List.mem_map.2 ⟨i - len, List.mem_range.2 (by omega), by congr 1; omega⟩) hq)

theorem plain_addr {a : Addr} {v : Value} (h : w.cell? (a.add 0) = some v) : a = ⟨a.block, a.off, none⟩ := by
  obtain ⟨b, o, sp⟩ := a
  cases sp with
  | none => rfl
  | some s => simp [World.cell?, Addr.add] at h; split at h <;> cases h
theorem add_plain (b o j : Nat) : (⟨b, o, none⟩ : Addr).add j = ⟨b, o + j, none⟩ := by cases j <;> simp [Addr.add]

/-- A slice's elements, their cells in a block's own words. -/
theorem HasVal.row {n : Nat} (ht : P.underlying t = some (.slice e)) (hn : P.cellsOf e = n) (h0 : 0 < n) (h : HasVal P w t cs) :
    ∃ (a : Option Addr) (len cap : Nat), cs = [.slice a len cap] ∧ len ≤ cap ∧ cap ≤ maxLen ∧ (a = none → cap = 0) ∧ cap * P.bytesOf e ≤ reachBytes ∧
      ∀ i, i < cap → ∃ b o cs', a = some ⟨b, o, none⟩ ∧ cs'.length = n ∧ (∀ j v, cs'[j]? = some v → w.cell? ⟨b, o + i * n + j, none⟩ = some v) ∧ HasVal P w e cs' := by
  obtain ⟨a, len, cap, hv, hl, hm, hnil, hsz, hel⟩ := h.slice ht
  rw [hn] at hel
  refine ⟨a, len, cap, hv, hl, hm, hnil, hsz, fun i hi => ?_⟩
  cases a with
  | none => have := hnil rfl; omega
  | some a =>
    obtain ⟨cs', h1, h2, h3⟩ := hel a rfl i hi
    obtain ⟨cs0, g1, g2, _⟩ := hel a rfl 0 (by omega)
    have hp := plain_addr (by simpa using g2 0 (cs0[0]'(by omega)) (List.getElem?_eq_getElem _))
    refine ⟨a.block, a.off, cs', by rw [← hp], h1, fun j v hj => ?_, h3⟩
    have := h2 j v hj
    rw [hp, add_plain] at this
    rw [Nat.add_assoc]; exact this

theorem HasVal.array {n : Nat} (ht : P.underlying t = some (.array n e)) (h : HasVal P w t cs) :
    cs.length = P.cellsOf t ∧ ∀ i, i < n → HasVal P w e ((cs.drop (i * P.cellsOf e)).take (P.cellsOf e)) := by
  obtain ⟨H, enc, base, held, fuel, x, hx, hw⟩ := h
  obtain ⟨xs, m, _, rfl, hl, hlen, hf⟩ := DataW.trod_array ht hx
  refine ⟨hl, fun i hi => ?_⟩
  have h1 := hf i hi
  rw [List.getElem?_eq_getElem (by omega)] at h1
  refine ⟨H, enc, base, held, m, _, h1, fun q hq => hw q ?_⟩
  simp only [DataW.weights, ht]
  exact weightsAll_mem (x := (xs[i]'(by omega)).1) (List.mem_map.2 ⟨_, List.getElem_mem _, rfl⟩) hq

/-- An argument of a call within the reach. -/
theorem hasVal_arg {H : Type} {enc : TypeId × Value → H} {base : Nat} {held : Bool} {ts : List TypeId} {ds : List (DataW H)} {v : Value} {d : DataW H} {p : List MemPlace} {j : Nat}
    (h : DataW.Trod enc P w base (fun _ => true) held t v d p) (hsz : (DataW.weightsEach P ts ds).all (· ≤ reachBytes) = true) (ht : ts[j]? = some t) (hd : ds[j]? = some d) : HasVal P w t v.cells.toList := by
  obtain ⟨fuel, hf⟩ := h
  exact ⟨H, enc, base, held, fuel, (d, p), hf, fun n hn => by simpa using List.all_eq_true.1 hsz n (weightsEach_mem ht hd hn)⟩
end Go.Bw

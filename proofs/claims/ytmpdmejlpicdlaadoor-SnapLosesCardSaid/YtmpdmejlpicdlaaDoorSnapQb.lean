/- SnapLoses, plainly: what is loaded, and that it goes on. -/
import Derived.Test.YtmpdmejlpicdlaaDoorSnapQ
namespace Go.Proofs.YtmpdmejlpicdlaaDoor
open Go.RowKit Go.Bw Go.Maps
set_option linter.unusedVariables false
set_option linter.unusedSimpArgs false

def lastOf : Option (Int × List Int) → Int × List Int
  | none => (-1, [])
  | some q => q
theorem load_entry {n : Int} (h0 : 0 ≤ n) (h1 : n ≤ 999999999) {body : List Int} (hl : body.length ≤ 262144) (r : Int × List Int) : loadStep (entry n body) r = (n, body) := by
  unfold loadStep entry Cont.all
  simp only [List.append_nil]
  rw [nm_no h0 h1, if_neg (by omega), decode_self h0 h1 (by omega)]
  simp
theorem load_last {p : Option (Int × List Int)} {n : Int} (hp : Good p n) (h1 : n ≤ 999999999) (r : List (Nm × Cont)) : loadGo (last1 p ++ r) (-1, []) = loadGo r (lastOf p) := by
  cases p with
  | none => rfl
  | some q =>
    obtain ⟨a, b, c⟩ := hp q rfl
    show loadGo r (loadStep (entry q.1 q.2) (-1, [])) = _
    rw [load_entry a (by omega) c]; rfl
theorem load_snug {A : ADsk} {p : Option (Int × List Int)} {n : Int} (h : Snug A p) (hp : Good p n) (h1 : n ≤ 999999999) : loadGo A.files (-1, []) = lastOf p := by
  have := load_last hp h1 []
  rw [List.append_nil] at this
  rw [h.files, this]; rfl
theorem draft_no : snapNo draft = -1 := by decide
theorem load_cut {p : Option (Int × List Int)} {n : Int} (hp : Good p n) (h0 : 0 ≤ n) (h1 : n ≤ 999999999) {body : List Int} (hl : body.length ≤ 262144) {F : List (Nm × Cont)} (h : CutF p n body F) :
    loadGo F (-1, []) = lastOf p ∨ loadGo F (-1, []) = (n, body) := by
  rcases h with ⟨k, rfl⟩ | rfl
  · left
    have := load_last hp h1 []
    rw [List.append_nil] at this
    show loadGo (last1 p) (loadStep (draft, _) (-1, [])) = _
    rw [show loadStep (draft, (⟨(encode n body).take k, []⟩ : Cont)) (-1, []) = (-1, []) from by
      unfold loadStep; rw [if_pos (show snapNo draft < 0 from by rw [draft_no]; decide)], this]; rfl
  · right
    rw [load_last hp h1]
    show loadStep (entry n body) _ = _
    exact load_entry h0 h1 hl _
def BytesO (p : Option (Int × List Int)) : Prop := ∀ q, p = some q → Bytes q.2
theorem bytes_last {p : Option (Int × List Int)} (h : BytesO p) : BytesF (last1 p) := by
  cases p with
  | none => intro f hf; cases hf
  | some q =>
    intro f hf
    rcases List.mem_singleton.1 hf with rfl
    show Bytes (encode q.1 q.2 ++ [])
    rw [List.append_nil]; exact encode_bytes (h q rfl)
theorem bytes_cut {p : Option (Int × List Int)} {n : Int} {body : List Int} (h : BytesO p) (hb : Bytes body) {F : List (Nm × Cont)} (hc : CutF p n body F) : BytesF F := by
  rcases hc with ⟨k, rfl⟩ | rfl
  · intro f hf
    rcases List.mem_cons.1 hf with rfl | hf
    · show Bytes ((encode n body).take k ++ [])
      rw [List.append_nil]
      exact fun x hx => encode_bytes hb x (List.mem_of_mem_take hx)
    · exact bytes_last h f hf
  · intro f hf
    rcases List.mem_append.1 hf with hf | hf
    · exact bytes_last h f hf
    · rcases List.mem_singleton.1 hf with rfl
      show Bytes (encode n body ++ [])
      rw [List.append_nil]; exact encode_bytes hb

/-! ### It goes on -/
theorem look_drop_ne {F : List (Nm × Cont)} {n x : Nm} (h : x ≠ n) : lookF (drop F n) x = lookF F x := by
  induction F with
  | nil => rfl
  | cons y r ih =>
    by_cases hy : y.1 = n
    · have e1 : drop (y :: r) n = drop r n := by simp [drop, hy]
      rw [e1, ih]
      unfold lookF
      rw [List.find?_cons]
      have : (y.1 == x) = false := by rw [hy]; simpa using Ne.symm h
      rw [this]
    · have e1 : drop (y :: r) n = y :: drop r n := by simp [drop, hy]
      rw [e1]
      unfold lookF at ih ⊢
      rw [List.find?_cons, List.find?_cons]
      cases hh : (y.1 == x) with
      | true => rfl
      | false => exact ih
theorem look_drop_self (F : List (Nm × Cont)) (n : Nm) : lookF (drop F n) n = none := by
  unfold lookF
  rw [List.find?_eq_none.2 (fun p hp => by have := (mem_drop.1 hp).2; simpa using this)]; rfl
theorem remove_ok {A : ADsk} {n : Nm} (ho : A.off = false) (ha : A.ar = 0) (hn : namedB n = true) (hf : lookF A.files n ≠ none) :
    ∃ A', A.remove n = (A', 0) ∧ A'.off = false ∧ A'.ar = 0 ∧ A'.files = drop A.files n ∧ A'.room = A.room := by
  have h1 : A.there n = 0 := by
    cases hl : lookF A.files n with
    | none => exact absurd hl hf
    | some c => simp [ADsk.there, ADsk.ready, hn, ho, hl]
  unfold ADsk.remove
  rw [if_neg (by rw [h1]; simp)]
  unfold ADsk.does
  rw [if_neg (by omega)]
  exact ⟨_, rfl, ho, by simp [ADsk.armed, ha], rfl, rfl⟩
theorem saveGo_ok (n : Int) : ∀ (l : List Nm) (A : ADsk), A.off = false → A.ar = 0 → l.Nodup → (∀ x ∈ l, lookF A.files x ≠ none ∧ namedB x = true) →
    ∃ A', saveGo n l A = (A', 0) ∧ A'.off = false ∧ (∀ f ∈ A'.files, f ∈ A.files) ∧ (∀ f ∈ A.files, snapNo f.1 < 0 ∨ snapNo f.1 = n → f ∈ A'.files) ∧ (∀ f ∈ A'.files, f.1 ∈ l → snapNo f.1 < 0 ∨ snapNo f.1 = n) ∧ A'.files.Sublist A.files
  | [], A, ho, _, _, _ => ⟨A, rfl, ho, fun _ h => h, fun _ h _ => h, (fun _ _ h => by cases h), List.Sublist.refl _⟩
  | x :: r, A, ho, ha, hd, hf => by
    obtain ⟨hx, hr⟩ := List.nodup_cons.1 hd
    unfold saveGo
    split
    · rename_i hs
      obtain ⟨A', h1, h2, h3, h4, h5, h6⟩ := saveGo_ok n r A ho ha hr (fun y hy => hf y (by simp [hy]))
      refine ⟨A', h1, h2, h3, h4, fun f hf' hl => ?_, h6⟩
      rcases List.mem_cons.1 hl with e | hl
      · rw [e]; exact hs
      · exact h5 f hf' hl
    · rename_i hs
      obtain ⟨A1, g1, g2, g3, g4, _⟩ := remove_ok ho ha (hf x (by simp)).2 (hf x (by simp)).1
      rw [g1, if_neg (by simp)]
      obtain ⟨A', h1, h2, h3, h4, h5, h6⟩ := saveGo_ok n r A1 g2 g3 hr (fun y hy => by
        rw [g4, look_drop_ne (fun e => hx (by rw [← e]; exact hy))]
        exact hf y (by simp [hy]))
      rw [g4] at h3 h4 h6
      refine ⟨A', h1, h2, fun f hf' => (mem_drop.1 (h3 f hf')).1, fun f hf' hc => h4 f (mem_drop.2 ⟨hf', fun e => hs (by rw [← e]; exact hc)⟩) hc, fun f hf' hl => ?_, h6.trans List.filter_sublist⟩
      rcases List.mem_cons.1 hl with e | hl
      · exact absurd e (mem_drop.1 (h3 f hf')).2
      · exact h5 f hf' hl
/-- Where all files but one are no snapshots. -/
theorem load_only {n : Int} (h0 : 0 ≤ n) (h1 : n ≤ 999999999) {body : List Int} (hl : body.length ≤ 262144) : ∀ (F : List (Nm × Cont)) (r : Int × List Int), (∀ f ∈ F, snapNo f.1 < 0 ∨ f = entry n body) → (entry n body ∈ F ∨ r = (n, body)) → loadGo F r = (n, body)
  | [], r, _, h => by
    rcases h with h | h
    · cases h
    · exact h
  | f :: F, r, hf, h => by
    show loadGo F (loadStep f r) = _
    refine load_only h0 h1 hl F _ (fun g hg => hf g (by simp [hg])) ?_
    rcases hf f (by simp) with hs | rfl
    · have e : loadStep f r = r := by unfold loadStep; rw [if_pos hs]
      rw [e]
      rcases h with h | h
      · rcases List.mem_cons.1 h with e2 | h
        · rw [← e2] at hs
          have := nm_no h0 h1
          unfold entry at hs
          simp only at hs
          omega
        · exact Or.inl h
      · exact Or.inr h
    · right; exact load_entry h0 h1 hl _
theorem total_drop_le (F : List (Nm × Cont)) (n : Nm) : total (drop F n) ≤ total F := by
  induction F with
  | nil => exact Nat.le_refl _
  | cons y r ih =>
    by_cases hy : y.1 = n
    · have e1 : drop (y :: r) n = drop r n := by simp [drop, hy]
      rw [e1]; simp only [total, List.map_cons, List.sum_cons] at ih ⊢; omega
    · have e1 : drop (y :: r) n = y :: drop r n := by simp [drop, hy]
      rw [e1]; simp only [total, List.map_cons, List.sum_cons] at ih ⊢; omega
theorem rising_names {F : List (Nm × Cont)} (h : Rising F) : (F.map (·.1)).Nodup := by
  unfold List.Nodup
  rw [List.pairwise_map]
  exact h.imp (fun hb => before_ne hb)
theorem rising_onFile {F : List (Nm × Cont)} (h : Rising F) (n : Nm) (g : Cont → Cont) : Rising (ADsk.onFile n g F) := by
  unfold Rising ADsk.onFile
  rw [List.pairwise_map]
  refine h.imp (fun {a b} hb => ?_)
  have f : ∀ p : Nm × Cont, (if p.1 = n then (p.1, g p.2) else p).1 = p.1 := fun p => by split <;> rfl
  rw [f, f]; exact hb
theorem save_ok {A : ADsk} {n : Int} {body : List Int} (h0 : 0 ≤ n) (h1 : n ≤ 999999999) (hl : body.length ≤ 1048564) (ho : A.off = false) (ha : A.ar = 0) (hr : Rising A.files) (hn : ∀ p ∈ A.files, namedB p.1 = true)
    (hf : A.files.length ≤ 15) (ht : ((total A.files + (body.length + 12) : Nat) : Int) ≤ A.room) (hl2 : body.length ≤ 262144) (hall : ∀ f ∈ A.files, f.1 = draft ∨ 0 ≤ snapNo f.1) :
    ∃ A', saveA A n body = (A', 0) ∧ A'.off = false ∧ A'.files = [entry n body] := by
  have el := encode_length n body
  have dn : namedB draft = true := rfl
  unfold saveA
  rw [if_neg (nm_ne h0 h1), if_neg (by omega), ho]
  simp only [Bool.false_eq_true, if_false]
  have start : ∃ A1, (if (A.read draft).2 = 0 then A.remove draft else (A, 0)) = (A1, 0) ∧ A1.off = false ∧ A1.ar = 0 ∧ A1.room = A.room ∧ A1.files = drop A.files draft := by
    cases hd : lookF A.files draft with
    | none =>
      have e : A.read draft = ([], 21) := by simp [ADsk.read, ADsk.there, ADsk.ready, dn, ho, hd]
      rw [e, if_neg (by simp)]
      refine ⟨A, rfl, ho, ha, rfl, ?_⟩
      have := look_none hd
      unfold drop
      rw [List.filter_eq_self.2 (fun p hp => by simpa using this p hp)]
    | some c =>
      have e : (A.read draft).2 = 0 := by simp [ADsk.read, ADsk.there, ADsk.ready, dn, ho, hd]
      rw [if_pos e]
      obtain ⟨A', g1, g2, g3, g4, g5⟩ := remove_ok ho ha dn (by rw [hd]; simp)
      exact ⟨A', g1, g2, g3, g5, g4⟩
  obtain ⟨A1, e1, o1, a1, r1, f1⟩ := start
  rw [e1]
  unfold save1
  rw [if_neg (by simp)]
  have t1 : total A1.files ≤ total A.files := by rw [f1]; exact total_drop_le _ _
  have l1 : A1.files.length ≤ 15 := by rw [f1]; exact Nat.le_trans (List.length_filter_le _ _) hf
  have k1 : lookF A1.files draft = none := by rw [f1]; exact look_drop_self _ _
  have s1 : Rising A1.files := by rw [f1]; exact rising_drop hr _
  have n1 : ∀ p ∈ A1.files, namedB p.1 = true := fun p hp => by rw [f1] at hp; exact hn p (mem_drop.1 hp).1
  have app : ∃ A2, A1.append draft (encode n body) = (A2, 0) ∧ A2.off = false ∧ A2.ar = 0 ∧ A2.files = put A1.files draft ⟨[], encode n body⟩ := by
    unfold ADsk.append
    rw [if_neg (by simp [ADsk.ready, dn, o1])]
    simp only [k1, Option.getD_none, Option.isNone_none, true_and]
    rw [if_neg (by simp [Cont.len]; omega), if_neg (by intro h; rcases h with h | h; omega; rw [r1] at h; omega), if_neg (by omega)]
    exact ⟨_, rfl, o1, by simp [ADsk.armed, a1], rfl⟩
  obtain ⟨A2, e2, o2, a2, f2⟩ := app
  rw [e2]
  unfold save2
  rw [if_neg (by simp)]
  have s2 : Rising A2.files := by rw [f2]; exact rising_put s1 _ _
  have m2 : (draft, (⟨[], encode n body⟩ : Cont)) ∈ A2.files := by rw [f2]; exact mem_ins.2 (Or.inl rfl)
  have k2 : lookF A2.files draft = some ⟨[], encode n body⟩ := look_of_mem s2 m2
  have n2 : ∀ p ∈ A2.files, namedB p.1 = true := fun p hp => by
    rw [f2] at hp
    rcases mem_ins.1 hp with rfl | hp
    · exact dn
    · exact n1 p (mem_drop.1 hp).1
  have sy : ∃ A3, A2.sync draft = (A3, 0) ∧ A3.off = false ∧ A3.ar = 0 ∧ A3.files = ADsk.onFile draft (fun c => ⟨c.safe ++ c.wait, []⟩) A2.files := by
    unfold ADsk.sync
    rw [if_neg (by simp [ADsk.there, ADsk.ready, dn, o2, k2])]
    unfold ADsk.does
    rw [if_neg (by omega)]
    exact ⟨_, rfl, o2, by simp [ADsk.armed, a2], rfl⟩
  obtain ⟨A3, e3, o3, a3, f3⟩ := sy
  rw [e3]
  unfold save3
  rw [if_neg (by simp)]
  have s3 : Rising A3.files := by rw [f3]; exact rising_onFile s2 _ _
  have m3 : (draft, (⟨encode n body, []⟩ : Cont)) ∈ A3.files := by
    rw [f3]
    exact List.mem_map.2 ⟨_, m2, by simp⟩
  have k3 : lookF A3.files draft = some ⟨encode n body, []⟩ := look_of_mem s3 m3
  have n3 : ∀ p ∈ A3.files, namedB p.1 = true := fun p hp => by
    rw [f3] at hp
    obtain ⟨q, hq, rfl⟩ := List.mem_map.1 hp
    have := n2 q hq
    split <;> exact this
  have rn : ∃ A4, A3.rename draft (nm9 115 0 n) = (A4, 0) ∧ A4.off = false ∧ A4.ar = 0 ∧ A4.files = put (drop A3.files draft) (nm9 115 0 n) ⟨encode n body, []⟩ := by
    have hth : A3.there draft = 0 := by simp [ADsk.there, ADsk.ready, dn, o3, k3]
    unfold ADsk.rename
    rw [hth, if_neg (by decide), nm_named h0 h1, if_neg (by decide), if_neg (by decide)]
    unfold ADsk.does
    rw [if_neg (by omega), k3]
    exact ⟨_, rfl, o3, by simp [ADsk.armed, a3], rfl⟩
  obtain ⟨A4, e4, o4, a4, f4⟩ := rn
  rw [e4]
  unfold save4
  rw [if_neg (by simp)]
  have s4 : Rising A4.files := by rw [f4]; exact rising_put (rising_drop s3 _) _ _
  have n4 : ∀ p ∈ A4.files, namedB p.1 = true := fun p hp => by
    rw [f4] at hp
    rcases mem_ins.1 hp with rfl | hp
    · exact nm_named h0 h1
    · exact n3 p (mem_drop.1 (mem_drop.1 hp).1).1
  have hnm : A4.names = A4.files.map (·.1) := by unfold ADsk.names; rw [o4]; rfl
  rw [hnm]
  obtain ⟨A', g1, g2, g3, g4, g5, g6⟩ := saveGo_ok n (A4.files.map (·.1)) A4 o4 a4 (rising_names s4) (fun x hx => by
    obtain ⟨q, hq, rfl⟩ := List.mem_map.1 hx
    exact ⟨by rw [look_of_mem s4 hq]; simp, n4 q hq⟩)
  have hm : entry n body ∈ A4.files := by rw [f4]; exact mem_ins.2 (Or.inl rfl)
  have only : ∀ f ∈ A'.files, f = entry n body := fun f hf' => by
    have h4 := g3 f hf'
    have hs := g5 f hf' (List.mem_map.2 ⟨f, h4, rfl⟩)
    rw [f4] at h4
    rcases mem_ins.1 h4 with rfl | h4
    · rfl
    · exfalso
      obtain ⟨h5a, h5b⟩ := mem_drop.1 h4
      obtain ⟨h5, h6⟩ := mem_drop.1 h5a
      rw [f3] at h5
      obtain ⟨q, hq, hqe⟩ := List.mem_map.1 h5
      have hq1 : f.1 = q.1 := by rw [← hqe]; split <;> rfl
      rw [hq1] at hs h6 h5b
      rw [f2] at hq
      rcases mem_ins.1 hq with rfl | hq
      · exact h6 rfl
      · have h7 := (mem_drop.1 hq).1
        rw [f1] at h7
        have h8 := hall q (mem_drop.1 h7).1
        rcases hs with hs | hs
        · rcases h8 with h8 | h8
          · exact h6 h8
          · omega
        · have hne : num9 115 0 (-1) q.1 ≠ -1 := by
            show snapNo q.1 ≠ -1
            rw [hs]; omega
          have := (nm9_num9 hne).1
          apply h5b
          rw [← this]; congr 1
  have hin := g4 _ hm (Or.inr (nm_no h0 h1))
  have hnd : A'.files.Nodup := by
    have h9 : Rising A'.files := List.Pairwise.sublist g6 s4
    unfold List.Nodup
    exact h9.imp (fun hb e => by rw [e, before_irrefl] at hb; cases hb)
  refine ⟨A', g1, g2, ?_⟩
  cases hA : A'.files with
  | nil => rw [hA] at hin; cases hin
  | cons x r =>
    rw [hA] at only hnd
    have hx := only x (by simp)
    cases r with
    | nil => rw [hx]
    | cons y r =>
      have hy := only y (by simp)
      have := (List.nodup_cons.1 hnd).1
      exact absurd (by rw [hx, hy]; simp) this

structure Few (F : List (Nm × Cont)) : Prop where
  len : F.length ≤ 2
  tot : total F ≤ 524312
  all : ∀ f ∈ F, f.1 = draft ∨ 0 ≤ snapNo f.1
theorem few_last {p : Option (Int × List Int)} {n : Int} (hp : Good p n) (h1 : n ≤ 999999999) : Few (last1 p) := by
  refine ⟨by have := last_len p; omega, by have := last_total hp; omega, fun f hf => ?_⟩
  cases p with
  | none => cases hf
  | some q =>
    obtain ⟨a, b, _⟩ := hp q rfl
    rcases List.mem_singleton.1 hf with rfl
    right
    show 0 ≤ snapNo (nm9 115 0 q.1)
    rw [nm_no a (by omega)]; exact a
theorem few_cut {p : Option (Int × List Int)} {n : Int} (hp : Good p n) (h0 : 0 ≤ n) (h1 : n ≤ 999999999) {body : List Int} (hl : body.length ≤ 262144) {F : List (Nm × Cont)} (h : CutF p n body F) : Few F := by
  have hL := few_last hp h1
  have h3 := last_total hp
  have h4 := last_len p
  have el := encode_length n body
  rcases h with ⟨k, rfl⟩ | rfl
  · refine ⟨by simp; omega, ?_, fun f hf => ?_⟩
    · have : total ((draft, (⟨(encode n body).take k, []⟩ : Cont)) :: last1 p) = ((encode n body).take k).length + total (last1 p) := by simp [total, Cont.len]
      rw [this, List.length_take]; omega
    · rcases List.mem_cons.1 hf with rfl | hf
      · exact Or.inl rfl
      · exact hL.all f hf
  · refine ⟨by simp; omega, ?_, fun f hf => ?_⟩
    · have : total (last1 p ++ [entry n body]) = total (last1 p) + (encode n body).length := by simp [total, Cont.len, entry]
      rw [this]; omega
    · rcases List.mem_append.1 hf with hf | hf
      · exact hL.all f hf
      · rcases List.mem_singleton.1 hf with rfl
        right
        show 0 ≤ snapNo (nm9 115 0 n)
        rw [nm_no h0 h1]; exact h0
end Go.Proofs.YtmpdmejlpicdlaaDoor

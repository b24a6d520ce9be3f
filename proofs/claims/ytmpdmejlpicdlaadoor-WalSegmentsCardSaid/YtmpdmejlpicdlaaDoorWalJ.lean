/- Joined: WalP, WalQ, WalQb, WalQc. -/
import Derived.Test.YtmpdmejlpicdlaaDoorWalD
import Derived.Test.YtmpdmejlpicdlaaDoorSnapJ
import Derived.Test.YtmpdmejlpicdlaaDoorWalI
/- The journal's files, plainly: the last one is written, all ahead of it stand still. -/
namespace Go.Proofs.YtmpdmejlpicdlaaDoor
open Go.RowKit Go.Bw Go.Maps
set_option linter.unusedVariables false
set_option linter.unusedSimpArgs false

theorem wno {n : Int} (h0 : 1 ≤ n) (h1 : n ≤ 999999999) : walNo (walNm n) = n := num9_nm9 (by decide) h0 h1
theorem wnm_form {n : Int} (h0 : 1 ≤ n) (h1 : n ≤ 999999999) : walNm n = 106 :: dig 9 n.toNat := by
  unfold walNm nm9; rw [if_neg (by omega)]
theorem wnm_ne {n : Int} (h0 : 1 ≤ n) (h1 : n ≤ 999999999) : walNm n ≠ [] := by rw [wnm_form h0 h1]; simp
theorem wnm_named {n : Int} (h0 : 1 ≤ n) (h1 : n ≤ 999999999) : namedB (walNm n) = true := by
  have := nm9_length (wnm_ne h0 h1)
  unfold namedB; rw [show (walNm n).length = 10 from this]; decide
theorem wnm_before {m n : Int} (h0 : 1 ≤ m) (h : m < n) (h1 : n ≤ 999999999) : bytesBefore (walNm m) (walNm n) = true := by
  rw [wnm_form h0 (by omega), wnm_form (by omega) h1]
  have := dig_before 9 m.toNat n.toNat (by rw [Nat.mod_eq_of_lt (by omega), Nat.mod_eq_of_lt (by omega)]; omega)
  unfold bytesBefore
  simp [this]

/-- Files all of whose names come ahead of this one, and in which nothing waits. -/
structure Ahead (F : List (Nm × Cont)) (n : Nm) : Prop where
  names : ∀ p ∈ F, bytesBefore p.1 n = true
  calm : ∀ p ∈ F, p.2.wait = []
section
variable {F : List (Nm × Cont)} {n : Nm} (h : Ahead F n)
include h
theorem Ahead.ne : ∀ p ∈ F, p.1 ≠ n := fun p hp => before_ne (h.names p hp)
theorem Ahead.look : lookF F n = none := by
  unfold lookF
  rw [List.find?_eq_none.2 (fun p hp => by simpa using h.ne p hp)]; rfl
theorem Ahead.look1 (c : Cont) (r : List (Nm × Cont)) : lookF (F ++ (n, c) :: r) n = some c := by
  unfold lookF
  rw [List.find?_append, List.find?_eq_none.2 (fun p hp => by simpa using h.ne p hp)]
  simp
theorem Ahead.drop : drop F n = F := by
  unfold Go.Bw.drop
  exact List.filter_eq_self.2 (fun p hp => by simpa using h.ne p hp)
theorem Ahead.ins (x : Cont) : Go.Bw.ins (n, x) F = F ++ [(n, x)] := by
  obtain ⟨hn, hc⟩ := h
  clear hc
  induction F with
  | nil => rfl
  | cons y r ih =>
    have hy := hn y (by simp)
    have hb : bytesBefore n y.1 = false := by
      cases hh : bytesBefore n y.1 with
      | false => rfl
      | true => have := WideShapes.bytes_trans _ _ _ hy hh; rw [before_irrefl] at this; cases this
    unfold Go.Bw.ins
    rw [if_neg (by rw [hb]; decide), ih (fun p hp => hn p (by simp [hp]))]; rfl
theorem Ahead.put (x : Cont) : Go.Bw.put F n x = F ++ [(n, x)] := by unfold Go.Bw.put; rw [h.drop, h.ins]
theorem Ahead.put1 (c x : Cont) : Go.Bw.put (F ++ [(n, c)]) n x = F ++ [(n, x)] := by
  have e : Go.Bw.drop (F ++ [(n, c)]) n = F := by
    have := h.drop
    unfold Go.Bw.drop at *
    rw [List.filter_append, this]; simp
  unfold Go.Bw.put; rw [e, h.ins]
theorem Ahead.onFile (g : Cont → Cont) : ADsk.onFile n g F = F := by
  unfold ADsk.onFile
  have : ∀ p ∈ F, (if p.1 = n then (p.1, g p.2) else p) = p := fun p hp => if_neg (h.ne p hp)
  rw [List.map_congr_left this, List.map_id'']
  exact fun p => rfl
theorem Ahead.lost (k : Int) : F.map (fun p => (p.1, ADsk.lost k p.2)) = F := by
  have : ∀ p ∈ F, (p.1, ADsk.lost k p.2) = p := fun p hp => by
    have := h.calm p hp
    obtain ⟨a, s, t⟩ := p
    simp only at this
    subst this
    simp [ADsk.lost]
  rw [List.map_congr_left this, List.map_id'']
  exact fun p => rfl
end
theorem onFile_append (F G : List (Nm × Cont)) (n : Nm) (g : Cont → Cont) : ADsk.onFile n g (F ++ G) = ADsk.onFile n g F ++ ADsk.onFile n g G := List.map_append
theorem total_append (F G : List (Nm × Cont)) : total (F ++ G) = total F + total G := by simp [total]

/-- Files of full segments, the first of them beginning with record n. -/
def segs : Int → List (List (List Int)) → List (Nm × Cont)
  | _, [] => []
  | n, c :: r => (walNm n, ⟨frames c, []⟩) :: segs (n + c.length) r
def many : List (List (List Int)) → Nat
  | [] => 0
  | c :: r => c.length + many r
theorem segs_append : ∀ (C D : List (List (List Int))) (n : Int), segs n (C ++ D) = segs n C ++ segs (n + many C) D
  | [], D, n => by simp [segs, many]
  | c :: r, D, n => by
    simp only [List.cons_append, segs, many, segs_append r D]
    rw [show n + (c.length : Int) + (many r : Int) = n + ((c.length + many r : Nat) : Int) from by omega]
theorem many_append : ∀ (C D : List (List (List Int))), many (C ++ D) = many C + many D
  | [], D => by simp [many]
  | c :: r, D => by simp only [List.cons_append, many, many_append r D]; omega
theorem many_flat : ∀ (C : List (List (List Int))), C.flatten.length = many C
  | [] => rfl
  | c :: r => by simp [many, many_flat r]
theorem segs_ahead : ∀ (C : List (List (List Int))) (n m : Int), 1 ≤ n → n + many C ≤ m → m ≤ 999999999 → (∀ c ∈ C, c ≠ []) → Ahead (segs n C) (walNm m)
  | [], n, m, _, _, _, _ => ⟨(fun p hp => by cases hp), (fun p hp => by cases hp)⟩
  | c :: r, n, m, h0, h1, h2, hc => by
    have hl : 0 < c.length := List.length_pos_iff.2 (hc c (by simp))
    simp only [many] at h1
    have ih := segs_ahead r (n + c.length) m (by omega) (by omega) h2 (fun x hx => hc x (by simp [hx]))
    refine ⟨fun p hp => ?_, fun p hp => ?_⟩
    · rcases List.mem_cons.1 hp with rfl | hp
      · exact wnm_before h0 (by omega) h2
      · exact ih.names p hp
    · rcases List.mem_cons.1 hp with rfl | hp
      · rfl
      · exact ih.calm p hp
theorem segs_length : ∀ (C : List (List (List Int))) (n : Int), (segs n C).length = C.length
  | [], _ => rfl
  | c :: r, n => by simp [segs, segs_length r]
theorem segs_total : ∀ (C : List (List (List Int))) (n : Int), total (segs n C) = ends C.flatten
  | [], _ => rfl
  | c :: r, n => by
    rw [List.flatten_cons, ends_append, ← segs_total r (n + c.length)]
    simp only [segs, total, List.map_cons, List.sum_cons, Cont.len, List.length_nil, ends_frames, Nat.add_zero]
end Go.Proofs.YtmpdmejlpicdlaaDoor
/- The journal, plainly: what an append leaves, what an opening finds. -/
namespace Go.Proofs.YtmpdmejlpicdlaaDoor
open Go.RowKit Go.Bw Go.Maps
set_option linter.unusedVariables false
set_option linter.unusedSimpArgs false

/-! ### Append -/
/-- The last file's content ahead of an append; none where it is new. -/
def lastF (n : Nm) : Option (List Int) → List (Nm × Cont)
  | none => []
  | some s => [(n, ⟨s, []⟩)]
theorem ap_look {F : List (Nm × Cont)} {n : Nm} (h : Ahead F n) (s : Option (List Int)) : lookF (F ++ lastF n s) n = s.map (fun x => ⟨x, []⟩) := by
  cases s with
  | none => rw [show lastF n none = [] from rfl, List.append_nil]; exact h.look
  | some x => exact h.look1 _ []
theorem ap_put {F : List (Nm × Cont)} {n : Nm} (h : Ahead F n) (s : Option (List Int)) (c : Cont) : put (F ++ lastF n s) n c = F ++ [(n, c)] := by
  cases s with
  | none => rw [show lastF n none = [] from rfl, List.append_nil]; exact h.put c
  | some x => exact h.put1 _ c
theorem ap_append {F : List (Nm × Cont)} {n : Nm} (h : Ahead F n) (hn : namedB n = true) (s : Option (List Int)) (room wr ar kp : Int) (b : List Int) :
    (⟨F ++ lastF n s, room, false, wr, ar, kp⟩ : ADsk).append n b =
      if 1048576 < (s.getD []).length + b.length then (⟨F ++ lastF n s, room, false, wr, ar, kp⟩, 3)
      else if (s.isNone = true ∧ 16 ≤ F.length) ∨ room < ((total (F ++ lastF n s) + b.length : Nat) : Int) then (⟨F ++ lastF n s, room, false, wr, ar, kp⟩, 22)
      else if ar = 1 then (⟨F ++ [(n, ⟨s.getD [] ++ b.take kp.toNat, []⟩)], room, true, RowKit.wrap64 (wr + 1), 0, kp⟩, 20)
      else (⟨F ++ [(n, ⟨s.getD [], b⟩)], room, false, RowKit.wrap64 (wr + 1), (if ar = 0 then 0 else ar - 1), kp⟩, 0) := by
  have e1 := ap_look h s
  have e2 := h.lost kp
  have e3 : (Option.map (fun x => (⟨x, []⟩ : Cont)) s).getD ⟨[], []⟩ = ⟨s.getD [], []⟩ := by cases s <;> rfl
  unfold ADsk.append
  rw [if_neg (show ¬ ((⟨F ++ lastF n s, room, false, wr, ar, kp⟩ : ADsk).ready n ≠ 0) from by simp [ADsk.ready, hn])]
  simp only [e1, e3]
  rw [show ((⟨s.getD [], []⟩ : Cont).len) = (s.getD []).length from by simp [Cont.len]]
  by_cases h1 : 1048576 < (s.getD []).length + b.length
  · rw [if_pos h1, if_pos h1]
  · rw [if_neg h1, if_neg h1]
    have hsn : (Option.map (fun x => (⟨x, []⟩ : Cont)) s).isNone = s.isNone := by cases s <;> rfl
    rw [hsn]
    by_cases h2 : (s.isNone = true ∧ 16 ≤ F.length) ∨ room < ((total (F ++ lastF n s) + b.length : Nat) : Int)
    · rw [if_pos h2, if_pos]
      rcases h2 with ⟨g1, g2⟩ | g
      · exact Or.inl ⟨g1, by rw [List.length_append]; omega⟩
      · exact Or.inr g
    · rw [if_neg h2, if_neg]
      · by_cases ha : ar = 1
        · rw [if_pos ha, if_pos ha]
          simp only [ap_put h, List.nil_append, ADsk.armed, ADsk.goesOff, Bool.false_eq_true, if_false, List.map_append, e2]
          rfl
        · rw [if_neg ha, if_neg ha]
          simp only [ap_put h, List.nil_append, ADsk.armed]
      · intro g
        apply h2
        rcases g with ⟨g1, g2⟩ | g
        · refine Or.inl ⟨g1, ?_⟩
          cases s with
          | none => rw [show lastF n none = [] from rfl, List.append_nil] at g2; exact g2
          | some x => cases g1
        · exact Or.inr g
theorem ap_sync {F : List (Nm × Cont)} {n : Nm} (h : Ahead F n) (hn : namedB n = true) (s b : List Int) (room wr ar kp : Int) :
    (⟨F ++ [(n, ⟨s, b⟩)], room, false, wr, ar, kp⟩ : ADsk).sync n =
      if ar = 1 then (⟨F ++ [(n, ⟨s ++ b.take kp.toNat, []⟩)], room, true, RowKit.wrap64 (wr + 1), 0, kp⟩, 20)
      else (⟨F ++ [(n, ⟨s ++ b, []⟩)], room, false, RowKit.wrap64 (wr + 1), (if ar = 0 then 0 else ar - 1), kp⟩, 0) := by
  have e2 := h.lost kp
  have e5 := h.onFile (fun c => ⟨c.safe ++ c.wait, []⟩)
  unfold ADsk.sync
  rw [if_neg (by simp [ADsk.there, ADsk.ready, hn, h.look1])]
  unfold ADsk.does
  by_cases ha : ar = 1
  · rw [if_pos ha, if_pos ha]
    simp only [ADsk.armed, ADsk.goesOff, Bool.false_eq_true, if_false, List.map_append, e2]
    rfl
  · rw [if_neg ha, if_neg ha]
    simp only [onFile_append, e5, ADsk.armed]
    simp [ADsk.onFile]
/-- An append ends in one of three ways. -/
theorem wapp_law {F : List (Nm × Cont)} {A : ADsk} {per first next : Int} {s : Option (List Int)} {r : List Int} (hs : 1 ≤ AWal.seg ⟨A, per, first, next, 0⟩) (hs2 : AWal.seg ⟨A, per, first, next, 0⟩ ≤ 999999999)
    (h : Ahead F (walNm (AWal.seg ⟨A, per, first, next, 0⟩))) (hF : A.files = F ++ lastF (walNm (AWal.seg ⟨A, per, first, next, 0⟩)) s) (ho : A.off = false) (hl : r.length ≤ 65536) (hl2 : (s.getD []).length ≤ 524288) :
    (AWal.append ⟨A, per, first, next, 0⟩ r = (⟨A, per, first, next, 0⟩, 0, 22) ∧ ((s.isNone = true ∧ 16 ≤ F.length) ∨ A.room < ((total A.files + (r.length + 8) : Nat) : Int))) ∨
    (¬ ((s.isNone = true ∧ 16 ≤ F.length) ∨ A.room < ((total A.files + (r.length + 8) : Nat) : Int)) ∧
      ((A.ar ≠ 0 ∧ ∃ A' k, AWal.append ⟨A, per, first, next, 0⟩ r = (⟨A', per, first, next, 20⟩, 0, 20) ∧ A'.off = true ∧ A'.room = A.room ∧ A'.files = F ++ [(walNm (AWal.seg ⟨A, per, first, next, 0⟩), ⟨s.getD [] ++ (frame r).take k, []⟩)]) ∨
      (∃ A', AWal.append ⟨A, per, first, next, 0⟩ r = (⟨A', per, AWal.seg ⟨A, per, first, next, 0⟩, next + 1, 0⟩, next, 0) ∧ A'.off = false ∧ A'.room = A.room ∧ A'.files = F ++ [(walNm (AWal.seg ⟨A, per, first, next, 0⟩), ⟨s.getD [] ++ frame r, []⟩)] ∧ (A.ar = 0 → A'.ar = 0)))) := by
  have hnm := wnm_ne hs hs2
  have hnn := wnm_named hs hs2
  have hfl := frame_length r
  unfold AWal.append
  rw [if_neg (by omega), if_neg (by simp), if_neg hnm]
  generalize AWal.seg ⟨A, per, first, next, 0⟩ = sg at *
  obtain ⟨G, room, off, wr, ar, kp⟩ := A
  simp only at hF ho
  subst hF
  subst ho
  have e1 := ap_append h hnn s room wr ar kp (frame r)
  rw [if_neg (show ¬ 1048576 < (s.getD []).length + (frame r).length by omega), hfl] at e1
  have body : ∀ (W : AWal) (T : ADsk × Int), (let R := T; if R.2 = 3 ∨ R.2 = 22 then ({ W with dsk := R.1 }, (0 : Int), (22 : Int)) else let R2 := if R.2 = 0 then R.1.sync (walNm sg) else R; if R2.2 ≠ 0 then ({ W with dsk := R2.1, sick := R2.2 }, 0, R2.2) else ({ W with dsk := R2.1, first := sg, next := W.next + 1 }, W.next, 0)) =
      if T.2 = 3 ∨ T.2 = 22 then ({ W with dsk := T.1 }, 0, 22) else if (if T.2 = 0 then T.1.sync (walNm sg) else T).2 ≠ 0 then ({ W with dsk := (if T.2 = 0 then T.1.sync (walNm sg) else T).1, sick := (if T.2 = 0 then T.1.sync (walNm sg) else T).2 }, 0, (if T.2 = 0 then T.1.sync (walNm sg) else T).2)
        else ({ W with dsk := (if T.2 = 0 then T.1.sync (walNm sg) else T).1, first := sg, next := W.next + 1 }, W.next, 0) := fun _ _ => rfl
  rw [body]
  clear body
  by_cases h2 : (s.isNone = true ∧ 16 ≤ F.length) ∨ room < ((total (F ++ lastF (walNm sg) s) + (r.length + 8) : Nat) : Int)
  · left
    rw [if_pos h2] at e1
    show (if ((⟨F ++ lastF (walNm sg) s, room, false, wr, ar, kp⟩ : ADsk).append (walNm sg) (frame r)).2 = 3 ∨ _ then _ else _) = _ ∧ _
    rw [e1]
    exact ⟨if_pos (Or.inr rfl), h2⟩
  · right
    refine ⟨h2, ?_⟩
    rw [if_neg h2] at e1
    show (_ ∧ ∃ A' k, (if ((⟨F ++ lastF (walNm sg) s, room, false, wr, ar, kp⟩ : ADsk).append (walNm sg) (frame r)).2 = 3 ∨ _ then _ else _) = _ ∧ _) ∨ (∃ A', (if ((⟨F ++ lastF (walNm sg) s, room, false, wr, ar, kp⟩ : ADsk).append (walNm sg) (frame r)).2 = 3 ∨ _ then _ else _) = _ ∧ _)
    rw [e1]
    by_cases ha : ar = 1
    · left
      rw [if_pos ha]
      exact ⟨by show ar ≠ 0; omega, _, kp.toNat, rfl, rfl, rfl, rfl⟩
    · rw [if_neg ha]
      have e2 := ap_sync h hnn (s.getD []) (frame r) room (RowKit.wrap64 (wr + 1)) (if ar = 0 then 0 else ar - 1) kp
      show (_ ∧ ∃ A' k, (if ((⟨F ++ [(walNm sg, ⟨s.getD [], frame r⟩)], room, false, RowKit.wrap64 (wr + 1), (if ar = 0 then 0 else ar - 1), kp⟩ : ADsk).sync (walNm sg)).2 ≠ 0 then _ else _) = _ ∧ _) ∨ (∃ A', (if ((⟨F ++ [(walNm sg, ⟨s.getD [], frame r⟩)], room, false, RowKit.wrap64 (wr + 1), (if ar = 0 then 0 else ar - 1), kp⟩ : ADsk).sync (walNm sg)).2 ≠ 0 then _ else _) = _ ∧ _)
      rw [e2]
      by_cases ha2 : (if ar = 0 then (0 : Int) else ar - 1) = 1
      · left
        rw [if_pos ha2]
        exact ⟨(fun e => by rw [if_pos (show ar = 0 from e)] at ha2; cases ha2), _, kp.toNat, rfl, rfl, rfl, rfl⟩
      · right
        rw [if_neg ha2]
        exact ⟨_, rfl, rfl, rfl, rfl, (fun e => by show (if (if ar = 0 then (0 : Int) else ar - 1) = 0 then _ else _) = (0 : Int); rw [if_pos (show ar = 0 from e)]; rfl)⟩
end Go.Proofs.YtmpdmejlpicdlaaDoor
/- The journal, plainly: what an opening finds. -/
namespace Go.Proofs.YtmpdmejlpicdlaaDoor
open Go.RowKit Go.Bw Go.Maps
set_option linter.unusedVariables false
set_option linter.unusedSimpArgs false

def Calm (F : List (Nm × Cont)) : Prop := ∀ p ∈ F, p.2.wait = []
theorem Calm.lost {F : List (Nm × Cont)} (h : Calm F) (k : Int) : F.map (fun p => (p.1, ADsk.lost k p.2)) = F := by
  have : ∀ p ∈ F, (p.1, ADsk.lost k p.2) = p := fun p hp => by
    have := h p hp
    obtain ⟨a, s, t⟩ := p
    simp only at this
    subst this
    simp [ADsk.lost]
  rw [List.map_congr_left this, List.map_id'']
  exact fun p => rfl
theorem Calm.onFile {F : List (Nm × Cont)} (h : Calm F) (n : Nm) : ADsk.onFile n (fun c => ⟨c.safe ++ c.wait, []⟩) F = F := by
  unfold ADsk.onFile
  have : ∀ p ∈ F, (if p.1 = n then (p.1, (⟨p.2.safe ++ p.2.wait, []⟩ : Cont)) else p) = p := fun p hp => by
    have := h p hp
    obtain ⟨a, s, t⟩ := p
    simp only at this
    subst this
    simp
  rw [List.map_congr_left this, List.map_id'']
  exact fun p => rfl
theorem segs_calm : ∀ (C : List (List (List Int))) (n : Int), Calm (segs n C)
  | [], _ => fun p hp => by cases hp
  | c :: r, n => fun p hp => by
    rcases List.mem_cons.1 hp with rfl | hp
    · rfl
    · exact segs_calm r _ p hp
/-- Where nothing waits and the power is on, what is done once the write is counted. -/
theorem calm_does {A : ADsk} (ho : A.off = false) (hc : Calm A.files) (f : List (Nm × Cont) → List (Nm × Cont)) :
    (A.ar ≠ 0 ∧ ∃ A', A.does f = (A', 20) ∧ A'.off = true ∧ A'.files = A.files ∧ A'.room = A.room) ∨
    (∃ A', A.does f = (A', 0) ∧ A'.off = false ∧ A'.files = f A.files ∧ A'.room = A.room ∧ (A.ar = 0 → A'.ar = 0)) := by
  unfold ADsk.does
  by_cases ha : A.ar = 1
  · left
    rw [if_pos ha]
    refine ⟨by omega, _, rfl, ?_⟩
    have e : A.armed.off = false := ho
    unfold ADsk.goesOff
    rw [if_neg (by rw [e]; decide)]
    exact ⟨rfl, hc.lost _, rfl⟩
  · right
    rw [if_neg ha]
    exact ⟨_, rfl, ho, rfl, rfl, fun e => by simp [ADsk.armed, e]⟩
theorem calm_sync {A : ADsk} {n : Nm} (ho : A.off = false) (hc : Calm A.files) (ht : A.there n = 0) :
    (A.ar ≠ 0 ∧ ∃ A', A.sync n = (A', 20) ∧ A'.off = true ∧ A'.files = A.files ∧ A'.room = A.room) ∨
    (∃ A', A.sync n = (A', 0) ∧ A'.off = false ∧ A'.files = A.files ∧ A'.room = A.room ∧ (A.ar = 0 → A'.ar = 0)) := by
  unfold ADsk.sync
  rw [if_neg (by rw [ht]; simp)]
  rcases calm_does ho hc (ADsk.onFile n (fun c => ⟨c.safe ++ c.wait, []⟩)) with h | ⟨A', h1, h2, h3, h4, h5⟩
  · exact Or.inl h
  · exact Or.inr ⟨A', h1, h2, by rw [h3]; exact hc.onFile n, h4, h5⟩

def firstOf : Int → Int → List (List (List Int)) → Int
  | f, _, [] => f
  | f, m, c :: r => firstOf (if f = 0 then m else f) (m + c.length) r
def lastStart : Int → List (List (List Int)) → Int → Int
  | _, [], wf => wf
  | m, c :: r, _ => lastStart (m + c.length) r m
theorem firstOf_pos : ∀ (E : List (List (List Int))) (f m : Int), f ≠ 0 → firstOf f m E = f
  | [], f, m, _ => rfl
  | c :: r, f, m, h => by unfold firstOf; rw [if_neg h]; exact firstOf_pos r f _ h
theorem firstOf_one (E : List (List (List Int))) : firstOf 0 1 E = if E = [] then 0 else 1 := by
  cases E with
  | nil => rfl
  | cons c r => unfold firstOf; rw [if_pos rfl, firstOf_pos r 1 _ (by decide)]; rfl
theorem lastStart_append : ∀ (C : List (List (List Int))) (c : List (List Int)) (m wf : Int), lastStart m (C ++ [c]) wf = m + many C
  | [], c, m, wf => by simp [lastStart, many]
  | x :: r, c, m, wf => by
    show lastStart (m + x.length) (r ++ [c]) m = _
    rw [lastStart_append r c]
    simp only [many]
    omega
theorem read_seg {A : ADsk} (ho : A.off = false) (hr : Rising A.files) {m : Int} (h0 : 1 ≤ m) (h1 : m ≤ 999999999) {s : List Int} (hm : (walNm m, (⟨s, []⟩ : Cont)) ∈ A.files) : A.read (walNm m) = (s, 0) ∧ A.there (walNm m) = 0 := by
  have hl := look_of_mem hr hm
  have hn := wnm_named h0 h1
  have ht : A.there (walNm m) = 0 := by simp [ADsk.there, ADsk.ready, hn, ho, hl]
  refine ⟨?_, ht⟩
  unfold ADsk.read
  rw [if_neg (by rw [ht]; simp), hl]
  simp
/-- Whole segments are read. -/
theorem open_run : ∀ (E : List (List (List Int))) (m : Int) (A : ADsk) (f wf : Int) (L : List (List Int)) (rest : List Nm), A.off = false → Calm A.files → Rising A.files → (∀ p ∈ segs m E, p ∈ A.files) → 1 ≤ m → m + many E ≤ 999999999 →
    (∀ e ∈ E, ∀ r ∈ e, r.length ≤ 65536) →
    (A.ar ≠ 0 ∧ ∃ A', openGo ((segs m E).map (·.1) ++ rest) A f wf m false L = ⟨A', 20, 0, 0, 0, []⟩ ∧ A'.off = true ∧ A'.files = A.files ∧ A'.room = A.room) ∨
    (∃ A', openGo ((segs m E).map (·.1) ++ rest) A f wf m false L = openGo rest A' (firstOf f m E) (lastStart m E wf) (m + many E) false (L ++ E.flatten) ∧ A'.off = false ∧ A'.files = A.files ∧ A'.room = A.room ∧ (A.ar = 0 → A'.ar = 0))
  | [], m, A, f, wf, L, rest, ho, hc, hr, hm, h0, h1, hs => Or.inr ⟨A, by simp [segs, firstOf, lastStart, many], ho, rfl, rfl, fun e => e⟩
  | c :: r, m, A, f, wf, L, rest, ho, hc, hr, hm, h0, h1, hs => by
    simp only [many] at h1
    obtain ⟨hread, ht⟩ := read_seg ho hr h0 (by omega) (hm (walNm m, ⟨frames c, []⟩) (by simp [segs]))
    have hrec : recs (frames c) = c := recs_whole c (hs c (by simp))
    have hseg : segA A (walNm m) = A.sync (walNm m) := by
      rw [segA_eq hread, hrec, ends_frames, if_neg (Nat.lt_irrefl _)]
    have step : openGo ((segs m (c :: r)).map (·.1) ++ rest) A f wf m false L = if (A.sync (walNm m)).2 ≠ 0 then ⟨(A.sync (walNm m)).1, (A.sync (walNm m)).2, 0, 0, 0, []⟩ else openGo ((segs (m + c.length) r).map (·.1) ++ rest) (A.sync (walNm m)).1 (if f = 0 then m else f) m (m + c.length) false (L ++ c) := by
      show openGo (walNm m :: ((segs (m + c.length) r).map (·.1) ++ rest)) A f wf m false L = _
      rw [openGo, wno h0 (by omega), if_neg (by omega), if_neg (by rintro ⟨_, h | h⟩; cases h; exact h rfl), hseg, hread, hrec]
    rcases calm_sync ho hc ht with ⟨ha, A', e1, e2, e3, e4⟩ | ⟨A', e1, e2, e3, e4, e5⟩
    · left
      refine ⟨ha, A', ?_, e2, e3, e4⟩
      rw [step, e1, if_pos (by simp)]
    · have ih := open_run r (m + c.length) A' (if f = 0 then m else f) m (L ++ c) rest e2 (by rw [e3]; exact hc) (by rw [e3]; exact hr) (fun p hp => by rw [e3]; exact hm p (by simp [segs, hp])) (by omega) (by omega) (fun e he => hs e (by simp [he]))
      rw [step, e1, if_neg (by simp)]
      rcases ih with ⟨ia, B, i1, i2, i3, i4⟩ | ⟨B, i1, i2, i3, i4, i5⟩
      · left
        exact ⟨fun h => ia (e5 h), B, i1, i2, by rw [i3, e3], by rw [i4, e4]⟩
      · right
        refine ⟨B, ?_, i2, by rw [i3, e3], by rw [i4, e4], fun h => i5 (e5 h)⟩
        rw [i1]
        simp only [firstOf, lastStart, many, List.flatten_cons, List.append_assoc]
        rw [show m + (c.length : Int) + (many r : Int) = m + ((c.length + many r : Nat) : Int) from by omega]
/-- What may be there behind a loss of power: all segments, or the last one with a torn record behind. -/
def Broken (D : List (List (List Int))) (F : List (Nm × Cont)) : Prop :=
  F = segs 1 D ∨ ∃ C c part, D = C ++ [c] ∧ rec1 part = none ∧ Bytes part ∧ F = segs 1 C ++ [(walNm (1 + many C), ⟨frames c ++ part, []⟩)]
theorem rising_ahead {C : List (List (List Int))} {n : Nm} {x : Cont} (h : Rising (segs 1 C ++ [(n, x)])) : Ahead (segs 1 C) n :=
  ⟨fun p hp => (List.pairwise_append.1 h).2.2 p hp (n, x) (by simp), segs_calm C 1⟩
theorem open_torn {C : List (List (List Int))} {c : List (List Int)} {part : List Int} {A : ADsk} {m : Int} (f wf : Int) (L : List (List Int)) (ho : A.off = false) (hr : Rising A.files) (hF : A.files = segs 1 C ++ [(walNm m, ⟨frames c ++ part, []⟩)])
    (h0 : 1 ≤ m) (h1 : m ≤ 999999999) (hs : ∀ r ∈ c, r.length ≤ 65536) (hp : rec1 part = none) :
    (A.ar ≠ 0 ∧ ∃ A', openGo [walNm m] A f wf m false L = ⟨A', 20, 0, 0, 0, []⟩ ∧ A'.off = true ∧ (A'.files = A.files ∨ A'.files = segs 1 C ++ [(walNm m, ⟨frames c, []⟩)]) ∧ A'.room = A.room) ∨
    (∃ A', openGo [walNm m] A f wf m false L = ⟨A', 0, (if f = 0 then m else f), m, m + c.length, L ++ c⟩ ∧ A'.off = false ∧ A'.files = segs 1 C ++ [(walNm m, ⟨frames c, []⟩)] ∧ A'.room = A.room ∧ (A.ar = 0 → A'.ar = 0)) := by
  have hah := rising_ahead (by rw [← hF]; exact hr)
  obtain ⟨hread, ht⟩ := read_seg ho hr h0 h1 (s := frames c ++ part) (by rw [hF]; simp)
  have hrec : recs (frames c ++ part) = c := recs_frames c hs part hp
  have hcalm : Calm A.files := by
    rw [hF]
    intro p hp
    rcases List.mem_append.1 hp with hp | hp
    · exact segs_calm C 1 p hp
    · rcases List.mem_singleton.1 hp with rfl; rfl
  have hlen : (frames c ++ part).length = ends c + part.length := by rw [List.length_append, ends_frames]
  have step : openGo [walNm m] A f wf m false L = if (segA A (walNm m)).2 ≠ 0 then ⟨(segA A (walNm m)).1, (segA A (walNm m)).2, 0, 0, 0, []⟩ else ⟨(segA A (walNm m)).1, 0, (if f = 0 then m else f), m, m + c.length, L ++ c⟩ := by
    rw [openGo, wno h0 h1, if_neg (by omega), if_neg (by rintro ⟨_, h | h⟩; cases h; exact h rfl), hread, hrec]
    rfl
  rw [step]
  have fin : ∀ B : ADsk, B.off = false → B.files = segs 1 C ++ [(walNm m, ⟨frames c, []⟩)] → B.room = A.room → (A.ar = 0 → B.ar = 0) →
      (A.ar ≠ 0 ∧ ∃ A', B.sync (walNm m) = (A', 20) ∧ A'.off = true ∧ A'.files = segs 1 C ++ [(walNm m, ⟨frames c, []⟩)] ∧ A'.room = A.room) ∨
      (∃ A', B.sync (walNm m) = (A', 0) ∧ A'.off = false ∧ A'.files = segs 1 C ++ [(walNm m, ⟨frames c, []⟩)] ∧ A'.room = A.room ∧ (A.ar = 0 → A'.ar = 0)) := fun B b1 b2 b3 b4 => by
    have bc : Calm B.files := by
      rw [b2]
      intro p hp
      rcases List.mem_append.1 hp with hp | hp
      · exact segs_calm C 1 p hp
      · rcases List.mem_singleton.1 hp with rfl; rfl
    have bt : B.there (walNm m) = 0 := by
      have hn := wnm_named h0 h1
      simp [ADsk.there, ADsk.ready, hn, b1, b2, hah.look1]
    rcases calm_sync b1 bc bt with ⟨g0, A', g1, g2, g3, g4⟩ | ⟨A', g1, g2, g3, g4, g5⟩
    · exact Or.inl ⟨fun e => g0 (b4 e), A', g1, g2, by rw [g3, b2], by rw [g4, b3]⟩
    · exact Or.inr ⟨A', g1, g2, by rw [g3, b2], by rw [g4, b3], fun e => g5 (b4 e)⟩
  by_cases hpart : part = []
  · subst hpart
    have hsg : segA A (walNm m) = A.sync (walNm m) := by rw [segA_eq hread, hrec, hlen, if_neg (by simp)]
    rw [hsg]
    rw [List.append_nil] at hF
    rcases fin A ho hF rfl (fun e => e) with ⟨g0, A', g1, g2, g3, g4⟩ | ⟨A', g1, g2, g3, g4, g5⟩
    · left
      exact ⟨g0, A', by rw [g1, if_pos (by simp)], g2, Or.inr g3, g4⟩
    · right
      exact ⟨A', by rw [g1, if_neg (by simp)], g2, g3, g4, g5⟩
  · have hpl : 0 < part.length := List.length_pos_iff.2 hpart
    have et : A.trunc (walNm m) (ends c : Nat) = A.does (ADsk.onFile (walNm m) (fun x => ⟨x.safe.take (ends c), x.wait.take (ends c - x.safe.length)⟩)) := by
      unfold ADsk.trunc
      rw [if_neg (by rw [ht]; simp)]
      have hl : lookF A.files (walNm m) = some ⟨frames c ++ part, []⟩ := by rw [hF]; exact hah.look1 _ []
      rw [hl]
      simp only [Option.getD_some, Cont.len, hlen, List.length_nil]
      rw [if_neg (by omega), show ((ends c : Nat) : Int).toNat = ends c from by omega]
    have ef : ADsk.onFile (walNm m) (fun x => ⟨x.safe.take (ends c), x.wait.take (ends c - x.safe.length)⟩) A.files = segs 1 C ++ [(walNm m, ⟨frames c, []⟩)] := by
      rw [hF, onFile_append, hah.onFile]
      simp only [ADsk.onFile, List.map_cons, List.map_nil, if_true]
      rw [← ends_frames, List.take_left]
      simp
    have hsg : segA A (walNm m) = if (A.trunc (walNm m) (ends c : Nat)).2 ≠ 0 then A.trunc (walNm m) (ends c : Nat) else (A.trunc (walNm m) (ends c : Nat)).1.sync (walNm m) := by
      rw [segA_eq hread, hrec, hlen, if_pos (by omega)]
    rw [et] at hsg
    rcases calm_does ho hcalm (ADsk.onFile (walNm m) (fun x => ⟨x.safe.take (ends c), x.wait.take (ends c - x.safe.length)⟩)) with ⟨g0, A', g1, g2, g3, g4⟩ | ⟨A', g1, g2, g3, g4, g5⟩
    · left
      rw [g1, if_pos (by simp)] at hsg
      rw [hsg]
      exact ⟨g0, A', by rw [if_pos (by simp)], g2, Or.inl g3, g4⟩
    · rw [g1, if_neg (by simp)] at hsg
      rw [hsg]
      rcases fin A' g2 (by rw [g3, ef]) g4 g5 with ⟨k0, B, k1, k2, k3, k4⟩ | ⟨B, k1, k2, k3, k4, k5⟩
      · left
        exact ⟨k0, B, by rw [k1, if_pos (by simp)], k2, Or.inr k3, k4⟩
      · right
        exact ⟨B, by rw [k1, if_neg (by simp)], k2, k3, k4, k5⟩
theorem open_law {A : ADsk} {D : List (List (List Int))} (ho : A.off = false) (hr : Rising A.files) (hb : Broken D A.files) (hm : many D ≤ 100000) (hs : ∀ e ∈ D, ∀ r ∈ e, r.length ≤ 65536) (per : Int) (hp : 1 ≤ per) :
    (A.ar ≠ 0 ∧ ∃ A', openA A per = ⟨A', 20, 0, 0, 0, []⟩ ∧ A'.off = true ∧ Broken D A'.files ∧ A'.room = A.room) ∨
    (∃ A', openA A per = ⟨A', 0, 1, lastStart 1 D 1, 1 + many D, D.flatten⟩ ∧ A'.off = false ∧ A'.files = segs 1 D ∧ A'.room = A.room ∧ (A.ar = 0 → A'.ar = 0)) := by
  have hn : A.names = A.files.map (·.1) := by unfold ADsk.names; rw [ho]; rfl
  have E : openA A per = { openGo A.names A 0 1 1 false [] with first := if (openGo A.names A 0 1 1 false []).er ≠ 0 then 0 else if (openGo A.names A 0 1 1 false []).first = 0 then 1 else (openGo A.names A 0 1 1 false []).first } := by
    unfold openA; rw [if_neg (by omega), ho]; rfl
  rw [E, hn]
  clear E
  rcases hb with hF | ⟨C, c, part, rfl, hpart, hpb, hF⟩
  · have h := open_run D 1 A 0 1 [] [] ho (by rw [hF]; exact segs_calm D 1) hr (fun p hp => by rw [hF]; exact hp) (by omega) (by omega) hs
    rw [List.append_nil, ← hF] at h
    rcases h with ⟨g0, A', g1, g2, g3, g4⟩ | ⟨A', g1, g2, g3, g4, g5⟩
    · left
      rw [g1]
      exact ⟨g0, A', rfl, g2, Or.inl (by rw [g3, hF]), g4⟩
    · right
      rw [g1]
      refine ⟨A', ?_, g2, by rw [g3, hF], g4, g5⟩
      simp only [openGo, firstOf_one, List.nil_append]
      by_cases hD : D = []
      · simp [hD]
      · simp [hD]
  · rw [many_append] at hm
    have hcalm : Calm A.files := by
      rw [hF]
      intro p hp
      rcases List.mem_append.1 hp with hp | hp
      · exact segs_calm C 1 p hp
      · rcases List.mem_singleton.1 hp with rfl; rfl
    have hnm : A.files.map (·.1) = (segs 1 C).map (·.1) ++ [walNm (1 + many C)] := by rw [hF, List.map_append]; rfl
    have h := open_run C 1 A 0 1 [] [walNm (1 + many C)] ho hcalm hr (fun p hp => by rw [hF]; exact List.mem_append_left _ hp) (by omega) (by omega) (fun e he => hs e (by simp [he]))
    rw [hnm]
    rcases h with ⟨g0, A', g1, g2, g3, g4⟩ | ⟨A', g1, g2, g3, g4, g5⟩
    · left
      rw [g1]
      exact ⟨g0, A', rfl, g2, Or.inr ⟨C, c, part, rfl, hpart, hpb, by rw [g3, hF]⟩, g4⟩
    · rw [g1]
      have t := open_torn (C := C) (c := c) (part := part) (A := A') (m := 1 + many C) (firstOf 0 1 C) (lastStart 1 C 1) ([] ++ C.flatten) g2 (by rw [g3]; exact hr) (by rw [g3, hF]) (by omega) (by omega) (hs c (by simp)) hpart
      have whole : segs 1 C ++ [(walNm (1 + many C), (⟨frames c, []⟩ : Cont))] = segs 1 (C ++ [c]) := by rw [segs_append]; rfl
      rcases t with ⟨k0, B, k1, k2, k3, k4⟩ | ⟨B, k1, k2, k3, k4, k5⟩
      · left
        rw [k1]
        refine ⟨fun e => k0 (g5 e), B, rfl, k2, ?_, by rw [k4, g4]⟩
        rcases k3 with k3 | k3
        · exact Or.inr ⟨C, c, part, rfl, hpart, hpb, by rw [k3, g3, hF]⟩
        · exact Or.inl (by rw [k3, whole])
      · right
        rw [k1]
        refine ⟨B, ?_, k2, by rw [k3, whole], by rw [k4, g4], fun e => k5 (g5 e)⟩
        simp only [firstOf_one, lastStart_append, many_append, many, List.flatten_append, List.flatten_cons, List.flatten_nil, List.append_nil, List.nil_append]
        by_cases hC : C = []
        · subst hC; simp [many]
        · simp [hC]; omega
theorem segs_bytes : ∀ {C : List (List (List Int))} {n : Int}, (∀ e ∈ C, ∀ r ∈ e, r.length ≤ 65536 ∧ Bytes r) → BytesF (segs n C)
  | [], _, _ => fun p hp => by cases hp
  | c :: r, n, h => fun p hp => by
    rcases List.mem_cons.1 hp with rfl | hp
    · show Bytes (frames c ++ [])
      rw [List.append_nil]; exact frames_bytes (h c (by simp))
    · exact segs_bytes (fun e he => h e (by simp [he])) p hp
theorem broken_bytes {D : List (List (List Int))} {F : List (Nm × Cont)} (hb : Broken D F) (h : ∀ e ∈ D, ∀ r ∈ e, r.length ≤ 65536 ∧ Bytes r) : BytesF F := by
  rcases hb with rfl | ⟨C, c, part, rfl, _, hpb, rfl⟩
  · exact segs_bytes h
  · intro p hp
    rcases List.mem_append.1 hp with hp | hp
    · exact segs_bytes (fun e he => h e (by simp [he])) p hp
    · rcases List.mem_singleton.1 hp with rfl
      show Bytes ((frames c ++ part) ++ [])
      rw [List.append_nil]
      intro y hy
      rcases List.mem_append.1 hy with hy | hy
      · exact frames_bytes (h c (by simp)) y hy
      · exact hpb y hy
/-- An empty disk. -/
theorem open_empty {A : ADsk} (ho : A.off = false) (hF : A.files = []) (per : Int) (hp : 1 ≤ per) : openA A per = ⟨A, 0, 1, 1, 1, []⟩ := by
  have hn : A.names = [] := by unfold ADsk.names; rw [ho, hF]; rfl
  unfold openA
  rw [if_neg (by omega), ho, hn]; rfl
end Go.Proofs.YtmpdmejlpicdlaaDoor
/- The journal, plainly: appending again and again. -/
namespace Go.Proofs.YtmpdmejlpicdlaaDoor
open Go.RowKit Go.Bw Go.Maps
set_option linter.unusedVariables false
set_option linter.unusedSimpArgs false

/-- An open journal that has taken the records of D, segment by segment. -/
structure Jr (per : Int) (D : List (List (List Int))) (W : AWal) : Prop where
  files : W.dsk.files = segs 1 D
  on : W.dsk.off = false
  shape : (D = [] ∧ W.first = 1) ∨ ∃ C c, D = C ++ [c] ∧ (∀ x ∈ C, (x.length : Int) = per) ∧ 1 ≤ c.length ∧ (c.length : Int) ≤ per ∧ W.first = 1 + many C
  next : W.next = 1 + many D
  sick : W.sick = 0
  per : W.per = per
def Small (D : List (List (List Int))) : Prop := ∀ e ∈ D, ∀ r ∈ e, r.length ≤ 65536 ∧ Bytes r
theorem many_full {per : Int} : ∀ {C : List (List (List Int))}, (∀ x ∈ C, (x.length : Int) = per) → (many C : Int) = C.length * per
  | [], _ => by simp [many]
  | c :: r, h => by
    have h1 := h c (by simp)
    have h2 := many_full (C := r) (fun x hx => h x (by simp [hx]))
    simp only [many, List.length_cons]
    rw [Int.natCast_add, h1, h2, Int.natCast_add, Int.add_mul]
    omega
theorem many_zero {D : List (List (List Int))} : many D = D.flatten.length := (many_flat D).symm
theorem frames_one (r : List Int) : frames [r] = frame r := by simp [frames]
theorem ends_one (r : List Int) : ends [r] = r.length + 8 := by simp [ends]; omega

/-- What a cut append leaves. -/
structure Cut (D : List (List (List Int))) (r : List Int) (F : List (Nm × Cont)) : Prop where
  ex : ∃ D', Broken D' F ∧ (D'.flatten = D.flatten ∨ D'.flatten = D.flatten ++ [r]) ∧ Small D'

theorem cut_new {D : List (List (List Int))} {r : List Int} (hs : Small D) (hl : r.length ≤ 65536) (hB : Bytes r) (k : Nat) : Cut D r (segs 1 D ++ [(walNm (1 + many D), ⟨(frame r).take k, []⟩)]) := by
  by_cases hk : k < (frame r).length
  · refine ⟨⟨D ++ [[]], Or.inr ⟨D, [], (frame r).take k, rfl, rec1_part r hl k hk, (fun y hy => frame_bytes hl hB y (List.mem_of_mem_take hy)), by simp [frames]⟩, Or.inl (by simp), fun e he => ?_⟩⟩
    rcases List.mem_append.1 he with he | he
    · exact hs e he
    · rcases List.mem_singleton.1 he with rfl; intro x hx; cases hx
  · refine ⟨⟨D ++ [[r]], Or.inl ?_, Or.inr (by simp), fun e he => ?_⟩⟩
    · rw [segs_append, List.take_of_length_le (by omega)]
      simp [segs, frames_one]
    · rcases List.mem_append.1 he with he | he
      · exact hs e he
      · rcases List.mem_singleton.1 he with rfl; intro x hx; rcases List.mem_singleton.1 hx with rfl; exact ⟨hl, hB⟩
theorem cut_old {C : List (List (List Int))} {c : List (List Int)} {r : List Int} (hs : Small (C ++ [c])) (hl : r.length ≤ 65536) (hB : Bytes r) (k : Nat) : Cut (C ++ [c]) r (segs 1 C ++ [(walNm (1 + many C), ⟨frames c ++ (frame r).take k, []⟩)]) := by
  by_cases hk : k < (frame r).length
  · exact ⟨⟨C ++ [c], Or.inr ⟨C, c, (frame r).take k, rfl, rec1_part r hl k hk, (fun y hy => frame_bytes hl hB y (List.mem_of_mem_take hy)), rfl⟩, Or.inl rfl, hs⟩⟩
  · refine ⟨⟨C ++ [c ++ [r]], Or.inl ?_, Or.inr (by simp), fun e he => ?_⟩⟩
    · rw [segs_append, List.take_of_length_le (by omega)]
      simp [segs, frames_append, frames_one]
    · rcases List.mem_append.1 he with he | he
      · exact hs e (by simp [he])
      · rcases List.mem_singleton.1 he with rfl
        intro x hx
        rcases List.mem_append.1 hx with hx | hx
        · exact hs c (by simp) x hx
        · rcases List.mem_singleton.1 hx with rfl; exact ⟨hl, hB⟩

theorem jr_append {per : Int} {D : List (List (List Int))} {W : AWal} (h : Jr per D W) (hp : 1 ≤ per) (hs : Small D) (hm : many D ≤ 100000) (he : ends D.flatten ≤ 524288) {r : List Int} (hl : r.length ≤ 65536) (hB : Bytes r) :
    (W.append r = (W, 0, 22) ∧ (16 * per ≤ many D ∨ W.dsk.room < ((ends D.flatten + (r.length + 8) : Nat) : Int))) ∨
    (¬ W.dsk.room < ((ends D.flatten + (r.length + 8) : Nat) : Int) ∧
      ((W.dsk.ar ≠ 0 ∧ ∃ W', W.append r = (W', 0, 20) ∧ W'.dsk.off = true ∧ W'.dsk.room = W.dsk.room ∧ Cut D r W'.dsk.files) ∨
      (∃ W' D', W.append r = (W', W.next, 0) ∧ Jr per D' W' ∧ D'.flatten = D.flatten ++ [r] ∧ Small D' ∧ W'.dsk.room = W.dsk.room ∧ (W.dsk.ar = 0 → W'.dsk.ar = 0)))) := by
  obtain ⟨A, p, first, next, sick⟩ := W
  obtain ⟨hF, ho, hsh, hn, hsk, hpp⟩ := h
  simp only at hF ho hsh hn hsk hpp
  subst hsk
  subst hpp
  have htot : total A.files = ends D.flatten := by rw [hF, segs_total]
  have new : ∀ {s : List (List (List Int))}, s = D → AWal.seg ⟨A, p, first, next, 0⟩ = 1 + many D → (∀ c ∈ D, c ≠ []) → (16 ≤ D.length → 16 * p ≤ many D) → (∀ x ∈ D, (x.length : Int) = p) →
      (AWal.append ⟨A, p, first, next, 0⟩ r = (⟨A, p, first, next, 0⟩, 0, 22) ∧ (16 * p ≤ many D ∨ A.room < ((ends D.flatten + (r.length + 8) : Nat) : Int))) ∨
      (¬ A.room < ((ends D.flatten + (r.length + 8) : Nat) : Int) ∧
        ((A.ar ≠ 0 ∧ ∃ W', AWal.append ⟨A, p, first, next, 0⟩ r = (W', 0, 20) ∧ W'.dsk.off = true ∧ W'.dsk.room = A.room ∧ Cut D r W'.dsk.files) ∨
        (∃ W' D', AWal.append ⟨A, p, first, next, 0⟩ r = (W', next, 0) ∧ Jr p D' W' ∧ D'.flatten = D.flatten ++ [r] ∧ Small D' ∧ W'.dsk.room = A.room ∧ (A.ar = 0 → W'.dsk.ar = 0)))) := fun {s} hsD hseg hne h16 hfull => by
    have ah := segs_ahead D 1 (1 + many D) (by omega) (by omega) (by omega) hne
    have w := wapp_law (F := segs 1 D) (A := A) (per := p) (first := first) (next := next) (s := none) (r := r) (by rw [hseg]; omega) (by rw [hseg]; omega) (by rw [hseg]; exact ah) (by rw [hF]; simp [lastF]) ho hl (by simp)
    rw [hseg, htot, segs_length] at w
    rcases w with ⟨w1, w2⟩ | ⟨w0, ⟨w1, A', k, w2, w3, w4, w5⟩ | ⟨A', w2, w3, w4, w5, w6⟩⟩
    · left
      refine ⟨w1, ?_⟩
      rcases w2 with ⟨_, w2⟩ | w2
      · exact Or.inl (h16 w2)
      · exact Or.inr w2
    · right
      refine ⟨fun g => w0 (Or.inr g), Or.inl ⟨w1, _, w2, w3, w4, ?_⟩⟩
      show Cut D r A'.files
      rw [w5]
      exact cut_new hs hl hB k
    · right
      refine ⟨fun g => w0 (Or.inr g), Or.inr ⟨_, D ++ [[r]], w2, ⟨?_, w3, Or.inr ⟨D, [r], rfl, hfull, by simp, by simp; omega, rfl⟩, ?_, rfl, rfl⟩, by simp, fun e he => ?_, w4, w6⟩⟩
      · show A'.files = _
        rw [w5, segs_append]
        simp [segs, frames_one]
      · show next + 1 = _
        rw [many_append, hn]; simp [many]; omega
      · rcases List.mem_append.1 he with he | he
        · exact hs e he
        · rcases List.mem_singleton.1 he with rfl; intro x hx; rcases List.mem_singleton.1 hx with rfl; exact ⟨hl, hB⟩
  rcases hsh with ⟨rfl, hf⟩ | ⟨C, c, rfl, hC, hc1, hc2, hf⟩
  · refine new rfl ?_ (fun c hc => by cases hc) (fun h => by simp at h) (fun x hx => by cases hx)
    unfold AWal.seg
    simp only
    rw [if_neg (by rw [hn, hf]; simp [many]; omega), hf]; simp [many]
  · by_cases hfull : (c.length : Int) = p
    · have hall : ∀ x ∈ C ++ [c], (x.length : Int) = p := fun x hx => by
        rcases List.mem_append.1 hx with hx | hx
        · exact hC x hx
        · rcases List.mem_singleton.1 hx with rfl; exact hfull
      have hmm := many_full hall
      refine new rfl ?_ (fun x hx e => ?_) (fun h => ?_) hall
      · unfold AWal.seg
        simp only
        rw [many_append] at hn ⊢
        simp only [many] at hn ⊢
        rw [if_pos (by rw [hn, hf]; omega), hn]
      · have := hall x hx; rw [e] at this; simp at this; omega
      · rw [hmm]
        exact Int.mul_le_mul_of_nonneg_right (by omega) (by omega)
    · have hseg : AWal.seg ⟨A, p, first, next, 0⟩ = 1 + many C := by
        unfold AWal.seg
        simp only
        rw [many_append] at hn
        simp only [many] at hn
        rw [if_neg (by rw [hn, hf]; omega), hf]
      have hne : ∀ x ∈ C, x ≠ [] := fun x hx e => by have := hC x hx; rw [e] at this; simp at this; omega
      rw [many_append] at hm
      have ah := segs_ahead C 1 (1 + many C) (by omega) (by omega) (by omega) hne
      have hF2 : A.files = segs 1 C ++ lastF (walNm (1 + many C)) (some (frames c)) := by rw [hF, segs_append]; rfl
      have hel : (frames c).length ≤ 524288 := by
        rw [ends_frames]
        have : ends (C ++ [c]).flatten = ends C.flatten + ends c := by simp [ends_append]
        omega
      have w := wapp_law (F := segs 1 C) (A := A) (per := p) (first := first) (next := next) (s := some (frames c)) (r := r) (by rw [hseg]; omega) (by rw [hseg]; omega) (by rw [hseg]; exact ah) (by rw [hseg]; exact hF2) ho hl (by simpa using hel)
      rw [hseg, htot] at w
      rcases w with ⟨w1, w2⟩ | ⟨w0, ⟨w1, A', k, w2, w3, w4, w5⟩ | ⟨A', w2, w3, w4, w5, w6⟩⟩
      · left
        refine ⟨w1, ?_⟩
        rcases w2 with ⟨w2, _⟩ | w2
        · cases w2
        · exact Or.inr w2
      · right
        refine ⟨fun g => w0 (Or.inr g), Or.inl ⟨w1, _, w2, w3, w4, ?_⟩⟩
        show Cut _ r A'.files
        rw [w5]
        exact cut_old hs hl hB k
      · right
        refine ⟨fun g => w0 (Or.inr g), Or.inr ⟨_, C ++ [c ++ [r]], w2, ⟨?_, w3, Or.inr ⟨C, c ++ [r], rfl, hC, by simp, by simp; omega, rfl⟩, ?_, rfl, rfl⟩, by simp, fun e he => ?_, w4, w6⟩⟩
        · show A'.files = _
          rw [w5, segs_append]
          simp [segs, frames_append, frames_one]
        · show next + 1 = _
          rw [hn, many_append, many_append]; simp [many]; omega
        · rcases List.mem_append.1 he with he | he
          · exact hs e (by simp [he])
          · rcases List.mem_singleton.1 he with rfl
            intro x hx
            rcases List.mem_append.1 hx with hx | hx
            · exact hs c (by simp) x hx
            · rcases List.mem_singleton.1 hx with rfl; exact ⟨hl, hB⟩
end Go.Proofs.YtmpdmejlpicdlaaDoor

/- The journal, plainly: frames, the records of a segment's bytes, what an opening, an append and a pruning do to a disk. -/
import Derived.Test.YtmpdmejlpicdlaaDoorSnapP
namespace Go.Proofs.YtmpdmejlpicdlaaDoor
open Go.RowKit Go.Bw Go.Maps
set_option linter.unusedVariables false
set_option linter.unusedSimpArgs false

/-- A record as it stands in a segment. -/
def frame (r : List Int) : List Int := le4 (r.length : Int) ++ le4 (crc r) ++ r
theorem frame_length (r : List Int) : (frame r).length = r.length + 8 := by simp [frame, le4]
theorem frame_form (r : List Int) : ∃ a c : Int, frame r = [a % 256, a / 256 % 256, a / 65536 % 256, a / 16777216, c % 256, c / 256 % 256, c / 65536 % 256, c / 16777216] ++ r ∧ a = (r.length : Int) ∧ c = crc r := ⟨_, _, rfl, rfl, rfl⟩
theorem frame_bytes {r : List Int} (hl : r.length ≤ 65536) (hB : Bytes r) : Bytes (frame r) := by
  intro y hy
  simp only [frame, List.mem_append] at hy
  rcases hy with (hy | hy) | hy
  · exact le4_bytes (by omega) (by omega) y hy
  · exact le4_bytes (crc_lo _) (crc_hi _) y hy
  · exact hB y hy
theorem frame_num0 (r ys : List Int) (hl : r.length ≤ 65536) : num4 (frame r ++ ys) 0 = (r.length : Int) := by
  obtain ⟨a, c, h, ha, hc⟩ := frame_form r
  rw [h]
  show a % 256 + 256 * (a / 256 % 256) + 65536 * (a / 65536 % 256) + 16777216 * (a / 16777216) = _
  rw [le4_sum (by omega) (by omega), ha]
theorem frame_num4 (r ys : List Int) : num4 (frame r ++ ys) 4 = crc r := by
  obtain ⟨a, c, h, ha, hc⟩ := frame_form r
  rw [h]
  show c % 256 + 256 * (c / 256 % 256) + 65536 * (c / 65536 % 256) + 16777216 * (c / 16777216) = _
  rw [le4_sum (by rw [hc]; exact crc_lo _) (by rw [hc]; exact crc_hi _), hc]
theorem frame_drop8 (r ys : List Int) : (frame r ++ ys).drop 8 = r ++ ys := by
  obtain ⟨a, c, h, ha, hc⟩ := frame_form r
  rw [h]; rfl
/-- A record or an error. -/
def frameA (r : List Int) : List Int × Int := if 65536 < r.length then ([], 3) else (frame r, 0)

/-- The record that bytes begin with. -/
def rec1 (b : List Int) : Option (List Int) :=
  if b.length < 8 then none else if 65536 < num4 b 0 ∨ (b.length : Int) - 8 < num4 b 0 then none
  else if crc ((b.drop 8).take (num4 b 0).toNat) = num4 b 4 then some ((b.drop 8).take (num4 b 0).toNat) else none
def recsGo : Nat → List Int → List (List Int)
  | 0, _ => []
  | k + 1, b => match rec1 b with
    | none => []
    | some r => r :: recsGo k (b.drop (8 + r.length))
/-- The records of a segment's bytes, and how many bytes they have. -/
def recs (b : List Int) : List (List Int) := recsGo (b.length + 1) b
def frames : List (List Int) → List Int
  | [] => []
  | r :: L => frame r ++ frames L
def ends : List (List Int) → Nat
  | [] => 0
  | r :: L => 8 + r.length + ends L
theorem ends_frames : ∀ L, (frames L).length = ends L
  | [] => rfl
  | r :: L => by simp only [frames, List.length_append, ends, ends_frames L, frame_length]; omega
theorem frames_append : ∀ L M, frames (L ++ M) = frames L ++ frames M
  | [], M => rfl
  | r :: L, M => by simp only [List.cons_append, frames, frames_append L M, List.append_assoc]
theorem ends_append (L M : List (List Int)) : ends (L ++ M) = ends L + ends M := by rw [← ends_frames, frames_append, List.length_append, ends_frames, ends_frames]
theorem frames_bytes {L : List (List Int)} (h : ∀ r ∈ L, r.length ≤ 65536 ∧ Bytes r) : Bytes (frames L) := by
  induction L with
  | nil => intro y hy; cases hy
  | cons r L ih =>
    intro y hy
    rcases List.mem_append.1 hy with hy | hy
    · exact frame_bytes (h r (by simp)).1 (h r (by simp)).2 y hy
    · exact ih (fun x hx => h x (by simp [hx])) y hy
theorem rec1_frame (r ys : List Int) (hl : r.length ≤ 65536) : rec1 (frame r ++ ys) = some r := by
  have e := frame_length r
  unfold rec1
  rw [frame_num0 r ys hl, frame_num4, frame_drop8, List.length_append, e, if_neg (by omega), if_neg (by omega)]
  simp
theorem rec1_nil : rec1 [] = none := rfl
theorem rec1_part (r : List Int) (hl : r.length ≤ 65536) (j : Nat) (hj : j < (frame r).length) : rec1 ((frame r).take j) = none := by
  have e := frame_length r
  have ht : ((frame r).take j).length = j := by rw [List.length_take]; omega
  unfold rec1
  rw [ht]
  by_cases h8 : j < 8
  · rw [if_pos h8]
  · rw [if_neg h8]
    have hn : num4 ((frame r).take j) 0 = (r.length : Int) := by
      have e4 := frame_num0 r [] hl
      rw [List.append_nil] at e4
      rw [← e4]
      unfold num4
      simp only [List.getD_eq_getElem?_getD, List.getElem?_take, show 0 < j by omega, show 0 + 1 < j by omega, show 0 + 2 < j by omega, show 0 + 3 < j by omega, if_true]
    rw [hn, if_pos (Or.inr (by omega))]
theorem rec1_some {b r : List Int} (h : rec1 b = some r) : 8 + r.length ≤ b.length ∧ (r.length : Int) = num4 b 0 ∨ num4 b 0 < 0 := by
  unfold rec1 at h
  split at h
  · cases h
  · split at h
    · cases h
    · split at h
      · cases h
        rw [List.length_take, List.length_drop]
        omega
      · cases h
theorem recsGo_frames (L : List (List Int)) (hL : ∀ r ∈ L, r.length ≤ 65536) (ys : List Int) (hy : rec1 ys = none) : ∀ f, L.length < f → recsGo f (frames L ++ ys) = L := by
  induction L with
  | nil =>
    intro f hf
    cases f with
    | zero => rfl
    | succ f => show (match rec1 ([] ++ ys) with | none => [] | some r => r :: recsGo f (([] ++ ys).drop (8 + r.length))) = []; rw [List.nil_append, hy]
  | cons r L ih =>
    intro f hf
    cases f with
    | zero => simp at hf
    | succ f =>
      show (match rec1 (frame r ++ frames L ++ ys) with | none => [] | some q => q :: recsGo f ((frame r ++ frames L ++ ys).drop (8 + q.length))) = _
      rw [List.append_assoc, rec1_frame r _ (hL r (by simp))]
      show r :: recsGo f ((frame r ++ (frames L ++ ys)).drop (8 + r.length)) = _
      rw [List.drop_append_of_le_length (by rw [frame_length]; omega), List.drop_of_length_le (by rw [frame_length]; omega), List.nil_append, ih (fun q hq => hL q (by simp [hq])) f (by simp at hf; omega)]
theorem ends_ge : ∀ L : List (List Int), L.length ≤ ends L
  | [] => Nat.le_refl _
  | r :: L => by have := ends_ge L; simp only [ends, List.length_cons]; omega
theorem recs_frames (L : List (List Int)) (hL : ∀ r ∈ L, r.length ≤ 65536) (ys : List Int) (hy : rec1 ys = none) : recs (frames L ++ ys) = L :=
  recsGo_frames L hL ys hy _ (by rw [List.length_append, ends_frames]; have := ends_ge L; omega)
theorem recs_whole (L : List (List Int)) (hL : ∀ r ∈ L, r.length ≤ 65536) : recs (frames L) = L := by
  have := recs_frames L hL [] rec1_nil
  rwa [List.append_nil] at this

/-- A segment's number; its name. -/
def walNo (l : Nm) : Int := num9 106 1 0 l
def walNm (n : Int) : Nm := nm9 106 1 n
/-- A segment is read: the disk behind it, an error. -/
def segA (A : ADsk) (n : Nm) : ADsk × Int :=
  if (A.read n).2 ≠ 0 then (A, (A.read n).2)
  else
    let R := if ends (recs (A.read n).1) < (A.read n).1.length then A.trunc n (ends (recs (A.read n).1) : Nat) else (A, 0)
    if R.2 ≠ 0 then R else R.1.sync n
structure OpenR where
  dsk : ADsk
  er : Int
  first : Int
  wf : Int
  wn : Int
  out : List (List Int)
/-- What an opening does, file by file. -/
def openGo : List Nm → ADsk → Int → Int → Int → Bool → List (List Int) → OpenR
  | [], A, f, wf, wn, br, L => ⟨A, 0, f, wf, wn, L⟩
  | n :: r, A, f, wf, wn, br, L =>
    if walNo n = 0 then openGo r A f wf wn br L
    else if 0 < f ∧ (br = true ∨ walNo n ≠ wn) then
      if (A.remove n).2 ≠ 0 then ⟨(A.remove n).1, (A.remove n).2, 0, 0, 0, []⟩ else openGo r (A.remove n).1 f wf wn true L
    else
      if (segA A n).2 ≠ 0 then ⟨(segA A n).1, (segA A n).2, 0, 0, 0, []⟩
      else openGo r (segA A n).1 (if f = 0 then walNo n else f) (walNo n) (walNo n + (recs (A.read n).1).length) br (L ++ recs (A.read n).1)
def openA (A : ADsk) (per : Int) : OpenR :=
  if per < 1 then ⟨A, 1, 0, 0, 0, []⟩ else if A.off then ⟨A, 20, 0, 0, 0, []⟩
  else
    let R := openGo A.names A 0 1 1 false []
    { R with first := if R.er ≠ 0 then 0 else if R.first = 0 then 1 else R.first }
/-- An open journal. -/
structure AWal where
  dsk : ADsk
  per : Int
  first : Int
  next : Int
  sick : Int
def AWal.seg (W : AWal) : Int := if W.per ≤ W.next - W.first then W.next else W.first
def AWal.append (W : AWal) (r : List Int) : AWal × Int × Int :=
  if 65536 < r.length then (W, 0, 3)
  else if W.sick ≠ 0 then (W, 0, W.sick)
  else if walNm W.seg = [] then (W, 0, 22)
  else
    let R := W.dsk.append (walNm W.seg) (frame r)
    if R.2 = 3 ∨ R.2 = 22 then ({ W with dsk := R.1 }, 0, 22)
    else
      let R2 := if R.2 = 0 then R.1.sync (walNm W.seg) else R
      if R2.2 ≠ 0 then ({ W with dsk := R2.1, sick := R2.2 }, 0, R2.2)
      else ({ W with dsk := R2.1, first := W.seg, next := W.next + 1 }, W.next, 0)
/-- The segments' first records. -/
def starts (A : ADsk) : List Int := (A.names.map walNo).filter (fun n => decide (0 < n))
def pruneGo (below : Int) : List Int → ADsk → Int → ADsk × Int × Int
  | a :: b :: r, A, g => if b ≤ below then if (A.remove (walNm a)).2 ≠ 0 then ((A.remove (walNm a)).1, 0, (A.remove (walNm a)).2) else pruneGo below (b :: r) (A.remove (walNm a)).1 (g + 1) else (A, g, 0)
  | _, A, g => (A, g, 0)
def AWal.prune (W : AWal) (below : Int) : AWal × Int × Int :=
  if W.sick ≠ 0 then (W, 0, W.sick)
  else
    let R := pruneGo below (starts W.dsk) W.dsk 0
    ({ W with dsk := R.1, sick := R.2.2 }, R.2.1, R.2.2)
end Go.Proofs.YtmpdmejlpicdlaaDoor

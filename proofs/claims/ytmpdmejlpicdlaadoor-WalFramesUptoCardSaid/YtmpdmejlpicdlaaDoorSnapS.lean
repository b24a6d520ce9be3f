/- snap.Save, snap.Load. -/
import Derived.Test.YtmpdmejlpicdlaaDoorSnapC
import Derived.Test.YtmpdmejlpicdlaaDoorDiskFa
namespace Go.Proofs.YtmpdmejlpicdlaaDoor
open Go.RowKit Go.Bw Go.Maps
set_option linter.unusedVariables false
set_option linter.unusedSimpArgs false

/-- All bytes of a file. -/
def _root_.Go.Bw.Cont.all (c : Cont) : List Int := c.safe ++ c.wait
/-- The files that can be read. -/
theorem names_files {A : ADsk} (ho : A.Ok) : ∃ F : List (Nm × Cont), A.names = F.map (·.1) ∧ (∀ (j : Nat) (q : Nm × Cont), F[j]? = some q → A.read q.1 = (q.2.all, 0) ∧ namedB q.1 = true ∧ q.2.all.length ≤ 1048576) ∧ F.length ≤ 16 := by
  cases h : A.off with
  | true => exact ⟨[], by unfold ADsk.names; rw [h]; rfl, fun j q hq => by simp at hq, by simp⟩
  | false => exact ⟨A.files, by unfold ADsk.names; rw [h]; rfl, fun j q hq => ⟨read_at ho h hq, ho.names q (List.mem_of_getElem? hq), by have := ho.small q (List.mem_of_getElem? hq); unfold Cont.all; rw [List.length_append]; exact this⟩, ho.few⟩

abbrev draft : Nm := [100, 114, 97, 102, 116]
def snapNo (l : Nm) : Int := num9 115 0 (-1) l
/-- What is left to take away. -/
def saveGo (n : Int) : List Nm → ADsk → ADsk × Int
  | [], A => (A, 0)
  | l :: r, A => if snapNo l < 0 ∨ snapNo l = n then saveGo n r A else if (A.remove l).2 ≠ 0 then A.remove l else saveGo n r (A.remove l).1
def save4 (n : Int) (R : ADsk × Int) : ADsk × Int := if R.2 ≠ 0 then R else saveGo n R.1.names R.1
def save3 (n : Int) (R : ADsk × Int) : ADsk × Int := if R.2 ≠ 0 then R else save4 n (R.1.rename draft (nm9 115 0 n))
def save2 (n : Int) (R : ADsk × Int) : ADsk × Int := if R.2 ≠ 0 then R else save3 n (R.1.sync draft)
def save1 (n : Int) (body : List Int) (R : ADsk × Int) : ADsk × Int := if R.2 ≠ 0 then R else save2 n (R.1.append draft (encode n body))
def saveA (A : ADsk) (n : Int) (body : List Int) : ADsk × Int :=
  if nm9 115 0 n = [] then (A, 1) else if 1048564 < body.length then (A, 3) else if A.off then (A, 20)
  else save1 n body (if (A.read draft).2 = 0 then A.remove draft else (A, 0))

theorem hstep_of {O : Nat → Prop} {w w' : World} {d : Nat} {A' : ADsk} {r : ADsk × Int} {er : Int} (hr : r = (A', er)) (hH : Held O w' d A') (hm : Mod (fun k => ¬ O k) w w') :
    HStep O w d (.int .i64 r.2) r.1 (.returned (.int .i64 er)) w' := by subst hr; exact ⟨rfl, hH, hm⟩

set_option maxRecDepth 100000 in
set_option maxHeartbeats 16000000 in
theorem save_any {O : Nat → Prop} {w : World} {d : Nat} {A : ADsk} (h : Held O w d A) (n : Int) (hn0 : -9223372036854775808 ≤ n) (hn1 : n ≤ 9223372036854775807) (v : Value) (body : List Int)
    (hR : Reads w 1 v body.length (bcells body)) (hO : body ≠ [] → ∀ k, v.ownBlock = some k → O k) (hl : body.length ≤ 140737488351232) (hL : Laid w) (hLO : ∀ k, Lk k → O k) :
    Calls Tryd.prog 20 #[.pointer (some ⟨d, 0, none⟩), .int .i64 n, v] w (HStep O w d (.int .i64 (saveA A n body).2) (saveA A n body).1) := by
  obtain ⟨a, c, rfl⟩ := reads_form hR
  have H := Lib.hid h
  have HR := Lib.hid hR
  have HO := Lib.hid hO
  have HL := Lib.hid hL
  have HLO := Lib.hid hLO
  clear h hR hO hL hLO
  obtain ⟨r, hr⟩ : ∃ r, r = saveA A n body := ⟨_, rfl⟩
  rw [← hr]
  have RR := Lib.hid hr
  clear hr
  obtain ⟨nm, hnm⟩ : ∃ nm, nm = nm9 115 0 n := ⟨_, rfl⟩
  have NM := Lib.hid hnm
  clear hnm
  go_enter Tryd.func20, Tryd.ntmps20
  go_wp2_with fail
  refine (snapName_any w n hn0 hn1 HL.out).mono ?_
  rw [← NM.out]
  rintro e w1 ⟨rfl, hb⟩
  have B1 := Lib.hid (Mod.ofBelow hb)
  have H1 := Lib.hid (H.out.mod (Mod.ofBelow hb) (fun _ _ h => h.elim))
  have L1 := Lib.hid (HL.out.below hb)
  have R1 := Lib.hid (reads_later HR.out (Mod.ofBelow hb) (fun _ _ h => h))
  have M1 := Lib.hid (B1.out.mono (T := fun k => ¬ O k) (fun _ _ h => h.elim))
  clear hb
  cases nm with
  | nil =>
    have E := Lib.hid (RR.out.trans (show saveA A n body = (A, 1) from by unfold saveA; rw [if_pos NM.out.symm]))
    go_wp2_with fail
    go_ret
    exact hstep_of E.out H1.out M1.out
  | cons n0 n1 =>
  have hne : (⟨(n0 :: n1).toArray⟩ : ByteArray).toList.isEmpty = false := by rw [ByteArray.toList_eq]; rfl
  have NE := Lib.hid (show nm9 115 0 n ≠ [] from by rw [← NM.out]; simp)
  generalize (⟨(n0 :: n1).toArray⟩ : ByteArray) = ns0 at hne
  by_cases hbl : 1048564 < body.length
  case pos =>
    have hbl' : (1048564 : Int) < body.length := by omega
    have E := Lib.hid (RR.out.trans (show saveA A n body = (A, 3) from by unfold saveA; rw [if_neg NE.out, if_pos hbl]))
    clear hbl
    go_wp2_with fail
    go_ret
    exact hstep_of E.out H1.out M1.out
  have E1 := Lib.hid (RR.out.trans (show saveA A n body = if A.off then (A, 20) else save1 n body (if (A.read draft).2 = 0 then A.remove draft else (A, 0)) from by unfold saveA; rw [if_neg NE.out, if_neg hbl]))
  have hbl2 : body.length ≤ 1048564 := by omega
  clear hbl
  go_wp2_with fail
  refine (held_down H1.out).mono ?_
  rintro e w2 ⟨rfl, rfl⟩
  cases hoff : A.off with
  | true =>
    have E := Lib.hid (E1.out.trans (show _ = (A, 20) from by rw [hoff]; rfl))
    clear hoff
    go_wp2_with fail
    go_ret
    exact hstep_of E.out H1.out M1.out
  | false =>
  have E2 := Lib.hid (E1.out.trans (show _ = save1 n body (if (A.read draft).2 = 0 then A.remove draft else (A, 0)) from by rw [hoff]; rfl))
  clear hoff
  obtain ⟨rd, er, hrd⟩ : ∃ rd er, A.read draft = (rd, er) := ⟨_, _, rfl⟩
  have E3 := Lib.hid (E2.out.trans (show _ = save1 n body (if er = 0 then A.remove draft else (A, 0)) from by rw [hrd]))
  go_wp2_with fail
  refine (held_read_to H1.out ⟨#[100, 114, 97, 102, 116]⟩ (by unfold maxLen; decide) hrd).mono ?_
  rintro e w3 ⟨v3, rfl, ho, hb, hH⟩
  obtain ⟨a3, c3, hv3, _⟩ := ownsRow_slice ho
  subst hv3
  have H3 := Lib.hid (hH.weaken (T := O) (fun k hk => Or.inl hk))
  have M3 := Lib.hid (M1.out.trans (Mod.ofBelow hb) (fun _ _ h => h.elim))
  have L3 := Lib.hid (L1.out.below hb)
  have R3 := Lib.hid (reads_later R1.out (Mod.ofBelow hb) (fun _ _ h => h))
  clear hrd ho hb hH
  have RO := Lib.hid (show body ≠ [] → ∀ k, Value.ownBlock (.slice a body.length c) = some k → k < w.heap.size from fun hne k hk => reads_lt HR.out hne k hk)
  have JOIN : ∀ (A1 : ADsk) (wk : World), Hid (Held O wk d A1) → Hid (Mod (fun k => ¬ O k) w wk) → Hid (Laid wk) → Hid (Reads wk 1 (.slice a body.length c) body.length (bcells body)) → Hid (r = save1 n body (A1, 0)) → True := fun _ _ _ _ _ _ _ => trivial
  clear JOIN
  by_cases her : er = 0
  · have her' : (er == 0) = true := by simp [her]
    obtain ⟨A1, e1, hrm⟩ : ∃ A1 e1, A.remove draft = (A1, e1) := ⟨_, _, rfl⟩
    have E4 := Lib.hid (E3.out.trans (show _ = save1 n body (A1, e1) from by rw [if_pos her, hrm]))
    clear her
    go_wp2_with fail
    have hh := held_remove H3.out ⟨#[100, 114, 97, 102, 116]⟩ (by unfold maxLen; decide)
    rw [show A.remove (⟨#[100, 114, 97, 102, 116]⟩ : ByteArray).data.toList = (A1, e1) from hrm] at hh
    refine hh.mono ?_
    rintro e w4 ⟨rfl, hH, hm⟩
    have HX := Lib.hid hH
    have MX := Lib.hid (M3.out.trans hm (fun _ _ h => h))
    have LX := Lib.hid (L3.out.mod hm (fun k hk h => h (HLO.out k hk)))
    have RX := Lib.hid (Reads.kept' R3.out hm (fun hne k hk h => h (HO.out (bcells_ne hne) k hk)))
    clear hh hrm hH hm
    by_cases he1 : e1 = 0
    case neg =>
      have he1' : (e1 == 0) = false := by simp [he1]
      have E := Lib.hid (E4.out.trans (show _ = (A1, e1) from by unfold save1; rw [if_pos he1]))
      clear he1
      go_wp2_with fail
      go_ret
      exact hstep_of E.out HX.out MX.out
    subst he1
    have EX := Lib.hid E4.out
    clear E4 E3 E2 E1 RR
    go_wp2_with fail
    refine (encode_any _ n _ body RX.out (by omega) LX.out).mono ?_
    rintro e w5 ⟨v5, rfl, ho, hb⟩
    obtain ⟨a5, c5, hv5, _⟩ := ownsRow_slice ho
    subst hv5
    have O5 := Lib.hid ho
    have H5 := Lib.hid (HX.out.fresh (Mod.ofBelow hb) (fun _ _ h => h.elim))
    have M5 := Lib.hid (MX.out.trans (Mod.ofBelow hb) (fun _ _ h => h.elim))
    have L5 := Lib.hid (LX.out.below hb)
    obtain ⟨A2, e2, h2⟩ : ∃ A2 e2, A1.append draft (encode n body) = (A2, e2) := ⟨_, _, rfl⟩
    have E5 := Lib.hid (EX.out.trans (show _ = save2 n (A2, e2) from by unfold save1; rw [if_neg (by simp), h2]))
    have HA2 := Lib.hid h2
    clear ho hb h2
    go_wp2_with fail
    refine (held_append_to H5.out ⟨#[100, 114, 97, 102, 116]⟩ (by unfold maxLen; decide) _ (encode n body) (ownsRow_reads O5.out) (fun _ k hk => Or.inr (O5.out.lt k hk)) (by rw [encode_length]; omega) HA2.out).mono ?_
    rintro e w6 ⟨rfl, hH, hm⟩
    have H6 := Lib.hid (hH.weaken (T := O) (fun k hk => Or.inl hk))
    have M6 := Lib.hid (M5.out.trans hm (fun k _ h hk => h (Or.inl hk)))
    have L6 := Lib.hid (L5.out.mod hm (fun k hk h => h (Or.inl (HLO.out k hk))))
    clear hH hm
    by_cases he2 : e2 = 0
    case neg =>
      have he2' : (e2 == 0) = false := by simp [he2]
      have E := Lib.hid (E5.out.trans (show _ = (A2, e2) from by unfold save2; rw [if_pos he2]))
      clear he2
      go_wp2_with fail
      go_ret
      exact hstep_of E.out H6.out M6.out
    subst he2
    obtain ⟨A3, e3, h3⟩ : ∃ A3 e3, A2.sync draft = (A3, e3) := ⟨_, _, rfl⟩
    have E6 := Lib.hid (E5.out.trans (show _ = save3 n (A3, e3) from by unfold save2; rw [if_neg (by simp), h3]))
    have HA3 := Lib.hid h3
    clear h3
    go_wp2_with fail
    refine (held_sync_to H6.out ⟨#[100, 114, 97, 102, 116]⟩ (by unfold maxLen; decide) HA3.out).mono ?_
    rintro e w7 ⟨rfl, hH, hm⟩
    have H7 := Lib.hid hH
    have M7 := Lib.hid (M6.out.trans hm (fun _ _ h => h))
    have L7 := Lib.hid (L6.out.mod hm (fun k hk h => h (HLO.out k hk)))
    clear hH hm
    by_cases he3 : e3 = 0
    case neg =>
      have he3' : (e3 == 0) = false := by simp [he3]
      have E := Lib.hid (E6.out.trans (show _ = (A3, e3) from by unfold save3; rw [if_pos he3]))
      clear he3
      go_wp2_with fail
      go_ret
      exact hstep_of E.out H7.out M7.out
    subst he3
    obtain ⟨A4, e4, h4⟩ : ∃ A4 e4, A3.rename draft (nm9 115 0 n) = (A4, e4) := ⟨_, _, rfl⟩
    have E7 := Lib.hid (E6.out.trans (show _ = save4 n (A4, e4) from by unfold save3; rw [if_neg (by simp), h4]))
    have HA4 := Lib.hid h4
    clear h4
    go_wp2_with fail
    refine (snapName_any _ n hn0 hn1 L7.out).mono ?_
    rintro e w8 ⟨rfl, hb⟩
    have H8 := Lib.hid (H7.out.mod (Mod.ofBelow hb) (fun _ _ h => h.elim))
    have M8 := Lib.hid (M7.out.trans (Mod.ofBelow hb) (fun _ _ h => h.elim))
    have L8 := Lib.hid (L7.out.below hb)
    have NZ := Lib.hid (show (⟨(nm9 115 0 n).toArray⟩ : ByteArray).size ≤ maxLen from by show (nm9 115 0 n).toArray.size ≤ _; rw [List.size_toArray, nm9_length NE.out]; unfold maxLen; decide)
    clear hb
    go_wp2_with fail
    refine (held_rename_to H8.out ⟨#[100, 114, 97, 102, 116]⟩ ⟨(nm9 115 0 n).toArray⟩ (by unfold maxLen; decide) NZ.out HA4.out).mono ?_
    rintro e w9 ⟨rfl, hH, hm⟩
    have H9 := Lib.hid hH
    have M9 := Lib.hid (M8.out.trans hm (fun _ _ h => h))
    have L9 := Lib.hid (L8.out.mod hm (fun k hk h => h (HLO.out k hk)))
    clear hH hm
    by_cases he4 : e4 = 0
    case neg =>
      have he4' : (e4 == 0) = false := by simp [he4]
      have E := Lib.hid (E7.out.trans (show _ = (A4, e4) from by unfold save4; rw [if_pos he4]))
      clear he4
      go_wp2_with fail
      go_ret
      exact hstep_of E.out H9.out M9.out
    subst he4
    obtain ⟨F, hN0, hF0, hFl⟩ := names_files H9.out.ok
    have E8 := Lib.hid (E7.out.trans (show _ = saveGo n (F.map (·.1)) A4 from by unfold save4; rw [if_neg (by simp)]; show saveGo n A4.names A4 = _; rw [hN0]))
    have HF := Lib.hid hF0
    go_wp2_with fail
    refine (held_names H9.out).mono ?_
    rintro e w10 ⟨v10, rfl, ho, hb, hH⟩
    rw [hN0, List.length_map] at ho
    obtain ⟨a10, c10, hv10, _⟩ := ownsRow_slice ho
    subst hv10
    have NROW := Lib.hid ho
    have H10 := Lib.hid hH
    have M10 := Lib.hid (M9.out.trans (Mod.ofBelow hb) (fun _ _ h => h.elim))
    have L10 := Lib.hid (L9.out.below hb)
    have START := Lib.hid (show r = saveGo n ((F.map (·.1)).drop 0) A4 from E8.out)
    clear ho hb hH hN0 hF0
    go_wp2_with fail
    go_loopw [66] (fun i wr => ∃ j : Nat, j ≤ F.length ∧ i = .int .i64 j ∧ ∃ A5, Hid (r = saveGo n ((F.map (·.1)).drop j) A5) ∧ Held (fun k => O k ∨ (w9.heap.size ≤ k ∧ k < w10.heap.size)) wr d A5 ∧ Mod (fun k => ¬ (O k ∨ (w9.heap.size ≤ k ∧ k < w10.heap.size))) w10 wr) (fun i _ => F.length - (intOf i).toNat)
    case atStart => exact ⟨0, Nat.zero_le _, rfl, A4, START, H10.out, Mod.refl _ _⟩
    case round =>
      obtain ⟨j, hj, rfl, A5, EJ, hH, hm⟩ := hrel
      have HJ := Lib.hid hH
      have MJ := Lib.hid hm
      have LJ := Lib.hid (L10.out.mod hm (fun k hk h => h (Or.inl (HLO.out k hk))))
      clear hH hm
      by_cases hjl : j < F.length
      · obtain ⟨q, hq⟩ : ∃ q, F[j]? = some q := ⟨_, List.getElem?_eq_getElem hjl⟩
        have EJ2 := Lib.hid (EJ.out.trans (show _ = saveGo n (q.1 :: (F.map (·.1)).drop (j + 1)) A5 from by
          rw [List.drop_eq_getElem_cons (by simpa using hjl)]
          simp only [List.getElem_map]
          rw [List.getElem?_eq_getElem hjl] at hq
          rw [Option.some.inj hq]))
        have hcell := row_cell (ownsRow_kept NROW.out (fun k hk => MJ.out.block k (NROW.out.lt k hk).2 (fun h => h (Or.inr (NROW.out.lt k hk))))) (j := j) (u := .string ⟨q.1.toArray⟩) (by rw [List.getElem?_map, List.getElem?_map, hq]; rfl)
        obtain ⟨b3, rfl⟩ := hcell.1
        have hcell := hcell.2 _ rfl
        have QN := Lib.hid (nm_small (HF.out j q hq).2.1)
        clear hq EJ
        go_wp2_with fail
        refine (snapNumber_any _ ⟨q.1.toArray⟩ QN.out LJ.out).mono ?_
        rintro e w11 ⟨rfl, hb⟩
        obtain ⟨nn, hnn⟩ : ∃ nn, nn = snapNo q.1 := ⟨_, rfl⟩
        have HNN := Lib.hid hnn
        rw [show num9 115 0 (-1) (⟨q.1.toArray⟩ : ByteArray).data.toList = nn from hnn.symm]
        have HJ2 := Lib.hid (HJ.out.mod (Mod.ofBelow hb) (fun _ _ h => h.elim))
        have MJ2 := Lib.hid (MJ.out.trans (Mod.ofBelow hb) (fun _ _ h => h.elim))
        clear hnn hb hcell
        by_cases hskip : nn < 0 ∨ nn = n
        · have EJ3 := Lib.hid (EJ2.out.trans (show _ = saveGo n ((F.map (·.1)).drop (j + 1)) A5 from by
            show (if snapNo q.1 < 0 ∨ snapNo q.1 = n then _ else _) = _
            rw [← HNN.out, if_pos hskip]))
          by_cases hneg : nn < 0
          · clear hskip
            go_wp2_with fail
            go_roundw
            case rel => exact ⟨j + 1, by omega, by go_num, A5, EJ3, HJ2.out, MJ2.out⟩
            case measure => simp [intOf]; omega
          · obtain rfl : nn = n := by omega
            clear hskip
            go_wp2_with fail
            go_roundw
            case rel => exact ⟨j + 1, by omega, by go_num, A5, EJ3, HJ2.out, MJ2.out⟩
            case measure => simp [intOf]; omega
        · obtain ⟨A6, e6, h6⟩ : ∃ A6 e6, A5.remove q.1 = (A6, e6) := ⟨_, _, rfl⟩
          have EJ3 := Lib.hid (EJ2.out.trans (show _ = if e6 ≠ 0 then (A6, e6) else saveGo n ((F.map (·.1)).drop (j + 1)) A6 from by
            show (if snapNo q.1 < 0 ∨ snapNo q.1 = n then _ else if (A5.remove q.1).2 ≠ 0 then A5.remove q.1 else saveGo n _ (A5.remove q.1).1) = _
            rw [← HNN.out, if_neg hskip, h6]))
          have hge : ¬ nn < 0 := by omega
          have hnn2 : (nn == n) = false := by rw [beq_eq_false_iff_ne]; omega
          have hh := held_remove HJ2.out ⟨q.1.toArray⟩ QN.out
          rw [show A5.remove (⟨q.1.toArray⟩ : ByteArray).data.toList = (A6, e6) from h6] at hh
          have HH := Lib.hid hh
          clear hskip h6 hh
          go_wp2_with fail
          refine HH.out.mono ?_
          rintro e w12 ⟨rfl, hH, hm⟩
          have HJ3 := Lib.hid hH
          have MJ3 := Lib.hid (MJ2.out.trans hm (fun _ _ h => h))
          clear hH hm
          by_cases he6 : e6 = 0
          · have he6' : (e6 == 0) = true := by simp [he6]
            have EJ4 := Lib.hid (EJ3.out.trans (show _ = saveGo n ((F.map (·.1)).drop (j + 1)) A6 from by rw [if_neg (by simp [he6])]))
            subst he6
            go_wp2_with fail
            go_roundw
            case rel => exact ⟨j + 1, by omega, by go_num, A6, EJ4, HJ3.out, MJ3.out⟩
            case measure => simp [intOf]; omega
          · have he6' : (e6 == 0) = false := by simp [he6]
            have EJ4 := Lib.hid (EJ3.out.trans (show _ = (A6, e6) from by rw [if_pos he6]))
            clear he6
            go_wp2_with fail
            go_ret
            exact hstep_of EJ4.out (HJ3.out.weaken (fun k hk => Or.inl hk)) (M10.out.trans MJ3.out (fun k _ h hk => h (Or.inl hk)))
      · obtain rfl : j = F.length := by omega
        have EJ4 := Lib.hid (EJ.out.trans (show _ = (A5, 0) from by rw [List.drop_of_length_le (by simp)]; rfl))
        go_wp2_with fail
        go_ret
        exact hstep_of EJ4.out (HJ.out.weaken (fun k hk => Or.inl hk)) (M10.out.trans MJ.out (fun k _ h hk => h (Or.inl hk)))
  · have her' : (er == 0) = false := by simp [her]
    have E4 := Lib.hid (E3.out.trans (show _ = save1 n body (A, 0) from by rw [if_neg her]))
    clear her
    obtain ⟨A1, rfl⟩ : ∃ A1, A1 = A := ⟨_, rfl⟩
    have EX := Lib.hid E4.out
    have HX := Lib.hid H3.out
    have MX := Lib.hid M3.out
    have LX := Lib.hid L3.out
    have RX := Lib.hid R3.out
    clear E4 E3 E2 E1 RR
    go_wp2_with fail
    refine (encode_any _ n _ body RX.out (by omega) LX.out).mono ?_
    rintro e w5 ⟨v5, rfl, ho, hb⟩
    obtain ⟨a5, c5, hv5, _⟩ := ownsRow_slice ho
    subst hv5
    have O5 := Lib.hid ho
    have H5 := Lib.hid (HX.out.fresh (Mod.ofBelow hb) (fun _ _ h => h.elim))
    have M5 := Lib.hid (MX.out.trans (Mod.ofBelow hb) (fun _ _ h => h.elim))
    have L5 := Lib.hid (LX.out.below hb)
    obtain ⟨A2, e2, h2⟩ : ∃ A2 e2, A1.append draft (encode n body) = (A2, e2) := ⟨_, _, rfl⟩
    have E5 := Lib.hid (EX.out.trans (show _ = save2 n (A2, e2) from by unfold save1; rw [if_neg (by simp), h2]))
    have HA2 := Lib.hid h2
    clear ho hb h2
    go_wp2_with fail
    refine (held_append_to H5.out ⟨#[100, 114, 97, 102, 116]⟩ (by unfold maxLen; decide) _ (encode n body) (ownsRow_reads O5.out) (fun _ k hk => Or.inr (O5.out.lt k hk)) (by rw [encode_length]; omega) HA2.out).mono ?_
    rintro e w6 ⟨rfl, hH, hm⟩
    have H6 := Lib.hid (hH.weaken (T := O) (fun k hk => Or.inl hk))
    have M6 := Lib.hid (M5.out.trans hm (fun k _ h hk => h (Or.inl hk)))
    have L6 := Lib.hid (L5.out.mod hm (fun k hk h => h (Or.inl (HLO.out k hk))))
    clear hH hm
    by_cases he2 : e2 = 0
    case neg =>
      have he2' : (e2 == 0) = false := by simp [he2]
      have E := Lib.hid (E5.out.trans (show _ = (A2, e2) from by unfold save2; rw [if_pos he2]))
      clear he2
      go_wp2_with fail
      go_ret
      exact hstep_of E.out H6.out M6.out
    subst he2
    obtain ⟨A3, e3, h3⟩ : ∃ A3 e3, A2.sync draft = (A3, e3) := ⟨_, _, rfl⟩
    have E6 := Lib.hid (E5.out.trans (show _ = save3 n (A3, e3) from by unfold save2; rw [if_neg (by simp), h3]))
    have HA3 := Lib.hid h3
    clear h3
    go_wp2_with fail
    refine (held_sync_to H6.out ⟨#[100, 114, 97, 102, 116]⟩ (by unfold maxLen; decide) HA3.out).mono ?_
    rintro e w7 ⟨rfl, hH, hm⟩
    have H7 := Lib.hid hH
    have M7 := Lib.hid (M6.out.trans hm (fun _ _ h => h))
    have L7 := Lib.hid (L6.out.mod hm (fun k hk h => h (HLO.out k hk)))
    clear hH hm
    by_cases he3 : e3 = 0
    case neg =>
      have he3' : (e3 == 0) = false := by simp [he3]
      have E := Lib.hid (E6.out.trans (show _ = (A3, e3) from by unfold save3; rw [if_pos he3]))
      clear he3
      go_wp2_with fail
      go_ret
      exact hstep_of E.out H7.out M7.out
    subst he3
    obtain ⟨A4, e4, h4⟩ : ∃ A4 e4, A3.rename draft (nm9 115 0 n) = (A4, e4) := ⟨_, _, rfl⟩
    have E7 := Lib.hid (E6.out.trans (show _ = save4 n (A4, e4) from by unfold save3; rw [if_neg (by simp), h4]))
    have HA4 := Lib.hid h4
    clear h4
    go_wp2_with fail
    refine (snapName_any _ n hn0 hn1 L7.out).mono ?_
    rintro e w8 ⟨rfl, hb⟩
    have H8 := Lib.hid (H7.out.mod (Mod.ofBelow hb) (fun _ _ h => h.elim))
    have M8 := Lib.hid (M7.out.trans (Mod.ofBelow hb) (fun _ _ h => h.elim))
    have L8 := Lib.hid (L7.out.below hb)
    have NZ := Lib.hid (show (⟨(nm9 115 0 n).toArray⟩ : ByteArray).size ≤ maxLen from by show (nm9 115 0 n).toArray.size ≤ _; rw [List.size_toArray, nm9_length NE.out]; unfold maxLen; decide)
    clear hb
    go_wp2_with fail
    refine (held_rename_to H8.out ⟨#[100, 114, 97, 102, 116]⟩ ⟨(nm9 115 0 n).toArray⟩ (by unfold maxLen; decide) NZ.out HA4.out).mono ?_
    rintro e w9 ⟨rfl, hH, hm⟩
    have H9 := Lib.hid hH
    have M9 := Lib.hid (M8.out.trans hm (fun _ _ h => h))
    have L9 := Lib.hid (L8.out.mod hm (fun k hk h => h (HLO.out k hk)))
    clear hH hm
    by_cases he4 : e4 = 0
    case neg =>
      have he4' : (e4 == 0) = false := by simp [he4]
      have E := Lib.hid (E7.out.trans (show _ = (A4, e4) from by unfold save4; rw [if_pos he4]))
      clear he4
      go_wp2_with fail
      go_ret
      exact hstep_of E.out H9.out M9.out
    subst he4
    obtain ⟨F, hN0, hF0, hFl⟩ := names_files H9.out.ok
    have E8 := Lib.hid (E7.out.trans (show _ = saveGo n (F.map (·.1)) A4 from by unfold save4; rw [if_neg (by simp)]; show saveGo n A4.names A4 = _; rw [hN0]))
    have HF := Lib.hid hF0
    go_wp2_with fail
    refine (held_names H9.out).mono ?_
    rintro e w10 ⟨v10, rfl, ho, hb, hH⟩
    rw [hN0, List.length_map] at ho
    obtain ⟨a10, c10, hv10, _⟩ := ownsRow_slice ho
    subst hv10
    have NROW := Lib.hid ho
    have H10 := Lib.hid hH
    have M10 := Lib.hid (M9.out.trans (Mod.ofBelow hb) (fun _ _ h => h.elim))
    have L10 := Lib.hid (L9.out.below hb)
    have START := Lib.hid (show r = saveGo n ((F.map (·.1)).drop 0) A4 from E8.out)
    clear ho hb hH hN0 hF0
    go_wp2_with fail
    go_loopw [66] (fun i wr => ∃ j : Nat, j ≤ F.length ∧ i = .int .i64 j ∧ ∃ A5, Hid (r = saveGo n ((F.map (·.1)).drop j) A5) ∧ Held (fun k => O k ∨ (w9.heap.size ≤ k ∧ k < w10.heap.size)) wr d A5 ∧ Mod (fun k => ¬ (O k ∨ (w9.heap.size ≤ k ∧ k < w10.heap.size))) w10 wr) (fun i _ => F.length - (intOf i).toNat)
    case atStart => exact ⟨0, Nat.zero_le _, rfl, A4, START, H10.out, Mod.refl _ _⟩
    case round =>
      obtain ⟨j, hj, rfl, A5, EJ, hH, hm⟩ := hrel
      have HJ := Lib.hid hH
      have MJ := Lib.hid hm
      have LJ := Lib.hid (L10.out.mod hm (fun k hk h => h (Or.inl (HLO.out k hk))))
      clear hH hm
      by_cases hjl : j < F.length
      · obtain ⟨q, hq⟩ : ∃ q, F[j]? = some q := ⟨_, List.getElem?_eq_getElem hjl⟩
        have EJ2 := Lib.hid (EJ.out.trans (show _ = saveGo n (q.1 :: (F.map (·.1)).drop (j + 1)) A5 from by
          rw [List.drop_eq_getElem_cons (by simpa using hjl)]
          simp only [List.getElem_map]
          rw [List.getElem?_eq_getElem hjl] at hq
          rw [Option.some.inj hq]))
        have hcell := row_cell (ownsRow_kept NROW.out (fun k hk => MJ.out.block k (NROW.out.lt k hk).2 (fun h => h (Or.inr (NROW.out.lt k hk))))) (j := j) (u := .string ⟨q.1.toArray⟩) (by rw [List.getElem?_map, List.getElem?_map, hq]; rfl)
        obtain ⟨b3, rfl⟩ := hcell.1
        have hcell := hcell.2 _ rfl
        have QN := Lib.hid (nm_small (HF.out j q hq).2.1)
        clear hq EJ
        go_wp2_with fail
        refine (snapNumber_any _ ⟨q.1.toArray⟩ QN.out LJ.out).mono ?_
        rintro e w11 ⟨rfl, hb⟩
        obtain ⟨nn, hnn⟩ : ∃ nn, nn = snapNo q.1 := ⟨_, rfl⟩
        have HNN := Lib.hid hnn
        rw [show num9 115 0 (-1) (⟨q.1.toArray⟩ : ByteArray).data.toList = nn from hnn.symm]
        have HJ2 := Lib.hid (HJ.out.mod (Mod.ofBelow hb) (fun _ _ h => h.elim))
        have MJ2 := Lib.hid (MJ.out.trans (Mod.ofBelow hb) (fun _ _ h => h.elim))
        clear hnn hb hcell
        by_cases hskip : nn < 0 ∨ nn = n
        · have EJ3 := Lib.hid (EJ2.out.trans (show _ = saveGo n ((F.map (·.1)).drop (j + 1)) A5 from by
            show (if snapNo q.1 < 0 ∨ snapNo q.1 = n then _ else _) = _
            rw [← HNN.out, if_pos hskip]))
          by_cases hneg : nn < 0
          · clear hskip
            go_wp2_with fail
            go_roundw
            case rel => exact ⟨j + 1, by omega, by go_num, A5, EJ3, HJ2.out, MJ2.out⟩
            case measure => simp [intOf]; omega
          · obtain rfl : nn = n := by omega
            clear hskip
            go_wp2_with fail
            go_roundw
            case rel => exact ⟨j + 1, by omega, by go_num, A5, EJ3, HJ2.out, MJ2.out⟩
            case measure => simp [intOf]; omega
        · obtain ⟨A6, e6, h6⟩ : ∃ A6 e6, A5.remove q.1 = (A6, e6) := ⟨_, _, rfl⟩
          have EJ3 := Lib.hid (EJ2.out.trans (show _ = if e6 ≠ 0 then (A6, e6) else saveGo n ((F.map (·.1)).drop (j + 1)) A6 from by
            show (if snapNo q.1 < 0 ∨ snapNo q.1 = n then _ else if (A5.remove q.1).2 ≠ 0 then A5.remove q.1 else saveGo n _ (A5.remove q.1).1) = _
            rw [← HNN.out, if_neg hskip, h6]))
          have hge : ¬ nn < 0 := by omega
          have hnn2 : (nn == n) = false := by rw [beq_eq_false_iff_ne]; omega
          have hh := held_remove HJ2.out ⟨q.1.toArray⟩ QN.out
          rw [show A5.remove (⟨q.1.toArray⟩ : ByteArray).data.toList = (A6, e6) from h6] at hh
          have HH := Lib.hid hh
          clear hskip h6 hh
          go_wp2_with fail
          refine HH.out.mono ?_
          rintro e w12 ⟨rfl, hH, hm⟩
          have HJ3 := Lib.hid hH
          have MJ3 := Lib.hid (MJ2.out.trans hm (fun _ _ h => h))
          clear hH hm
          by_cases he6 : e6 = 0
          · have he6' : (e6 == 0) = true := by simp [he6]
            have EJ4 := Lib.hid (EJ3.out.trans (show _ = saveGo n ((F.map (·.1)).drop (j + 1)) A6 from by rw [if_neg (by simp [he6])]))
            subst he6
            go_wp2_with fail
            go_roundw
            case rel => exact ⟨j + 1, by omega, by go_num, A6, EJ4, HJ3.out, MJ3.out⟩
            case measure => simp [intOf]; omega
          · have he6' : (e6 == 0) = false := by simp [he6]
            have EJ4 := Lib.hid (EJ3.out.trans (show _ = (A6, e6) from by rw [if_pos he6]))
            clear he6
            go_wp2_with fail
            go_ret
            exact hstep_of EJ4.out (HJ3.out.weaken (fun k hk => Or.inl hk)) (M10.out.trans MJ3.out (fun k _ h hk => h (Or.inl hk)))
      · obtain rfl : j = F.length := by omega
        have EJ4 := Lib.hid (EJ.out.trans (show _ = (A5, 0) from by rw [List.drop_of_length_le (by simp)]; rfl))
        go_wp2_with fail
        go_ret
        exact hstep_of EJ4.out (HJ.out.weaken (fun k hk => Or.inl hk)) (M10.out.trans MJ.out (fun k _ h hk => h (Or.inl hk)))
end Go.Proofs.YtmpdmejlpicdlaaDoor

/- snap.Load. -/
import Derived.Test.YtmpdmejlpicdlaaDoorSnapS
namespace Go.Proofs.YtmpdmejlpicdlaaDoor
open Go.RowKit Go.Bw Go.Maps
set_option linter.unusedVariables false
set_option linter.unusedSimpArgs false

theorem snapNo_bounds (l : Nm) : -1 ≤ snapNo l ∧ snapNo l ≤ 999999999 := by
  by_cases h : snapNo l = -1
  · rw [h]; decide
  · have h1 := nm9_num9 h
    have h2 : nm9 115 0 (snapNo l) ≠ [] := by rw [show nm9 115 0 (snapNo l) = l from h1.1]; exact h1.2
    have := nm9_bounds h2
    omega

/-- Every file's bytes are bytes. -/
def BytesF (F : List (Nm × Cont)) : Prop := ∀ p ∈ F, Bytes p.2.all

def loadStep (p : Nm × Cont) (r : Int × List Int) : Int × List Int :=
  if snapNo p.1 < 0 then r else if (decode (snapNo p.1) p.2.all).2 = 0 then (snapNo p.1, (decode (snapNo p.1) p.2.all).1) else r
def loadGo : List (Nm × Cont) → Int × List Int → Int × List Int
  | [], r => r
  | p :: F, r => loadGo F (loadStep p r)

/-- Number, bytes of one's own, a code. -/
def LoadOut (O : Nat → Prop) (w : World) (d : Nat) (A : ADsk) (n : Int) (xs : List Int) (er : Int) (e : Ending) (w' : World) : Prop :=
  ∃ v, e = .returned (.tuple #[.int .i64 n, v, .int .i64 er]) ∧ w'.ownsRow w.heap.size 5 1 v xs.length (bcells xs) ∧ Below w.heap.size w w' ∧ Held (fun k => O k ∨ (w.heap.size ≤ k ∧ k < w'.heap.size)) w' d A

set_option maxRecDepth 100000 in
set_option maxHeartbeats 8000000 in
theorem load_any {O : Nat → Prop} {w : World} {d : Nat} {A : ADsk} (h : Held O w d A) (hB : BytesF A.files) (hL : Laid w) :
    Calls Tryd.prog 21 #[.pointer (some ⟨d, 0, none⟩)] w (LoadOut O w d A (if A.off then 0 else (loadGo A.files (-1, [])).1) (if A.off then [] else (loadGo A.files (-1, [])).2) (if A.off then 20 else 0)) := by
  have H := Lib.hid h
  have HL := Lib.hid hL
  have HB := Lib.hid hB
  clear h hL hB
  cases hoff : A.off with
  | true =>
    go_enter Tryd.func21, Tryd.ntmps21
    go_wp2_with fail
    refine (held_down H.out).mono ?_
    rintro e w2 ⟨rfl, rfl⟩
    go_wp2_with fail
    go_ret3
    exact ⟨_, rfl, World.ownsRow_nil _ _ _ _, Below.refl _ _, H.out.weaken (fun k hk => hk.elim id (fun h => by omega))⟩
  | false =>
    obtain ⟨R, hR⟩ : ∃ R, R = loadGo A.files (-1, []) := ⟨_, rfl⟩
    rw [← hR]
    simp only [Bool.false_eq_true, if_false]
    have HRR := Lib.hid hR
    have HN := Lib.hid (show A.names = A.files.map (·.1) from by unfold ADsk.names; rw [hoff]; rfl)
    have HRD := Lib.hid (fun (j : Nat) (q : Nm × Cont) (hq : A.files[j]? = some q) => read_at H.out.ok hoff hq)
    have HOK := Lib.hid H.out.ok
    obtain ⟨F, hF⟩ : ∃ F, F = A.files := ⟨_, rfl⟩
    rw [← hF] at HB HRR HN HRD
    have HFF := Lib.hid hF
    have hFl : F.length ≤ 16 := by rw [hF]; exact H.out.ok.few
    have HOFF := Lib.hid hoff
    clear hR hF hoff
    go_enter Tryd.func21, Tryd.ntmps21
    go_wp2_with fail
    refine (held_down H.out).mono ?_
    rintro e w2 ⟨rfl, rfl⟩
    rw [HOFF.out]
    go_wp2_with fail
    refine (held_names H.out).mono ?_
    rintro e w3 ⟨v3, rfl, ho, hb, hH⟩
    rw [HN.out, List.length_map] at ho
    obtain ⟨a3, c3, hv3, _⟩ := ownsRow_slice ho
    subst hv3
    have NROW := Lib.hid ho
    have H3 := Lib.hid (hH.weaken (T := O) (fun k hk => Or.inl hk))
    have B3 := Lib.hid hb
    clear ho hb hH
    go_wp2_with fail
    go_loopw [5, 6, 23] (fun bn v i wr => ∃ (j : Nat) (r : Int × List Int), j ≤ F.length ∧ i = .int .i64 j ∧ bn = .int .i64 r.1 ∧ wr.ownsRow w.heap.size 5 1 v r.2.length (bcells r.2) ∧ Hid (R = loadGo (F.drop j) r) ∧ Held O wr d A ∧ Below w3.heap.size w3 wr) (fun _ _ i _ => F.length - (intOf i).toNat)
    case atStart => exact ⟨0, (-1, []), Nat.zero_le _, rfl, rfl, World.ownsRow_nil _ _ _ _, HRR, H3.out, Below.refl _ _⟩
    case round =>
      obtain ⟨j, r, hj, rfl, rfl, ho, EJ, hH, hb⟩ := hrel
      have HO := Lib.hid ho
      have HJ := Lib.hid hH
      have BJ := Lib.hid hb
      have BW := Lib.hid (B3.out.trans (hb.mono B3.out.size))
      have LJ := Lib.hid (HL.out.below (B3.out.trans (hb.mono B3.out.size)))
      clear ho hH hb
      by_cases hjl : j < F.length
      · obtain ⟨q, hq⟩ : ∃ q, F[j]? = some q := ⟨_, List.getElem?_eq_getElem hjl⟩
        have EJ2 := Lib.hid (EJ.out.trans (show _ = loadGo (F.drop (j + 1)) (loadStep q r) from by
          rw [List.drop_eq_getElem_cons hjl, (List.getElem?_eq_some_iff.1 hq).2]; rfl))
        have hmem := List.mem_of_getElem? hq
        have hcell := row_cell (ownsRow_kept NROW.out (fun k hk => BJ.out.block k (NROW.out.lt k hk).2)) (j := j) (u := .string ⟨q.1.toArray⟩) (by rw [List.getElem?_map, List.getElem?_map, hq]; rfl)
        obtain ⟨b3, rfl⟩ := hcell.1
        have hcell := hcell.2 _ rfl
        have QN := Lib.hid (nm_small (HOK.out.names q (by rw [← HFF.out]; exact hmem)))
        have QB := Lib.hid (HB.out q hmem)
        have QR := Lib.hid (HRD.out j q hq)
        have QL := Lib.hid (show q.2.all.length ≤ 1048576 from by have := HOK.out.small q (by rw [← HFF.out]; exact hmem); unfold Cont.all; rw [List.length_append]; exact this)
        clear hq EJ hmem
        go_wp2_with fail
        refine (snapNumber_any _ ⟨q.1.toArray⟩ QN.out LJ.out).mono ?_
        rintro e w4 ⟨rfl, hb⟩
        obtain ⟨nn, hnn⟩ : ∃ nn, nn = snapNo q.1 := ⟨_, rfl⟩
        rw [show num9 115 0 (-1) (⟨q.1.toArray⟩ : ByteArray).data.toList = nn from hnn.symm]
        have hn1 : -1 ≤ nn := by rw [hnn]; exact (snapNo_bounds q.1).1
        have hn2 : nn ≤ 999999999 := by rw [hnn]; exact (snapNo_bounds q.1).2
        have HNN := Lib.hid hnn
        have H4 := Lib.hid (HJ.out.mod (Mod.ofBelow hb) (fun _ _ h => h.elim))
        have B4 := Lib.hid (BJ.out.trans (hb.mono BJ.out.size))
        have O4 := Lib.hid (ownsRow_kept HO.out (fun k hk => hb.block k (HO.out.lt k hk).2))
        have L4 := Lib.hid (LJ.out.below hb)
        clear hnn hb hcell
        by_cases hneg : nn < 0
        · have EJ3 := Lib.hid (EJ2.out.trans (show _ = loadGo (F.drop (j + 1)) r from by unfold loadStep; rw [← HNN.out, if_pos hneg]))
          go_wp2_with fail
          go_roundw
          case rel => exact ⟨j + 1, r, by omega, by go_num, rfl, O4.out, EJ3, H4.out, B4.out⟩
          case measure => simp [intOf]; omega
        · have EJ3 := Lib.hid (EJ2.out.trans (show _ = loadGo (F.drop (j + 1)) (if (decode nn q.2.all).2 = 0 then (nn, (decode nn q.2.all).1) else r) from by unfold loadStep; rw [← HNN.out, if_neg hneg]))
          go_wp2_with fail
          refine (held_read_to H4.out _ QN.out QR.out).mono ?_
          rintro e w5 ⟨v5, rfl, ho, hb, hH⟩
          have HC := Lib.hid (fun (a : Option Addr) (k c : Nat) (e : v5 = .slice a k c) => show k ≤ c from by
            obtain ⟨a', c', h1, h2⟩ := ownsRow_slice ho
            rw [h1] at e; cases e; exact h2)
          have R5 := Lib.hid (ownsRow_reads ho)
          have H5 := Lib.hid (hH.weaken (T := O) (fun k hk => Or.inl hk))
          have B5 := Lib.hid (B4.out.trans (hb.mono B4.out.size))
          have O5 := Lib.hid (ownsRow_kept O4.out (fun k hk => hb.block k (O4.out.lt k hk).2))
          have L5 := Lib.hid (L4.out.below hb)
          clear ho hb hH
          go_wp2_with fail
          refine (decode_any w5 nn (by omega) (by omega) v5 q.2.all R5.out HC.out QB.out (Nat.le_trans QL.out (by decide)) L5.out).mono ?_
          obtain ⟨dc, hdc⟩ : ∃ dc, dc = decode nn q.2.all := ⟨_, rfl⟩
          rw [← hdc]
          have EJ4 := Lib.hid (EJ3.out.trans (show _ = loadGo (F.drop (j + 1)) (if dc.2 = 0 then (nn, dc.1) else r) from by rw [hdc]))
          clear hdc
          rintro e w6 ⟨v6, rfl, ho, hb⟩
          obtain ⟨db, de⟩ := dc
          have H6 := Lib.hid (H5.out.mod (Mod.ofBelow hb) (fun _ _ h => h.elim))
          have B6 := Lib.hid (B5.out.trans (hb.mono B5.out.size))
          have O6 := Lib.hid (ownsRow_kept O5.out (fun k hk => hb.block k (O5.out.lt k hk).2))
          have N6 := Lib.hid (ownsRow_base ho (base' := w.heap.size) (fun k hk => Nat.le_trans (Nat.le_trans B3.out.size B5.out.size) (ho.lt k hk).1))
          clear ho hb
          by_cases hde : de = 0
          · have hde' : (de == 0) = true := by simp [hde]
            have EJ5 := Lib.hid (EJ4.out.trans (show _ = loadGo (F.drop (j + 1)) (nn, db) from by rw [if_pos hde]))
            clear hde
            go_wp2_with fail
            go_roundw
            case rel => exact ⟨j + 1, (nn, db), by omega, by go_num, rfl, N6.out, EJ5, H6.out, B6.out⟩
            case measure => simp [intOf]; omega
          · have hde' : (de == 0) = false := by simp [hde]
            have EJ5 := Lib.hid (EJ4.out.trans (show _ = loadGo (F.drop (j + 1)) r from by rw [if_neg hde]))
            clear hde
            go_wp2_with fail
            go_roundw
            case rel => exact ⟨j + 1, r, by omega, by go_num, rfl, O6.out, EJ5, H6.out, B6.out⟩
            case measure => simp [intOf]; omega
      · obtain rfl : j = F.length := by omega
        have EJ2 := Lib.hid (EJ.out.trans (show _ = r from by rw [List.drop_of_length_le (Nat.le_refl _)]; rfl))
        have HF := Lib.hid (HJ.out.fresh (Mod.refl (fun _ => False) wr) (fun _ _ h => h.elim))
        go_wp2_with fail
        go_ret3
        rw [EJ2.out]
        exact ⟨_, rfl, HO.out, BW.out, H.out.fresh (Mod.ofBelow BW.out) (fun _ _ h => h.elim)⟩
end Go.Proofs.YtmpdmejlpicdlaaDoor

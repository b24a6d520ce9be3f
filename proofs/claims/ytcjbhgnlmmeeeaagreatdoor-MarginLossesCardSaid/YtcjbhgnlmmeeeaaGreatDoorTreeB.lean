/- tree.good, Below; the document's Above, Under, counts, walked. -/
import Derived.Test.YtcjbhgnlmmeeeaaGreatDoorTreeC
import Derived.Test.YtcjbhgnlmmeeeaaGreatDoorNamed
namespace Go.Proofs.YtcjbhgnlmmeeeaaGreatDoor
open Go.RowKit Go.Bw Go.Maps Go.Shelf
set_option linter.unusedVariables false
set_option linter.unusedSimpArgs false

theorem own_one (wr : World) (B : Nat) (hB : B ≤ wr.heap.size) (x : Int) : (wr.alloc (.cells #[.int .i64 x] 3)).ownsRow B 3 1 (.slice (some ⟨wr.heap.size, 0, none⟩) 1 1) 1 (icells [x]) :=
  ⟨rfl, Or.inr ⟨wr.heap.size, 1, #[.int .i64 x], rfl, hB, by show (wr.heap.push _)[wr.heap.size]? = _; simp, Nat.le_refl _, by decide, rfl, rfl⟩⟩
def AtOk (ps : List Int) (v : Int) : Prop := TreeOk ps ∧ 0 ≤ v ∧ v < ps.length
theorem not_tree {ps : List Int} {v : Int} (h : ¬ TreeOk ps) : ¬ AtOk ps v := fun hh => h hh.1

open Classical in
set_option maxRecDepth 100000 in
set_option maxHeartbeats 2000000 in
theorem tgood_any (w : World) (vv : Value) (ps : List Int) (v : Int) (hR : RowOf w 1 icell vv ps) :
    Calls Tryz.prog 142 #[vv, .int .i64 v] w fun e w' => e = .returned (.bool (decide (AtOk ps v))) ∧ Below w.heap.size w w' := by
  have CK := Lib.hid (check_any w vv ps hR)
  obtain ⟨a, c, rfl⟩ := hR.form
  obtain ⟨R, hRr⟩ : ∃ R, R = decide (AtOk ps v) := ⟨_, rfl⟩
  rw [← hRr]
  have EQ := Lib.hid hRr
  obtain ⟨N, hN⟩ : ∃ N, N = ps.length := ⟨_, rfl⟩
  rw [← hN] at CK ⊢
  have LN := Lib.hid hN
  clear hR hRr hN
  go_enter Tryz.func142, Tryz.ntmps142
  go_wp2_with fail
  refine CK.out.mono ?_
  rintro e w2 ⟨p, er, rfl, he, hb⟩
  have B2 := Lib.hid hb
  have ER := Lib.hid he
  clear hb he CK
  by_cases h0 : er = 0
  case neg =>
    have FL := Lib.hid (EQ.out.trans (decide_eq_false (fun h => h0 (ER.out.2 h.1))))
    have e0 : (er == 0) = false := beq_eq_false_iff_ne.2 h0
    have e1 : (er != 0) = true := by rw [bne, e0]; rfl
    clear h0
    go_wp2_with fail
    go_ret
    exact ⟨ret_bool (by first | exact FL.out.symm | (rw [FL.out]; simp; done) | (rw [FL.out]; simp; omega)), B2.out⟩
  subst h0
  have TOK := Lib.hid (ER.out.1 rfl)
  by_cases h1 : 0 ≤ v
  case neg =>
    have FL := Lib.hid (EQ.out.trans (decide_eq_false (fun h => h1 h.2.1)))
    go_wp2_with fail
    go_ret
    exact ⟨ret_bool (by first | exact FL.out.symm | (rw [FL.out]; simp; done) | (rw [FL.out]; simp; omega)), B2.out⟩
  by_cases h2 : v < (N : Int)
  case neg =>
    have FL := Lib.hid (EQ.out.trans (decide_eq_false (fun h => h2 (by have := h.2.2; rw [LN.out]; exact this))))
    go_wp2_with fail
    go_ret
    exact ⟨ret_bool (by first | exact FL.out.symm | (rw [FL.out]; simp; done) | (rw [FL.out]; simp; omega)), B2.out⟩
  have FL := Lib.hid (EQ.out.trans (decide_eq_true ⟨TOK.out, h1, by rw [← LN.out]; exact h2⟩))
  go_wp2_with fail
  go_ret
  exact ⟨ret_bool (by first | exact FL.out.symm | (rw [FL.out]; simp; done) | (rw [FL.out]; simp; omega)), B2.out⟩

open Classical in
set_option maxRecDepth 100000 in
set_option maxHeartbeats 2000000 in
theorem below_none (w : World) (vv : Value) (ps : List Int) (v : Int) (hR : RowOf w 1 icell vv ps) (hbad : ¬ AtOk ps v) :
    Calls Tryz.prog 115 #[vv, .int .i64 v] w (RowOut w []) := by
  have CK := Lib.hid (tgood_any w vv ps v hR)
  rw [decide_eq_false hbad] at CK
  obtain ⟨a, c, rfl⟩ := hR.form
  clear hR hbad
  go_enter Tryz.func115, Tryz.ntmps115
  go_wp2_with fail
  refine CK.out.mono ?_
  rintro e w2 ⟨rfl, hb⟩
  have B2 := Lib.hid hb
  clear hb CK
  go_wp2_with fail
  go_ret
  exact ⟨_, rfl, World.ownsRow_nil _ _ _ _, B2.out⟩

def ints (l : List Nat) : List Int := l.map fun x : Nat => (x : Int)
theorem any_mem (l : List Int) (y : Int) : (l.any fun x => decide (y = x)) = decide (y ∈ l) := by
  rw [Bool.eq_iff_iff, List.any_eq_true, decide_eq_true_iff]
  constructor
  · rintro ⟨x, hx, h⟩; rw [of_decide_eq_true h]; exact hx
  · intro h; exact ⟨y, h, decide_eq_true rfl⟩
open Classical in
set_option maxRecDepth 100000 in
set_option maxHeartbeats 2000000 in
theorem below_any (w : World) (vv : Value) (ps : List Int) (v : Nat) (hR : RowOf w 1 icell vv ps) (hT : TreeOk ps) (hv : v < ps.length) :
    Calls Tryz.prog 115 #[vv, .int .i64 (v : Nat)] w (RowOut w (ints (belowL ps v))) := by
  have CK := Lib.hid (tgood_any w vv ps v hR)
  rw [decide_eq_true ⟨hT, by omega, by omega⟩] at CK
  obtain ⟨a, c, rfl⟩ := hR.form
  have HR := Lib.hid hR
  have HT := Lib.hid hT
  obtain ⟨N, hN⟩ : ∃ N, N = ps.length := ⟨_, rfl⟩
  rw [← hN] at CK HR ⊢
  have LN := Lib.hid hN
  have n16 : (N : Int) ≤ 16 := by have := hT.hi; omega
  have v0 : (0 : Int) ≤ (v : Int) := by omega
  have v1 : (v : Int) < (N : Int) := by omega
  have HV := Lib.hid hv
  obtain ⟨P, hP⟩ : ∃ P, P = belowL ps v := ⟨_, rfl⟩
  rw [← hP]
  have EP := Lib.hid hP
  clear hR hT hN hv hP
  go_enter Tryz.func115, Tryz.ntmps115
  go_wp2_with fail
  refine CK.out.mono ?_
  rintro e w2 ⟨rfl, hb⟩
  have B2 := Lib.hid hb
  clear hb CK
  go_wp2_with fail
  go_loopw [5, 6] (fun ov i wr => ∃ (k : Nat) (cur : List Int), v < k ∧ k ≤ N ∧ i = .int .i64 k ∧ Hid (cur = ints (belowTo ps v k)) ∧ wr.ownsRow w.heap.size 3 1 ov cur.length (icells cur) ∧ Below w.heap.size w wr) (fun _ i _ => N - (intOf i).toNat)
  case atStart => exact ⟨v + 1, [(v : Int)], by omega, by omega, by go_num, Lib.hid (by rw [belowTo_start (HT.out.falls (v + 1)) (by omega)]; rfl), own_one w2 _ B2.out.size _, B2.out.alloc B2.out.size _⟩
  case round =>
    obtain ⟨k, cur, hvk, hk, rfl, CUR, ho, hb⟩ := hrel
    obtain ⟨ao, co, rfl, _⟩ := ownsRow_slice ho
    have OW := Lib.hid ho
    have BW := Lib.hid hb
    have ROW := Lib.hid (HR.out.below hb)
    have ORW := Lib.hid (row_of_owns ho)
    clear ho hb
    by_cases hlt : k < N
    · obtain ⟨p, hp⟩ : ∃ p, ps[k]? = some p := ⟨_, List.getElem?_eq_getElem (by have := LN.out; omega)⟩
      obtain ⟨b, o, rfl, hbl, hc⟩ := ROW.out.at_ hp
      have c0 := hc 0 (.int .i64 p) rfl
      rw [Nat.mul_one, Nat.add_zero] at c0
      have hlt' : (k : Int) < (N : Int) := by omega
      have k0 : (0 : Int) ≤ (k : Int) := by omega
      have CN := Lib.hid (contains_any wr _ cur p ORW.out)
      rw [any_mem] at CN
      have ST := Lib.hid (show ints (belowTo ps v (k + 1)) = if p ∈ cur then cur ++ [(k : Int)] else cur from by
        rw [belowTo_step (HT.out.falls (k + 1)) (Nat.lt_succ_self k) hvk hp, CUR.out]
        unfold ints
        split <;> simp)
      have LT := Lib.hid (And.intro hvk hlt)
      have CL := Lib.hid (show cur.length ≤ 1000 from by
        rw [CUR.out]; unfold ints belowTo; rw [List.length_map]; have := List.length_filter_le (underL ps v) (List.range k); rw [List.length_range] at this; omega)
      clear hp hc hlt hvk hk
      cases hq : decide (p ∈ cur) with
      | false =>
        have E := Lib.hid (ST.out.trans (if_neg (of_decide_eq_false hq)))
        rw [hq] at CN
        clear hq
        go_wp2_with fail
        refine CN.out.mono ?_
        rintro e w' ⟨rfl, rfl⟩
        go_wp2_with fail
        go_roundw
        case rel => exact ⟨k + 1, cur, by have := LT.out.1; omega, by have := LT.out.2; omega, by go_num, Lib.hid E.out.symm, OW.out, BW.out⟩
        case measure => have := LT.out.2; simp [intOf]; omega
      | true =>
        have E := Lib.hid (ST.out.trans (if_pos (of_decide_eq_true hq)))
        rw [hq] at CN
        clear hq
        go_wp2_with fail
        refine CN.out.mono ?_
        rintro e w' ⟨rfl, rfl⟩
        obtain ⟨v3, w3, R3, O3, M3, N3⟩ := app_int _ w.heap.size _ cur (k : Nat) _ rfl OW.out BW.out.size (by have := CL.out; omega)
        have R3' := Lib.hid R3
        have O3' := Lib.hid O3
        have B3 := Lib.hid (show Below w.heap.size w w3 from ((Mod.of_below BW.out).mono (T := fun k => w.heap.size ≤ k) (fun _ _ h => h.elim)).trans M3 (fun k _ h => (OW.out.lt k h).1) |>.mono (T := fun _ => False) (fun k hk h => by omega) |>.toBelow)
        clear R3 O3 M3 N3
        go_wp2_with (at_builtin; refine wpList_append_run rfl (.tmp 27) (.tmp 29) 28 rfl rfl rfl R3'.out ?_)
        go_roundw
        case rel => exact ⟨k + 1, cur ++ [(k : Int)], by have := LT.out.1; omega, by have := LT.out.2; omega, by go_num, Lib.hid E.out.symm, O3'.out, B3.out⟩
        case measure => have := LT.out.2; simp [intOf]; omega
    · have hlt' : ¬ (k : Int) < (N : Int) := by omega
      have E := Lib.hid (show cur = ints P from by rw [CUR.out, EP.out, show k = ps.length from by have := LN.out; omega]; rfl)
      clear hlt hvk hk
      go_wp2_with fail
      go_ret
      have O9 : wr.ownsRow w.heap.size 3 1 (.slice ao cur.length co) (ints P).length (icells (ints P)) := by rw [← E.out]; exact OW.out
      exact ⟨_, rfl, O9, BW.out⟩
open Classical in
set_option maxRecDepth 100000 in
set_option maxHeartbeats 2000000 in
theorem above_none (w : World) (vv : Value) (ps : List Int) (v : Int) (hR : RowOf w 1 icell vv ps) (hbad : ¬ AtOk ps v) :
    Calls Tryz.prog 127 #[vv, .int .i64 v] w (RowOut w []) := by
  have CK := Lib.hid (rcheck_any w vv ps hR)
  obtain ⟨a, c, rfl⟩ := hR.form
  have BADT := Lib.hid hbad
  obtain ⟨N, hN⟩ : ∃ N, N = ps.length := ⟨_, rfl⟩
  rw [← hN] at CK ⊢
  have LN := Lib.hid hN
  clear hR hbad hN
  go_enter Tryz.func127, Tryz.ntmps127
  go_wp2_with fail
  refine CK.out.mono ?_
  rintro e w2 ⟨p, er, rfl, he, hb⟩
  have B2 := Lib.hid hb
  have ER := Lib.hid he
  clear hb he CK
  by_cases h0 : er = 0
  case neg =>
    have e0 : (er == 0) = false := beq_eq_false_iff_ne.2 h0
    have e1 : (er != 0) = true := by rw [bne, e0]; rfl
    clear h0
    go_wp2_with fail
    go_ret
    exact ⟨_, rfl, World.ownsRow_nil _ _ _ _, B2.out⟩
  subst h0
  have TOK := Lib.hid (ER.out.1 rfl)
  by_cases h1 : v < 0
  · go_wp2_with fail
    go_ret
    exact ⟨_, rfl, World.ownsRow_nil _ _ _ _, B2.out⟩
  have h2 : (N : Int) ≤ v := by
    rcases Int.lt_or_le v (N : Int) with h | h
    · exact absurd ⟨TOK.out, by omega, by rw [← LN.out]; exact h⟩ BADT.out
    · exact h
  go_wp2_with fail
  go_ret
  exact ⟨_, rfl, World.ownsRow_nil _ _ _ _, B2.out⟩
set_option maxRecDepth 100000 in
set_option maxHeartbeats 2000000 in
theorem above_any (w : World) (vv : Value) (ps : List Int) (v : Nat) (hR : RowOf w 1 icell vv ps) (hT : TreeOk ps) (hv : v < ps.length) :
    Calls Tryz.prog 127 #[vv, .int .i64 (v : Nat)] w (RowOut w (ints (pathL ps v))) := by
  have CK := Lib.hid (rcheck_any w vv ps hR)
  have UP := Lib.hid (fun W (hb : Below w.heap.size w W) => rup_any W vv ps (hR.below hb) hT.hi ps.length v (hT.falls _) hv (Nat.le_refl _))
  obtain ⟨a, c, rfl⟩ := hR.form
  have HT := Lib.hid hT
  obtain ⟨N, hN⟩ : ∃ N, N = ps.length := ⟨_, rfl⟩
  rw [← hN] at CK UP ⊢
  obtain ⟨P, hP⟩ : ∃ P, P = ints (pathL ps v) := ⟨_, rfl⟩
  rw [← hP]
  have EP := Lib.hid hP
  have v0 : (0 : Int) ≤ (v : Int) := by omega
  have v1 : (v : Int) < (N : Int) := by omega
  clear hR hT hN hv hP
  go_enter Tryz.func127, Tryz.ntmps127
  go_wp2_with fail
  refine CK.out.mono ?_
  rintro e w2 ⟨p, er, rfl, he, hb⟩
  have B2 := Lib.hid hb
  have h0 : er = 0 := he.2 HT.out
  subst h0
  clear hb he CK
  go_wp2_with fail
  refine (UP.out w2 B2.out).mono ?_
  rintro e w3 ⟨v3, rfl, ho, hb⟩
  have O3 := Lib.hid (ownsRow_base ho (base' := w.heap.size) (fun k hk => Nat.le_trans B2.out.size (ho.lt k hk).1))
  have B3 := Lib.hid (B2.out.trans (hb.mono B2.out.size))
  clear ho hb
  go_wp2_with fail
  go_ret
  exact ⟨_, rfl, by rw [EP.out]; exact O3.out, B3.out⟩
end Go.Proofs.YtcjbhgnlmmeeeaaGreatDoor

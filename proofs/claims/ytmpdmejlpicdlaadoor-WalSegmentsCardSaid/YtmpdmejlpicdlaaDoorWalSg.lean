/- WalSegments, walked. -/
import Derived.Test.YtmpdmejlpicdlaaDoorWalW
import Derived.Test.YtmpdmejlpicdlaaDoorWalQd
import Derived.Test.YtmpdmejlpicdlaaDoorWalPr
namespace Go.Proofs.YtmpdmejlpicdlaaDoor
open Go.RowKit Go.Bw Go.Maps
set_option linter.unusedVariables false
set_option linter.unusedSimpArgs false

theorem i64_and63 (n : Int) : bits .and .i64 n 63 = n % 64 := by
  have h255 : (BitVec.ofInt 64 63).toNat = 2 ^ 6 - 1 := by decide
  have key : (BitVec.ofInt 64 n &&& BitVec.ofInt 64 63).toNat = (n % ((2 ^ 64 : Nat) : Int)).toNat % 2 ^ 6 := by
    rw [BitVec.toNat_and, BitVec.toNat_ofInt, h255, Nat.and_two_pow_sub_one_eq_mod]
  show IntKind.i64.wrap ((BitVec.ofInt 64 n &&& BitVec.ofInt 64 63).toNat : Nat) = n % 64
  rw [key, IntKind.wrap_i64]
  omega
def recTo (k : Nat) : List (List Int) := (List.range k).map (fun (i : Nat) => [((i : Int) + 1)])
theorem recTo_succ (k : Nat) : recTo (k + 1) = recTo k ++ [[((k : Int) + 1)]] := by simp [recTo, List.range_succ]
theorem recTo_length (k : Nat) : (recTo k).length = k := by simp [recTo]
theorem recTo_get {k i : Nat} {x : List Int} (h : (recTo k)[i]? = some x) : x = [((i : Int) + 1)] := by
  have h1 := (List.getElem?_eq_some_iff.1 h).1
  rw [recTo_length] at h1
  simp [recTo, h1] at h
  exact h.symm
theorem ends_recTo : ∀ k, ends (recTo k) = 9 * k
  | 0 => rfl
  | k + 1 => by rw [recTo_succ, ends_append, ends_recTo k, ends_one]; simp; omega
/-- Behind k records. -/
structure SegAt (w1 : World) (d wp : Nat) (per : Int) (k : Nat) (D : List (List (List Int))) (W : AWal) (Q : Nat → Prop) (wr : World) : Prop where
  jr : Jr per D W
  flat : D.flatten = recTo k
  small : Small D
  ar : W.dsk.ar = 0
  room : W.dsk.room = 1048576
  wal : WalAt Q wr wp d W
  grow : ∀ j, j < w1.heap.size → Q j
  fresh : w1.heap.size ≤ wp
  mod : Mod (fun j => w1.heap.size ≤ j) w1 wr
/-- What pruning and opening find, in numbers. -/
theorem seg_law {per : Int} {D : List (List (List Int))} {W : AWal} {k : Nat} (h : Jr per D W) (hf : D.flatten = recTo k) (hs : Small D) (ha : W.dsk.ar = 0) (hr : Rising W.dsk.files) (hp : 1 ≤ per) (hk : k ≤ 63) (below : Int) :
    ∃ (g m : Nat) (A' : ADsk) (L : List (List Int)), W.prune below = ({ W with dsk := A' }, (g : Int), 0) ∧ A'.off = false ∧ BytesF A'.files ∧ L = (recTo k).drop m ∧ m ≤ k ∧ (Rising A'.files → ∃ A7 wf wn, openA A' per = ⟨A7, 0, (m : Int) + 1, wf, wn, L⟩) ∧
      (g : Int) * per = m ∧ (m = 0 ∨ (m : Int) + 1 ≤ below) ∧ (g = 0 → m = 0) ∧ (0 < k → (below < k → below - ((m : Int) + 1) < per)) := by
  have hmany : many D = k := by rw [many_zero, hf, recTo_length]
  have hne : ∀ c ∈ D, c ≠ [] := by
    rcases h.shape with ⟨rfl, _⟩ | ⟨C, c, rfl, hC, h1, _, _⟩
    · intro c hc; cases hc
    · intro x hx e
      rcases List.mem_append.1 hx with hx | hx
      · have := hC x hx; rw [e] at this; simp at this; omega
      · rcases List.mem_singleton.1 hx with rfl; rw [e] at h1; simp at h1
  have hst := starts_law (n := 1) h.on h.files (by decide) (by omega)
  obtain ⟨C0, D', A', e1, e2, e3, e4, e5, e6, e7, e8, e9⟩ := prune_law below D 1 W.dsk 0 h.on ha h.files hne (by decide) (by omega)
  have hpr : W.prune below = ({ W with dsk := A' }, (C0.length : Int), 0) := by
    unfold AWal.prune
    rw [if_neg (by rw [h.sick]; simp), hst]
    simp only [e2, Int.zero_add]
    rw [h.sick]
  have hsum : many C0 + many D' = k := by rw [← hmany, e1, many_append]
  have hsmall' : ∀ e ∈ D', ∀ r ∈ e, r.length ≤ 65536 ∧ Bytes r := fun e he => hs e (by rw [e1]; exact List.mem_append_right _ he)
  have hdrop : D'.flatten = (recTo k).drop (many C0) := by
    rw [← hf, e1, List.flatten_append, ← many_flat C0, List.drop_left]
  have hby : BytesF A'.files := by rw [e3]; exact segs_bytes hsmall'
  have hopen : Rising A'.files → ∃ A7 wf wn, openA A' per = ⟨A7, 0, (many C0 : Int) + 1, wf, wn, D'.flatten⟩ := fun hr' => by
    by_cases hD : D' = []
    · have hD0 := e8 hD
      have hC0 : C0 = [] := by rw [hD, hD0, List.append_nil] at e1; exact e1.symm
      have hf0 : A'.files = [] := by rw [e3, hD]; rfl
      rw [hC0, hD]
      exact ⟨A', _, _, open_empty e4 hf0 per hp⟩
    · obtain ⟨A7, g⟩ := open_from e4 e5 hr' e3 hD (by omega) (by omega) (fun e he r hr => (hsmall' e he r hr).1) per hp
      rw [show (many C0 : Int) + 1 = (1 : Int) + (many C0 : Int) from by omega]
      exact ⟨A7, _, _, g⟩
  have full : (∀ x ∈ C0, (x.length : Int) = per) ∧ (0 < k → below < k → below - ((many C0 : Int) + 1) < per) := by
    rcases h.shape with ⟨hD, _⟩ | ⟨C, c, hD, hC, hc1, hc2, _⟩
    · rw [hD] at e1 hmany
      have hC0 : C0 = [] := (List.append_eq_nil_iff.1 e1.symm).1
      rw [hC0]
      exact ⟨(fun x hx => by cases hx), fun hk0 => by simp [many] at hmany; omega⟩
    · have hDn : D' ≠ [] := fun e => by have := e8 e; rw [hD] at this; simp at this
      obtain ⟨E, l, hE⟩ : ∃ E l, D' = E ++ [l] := by
        rcases List.eq_nil_or_concat D' with h | ⟨E, l, h⟩
        · exact absurd h hDn
        · exact ⟨E, l, by rw [h, List.concat_eq_append]⟩
      rw [hE, ← List.append_assoc, hD] at e1
      have hinj := List.append_inj' e1 rfl
      have hCE : C = C0 ++ E := hinj.1
      refine ⟨fun x hx => hC x (by rw [hCE]; exact List.mem_append_left _ hx), fun hk0 hbk => ?_⟩
      have hlc : c = l := by have := hinj.2; simpa using this
      cases E with
      | nil =>
        rw [hE] at hsum
        simp only [List.nil_append, many] at hsum
        rw [← hlc] at hsum
        omega
      | cons f r =>
        have hfl : (f.length : Int) = per := hC f (by rw [hCE]; simp)
        have : ∃ y z, D' = f :: y :: z := by
          rw [hE]
          cases r with
          | nil => exact ⟨l, [], rfl⟩
          | cons y z => exact ⟨y, z ++ [l], rfl⟩
        obtain ⟨y, z, hyz⟩ := this
        have := e9 f y z hyz
        omega
  refine ⟨C0.length, many C0, A', D'.flatten, hpr, e4, hby, hdrop, by omega, hopen, (many_full full.1).symm, ?_, fun h0 => ?_, full.2⟩
  · by_cases hC : C0 = []
    · left; rw [hC]; rfl
    · right; have := e7 hC; omega
  · have : C0 = [] := List.eq_nil_of_length_eq_zero h0
    rw [this]; rfl

set_option maxRecDepth 100000 in
set_option maxHeartbeats 3000000 in
theorem wsegs_walk (w : World) (cnt per below : Int) (hn0 : -9223372036854775808 ≤ cnt) (hn1 : cnt ≤ 9223372036854775807) (hp0 : -9223372036854775808 ≤ per) (hp1 : per ≤ 9223372036854775807) (hb0 : -9223372036854775808 ≤ below) (hb1 : below ≤ 9223372036854775807) (hL : Laid w) :
    Calls Tryd.prog 10 #[.int .i64 cnt, .int .i64 per, .int .i64 below] w (SaysOut w true) := by
  have HL := Lib.hid hL
  clear hL
  obtain ⟨c, hc⟩ : ∃ c : Nat, (c : Int) = cnt % 64 := ⟨(cnt % 64).toNat, by omega⟩
  have CB := Lib.hid (show c ≤ 63 by omega)
  have ha : bits .and .i64 cnt 63 = (c : Int) := by rw [i64_and63, hc]
  clear hc
  have c64 : (c : Int) ≤ 63 := by have := CB.out; omega
  go_enter Tryd.func10, Tryd.ntmps10
  go_wp2_with fail
  refine (wwakes_any w HL.out).mono ?_
  rintro e w1 ⟨rfl, hb⟩
  have M1 := Lib.hid (Mod.ofBelow hb)
  have B1 := Lib.hid hb
  have L1 := Lib.hid (HL.out.below hb)
  clear hb
  by_cases hper : per < 1
  · go_wp2_with fail
    go_ret
    exact ⟨rfl, B1.out⟩
  have hper0 : 1 ≤ per := by omega
  clear hper
  by_cases hm : per < 64
  · by_cases h15 : 15 * per < (c : Int)
    · go_wp2_with fail
      go_ret
      exact ⟨rfl, B1.out⟩
    · have COND := Lib.hid (show (c : Int) ≤ 15 * per ∨ 64 ≤ per from Or.inl (by omega))
      go_wp2_with fail
      clear ha
      refine (held_new w1 1048576).mono ?_
      rintro e w2 ⟨rfl, hH, hb, hsz⟩
      have H2 := Lib.hid hH
      have M2 := Lib.hid (Mod.ofBelow hb)
      have L2 := Lib.hid (L1.out.below hb)
      clear hH hb hsz
      go_wp2_with fail
      have OE := open_empty (A := ADsk.new 1048576) rfl rfl per hper0
      have OP := open_ok H2.out (by intro p hp; cases hp) per hper0 hp1 rfl L2.out (fun k hk => L1.out.lt hk) (by rw [OE])
      rw [OE] at OP
      refine OP.mono ?_
      rintro e w4 ⟨Q4, wp, rv, rfl, hg, hnq, hW, hrow, hm⟩
      have START := Lib.hid (show SegAt w1 (w1.heap.size + 1) wp per 0 [] ⟨ADsk.new 1048576, per, 1, 1, 0⟩ Q4 w4 from
        ⟨⟨rfl, rfl, Or.inl ⟨rfl, rfl⟩, rfl, rfl, rfl⟩, rfl, (fun e he => by cases he), rfl, rfl, hW, hg, Nat.le_of_not_lt hnq, (M2.out.mono (T := fun j => w1.heap.size ≤ j) (fun _ _ h => h.elim)).trans hm (fun j _ h => Nat.le_of_not_lt h)⟩)
      obtain ⟨vsr, hvsr, _⟩ := hrow.ex
      obtain ⟨arv, crv, rfl, _⟩ := ownsRow_slice hvsr
      clear OP OE hg hnq hW hrow hm hvsr
      go_wp2_with fail
      go_loopw [12] (fun i wr => ∃ (k : Nat) (D : List (List (List Int))) (W : AWal) (Q : Nat → Prop), k ≤ c ∧ i = .int .i64 ((k : Int) + 1) ∧ SegAt w1 (w1.heap.size + 1) wp per k D W Q wr) (fun i _ => c + 1 - (intOf i).toNat)
      case atStart => exact ⟨0, [], _, Q4, Nat.zero_le _, rfl, START.out⟩
      case round =>
        obtain ⟨k, D, W, Q, hk, rfl, hS⟩ := hrel
        have S := Lib.hid hS
        clear hS
        have HMANY := Lib.hid (show many D = k from by rw [many_zero, S.out.flat, recTo_length])
        have hnx := Lib.hid (show W.next = (k : Int) + 1 from by rw [S.out.jr.next, HMANY.out]; omega)
        by_cases hlt : k < c
        · have hlt' : (k : Int) + 1 ≤ (c : Int) := by omega
          have c63 := CB.out
          have hmod : ((k : Int) + 1) % 256 = (k : Int) + 1 := by omega
          have hf : 0 ≤ W.first ∧ W.first ≤ 2000000000 := by
            have hm := HMANY.out
            rcases S.out.jr.shape with ⟨_, h⟩ | ⟨C, x, h1, _, _, _, h⟩
            · omega
            · have : many D = many C + x.length := by rw [h1, many_append]; simp [many]
              omega
          have J := jr_append S.out.jr hper0 S.out.small (by rw [HMANY.out]; omega) (by rw [S.out.flat, ends_recTo]; omega) (r := [(k : Int) + 1]) (by simp) (by intro y hy; rcases List.mem_singleton.1 hy with rfl; omega)
          rw [S.out.flat, ends_recTo, HMANY.out, S.out.room, hnx.out] at J
          have W3 := Lib.hid (S.out.wal.mod ((Mod.refl (fun _ => False) wr).alloc (.cells #[.int .u8 ((k : Int) + 1)] 5)) (fun _ _ h => h.elim))
          have M3 := Lib.hid (S.out.mod.alloc (.cells #[.int .u8 ((k : Int) + 1)] 5))
          have AP := walAppend_any W3.out hf (by rw [hnx.out]; omega) _ [(k : Int) + 1] (reads_const wr [(k : Int) + 1] (0, 0)) (by simp) (L1.out.grown M3.out)
          clear hf
          go_wp2_with fail
          refine AP.mono ?_
          clear AP
          rcases J with ⟨_, g | g⟩ | ⟨gz, ⟨g0, _⟩ | ⟨W', D', g1, g2, g3, g4, g5, g6⟩⟩
          · exfalso
            rcases COND.out with c2 | c2
            · omega
            · omega
          · exfalso; simp at g; omega
          · exact absurd S.out.ar g0
          · rw [g1]
            rintro e w5 ⟨rfl, hW5, hm5⟩
            have S5 := Lib.hid (show SegAt w1 (w1.heap.size + 1) wp per (k + 1) D' W' Q w5 from
              ⟨g2, by rw [g3, recTo_succ], g4, g6 S.out.ar, g5, hW5, S.out.grow, S.out.fresh, M3.out.trans hm5 (fun j _ h => by
                rcases h with h | h
                · exact Nat.le_of_not_lt (fun hj => h (S.out.grow j hj))
                · have := S.out.fresh; omega)⟩)
            clear gz g1 g2 g3 g4 g5 g6 hW5 hm5
            go_wp2_with fail
            go_roundw
            case rel => exact ⟨k + 1, D', W', Q, by omega, by go_num, S5.out⟩
            case measure => simp [intOf]; omega
        · obtain rfl : c = k := by omega
          have hlt' : ¬ (c : Int) + 1 ≤ (c : Int) := by omega
          have hris := S.out.wal.disk.ok.rising
          obtain ⟨g, m, A', L, e1, e2, e3, e4, e5, e6, e7, e8, e9, e10⟩ := seg_law S.out.jr S.out.flat S.out.small S.out.ar hris hper0 CB.out below
          have SIC := S.out.jr.sick
          have PR := walPrune_any S.out.wal SIC below hb0 hb1 (L1.out.grown S.out.mod) (fun k hk => S.out.grow _ (L1.out.lt hk))
          rw [e1] at PR
          clear hris SIC e1
          go_wp2_with fail
          refine PR.mono ?_
          rintro e w6 ⟨rfl, hW6, hm6⟩
          have M6 := Lib.hid (S.out.mod.trans hm6 (fun j _ h => by
            rcases h with h | h
            · exact Nat.le_of_not_lt (fun hj => h (S.out.grow j hj))
            · have := S.out.fresh; omega))
          have H6 := Lib.hid (hW6.disk.weaken (T := fun j => j < w1.heap.size) S.out.grow)
          have L6 := Lib.hid (L1.out.grown M6.out)
          obtain ⟨A7, wf, wn, e11⟩ := e6 H6.out.ok.rising
          have OP := open_ok H6.out e3 per hper0 hp1 e2 L6.out (fun k hk => L1.out.lt hk) (by rw [e11])
          rw [e11] at OP
          clear PR hW6 hm6 e6 e11 e2 e3
          go_wp2_with fail
          refine OP.mono ?_
          rintro e w7 ⟨Q7, wp7, rv7, rfl, hg, hnq, hW, hrow, hm⟩
          have M7 := Lib.hid (M6.out.trans hm (fun j _ h => Nat.le_of_not_lt h))
          have B7 := Lib.hid ((((M1.out.mono (T := fun j => w.heap.size ≤ j) (fun _ _ h => h.elim)).trans M7.out (fun j _ h => Nat.le_trans B1.out.size h)).mono (T := fun _ => False) (fun k hk h => by omega)).toBelow)
          have RD7 := Lib.hid hrow.rd
          obtain ⟨vs7, hvs7, _⟩ := hrow.ex
          obtain ⟨ar7, cr7, rfl, _⟩ := ownsRow_slice hvs7
          obtain ⟨t, ht⟩ : ∃ t, t = L.length := ⟨_, rfl⟩
          rw [← ht] at RD7 ⊢
          have htt : t = c - m := by rw [ht, e4, List.length_drop, recTo_length]
          have EL := Lib.hid e4
          have TT := Lib.hid (show t + m = c ∧ c ≤ 63 from ⟨by omega, CB.out⟩)
          have f1 : (c : Int) - ((m : Int) + 1) + 1 = (t : Int) := by omega
          have f2 : (m : Int) + 1 - 1 = (m : Int) := by omega
          clear OP hg hnq hW hrow hm hvs7 ht htt e4 e5 hk hlt hlt'
          by_cases hk0 : c = 0
          · obtain rfl : m = 0 := by have := TT.out; omega
            obtain rfl : g = 0 := by
              have e7' : (g : Int) * per = 0 := by rw [e7]; rfl
              rcases Int.mul_eq_zero.1 e7' with h | h
              · omega
              · omega
            subst hk0
            clear e7 e8 e9 e10
            go_wp2_with fail
            go_loop [141] (fun i => ∃ j : Nat, j ≤ t ∧ i = .int .i64 j) (fun i => t - (intOf i).toNat)
            case atStart => exact ⟨0, Nat.zero_le _, rfl⟩
            case round =>
              obtain ⟨j, hj, rfl⟩ := hrel
              by_cases hlt : j < t
              · exfalso; have := TT.out; omega
              · go_wp2_with fail
                go_ret
                exact ⟨rfl, B7.out⟩
          by_cases hm0 : m = 0
          · subst hm0
            obtain rfl : g = 0 := by
              have e7' : (g : Int) * per = 0 := by rw [e7]; rfl
              rcases Int.mul_eq_zero.1 e7' with h | h
              · omega
              · omega
            have k0 : (0 : Int) < (c : Int) := by omega
            by_cases hbk : below < (c : Int)
            · by_cases hb1' : below < 1
              · clear e7 e8 e9 e10
                go_wp2_with fail
                go_loop [141] (fun i => ∃ j : Nat, j ≤ t ∧ i = .int .i64 j) (fun i => t - (intOf i).toNat)
                case atStart => exact ⟨0, Nat.zero_le _, rfl⟩
                case round =>
                  obtain ⟨j, hj, rfl⟩ := hrel
                  by_cases hlt : j < t
                  · obtain ⟨v, hv1, hv2, hv3⟩ : ∃ v : Int, L[j]? = some [v] ∧ v = (0 : Nat) + 1 + (j : Int) ∧ v < 256 := by
                      refine ⟨((0 : Nat) : Int) + 1 + (j : Int), ?_, rfl, by have := TT.out; omega⟩
                      rw [EL.out, List.getElem?_drop]
                      have hl : 0 + j < (recTo c).length := by rw [recTo_length]; have := TT.out; omega
                      rw [List.getElem?_eq_getElem hl]
                      have := recTo_get (List.getElem?_eq_getElem hl)
                      rw [this]
                      congr 2
                      omega
                    obtain ⟨ax, cx, hax, hall⟩ := RD7.out.ex
                    obtain ⟨b7, u7, hb7, hcell, hu7⟩ := hall j [v] hv1
                    have hb8 : ar7 = some b7 := by injection hax with h _ _; rw [h]; exact hb7
                    clear hax hb7 hall hv1
                    subst hb8
                    obtain ⟨ua, uc, rfl⟩ := reads_form hu7
                    have hone : ([v] : List Int).length = 1 := rfl
                    rw [hone] at hcell
                    cases ua with
                    | none => have := (reads_empty hu7).2; cases this
                    | some p =>
                      have hz := reads_at hu7 (k := 0) (by simp)
                      have hz0 : w7.cell? p = some (.int .u8 v) := by
                        have e0 : p.add 0 = p := by simp [Addr.add]
                        rw [e0] at hz; exact hz
                      have hmod : (((0 : Nat) : Int) + 1 + (j : Int)) % 256 = v := by omega
                      have hmod2 : (1 + (j : Int)) % 256 = v := by omega
                      clear hz hu7 hv2 hone
                      go_wp2_with fail
                      go_round
                      case rel => exact ⟨j + 1, by omega, by go_num⟩
                      case measure => simp [intOf]; omega
                  · go_wp2_with fail
                    go_ret
                    exact ⟨rfl, B7.out⟩
              · have f3 := e10 (by omega) hbk
                clear e7 e8 e9 e10
                go_wp2_with fail
                go_loop [141] (fun i => ∃ j : Nat, j ≤ t ∧ i = .int .i64 j) (fun i => t - (intOf i).toNat)
                case atStart => exact ⟨0, Nat.zero_le _, rfl⟩
                case round =>
                  obtain ⟨j, hj, rfl⟩ := hrel
                  by_cases hlt : j < t
                  · obtain ⟨v, hv1, hv2, hv3⟩ : ∃ v : Int, L[j]? = some [v] ∧ v = (0 : Nat) + 1 + (j : Int) ∧ v < 256 := by
                      refine ⟨((0 : Nat) : Int) + 1 + (j : Int), ?_, rfl, by have := TT.out; omega⟩
                      rw [EL.out, List.getElem?_drop]
                      have hl : 0 + j < (recTo c).length := by rw [recTo_length]; have := TT.out; omega
                      rw [List.getElem?_eq_getElem hl]
                      have := recTo_get (List.getElem?_eq_getElem hl)
                      rw [this]
                      congr 2
                      omega
                    obtain ⟨ax, cx, hax, hall⟩ := RD7.out.ex
                    obtain ⟨b7, u7, hb7, hcell, hu7⟩ := hall j [v] hv1
                    have hb8 : ar7 = some b7 := by injection hax with h _ _; rw [h]; exact hb7
                    clear hax hb7 hall hv1
                    subst hb8
                    obtain ⟨ua, uc, rfl⟩ := reads_form hu7
                    have hone : ([v] : List Int).length = 1 := rfl
                    rw [hone] at hcell
                    cases ua with
                    | none => have := (reads_empty hu7).2; cases this
                    | some p =>
                      have hz := reads_at hu7 (k := 0) (by simp)
                      have hz0 : w7.cell? p = some (.int .u8 v) := by
                        have e0 : p.add 0 = p := by simp [Addr.add]
                        rw [e0] at hz; exact hz
                      have hmod : (((0 : Nat) : Int) + 1 + (j : Int)) % 256 = v := by omega
                      have hmod2 : (1 + (j : Int)) % 256 = v := by omega
                      clear hz hu7 hv2 hone
                      go_wp2_with fail
                      go_round
                      case rel => exact ⟨j + 1, by omega, by go_num⟩
                      case measure => simp [intOf]; omega
                  · go_wp2_with fail
                    go_ret
                    exact ⟨rfl, B7.out⟩
            · clear e7 e8 e9 e10
              go_wp2_with fail
              go_loop [141] (fun i => ∃ j : Nat, j ≤ t ∧ i = .int .i64 j) (fun i => t - (intOf i).toNat)
              case atStart => exact ⟨0, Nat.zero_le _, rfl⟩
              case round =>
                obtain ⟨j, hj, rfl⟩ := hrel
                by_cases hlt : j < t
                · obtain ⟨v, hv1, hv2, hv3⟩ : ∃ v : Int, L[j]? = some [v] ∧ v = (0 : Nat) + 1 + (j : Int) ∧ v < 256 := by
                    refine ⟨((0 : Nat) : Int) + 1 + (j : Int), ?_, rfl, by have := TT.out; omega⟩
                    rw [EL.out, List.getElem?_drop]
                    have hl : 0 + j < (recTo c).length := by rw [recTo_length]; have := TT.out; omega
                    rw [List.getElem?_eq_getElem hl]
                    have := recTo_get (List.getElem?_eq_getElem hl)
                    rw [this]
                    congr 2
                    omega
                  obtain ⟨ax, cx, hax, hall⟩ := RD7.out.ex
                  obtain ⟨b7, u7, hb7, hcell, hu7⟩ := hall j [v] hv1
                  have hb8 : ar7 = some b7 := by injection hax with h _ _; rw [h]; exact hb7
                  clear hax hb7 hall hv1
                  subst hb8
                  obtain ⟨ua, uc, rfl⟩ := reads_form hu7
                  have hone : ([v] : List Int).length = 1 := rfl
                  rw [hone] at hcell
                  cases ua with
                  | none => have := (reads_empty hu7).2; cases this
                  | some p =>
                    have hz := reads_at hu7 (k := 0) (by simp)
                    have hz0 : w7.cell? p = some (.int .u8 v) := by
                      have e0 : p.add 0 = p := by simp [Addr.add]
                      rw [e0] at hz; exact hz
                    have hmod : (((0 : Nat) : Int) + 1 + (j : Int)) % 256 = v := by omega
                    have hmod2 : (1 + (j : Int)) % 256 = v := by omega
                    clear hz hu7 hv2 hone
                    go_wp2_with fail
                    go_round
                    case rel => exact ⟨j + 1, by omega, by go_num⟩
                    case measure => simp [intOf]; omega
                · go_wp2_with fail
                  go_ret
                  exact ⟨rfl, B7.out⟩
          · have hg0 : ((g : Int) == 0) = false := by
              rw [beq_eq_false_iff_ne]
              intro h
              exact hm0 (e9 (by omega))
            have hmb : (m : Int) + 1 ≤ below := by rcases e8 with h | h; exact absurd h hm0; exact h
            have k0 : (0 : Int) < (c : Int) := by omega
            by_cases hbk : below < (c : Int)
            · have f3 := e10 (by omega) hbk
              clear e8 e9 e10
              go_wp2_with fail
              go_loop [141] (fun i => ∃ j : Nat, j ≤ t ∧ i = .int .i64 j) (fun i => t - (intOf i).toNat)
              case atStart => exact ⟨0, Nat.zero_le _, rfl⟩
              case round =>
                obtain ⟨j, hj, rfl⟩ := hrel
                by_cases hlt : j < t
                · obtain ⟨v, hv1, hv2, hv3⟩ : ∃ v : Int, L[j]? = some [v] ∧ v = (m : Nat) + 1 + (j : Int) ∧ v < 256 := by
                    refine ⟨((m : Nat) : Int) + 1 + (j : Int), ?_, rfl, by have := TT.out; omega⟩
                    rw [EL.out, List.getElem?_drop]
                    have hl : m + j < (recTo c).length := by rw [recTo_length]; have := TT.out; omega
                    rw [List.getElem?_eq_getElem hl]
                    have := recTo_get (List.getElem?_eq_getElem hl)
                    rw [this]
                    congr 2
                    omega
                  obtain ⟨ax, cx, hax, hall⟩ := RD7.out.ex
                  obtain ⟨b7, u7, hb7, hcell, hu7⟩ := hall j [v] hv1
                  have hb8 : ar7 = some b7 := by injection hax with h _ _; rw [h]; exact hb7
                  clear hax hb7 hall hv1
                  subst hb8
                  obtain ⟨ua, uc, rfl⟩ := reads_form hu7
                  have hone : ([v] : List Int).length = 1 := rfl
                  rw [hone] at hcell
                  cases ua with
                  | none => have := (reads_empty hu7).2; cases this
                  | some p =>
                    have hz := reads_at hu7 (k := 0) (by simp)
                    have hz0 : w7.cell? p = some (.int .u8 v) := by
                      have e0 : p.add 0 = p := by simp [Addr.add]
                      rw [e0] at hz; exact hz
                    have hmod : (((m : Nat) : Int) + 1 + (j : Int)) % 256 = v := by omega
                    skip
                    clear hz hu7 hv2 hone
                    go_wp2_with fail
                    go_round
                    case rel => exact ⟨j + 1, by omega, by go_num⟩
                    case measure => simp [intOf]; omega
                · go_wp2_with fail
                  go_ret
                  exact ⟨rfl, B7.out⟩
            · clear e8 e9 e10
              go_wp2_with fail
              go_loop [141] (fun i => ∃ j : Nat, j ≤ t ∧ i = .int .i64 j) (fun i => t - (intOf i).toNat)
              case atStart => exact ⟨0, Nat.zero_le _, rfl⟩
              case round =>
                obtain ⟨j, hj, rfl⟩ := hrel
                by_cases hlt : j < t
                · obtain ⟨v, hv1, hv2, hv3⟩ : ∃ v : Int, L[j]? = some [v] ∧ v = (m : Nat) + 1 + (j : Int) ∧ v < 256 := by
                    refine ⟨((m : Nat) : Int) + 1 + (j : Int), ?_, rfl, by have := TT.out; omega⟩
                    rw [EL.out, List.getElem?_drop]
                    have hl : m + j < (recTo c).length := by rw [recTo_length]; have := TT.out; omega
                    rw [List.getElem?_eq_getElem hl]
                    have := recTo_get (List.getElem?_eq_getElem hl)
                    rw [this]
                    congr 2
                    omega
                  obtain ⟨ax, cx, hax, hall⟩ := RD7.out.ex
                  obtain ⟨b7, u7, hb7, hcell, hu7⟩ := hall j [v] hv1
                  have hb8 : ar7 = some b7 := by injection hax with h _ _; rw [h]; exact hb7
                  clear hax hb7 hall hv1
                  subst hb8
                  obtain ⟨ua, uc, rfl⟩ := reads_form hu7
                  have hone : ([v] : List Int).length = 1 := rfl
                  rw [hone] at hcell
                  cases ua with
                  | none => have := (reads_empty hu7).2; cases this
                  | some p =>
                    have hz := reads_at hu7 (k := 0) (by simp)
                    have hz0 : w7.cell? p = some (.int .u8 v) := by
                      have e0 : p.add 0 = p := by simp [Addr.add]
                      rw [e0] at hz; exact hz
                    have hmod : (((m : Nat) : Int) + 1 + (j : Int)) % 256 = v := by omega
                    skip
                    clear hz hu7 hv2 hone
                    go_wp2_with fail
                    go_round
                    case rel => exact ⟨j + 1, by omega, by go_num⟩
                    case measure => simp [intOf]; omega
                · go_wp2_with fail
                  go_ret
                  exact ⟨rfl, B7.out⟩
  · have COND := Lib.hid (show (c : Int) ≤ 15 * per ∨ 64 ≤ per from Or.inr (by omega))
    go_wp2_with fail
    · clear ha
      refine (held_new w1 1048576).mono ?_
      rintro e w2 ⟨rfl, hH, hb, hsz⟩
      have H2 := Lib.hid hH
      have M2 := Lib.hid (Mod.ofBelow hb)
      have L2 := Lib.hid (L1.out.below hb)
      clear hH hb hsz
      go_wp2_with fail
      have OE := open_empty (A := ADsk.new 1048576) rfl rfl per hper0
      have OP := open_ok H2.out (by intro p hp; cases hp) per hper0 hp1 rfl L2.out (fun k hk => L1.out.lt hk) (by rw [OE])
      rw [OE] at OP
      refine OP.mono ?_
      rintro e w4 ⟨Q4, wp, rv, rfl, hg, hnq, hW, hrow, hm⟩
      have START := Lib.hid (show SegAt w1 (w1.heap.size + 1) wp per 0 [] ⟨ADsk.new 1048576, per, 1, 1, 0⟩ Q4 w4 from
        ⟨⟨rfl, rfl, Or.inl ⟨rfl, rfl⟩, rfl, rfl, rfl⟩, rfl, (fun e he => by cases he), rfl, rfl, hW, hg, Nat.le_of_not_lt hnq, (M2.out.mono (T := fun j => w1.heap.size ≤ j) (fun _ _ h => h.elim)).trans hm (fun j _ h => Nat.le_of_not_lt h)⟩)
      obtain ⟨vsr, hvsr, _⟩ := hrow.ex
      obtain ⟨arv, crv, rfl, _⟩ := ownsRow_slice hvsr
      clear OP OE hg hnq hW hrow hm hvsr
      go_wp2_with fail
      go_loopw [12] (fun i wr => ∃ (k : Nat) (D : List (List (List Int))) (W : AWal) (Q : Nat → Prop), k ≤ c ∧ i = .int .i64 ((k : Int) + 1) ∧ SegAt w1 (w1.heap.size + 1) wp per k D W Q wr) (fun i _ => c + 1 - (intOf i).toNat)
      case atStart => exact ⟨0, [], _, Q4, Nat.zero_le _, rfl, START.out⟩
      case round =>
        obtain ⟨k, D, W, Q, hk, rfl, hS⟩ := hrel
        have S := Lib.hid hS
        clear hS
        have HMANY := Lib.hid (show many D = k from by rw [many_zero, S.out.flat, recTo_length])
        have hnx := Lib.hid (show W.next = (k : Int) + 1 from by rw [S.out.jr.next, HMANY.out]; omega)
        by_cases hlt : k < c
        · have hlt' : (k : Int) + 1 ≤ (c : Int) := by omega
          have c63 := CB.out
          have hmod : ((k : Int) + 1) % 256 = (k : Int) + 1 := by omega
          have hf : 0 ≤ W.first ∧ W.first ≤ 2000000000 := by
            have hm := HMANY.out
            rcases S.out.jr.shape with ⟨_, h⟩ | ⟨C, x, h1, _, _, _, h⟩
            · omega
            · have : many D = many C + x.length := by rw [h1, many_append]; simp [many]
              omega
          have J := jr_append S.out.jr hper0 S.out.small (by rw [HMANY.out]; omega) (by rw [S.out.flat, ends_recTo]; omega) (r := [(k : Int) + 1]) (by simp) (by intro y hy; rcases List.mem_singleton.1 hy with rfl; omega)
          rw [S.out.flat, ends_recTo, HMANY.out, S.out.room, hnx.out] at J
          have W3 := Lib.hid (S.out.wal.mod ((Mod.refl (fun _ => False) wr).alloc (.cells #[.int .u8 ((k : Int) + 1)] 5)) (fun _ _ h => h.elim))
          have M3 := Lib.hid (S.out.mod.alloc (.cells #[.int .u8 ((k : Int) + 1)] 5))
          have AP := walAppend_any W3.out hf (by rw [hnx.out]; omega) _ [(k : Int) + 1] (reads_const wr [(k : Int) + 1] (0, 0)) (by simp) (L1.out.grown M3.out)
          clear hf
          go_wp2_with fail
          refine AP.mono ?_
          clear AP
          rcases J with ⟨_, g | g⟩ | ⟨gz, ⟨g0, _⟩ | ⟨W', D', g1, g2, g3, g4, g5, g6⟩⟩
          · exfalso
            rcases COND.out with c2 | c2
            · omega
            · omega
          · exfalso; simp at g; omega
          · exact absurd S.out.ar g0
          · rw [g1]
            rintro e w5 ⟨rfl, hW5, hm5⟩
            have S5 := Lib.hid (show SegAt w1 (w1.heap.size + 1) wp per (k + 1) D' W' Q w5 from
              ⟨g2, by rw [g3, recTo_succ], g4, g6 S.out.ar, g5, hW5, S.out.grow, S.out.fresh, M3.out.trans hm5 (fun j _ h => by
                rcases h with h | h
                · exact Nat.le_of_not_lt (fun hj => h (S.out.grow j hj))
                · have := S.out.fresh; omega)⟩)
            clear gz g1 g2 g3 g4 g5 g6 hW5 hm5
            go_wp2_with fail
            go_roundw
            case rel => exact ⟨k + 1, D', W', Q, by omega, by go_num, S5.out⟩
            case measure => simp [intOf]; omega
        · obtain rfl : c = k := by omega
          have hlt' : ¬ (c : Int) + 1 ≤ (c : Int) := by omega
          have hris := S.out.wal.disk.ok.rising
          obtain ⟨g, m, A', L, e1, e2, e3, e4, e5, e6, e7, e8, e9, e10⟩ := seg_law S.out.jr S.out.flat S.out.small S.out.ar hris hper0 CB.out below
          have SIC := S.out.jr.sick
          have PR := walPrune_any S.out.wal SIC below hb0 hb1 (L1.out.grown S.out.mod) (fun k hk => S.out.grow _ (L1.out.lt hk))
          rw [e1] at PR
          clear hris SIC e1
          go_wp2_with fail
          refine PR.mono ?_
          rintro e w6 ⟨rfl, hW6, hm6⟩
          have M6 := Lib.hid (S.out.mod.trans hm6 (fun j _ h => by
            rcases h with h | h
            · exact Nat.le_of_not_lt (fun hj => h (S.out.grow j hj))
            · have := S.out.fresh; omega))
          have H6 := Lib.hid (hW6.disk.weaken (T := fun j => j < w1.heap.size) S.out.grow)
          have L6 := Lib.hid (L1.out.grown M6.out)
          obtain ⟨A7, wf, wn, e11⟩ := e6 H6.out.ok.rising
          have OP := open_ok H6.out e3 per hper0 hp1 e2 L6.out (fun k hk => L1.out.lt hk) (by rw [e11])
          rw [e11] at OP
          clear PR hW6 hm6 e6 e11 e2 e3
          go_wp2_with fail
          refine OP.mono ?_
          rintro e w7 ⟨Q7, wp7, rv7, rfl, hg, hnq, hW, hrow, hm⟩
          have M7 := Lib.hid (M6.out.trans hm (fun j _ h => Nat.le_of_not_lt h))
          have B7 := Lib.hid ((((M1.out.mono (T := fun j => w.heap.size ≤ j) (fun _ _ h => h.elim)).trans M7.out (fun j _ h => Nat.le_trans B1.out.size h)).mono (T := fun _ => False) (fun k hk h => by omega)).toBelow)
          have RD7 := Lib.hid hrow.rd
          obtain ⟨vs7, hvs7, _⟩ := hrow.ex
          obtain ⟨ar7, cr7, rfl, _⟩ := ownsRow_slice hvs7
          obtain ⟨t, ht⟩ : ∃ t, t = L.length := ⟨_, rfl⟩
          rw [← ht] at RD7 ⊢
          have htt : t = c - m := by rw [ht, e4, List.length_drop, recTo_length]
          have EL := Lib.hid e4
          have TT := Lib.hid (show t + m = c ∧ c ≤ 63 from ⟨by omega, CB.out⟩)
          have f1 : (c : Int) - ((m : Int) + 1) + 1 = (t : Int) := by omega
          have f2 : (m : Int) + 1 - 1 = (m : Int) := by omega
          clear OP hg hnq hW hrow hm hvs7 ht htt e4 e5 hk hlt hlt'
          by_cases hk0 : c = 0
          · obtain rfl : m = 0 := by have := TT.out; omega
            obtain rfl : g = 0 := by
              have e7' : (g : Int) * per = 0 := by rw [e7]; rfl
              rcases Int.mul_eq_zero.1 e7' with h | h
              · omega
              · omega
            subst hk0
            clear e7 e8 e9 e10
            go_wp2_with fail
            go_loop [141] (fun i => ∃ j : Nat, j ≤ t ∧ i = .int .i64 j) (fun i => t - (intOf i).toNat)
            case atStart => exact ⟨0, Nat.zero_le _, rfl⟩
            case round =>
              obtain ⟨j, hj, rfl⟩ := hrel
              by_cases hlt : j < t
              · exfalso; have := TT.out; omega
              · go_wp2_with fail
                go_ret
                exact ⟨rfl, B7.out⟩
          by_cases hm0 : m = 0
          · subst hm0
            obtain rfl : g = 0 := by
              have e7' : (g : Int) * per = 0 := by rw [e7]; rfl
              rcases Int.mul_eq_zero.1 e7' with h | h
              · omega
              · omega
            have k0 : (0 : Int) < (c : Int) := by omega
            by_cases hbk : below < (c : Int)
            · by_cases hb1' : below < 1
              · clear e7 e8 e9 e10
                go_wp2_with fail
                go_loop [141] (fun i => ∃ j : Nat, j ≤ t ∧ i = .int .i64 j) (fun i => t - (intOf i).toNat)
                case atStart => exact ⟨0, Nat.zero_le _, rfl⟩
                case round =>
                  obtain ⟨j, hj, rfl⟩ := hrel
                  by_cases hlt : j < t
                  · obtain ⟨v, hv1, hv2, hv3⟩ : ∃ v : Int, L[j]? = some [v] ∧ v = (0 : Nat) + 1 + (j : Int) ∧ v < 256 := by
                      refine ⟨((0 : Nat) : Int) + 1 + (j : Int), ?_, rfl, by have := TT.out; omega⟩
                      rw [EL.out, List.getElem?_drop]
                      have hl : 0 + j < (recTo c).length := by rw [recTo_length]; have := TT.out; omega
                      rw [List.getElem?_eq_getElem hl]
                      have := recTo_get (List.getElem?_eq_getElem hl)
                      rw [this]
                      congr 2
                      omega
                    obtain ⟨ax, cx, hax, hall⟩ := RD7.out.ex
                    obtain ⟨b7, u7, hb7, hcell, hu7⟩ := hall j [v] hv1
                    have hb8 : ar7 = some b7 := by injection hax with h _ _; rw [h]; exact hb7
                    clear hax hb7 hall hv1
                    subst hb8
                    obtain ⟨ua, uc, rfl⟩ := reads_form hu7
                    have hone : ([v] : List Int).length = 1 := rfl
                    rw [hone] at hcell
                    cases ua with
                    | none => have := (reads_empty hu7).2; cases this
                    | some p =>
                      have hz := reads_at hu7 (k := 0) (by simp)
                      have hz0 : w7.cell? p = some (.int .u8 v) := by
                        have e0 : p.add 0 = p := by simp [Addr.add]
                        rw [e0] at hz; exact hz
                      have hmod : (((0 : Nat) : Int) + 1 + (j : Int)) % 256 = v := by omega
                      have hmod2 : (1 + (j : Int)) % 256 = v := by omega
                      clear hz hu7 hv2 hone
                      go_wp2_with fail
                      go_round
                      case rel => exact ⟨j + 1, by omega, by go_num⟩
                      case measure => simp [intOf]; omega
                  · go_wp2_with fail
                    go_ret
                    exact ⟨rfl, B7.out⟩
              · have f3 := e10 (by omega) hbk
                clear e7 e8 e9 e10
                go_wp2_with fail
                go_loop [141] (fun i => ∃ j : Nat, j ≤ t ∧ i = .int .i64 j) (fun i => t - (intOf i).toNat)
                case atStart => exact ⟨0, Nat.zero_le _, rfl⟩
                case round =>
                  obtain ⟨j, hj, rfl⟩ := hrel
                  by_cases hlt : j < t
                  · obtain ⟨v, hv1, hv2, hv3⟩ : ∃ v : Int, L[j]? = some [v] ∧ v = (0 : Nat) + 1 + (j : Int) ∧ v < 256 := by
                      refine ⟨((0 : Nat) : Int) + 1 + (j : Int), ?_, rfl, by have := TT.out; omega⟩
                      rw [EL.out, List.getElem?_drop]
                      have hl : 0 + j < (recTo c).length := by rw [recTo_length]; have := TT.out; omega
                      rw [List.getElem?_eq_getElem hl]
                      have := recTo_get (List.getElem?_eq_getElem hl)
                      rw [this]
                      congr 2
                      omega
                    obtain ⟨ax, cx, hax, hall⟩ := RD7.out.ex
                    obtain ⟨b7, u7, hb7, hcell, hu7⟩ := hall j [v] hv1
                    have hb8 : ar7 = some b7 := by injection hax with h _ _; rw [h]; exact hb7
                    clear hax hb7 hall hv1
                    subst hb8
                    obtain ⟨ua, uc, rfl⟩ := reads_form hu7
                    have hone : ([v] : List Int).length = 1 := rfl
                    rw [hone] at hcell
                    cases ua with
                    | none => have := (reads_empty hu7).2; cases this
                    | some p =>
                      have hz := reads_at hu7 (k := 0) (by simp)
                      have hz0 : w7.cell? p = some (.int .u8 v) := by
                        have e0 : p.add 0 = p := by simp [Addr.add]
                        rw [e0] at hz; exact hz
                      have hmod : (((0 : Nat) : Int) + 1 + (j : Int)) % 256 = v := by omega
                      have hmod2 : (1 + (j : Int)) % 256 = v := by omega
                      clear hz hu7 hv2 hone
                      go_wp2_with fail
                      go_round
                      case rel => exact ⟨j + 1, by omega, by go_num⟩
                      case measure => simp [intOf]; omega
                  · go_wp2_with fail
                    go_ret
                    exact ⟨rfl, B7.out⟩
            · clear e7 e8 e9 e10
              go_wp2_with fail
              go_loop [141] (fun i => ∃ j : Nat, j ≤ t ∧ i = .int .i64 j) (fun i => t - (intOf i).toNat)
              case atStart => exact ⟨0, Nat.zero_le _, rfl⟩
              case round =>
                obtain ⟨j, hj, rfl⟩ := hrel
                by_cases hlt : j < t
                · obtain ⟨v, hv1, hv2, hv3⟩ : ∃ v : Int, L[j]? = some [v] ∧ v = (0 : Nat) + 1 + (j : Int) ∧ v < 256 := by
                    refine ⟨((0 : Nat) : Int) + 1 + (j : Int), ?_, rfl, by have := TT.out; omega⟩
                    rw [EL.out, List.getElem?_drop]
                    have hl : 0 + j < (recTo c).length := by rw [recTo_length]; have := TT.out; omega
                    rw [List.getElem?_eq_getElem hl]
                    have := recTo_get (List.getElem?_eq_getElem hl)
                    rw [this]
                    congr 2
                    omega
                  obtain ⟨ax, cx, hax, hall⟩ := RD7.out.ex
                  obtain ⟨b7, u7, hb7, hcell, hu7⟩ := hall j [v] hv1
                  have hb8 : ar7 = some b7 := by injection hax with h _ _; rw [h]; exact hb7
                  clear hax hb7 hall hv1
                  subst hb8
                  obtain ⟨ua, uc, rfl⟩ := reads_form hu7
                  have hone : ([v] : List Int).length = 1 := rfl
                  rw [hone] at hcell
                  cases ua with
                  | none => have := (reads_empty hu7).2; cases this
                  | some p =>
                    have hz := reads_at hu7 (k := 0) (by simp)
                    have hz0 : w7.cell? p = some (.int .u8 v) := by
                      have e0 : p.add 0 = p := by simp [Addr.add]
                      rw [e0] at hz; exact hz
                    have hmod : (((0 : Nat) : Int) + 1 + (j : Int)) % 256 = v := by omega
                    have hmod2 : (1 + (j : Int)) % 256 = v := by omega
                    clear hz hu7 hv2 hone
                    go_wp2_with fail
                    go_round
                    case rel => exact ⟨j + 1, by omega, by go_num⟩
                    case measure => simp [intOf]; omega
                · go_wp2_with fail
                  go_ret
                  exact ⟨rfl, B7.out⟩
          · have hg0 : ((g : Int) == 0) = false := by
              rw [beq_eq_false_iff_ne]
              intro h
              exact hm0 (e9 (by omega))
            have hmb : (m : Int) + 1 ≤ below := by rcases e8 with h | h; exact absurd h hm0; exact h
            have k0 : (0 : Int) < (c : Int) := by omega
            by_cases hbk : below < (c : Int)
            · have f3 := e10 (by omega) hbk
              clear e8 e9 e10
              go_wp2_with fail
              go_loop [141] (fun i => ∃ j : Nat, j ≤ t ∧ i = .int .i64 j) (fun i => t - (intOf i).toNat)
              case atStart => exact ⟨0, Nat.zero_le _, rfl⟩
              case round =>
                obtain ⟨j, hj, rfl⟩ := hrel
                by_cases hlt : j < t
                · obtain ⟨v, hv1, hv2, hv3⟩ : ∃ v : Int, L[j]? = some [v] ∧ v = (m : Nat) + 1 + (j : Int) ∧ v < 256 := by
                    refine ⟨((m : Nat) : Int) + 1 + (j : Int), ?_, rfl, by have := TT.out; omega⟩
                    rw [EL.out, List.getElem?_drop]
                    have hl : m + j < (recTo c).length := by rw [recTo_length]; have := TT.out; omega
                    rw [List.getElem?_eq_getElem hl]
                    have := recTo_get (List.getElem?_eq_getElem hl)
                    rw [this]
                    congr 2
                    omega
                  obtain ⟨ax, cx, hax, hall⟩ := RD7.out.ex
                  obtain ⟨b7, u7, hb7, hcell, hu7⟩ := hall j [v] hv1
                  have hb8 : ar7 = some b7 := by injection hax with h _ _; rw [h]; exact hb7
                  clear hax hb7 hall hv1
                  subst hb8
                  obtain ⟨ua, uc, rfl⟩ := reads_form hu7
                  have hone : ([v] : List Int).length = 1 := rfl
                  rw [hone] at hcell
                  cases ua with
                  | none => have := (reads_empty hu7).2; cases this
                  | some p =>
                    have hz := reads_at hu7 (k := 0) (by simp)
                    have hz0 : w7.cell? p = some (.int .u8 v) := by
                      have e0 : p.add 0 = p := by simp [Addr.add]
                      rw [e0] at hz; exact hz
                    have hmod : (((m : Nat) : Int) + 1 + (j : Int)) % 256 = v := by omega
                    skip
                    clear hz hu7 hv2 hone
                    go_wp2_with fail
                    go_round
                    case rel => exact ⟨j + 1, by omega, by go_num⟩
                    case measure => simp [intOf]; omega
                · go_wp2_with fail
                  go_ret
                  exact ⟨rfl, B7.out⟩
            · clear e8 e9 e10
              go_wp2_with fail
              go_loop [141] (fun i => ∃ j : Nat, j ≤ t ∧ i = .int .i64 j) (fun i => t - (intOf i).toNat)
              case atStart => exact ⟨0, Nat.zero_le _, rfl⟩
              case round =>
                obtain ⟨j, hj, rfl⟩ := hrel
                by_cases hlt : j < t
                · obtain ⟨v, hv1, hv2, hv3⟩ : ∃ v : Int, L[j]? = some [v] ∧ v = (m : Nat) + 1 + (j : Int) ∧ v < 256 := by
                    refine ⟨((m : Nat) : Int) + 1 + (j : Int), ?_, rfl, by have := TT.out; omega⟩
                    rw [EL.out, List.getElem?_drop]
                    have hl : m + j < (recTo c).length := by rw [recTo_length]; have := TT.out; omega
                    rw [List.getElem?_eq_getElem hl]
                    have := recTo_get (List.getElem?_eq_getElem hl)
                    rw [this]
                    congr 2
                    omega
                  obtain ⟨ax, cx, hax, hall⟩ := RD7.out.ex
                  obtain ⟨b7, u7, hb7, hcell, hu7⟩ := hall j [v] hv1
                  have hb8 : ar7 = some b7 := by injection hax with h _ _; rw [h]; exact hb7
                  clear hax hb7 hall hv1
                  subst hb8
                  obtain ⟨ua, uc, rfl⟩ := reads_form hu7
                  have hone : ([v] : List Int).length = 1 := rfl
                  rw [hone] at hcell
                  cases ua with
                  | none => have := (reads_empty hu7).2; cases this
                  | some p =>
                    have hz := reads_at hu7 (k := 0) (by simp)
                    have hz0 : w7.cell? p = some (.int .u8 v) := by
                      have e0 : p.add 0 = p := by simp [Addr.add]
                      rw [e0] at hz; exact hz
                    have hmod : (((m : Nat) : Int) + 1 + (j : Int)) % 256 = v := by omega
                    skip
                    clear hz hu7 hv2 hone
                    go_wp2_with fail
                    go_round
                    case rel => exact ⟨j + 1, by omega, by go_num⟩
                    case measure => simp [intOf]; omega
                · go_wp2_with fail
                  go_ret
                  exact ⟨rfl, B7.out⟩
    · clear ha
      refine (held_new w1 1048576).mono ?_
      rintro e w2 ⟨rfl, hH, hb, hsz⟩
      have H2 := Lib.hid hH
      have M2 := Lib.hid (Mod.ofBelow hb)
      have L2 := Lib.hid (L1.out.below hb)
      clear hH hb hsz
      go_wp2_with fail
      have OE := open_empty (A := ADsk.new 1048576) rfl rfl per hper0
      have OP := open_ok H2.out (by intro p hp; cases hp) per hper0 hp1 rfl L2.out (fun k hk => L1.out.lt hk) (by rw [OE])
      rw [OE] at OP
      refine OP.mono ?_
      rintro e w4 ⟨Q4, wp, rv, rfl, hg, hnq, hW, hrow, hm⟩
      have START := Lib.hid (show SegAt w1 (w1.heap.size + 1) wp per 0 [] ⟨ADsk.new 1048576, per, 1, 1, 0⟩ Q4 w4 from
        ⟨⟨rfl, rfl, Or.inl ⟨rfl, rfl⟩, rfl, rfl, rfl⟩, rfl, (fun e he => by cases he), rfl, rfl, hW, hg, Nat.le_of_not_lt hnq, (M2.out.mono (T := fun j => w1.heap.size ≤ j) (fun _ _ h => h.elim)).trans hm (fun j _ h => Nat.le_of_not_lt h)⟩)
      obtain ⟨vsr, hvsr, _⟩ := hrow.ex
      obtain ⟨arv, crv, rfl, _⟩ := ownsRow_slice hvsr
      clear OP OE hg hnq hW hrow hm hvsr
      go_wp2_with fail
      go_loopw [12] (fun i wr => ∃ (k : Nat) (D : List (List (List Int))) (W : AWal) (Q : Nat → Prop), k ≤ c ∧ i = .int .i64 ((k : Int) + 1) ∧ SegAt w1 (w1.heap.size + 1) wp per k D W Q wr) (fun i _ => c + 1 - (intOf i).toNat)
      case atStart => exact ⟨0, [], _, Q4, Nat.zero_le _, rfl, START.out⟩
      case round =>
        obtain ⟨k, D, W, Q, hk, rfl, hS⟩ := hrel
        have S := Lib.hid hS
        clear hS
        have HMANY := Lib.hid (show many D = k from by rw [many_zero, S.out.flat, recTo_length])
        have hnx := Lib.hid (show W.next = (k : Int) + 1 from by rw [S.out.jr.next, HMANY.out]; omega)
        by_cases hlt : k < c
        · have hlt' : (k : Int) + 1 ≤ (c : Int) := by omega
          have c63 := CB.out
          have hmod : ((k : Int) + 1) % 256 = (k : Int) + 1 := by omega
          have hf : 0 ≤ W.first ∧ W.first ≤ 2000000000 := by
            have hm := HMANY.out
            rcases S.out.jr.shape with ⟨_, h⟩ | ⟨C, x, h1, _, _, _, h⟩
            · omega
            · have : many D = many C + x.length := by rw [h1, many_append]; simp [many]
              omega
          have J := jr_append S.out.jr hper0 S.out.small (by rw [HMANY.out]; omega) (by rw [S.out.flat, ends_recTo]; omega) (r := [(k : Int) + 1]) (by simp) (by intro y hy; rcases List.mem_singleton.1 hy with rfl; omega)
          rw [S.out.flat, ends_recTo, HMANY.out, S.out.room, hnx.out] at J
          have W3 := Lib.hid (S.out.wal.mod ((Mod.refl (fun _ => False) wr).alloc (.cells #[.int .u8 ((k : Int) + 1)] 5)) (fun _ _ h => h.elim))
          have M3 := Lib.hid (S.out.mod.alloc (.cells #[.int .u8 ((k : Int) + 1)] 5))
          have AP := walAppend_any W3.out hf (by rw [hnx.out]; omega) _ [(k : Int) + 1] (reads_const wr [(k : Int) + 1] (0, 0)) (by simp) (L1.out.grown M3.out)
          clear hf
          go_wp2_with fail
          refine AP.mono ?_
          clear AP
          rcases J with ⟨_, g | g⟩ | ⟨gz, ⟨g0, _⟩ | ⟨W', D', g1, g2, g3, g4, g5, g6⟩⟩
          · exfalso
            rcases COND.out with c2 | c2
            · omega
            · omega
          · exfalso; simp at g; omega
          · exact absurd S.out.ar g0
          · rw [g1]
            rintro e w5 ⟨rfl, hW5, hm5⟩
            have S5 := Lib.hid (show SegAt w1 (w1.heap.size + 1) wp per (k + 1) D' W' Q w5 from
              ⟨g2, by rw [g3, recTo_succ], g4, g6 S.out.ar, g5, hW5, S.out.grow, S.out.fresh, M3.out.trans hm5 (fun j _ h => by
                rcases h with h | h
                · exact Nat.le_of_not_lt (fun hj => h (S.out.grow j hj))
                · have := S.out.fresh; omega)⟩)
            clear gz g1 g2 g3 g4 g5 g6 hW5 hm5
            go_wp2_with fail
            go_roundw
            case rel => exact ⟨k + 1, D', W', Q, by omega, by go_num, S5.out⟩
            case measure => simp [intOf]; omega
        · obtain rfl : c = k := by omega
          have hlt' : ¬ (c : Int) + 1 ≤ (c : Int) := by omega
          have hris := S.out.wal.disk.ok.rising
          obtain ⟨g, m, A', L, e1, e2, e3, e4, e5, e6, e7, e8, e9, e10⟩ := seg_law S.out.jr S.out.flat S.out.small S.out.ar hris hper0 CB.out below
          have SIC := S.out.jr.sick
          have PR := walPrune_any S.out.wal SIC below hb0 hb1 (L1.out.grown S.out.mod) (fun k hk => S.out.grow _ (L1.out.lt hk))
          rw [e1] at PR
          clear hris SIC e1
          go_wp2_with fail
          refine PR.mono ?_
          rintro e w6 ⟨rfl, hW6, hm6⟩
          have M6 := Lib.hid (S.out.mod.trans hm6 (fun j _ h => by
            rcases h with h | h
            · exact Nat.le_of_not_lt (fun hj => h (S.out.grow j hj))
            · have := S.out.fresh; omega))
          have H6 := Lib.hid (hW6.disk.weaken (T := fun j => j < w1.heap.size) S.out.grow)
          have L6 := Lib.hid (L1.out.grown M6.out)
          obtain ⟨A7, wf, wn, e11⟩ := e6 H6.out.ok.rising
          have OP := open_ok H6.out e3 per hper0 hp1 e2 L6.out (fun k hk => L1.out.lt hk) (by rw [e11])
          rw [e11] at OP
          clear PR hW6 hm6 e6 e11 e2 e3
          go_wp2_with fail
          refine OP.mono ?_
          rintro e w7 ⟨Q7, wp7, rv7, rfl, hg, hnq, hW, hrow, hm⟩
          have M7 := Lib.hid (M6.out.trans hm (fun j _ h => Nat.le_of_not_lt h))
          have B7 := Lib.hid ((((M1.out.mono (T := fun j => w.heap.size ≤ j) (fun _ _ h => h.elim)).trans M7.out (fun j _ h => Nat.le_trans B1.out.size h)).mono (T := fun _ => False) (fun k hk h => by omega)).toBelow)
          have RD7 := Lib.hid hrow.rd
          obtain ⟨vs7, hvs7, _⟩ := hrow.ex
          obtain ⟨ar7, cr7, rfl, _⟩ := ownsRow_slice hvs7
          obtain ⟨t, ht⟩ : ∃ t, t = L.length := ⟨_, rfl⟩
          rw [← ht] at RD7 ⊢
          have htt : t = c - m := by rw [ht, e4, List.length_drop, recTo_length]
          have EL := Lib.hid e4
          have TT := Lib.hid (show t + m = c ∧ c ≤ 63 from ⟨by omega, CB.out⟩)
          have f1 : (c : Int) - ((m : Int) + 1) + 1 = (t : Int) := by omega
          have f2 : (m : Int) + 1 - 1 = (m : Int) := by omega
          clear OP hg hnq hW hrow hm hvs7 ht htt e4 e5 hk hlt hlt'
          by_cases hk0 : c = 0
          · obtain rfl : m = 0 := by have := TT.out; omega
            obtain rfl : g = 0 := by
              have e7' : (g : Int) * per = 0 := by rw [e7]; rfl
              rcases Int.mul_eq_zero.1 e7' with h | h
              · omega
              · omega
            subst hk0
            clear e7 e8 e9 e10
            go_wp2_with fail
            go_loop [141] (fun i => ∃ j : Nat, j ≤ t ∧ i = .int .i64 j) (fun i => t - (intOf i).toNat)
            case atStart => exact ⟨0, Nat.zero_le _, rfl⟩
            case round =>
              obtain ⟨j, hj, rfl⟩ := hrel
              by_cases hlt : j < t
              · exfalso; have := TT.out; omega
              · go_wp2_with fail
                go_ret
                exact ⟨rfl, B7.out⟩
          by_cases hm0 : m = 0
          · subst hm0
            obtain rfl : g = 0 := by
              have e7' : (g : Int) * per = 0 := by rw [e7]; rfl
              rcases Int.mul_eq_zero.1 e7' with h | h
              · omega
              · omega
            have k0 : (0 : Int) < (c : Int) := by omega
            by_cases hbk : below < (c : Int)
            · by_cases hb1' : below < 1
              · clear e7 e8 e9 e10
                go_wp2_with fail
                go_loop [141] (fun i => ∃ j : Nat, j ≤ t ∧ i = .int .i64 j) (fun i => t - (intOf i).toNat)
                case atStart => exact ⟨0, Nat.zero_le _, rfl⟩
                case round =>
                  obtain ⟨j, hj, rfl⟩ := hrel
                  by_cases hlt : j < t
                  · obtain ⟨v, hv1, hv2, hv3⟩ : ∃ v : Int, L[j]? = some [v] ∧ v = (0 : Nat) + 1 + (j : Int) ∧ v < 256 := by
                      refine ⟨((0 : Nat) : Int) + 1 + (j : Int), ?_, rfl, by have := TT.out; omega⟩
                      rw [EL.out, List.getElem?_drop]
                      have hl : 0 + j < (recTo c).length := by rw [recTo_length]; have := TT.out; omega
                      rw [List.getElem?_eq_getElem hl]
                      have := recTo_get (List.getElem?_eq_getElem hl)
                      rw [this]
                      congr 2
                      omega
                    obtain ⟨ax, cx, hax, hall⟩ := RD7.out.ex
                    obtain ⟨b7, u7, hb7, hcell, hu7⟩ := hall j [v] hv1
                    have hb8 : ar7 = some b7 := by injection hax with h _ _; rw [h]; exact hb7
                    clear hax hb7 hall hv1
                    subst hb8
                    obtain ⟨ua, uc, rfl⟩ := reads_form hu7
                    have hone : ([v] : List Int).length = 1 := rfl
                    rw [hone] at hcell
                    cases ua with
                    | none => have := (reads_empty hu7).2; cases this
                    | some p =>
                      have hz := reads_at hu7 (k := 0) (by simp)
                      have hz0 : w7.cell? p = some (.int .u8 v) := by
                        have e0 : p.add 0 = p := by simp [Addr.add]
                        rw [e0] at hz; exact hz
                      have hmod : (((0 : Nat) : Int) + 1 + (j : Int)) % 256 = v := by omega
                      have hmod2 : (1 + (j : Int)) % 256 = v := by omega
                      clear hz hu7 hv2 hone
                      go_wp2_with fail
                      go_round
                      case rel => exact ⟨j + 1, by omega, by go_num⟩
                      case measure => simp [intOf]; omega
                  · go_wp2_with fail
                    go_ret
                    exact ⟨rfl, B7.out⟩
              · have f3 := e10 (by omega) hbk
                clear e7 e8 e9 e10
                go_wp2_with fail
                go_loop [141] (fun i => ∃ j : Nat, j ≤ t ∧ i = .int .i64 j) (fun i => t - (intOf i).toNat)
                case atStart => exact ⟨0, Nat.zero_le _, rfl⟩
                case round =>
                  obtain ⟨j, hj, rfl⟩ := hrel
                  by_cases hlt : j < t
                  · obtain ⟨v, hv1, hv2, hv3⟩ : ∃ v : Int, L[j]? = some [v] ∧ v = (0 : Nat) + 1 + (j : Int) ∧ v < 256 := by
                      refine ⟨((0 : Nat) : Int) + 1 + (j : Int), ?_, rfl, by have := TT.out; omega⟩
                      rw [EL.out, List.getElem?_drop]
                      have hl : 0 + j < (recTo c).length := by rw [recTo_length]; have := TT.out; omega
                      rw [List.getElem?_eq_getElem hl]
                      have := recTo_get (List.getElem?_eq_getElem hl)
                      rw [this]
                      congr 2
                      omega
                    obtain ⟨ax, cx, hax, hall⟩ := RD7.out.ex
                    obtain ⟨b7, u7, hb7, hcell, hu7⟩ := hall j [v] hv1
                    have hb8 : ar7 = some b7 := by injection hax with h _ _; rw [h]; exact hb7
                    clear hax hb7 hall hv1
                    subst hb8
                    obtain ⟨ua, uc, rfl⟩ := reads_form hu7
                    have hone : ([v] : List Int).length = 1 := rfl
                    rw [hone] at hcell
                    cases ua with
                    | none => have := (reads_empty hu7).2; cases this
                    | some p =>
                      have hz := reads_at hu7 (k := 0) (by simp)
                      have hz0 : w7.cell? p = some (.int .u8 v) := by
                        have e0 : p.add 0 = p := by simp [Addr.add]
                        rw [e0] at hz; exact hz
                      have hmod : (((0 : Nat) : Int) + 1 + (j : Int)) % 256 = v := by omega
                      have hmod2 : (1 + (j : Int)) % 256 = v := by omega
                      clear hz hu7 hv2 hone
                      go_wp2_with fail
                      go_round
                      case rel => exact ⟨j + 1, by omega, by go_num⟩
                      case measure => simp [intOf]; omega
                  · go_wp2_with fail
                    go_ret
                    exact ⟨rfl, B7.out⟩
            · clear e7 e8 e9 e10
              go_wp2_with fail
              go_loop [141] (fun i => ∃ j : Nat, j ≤ t ∧ i = .int .i64 j) (fun i => t - (intOf i).toNat)
              case atStart => exact ⟨0, Nat.zero_le _, rfl⟩
              case round =>
                obtain ⟨j, hj, rfl⟩ := hrel
                by_cases hlt : j < t
                · obtain ⟨v, hv1, hv2, hv3⟩ : ∃ v : Int, L[j]? = some [v] ∧ v = (0 : Nat) + 1 + (j : Int) ∧ v < 256 := by
                    refine ⟨((0 : Nat) : Int) + 1 + (j : Int), ?_, rfl, by have := TT.out; omega⟩
                    rw [EL.out, List.getElem?_drop]
                    have hl : 0 + j < (recTo c).length := by rw [recTo_length]; have := TT.out; omega
                    rw [List.getElem?_eq_getElem hl]
                    have := recTo_get (List.getElem?_eq_getElem hl)
                    rw [this]
                    congr 2
                    omega
                  obtain ⟨ax, cx, hax, hall⟩ := RD7.out.ex
                  obtain ⟨b7, u7, hb7, hcell, hu7⟩ := hall j [v] hv1
                  have hb8 : ar7 = some b7 := by injection hax with h _ _; rw [h]; exact hb7
                  clear hax hb7 hall hv1
                  subst hb8
                  obtain ⟨ua, uc, rfl⟩ := reads_form hu7
                  have hone : ([v] : List Int).length = 1 := rfl
                  rw [hone] at hcell
                  cases ua with
                  | none => have := (reads_empty hu7).2; cases this
                  | some p =>
                    have hz := reads_at hu7 (k := 0) (by simp)
                    have hz0 : w7.cell? p = some (.int .u8 v) := by
                      have e0 : p.add 0 = p := by simp [Addr.add]
                      rw [e0] at hz; exact hz
                    have hmod : (((0 : Nat) : Int) + 1 + (j : Int)) % 256 = v := by omega
                    have hmod2 : (1 + (j : Int)) % 256 = v := by omega
                    clear hz hu7 hv2 hone
                    go_wp2_with fail
                    go_round
                    case rel => exact ⟨j + 1, by omega, by go_num⟩
                    case measure => simp [intOf]; omega
                · go_wp2_with fail
                  go_ret
                  exact ⟨rfl, B7.out⟩
          · have hg0 : ((g : Int) == 0) = false := by
              rw [beq_eq_false_iff_ne]
              intro h
              exact hm0 (e9 (by omega))
            have hmb : (m : Int) + 1 ≤ below := by rcases e8 with h | h; exact absurd h hm0; exact h
            have k0 : (0 : Int) < (c : Int) := by omega
            by_cases hbk : below < (c : Int)
            · have f3 := e10 (by omega) hbk
              clear e8 e9 e10
              go_wp2_with fail
              go_loop [141] (fun i => ∃ j : Nat, j ≤ t ∧ i = .int .i64 j) (fun i => t - (intOf i).toNat)
              case atStart => exact ⟨0, Nat.zero_le _, rfl⟩
              case round =>
                obtain ⟨j, hj, rfl⟩ := hrel
                by_cases hlt : j < t
                · obtain ⟨v, hv1, hv2, hv3⟩ : ∃ v : Int, L[j]? = some [v] ∧ v = (m : Nat) + 1 + (j : Int) ∧ v < 256 := by
                    refine ⟨((m : Nat) : Int) + 1 + (j : Int), ?_, rfl, by have := TT.out; omega⟩
                    rw [EL.out, List.getElem?_drop]
                    have hl : m + j < (recTo c).length := by rw [recTo_length]; have := TT.out; omega
                    rw [List.getElem?_eq_getElem hl]
                    have := recTo_get (List.getElem?_eq_getElem hl)
                    rw [this]
                    congr 2
                    omega
                  obtain ⟨ax, cx, hax, hall⟩ := RD7.out.ex
                  obtain ⟨b7, u7, hb7, hcell, hu7⟩ := hall j [v] hv1
                  have hb8 : ar7 = some b7 := by injection hax with h _ _; rw [h]; exact hb7
                  clear hax hb7 hall hv1
                  subst hb8
                  obtain ⟨ua, uc, rfl⟩ := reads_form hu7
                  have hone : ([v] : List Int).length = 1 := rfl
                  rw [hone] at hcell
                  cases ua with
                  | none => have := (reads_empty hu7).2; cases this
                  | some p =>
                    have hz := reads_at hu7 (k := 0) (by simp)
                    have hz0 : w7.cell? p = some (.int .u8 v) := by
                      have e0 : p.add 0 = p := by simp [Addr.add]
                      rw [e0] at hz; exact hz
                    have hmod : (((m : Nat) : Int) + 1 + (j : Int)) % 256 = v := by omega
                    skip
                    clear hz hu7 hv2 hone
                    go_wp2_with fail
                    go_round
                    case rel => exact ⟨j + 1, by omega, by go_num⟩
                    case measure => simp [intOf]; omega
                · go_wp2_with fail
                  go_ret
                  exact ⟨rfl, B7.out⟩
            · clear e8 e9 e10
              go_wp2_with fail
              go_loop [141] (fun i => ∃ j : Nat, j ≤ t ∧ i = .int .i64 j) (fun i => t - (intOf i).toNat)
              case atStart => exact ⟨0, Nat.zero_le _, rfl⟩
              case round =>
                obtain ⟨j, hj, rfl⟩ := hrel
                by_cases hlt : j < t
                · obtain ⟨v, hv1, hv2, hv3⟩ : ∃ v : Int, L[j]? = some [v] ∧ v = (m : Nat) + 1 + (j : Int) ∧ v < 256 := by
                    refine ⟨((m : Nat) : Int) + 1 + (j : Int), ?_, rfl, by have := TT.out; omega⟩
                    rw [EL.out, List.getElem?_drop]
                    have hl : m + j < (recTo c).length := by rw [recTo_length]; have := TT.out; omega
                    rw [List.getElem?_eq_getElem hl]
                    have := recTo_get (List.getElem?_eq_getElem hl)
                    rw [this]
                    congr 2
                    omega
                  obtain ⟨ax, cx, hax, hall⟩ := RD7.out.ex
                  obtain ⟨b7, u7, hb7, hcell, hu7⟩ := hall j [v] hv1
                  have hb8 : ar7 = some b7 := by injection hax with h _ _; rw [h]; exact hb7
                  clear hax hb7 hall hv1
                  subst hb8
                  obtain ⟨ua, uc, rfl⟩ := reads_form hu7
                  have hone : ([v] : List Int).length = 1 := rfl
                  rw [hone] at hcell
                  cases ua with
                  | none => have := (reads_empty hu7).2; cases this
                  | some p =>
                    have hz := reads_at hu7 (k := 0) (by simp)
                    have hz0 : w7.cell? p = some (.int .u8 v) := by
                      have e0 : p.add 0 = p := by simp [Addr.add]
                      rw [e0] at hz; exact hz
                    have hmod : (((m : Nat) : Int) + 1 + (j : Int)) % 256 = v := by omega
                    skip
                    clear hz hu7 hv2 hone
                    go_wp2_with fail
                    go_round
                    case rel => exact ⟨j + 1, by omega, by go_num⟩
                    case measure => simp [intOf]; omega
                · go_wp2_with fail
                  go_ret
                  exact ⟨rfl, B7.out⟩
end Go.Proofs.YtmpdmejlpicdlaaDoor

/- WalLoses, walked. -/
import Derived.Test.YtmpdmejlpicdlaaDoorDiskIn
import Derived.Test.YtmpdmejlpicdlaaDoorWalW
import Derived.Test.YtmpdmejlpicdlaaDoorWalJ
namespace Go.Proofs.YtmpdmejlpicdlaaDoor
open Go.RowKit Go.Bw Go.Maps
set_option linter.unusedVariables false
set_option linter.unusedSimpArgs false

def rowsTo (P : Nat → List Int) (k : Nat) : List (List Int) := (List.range k).map P
theorem rowsTo_succ (P : Nat → List Int) (k : Nat) : rowsTo P (k + 1) = rowsTo P k ++ [P k] := by simp [rowsTo, List.range_succ]
theorem rowsTo_length (P : Nat → List Int) (k : Nat) : (rowsTo P k).length = k := by simp [rowsTo]
theorem rowsTo_get {P : Nat → List Int} {k i : Nat} {x : List Int} (h : (rowsTo P k)[i]? = some x) : i < k ∧ x = P i := by
  have h1 := (List.getElem?_eq_some_iff.1 h).1
  rw [rowsTo_length] at h1
  refine ⟨h1, ?_⟩
  simp [rowsTo, h1] at h
  exact h.symm
def tot (P : Nat → List Int) (k : Nat) : Nat := (flat P k).length + 8 * k
theorem tot_succ (P : Nat → List Int) (k : Nat) : tot P (k + 1) = tot P k + ((P k).length + 8) := by unfold tot; rw [flat_len]; omega
theorem tot_mono (P : Nat → List Int) {j k : Nat} (h : j ≤ k) : tot P j ≤ tot P k := by unfold tot; have := flat_mono P h; omega
theorem ends_rows (P : Nat → List Int) : ∀ k, ends (rowsTo P k) = tot P k
  | 0 => rfl
  | k + 1 => by rw [rowsTo_succ, ends_append, ends_rows P k, ends_one, tot_succ]
/-- Behind k records. -/
structure LossAt (w w1 : World) (d wp : Nat) (P : Nat → List Int) (per : Int) (cs : Array Value) (k : Nat) (D : List (List (List Int))) (W : AWal) (Q : Nat → Prop) (wr : World) : Prop where
  jr : Jr per D W
  flat : D.flatten = rowsTo P k
  small : Small D
  room : W.dsk.room = 1048576
  wal : WalAt Q wr wp d W
  grow : ∀ k, k < w1.heap.size → Q k
  fresh : w1.heap.size ≤ wp
  mod : Mod (fun j => w1.heap.size ≤ j) w1 wr
  xb : wr.heap[w.heap.size]? = some (.cells cs 57 (0, 0))
theorem goesOff_calm {A : ADsk} (h : A.off = true ∨ Calm A.files) (k : Int) : (A.goesOff k).off = true ∧ (A.goesOff k).files = A.files ∧ (A.goesOff k).room = A.room := by
  unfold ADsk.goesOff
  by_cases ho : A.off = true
  · rw [if_pos ho]; exact ⟨ho, rfl, rfl⟩
  · rw [if_neg ho]
    rcases h with h | h
    · exact absurd h ho
    · exact ⟨rfl, h.lost k, rfl⟩

theorem slice_rows (w : World) (a : Option Addr) (n ca t : Nat) (h : t ≤ ca) (hn : a = none → n = 0 ∧ ca = 0) :
    (Instr.slice 37 (.slice a n ca) none (some (.int .i64 (t : Int))) none).run Tryd.prog w = .ok (.slice a t ca) w := by
  have ht := Tryd.underlying37
  have h1 : (t : Int) ≤ (ca : Int) := by omega
  have h2 : ¬ ((ca : Int) < t) := by omega
  have h3 : ¬ (ca < t) := by omega
  cases a with
  | none =>
    obtain ⟨rfl, rfl⟩ := hn rfl
    obtain rfl : t = 0 := by omega
    simp [Instr.slice, go_sem, run_underlying ht]
  | some a =>
    simp [Instr.slice, go_sem, run_underlying ht, h, h1, h2, h3]
set_option maxRecDepth 100000 in
set_option maxHeartbeats 16000000 in
theorem wloses_walk (w : World) (a : Option Addr) (n ca : Nat) (P : Nat → List Int) (per cut keep again kept : Int) (hR : RowsIn w a n P) (hBy : ∀ k, k < n → Bytes (P k)) (hL : Laid w) (hn : n ≤ 140737488351232) (hca : n ≤ ca) (hcn : a = none → n = 0 ∧ ca = 0)
    (hp1 : per ≤ 9223372036854775807) (hp0 : -9223372036854775808 ≤ per) (hc0 : -9223372036854775808 ≤ cut) (hc1 : cut ≤ 9223372036854775807) (hk0 : -9223372036854775808 ≤ keep) (hk1 : keep ≤ 9223372036854775807)
    (ha0 : -9223372036854775808 ≤ again) (ha1 : again ≤ 9223372036854775807) (he0 : -9223372036854775808 ≤ kept) (he1 : kept ≤ 9223372036854775807) :
    Calls Tryd.prog 9 #[.agg #[.slice a n ca, .int .i64 per, .int .i64 cut, .int .i64 keep, .int .i64 again, .int .i64 kept]] w (SaysOut w true) := by
  have HR := Lib.hid hR
  have HL := Lib.hid hL
  have HBY := Lib.hid hBy
  clear hR hL hBy
  go_enter Tryd.func9, Tryd.ntmps9
  go_wp2_with fail
  have XB0 := Lib.hid (show (w.alloc (.cells #[.slice a n ca, .int .i64 per, .int .i64 cut, .int .i64 keep, .int .i64 again, .int .i64 kept] 57)).heap[w.heap.size]? = some (.cells #[.slice a n ca, .int .i64 per, .int .i64 cut, .int .i64 keep, .int .i64 again, .int .i64 kept] 57 (0, 0)) from by show (w.heap.push _)[w.heap.size]? = _; simp)
  have M0 := Lib.hid ((Mod.refl (fun _ => False) w).alloc (.cells #[.slice a n ca, .int .i64 per, .int .i64 cut, .int .i64 keep, .int .i64 again, .int .i64 kept] 57))
  have hsz0 : w.heap.size < (w.alloc (.cells #[.slice a n ca, .int .i64 per, .int .i64 cut, .int .i64 keep, .int .i64 again, .int .i64 kept] 57)).heap.size := by simp
  generalize w.alloc (.cells #[.slice a n ca, .int .i64 per, .int .i64 cut, .int .i64 keep, .int .i64 again, .int .i64 kept] 57) = w0 at XB0 M0 hsz0 ⊢
  refine (wwakes_any w0 (HL.out.below M0.out.toBelow)).mono ?_
  rintro e w1 ⟨rfl, hb⟩
  have M1 := Lib.hid (M0.out.trans (Mod.ofBelow hb) (fun _ _ h => h))
  have B1 := Lib.hid M1.out.toBelow
  have L1 := Lib.hid (HL.out.below M1.out.toBelow)
  have XB1 := Lib.hid ((Mod.ofBelow hb).heap XB0.out (fun h => h))
  have SZ1 := Lib.hid (Nat.lt_of_lt_of_le hsz0 hb.size)
  clear hb hsz0
  have hx0 := cell_of_heap XB1.out 0
  have hx1 := cell_of_heap XB1.out 1
  go_wp2_with fail
  go_loop [3, 24] (fun t i => ∃ k : Nat, k ≤ n ∧ i = .int .i64 k ∧ t = .int .i64 (tot P k : Nat) ∧ tot P k ≤ 262144 ∧ ∀ j, j < k → (P j).length ≤ 65536) (fun _ i => n - (intOf i).toNat)
  case atStart => exact ⟨0, Nat.zero_le _, rfl, rfl, by simp [tot, flat], fun j hj => by omega⟩
  case round =>
    obtain ⟨k, hk, rfl, rfl, hl, hle⟩ := hrel
    have HLE := Lib.hid hle
    clear hle
    by_cases hlt : k < n
    · obtain ⟨a', x, c, rfl, hcc, hr, hp⟩ := HR.out k hlt
      have hc := (B1.out.cell (World.block_lt_of_cell? w _ hcc)).trans hcc
      have FL := Lib.hid (tot_succ P k)
      clear hcc hr
      obtain ⟨q, hq⟩ : ∃ q : Nat, q = tot P k + ((P k).length + 8) := ⟨_, rfl⟩
      have hsum : ((tot P k : Nat) : Int) + (((P k).length : Int) + 8) = (q : Nat) := by omega
      have HQ := Lib.hid hq
      clear hq
      by_cases hgt : 262144 < q
      · have hgt' : (262144 : Int) < (q : Nat) := by omega
        go_wp2_with fail
        go_ret
        exact ⟨rfl, B1.out⟩
      by_cases hrec : 65536 < (P k).length
      · have hrec' : (65536 : Int) < (P k).length := by omega
        go_wp2_with fail
        go_ret
        exact ⟨rfl, B1.out⟩
      have hgt' : ¬ (262144 : Int) < (q : Nat) := by omega
      have hrec' : ¬ (65536 : Int) < (P k).length := by omega
      go_wp2_with fail
      go_round
      case rel => exact ⟨k + 1, by omega, by go_num, by rw [FL.out, HQ.out], by rw [FL.out]; have := HQ.out; omega, fun j hj => by
        by_cases hjk : j = k
        · subst hjk; omega
        · exact HLE.out j (by omega)⟩
      case measure => simp [intOf]; omega
    · obtain rfl : n = k := by omega
      have HT := Lib.hid hl
      clear hlt hk hl
      have PLE := Lib.hid HLE.out
      by_cases hper : per < 1
      · go_wp2_with fail
        go_ret
        exact ⟨rfl, B1.out⟩
      have hper0 : 1 ≤ per := by omega
      clear hper
      by_cases hbig : 1024 < n
      · by_cases hm : per < 1048576
        · go_wp2_with fail
          all_goals (go_ret; exact ⟨rfl, B1.out⟩)
        · go_wp2_with fail
          all_goals (go_ret; exact ⟨rfl, B1.out⟩)
      by_cases hm : per < 1048576
      · by_cases h15 : 15 * per < (n : Int)
        · go_wp2_with fail
          go_ret
          exact ⟨rfl, B1.out⟩
        · have COND := Lib.hid (show n ≤ 1024 ∧ ((n : Int) ≤ 15 * per ∨ 1048576 ≤ per) from ⟨by omega, Or.inl (by omega)⟩)
          go_wp2_with fail
          have HR1 := Lib.hid (show RowsIn w1 a n P from fun k hk => by
            obtain ⟨a', x, c, e, hcc, hr, hp⟩ := HR.out k hk
            exact ⟨a', x, c, e, M1.out.cell hcc (fun h => h), Reads.kept hr M1.out (fun _ _ h => h), hp⟩)
          refine (held_new w1 1048576).mono ?_
          rintro e w2 ⟨rfl, hH, hb, hsz⟩
          have H2 := Lib.hid hH
          have M2 := Lib.hid (Mod.ofBelow hb)
          have XB2 := Lib.hid ((Mod.ofBelow hb).heap XB1.out (fun h => h))
          clear hH hb hsz hx0 hx1
          have hx2 := cell_of_heap XB2.out 2
          have hx3 := cell_of_heap XB2.out 3
          go_wp2_with fail
          refine (held_arm H2.out cut keep hc1 hk0 hk1).mono ?_
          rintro e w3 ⟨rfl, hH, hm⟩
          have H3 := Lib.hid hH
          have G3 := Lib.hid (show Mod (fun j => w1.heap.size ≤ j) w1 w3 from (M2.out.mono (T := fun j => w1.heap.size ≤ j) (fun _ _ h => h.elim)).trans hm (fun j _ h => Nat.le_of_not_lt h))
          have XB3 := Lib.hid (hm.heap XB2.out (fun h => h SZ1.out))
          have L3 := Lib.hid (L1.out.grown G3.out)
          clear hH hm hx2 hx3
          have hx1 := cell_of_heap XB3.out 1
          go_wp2_with fail
          have OE := open_empty (A := (ADsk.new 1048576).arm cut keep) rfl rfl per hper0
          have OP := open_ok H3.out (by intro p hp; cases hp) per hper0 hp1 rfl L3.out (fun k hk => L1.out.lt hk) (by rw [OE])
          rw [OE] at OP
          refine OP.mono ?_
          rintro e w4 ⟨Q4, wp, rv, rfl, hg, hnq, hW, hrow, hm⟩
          have START := Lib.hid (show LossAt w w1 (w1.heap.size + 1) wp P per #[.slice a n ca, .int .i64 per, .int .i64 cut, .int .i64 keep, .int .i64 again, .int .i64 kept] 0 [] ⟨(ADsk.new 1048576).arm cut keep, per, 1, 1, 0⟩ Q4 w4 from
            ⟨⟨rfl, rfl, Or.inl ⟨rfl, rfl⟩, rfl, rfl, rfl⟩, rfl, (fun e he => by cases he), rfl, hW, hg, Nat.le_of_not_lt hnq, G3.out.trans hm (fun j _ h => Nat.le_of_not_lt h), hm.heap XB3.out (fun h => h SZ1.out)⟩)
          obtain ⟨vsr, hvsr, _⟩ := hrow.ex
          obtain ⟨arv, crv, rfl, _⟩ := ownsRow_slice hvsr
          clear OP OE hg hnq hW hrow hm hvsr hx1
          have hx0 := cell_of_heap START.out.xb 0
          go_wp2_with fail
          clear hx0
          go_loopw [11, 85] (fun sv i wr => ∃ (k : Nat) (D : List (List (List Int))) (W : AWal) (Q : Nat → Prop), k ≤ n ∧ i = .int .i64 k ∧ sv = .int .i64 k ∧ LossAt w w1 (w1.heap.size + 1) wp P per #[.slice a n ca, .int .i64 per, .int .i64 cut, .int .i64 keep, .int .i64 again, .int .i64 kept] k D W Q wr) (fun _ i _ => n - (intOf i).toNat)
          case atStart => exact ⟨0, [], _, Q4, Nat.zero_le _, rfl, rfl, START.out⟩
          case round =>
            obtain ⟨k, D, W, Q, hk, rfl, rfl, hS⟩ := hrel
            have S := Lib.hid hS
            clear hS
            have hmany : many D = k := by rw [many_zero, S.out.flat, rowsTo_length]
            have HMANY := Lib.hid hmany
            clear hmany
            by_cases hlt : k < n
            · obtain ⟨a', x, c, rfl, hcc, hr, hp⟩ := HR1.out k hlt
              have hc := (S.out.mod.cell hcc (fun h => by have := World.block_lt_of_cell? w1 _ hcc; omega))
              have RX := Lib.hid (reads_later hr S.out.mod (fun j hj h => by omega))
              have LX := Lib.hid (L1.out.grown S.out.mod)
              have PL := Lib.hid (show (P k).length ≤ 65536 from PLE.out k hlt)
              have HB0 := Lib.hid (HBY.out k hlt)
              have hnx : W.next = (k : Int) + 1 := by rw [S.out.jr.next, HMANY.out]; omega
              have hf : 0 ≤ W.first ∧ W.first ≤ 2000000000 := by
                have hm := HMANY.out
                have cd := COND.out.1
                rcases S.out.jr.shape with ⟨_, h⟩ | ⟨C, c, h1, _, _, _, h⟩
                · omega
                · have : many D = many C + c.length := by rw [h1, many_append]; simp [many]
                  omega
              have hend : ends D.flatten = tot P k := by rw [S.out.flat, ends_rows]
              have htk : tot P (k + 1) ≤ 262144 := Nat.le_trans (tot_mono P (show k + 1 ≤ n from hlt)) HT.out
              rw [tot_succ] at htk
              have J := jr_append S.out.jr hper0 S.out.small (by rw [HMANY.out]; have := COND.out.1; omega) (by rw [hend]; omega) (r := P k) PL.out HB0.out
              rw [hend, HMANY.out, S.out.room, hnx] at J
              have hfl := S.out.flat
              have AP := walAppend_any S.out.wal hf (by rw [hnx]; have := COND.out.1; omega) (.slice x (P k).length c) (P k) RX.out (by have := PL.out; omega) LX.out
              clear hcc hr hf hend
              go_wp2_with fail
              refine AP.mono ?_
              clear AP
              rcases J with ⟨_, g | g⟩ | ⟨gz, ⟨gy, W', g1, g2, g3, g4⟩ | ⟨W', D', g1, g2, g3, g4, g5, g6⟩⟩
              · exfalso
                rcases COND.out with ⟨c1, c2 | c2⟩
                · omega
                · omega
              · exfalso; omega
              · rw [g1]
                rintro e w5 ⟨rfl, hW5, hm5⟩
                have MX := Lib.hid (S.out.mod.trans hm5 (fun j _ h => by
                  rcases h with h | h
                  · exact Nat.le_of_not_lt (fun hj => h (S.out.grow j hj))
                  · have := S.out.fresh; omega))
                have HX := Lib.hid (hW5.disk.weaken (T := fun j => j < w1.heap.size) S.out.grow)
                obtain ⟨D', g7, g8, g9⟩ := g4.ex
                have FB := Lib.hid g7
                have SM := Lib.hid g9
                have OC := Lib.hid (show W'.dsk.off = true ∨ Calm W'.dsk.files from Or.inl g2)
                obtain ⟨t, ht⟩ : ∃ t, D'.flatten = rowsTo P t ∧ (k ≤ t ∧ t ≤ k + 1 ∧ t ≤ n) := by
                  rcases g8 with g8 | g8
                  · exact ⟨k, by rw [g8, hfl], by omega⟩
                  · exact ⟨k + 1, by rw [g8, hfl, rowsTo_succ], by omega⟩
                have DF := Lib.hid ht.1
                have TB := Lib.hid ht.2
                have DM := Lib.hid (show many D' ≤ 2048 from by rw [many_zero, DF.out, rowsTo_length]; have := TB.out; have := COND.out.1; omega)
                have OFFX := Lib.hid g2
                clear gz gy g1 g2 g3 g4 g7 g8 g9 ht hW5 hm5 hnx htk hfl
                go_wp2_with fail
                refine (held_down HX.out).mono ?_
                rw [OFFX.out]
                rintro e w6 ⟨rfl, rfl⟩
                have XX := Lib.hid (MX.out.heap XB1.out (fun h => Nat.not_le_of_lt SZ1.out h))
                have hx3 := cell_of_heap XX.out 3
                go_wp2_with fail
                refine (held_off HX.out keep hk0 hk1).mono ?_
                rintro e wa ⟨rfl, hH, hm⟩
                have HA := Lib.hid hH
                have MA := Lib.hid (MX.out.trans hm (fun j _ h => Nat.le_of_not_lt h))
                clear hH hm
                obtain ⟨A1, hA1⟩ : ∃ A1, A1 = W'.dsk.goesOff keep := ⟨_, rfl⟩
                rw [← hA1] at HA
                have F1 := Lib.hid (show Broken D' A1.files from by rw [hA1, (goesOff_calm OC.out keep).2.1]; exact FB.out)
                clear hA1
                go_wp2_with fail
                refine (held_on HA.out).mono ?_
                rintro e wa2 ⟨rfl, hH, hm⟩
                have HA2 := Lib.hid hH
                have MA2 := Lib.hid (MA.out.trans hm (fun j _ h => Nat.le_of_not_lt h))
                clear hH hm hx3
                have XA := Lib.hid (MA2.out.heap XB1.out (fun h => Nat.not_le_of_lt SZ1.out h))
                have hx4 := cell_of_heap XA.out 4
                have hx5 := cell_of_heap XA.out 5
                go_wp2_with fail
                refine (held_arm HA2.out again kept ha1 he0 he1).mono ?_
                rintro e wa3 ⟨rfl, hH, hm⟩
                have HA3 := Lib.hid hH
                have MA3 := Lib.hid (MA2.out.trans hm (fun j _ h => Nat.le_of_not_lt h))
                clear hH hm hx4 hx5
                obtain ⟨A3, hA3⟩ : ∃ A3, A3 = ({ A1 with off := false } : ADsk).arm again kept := ⟨_, rfl⟩
                rw [← hA3] at HA3
                have F3 := Lib.hid (show Broken D' A3.files ∧ A3.off = false from by rw [hA3]; exact ⟨F1.out, rfl⟩)
                clear hA3
                have LA3 := Lib.hid (L1.out.grown MA3.out)
                have XA3 := Lib.hid (MA3.out.heap XB1.out (fun h => Nat.not_le_of_lt SZ1.out h))
                have hx1 := cell_of_heap XA3.out 1
                go_wp2_with fail
                have OP := open_any HA3.out (broken_bytes F3.out.1 SM.out) per hper0 hp1 F3.out.2 LA3.out (fun k hk => L1.out.lt hk)
                rcases open_law F3.out.2 HA3.out.ok.rising F3.out.1 (by have := DM.out; omega) (fun e he r hr => (SM.out e he r hr).1) per hper0 with ⟨gx, A4, g1, g2, g3, g4⟩ | ⟨A4, g1, g2, g3, g4, gx⟩
                · rw [g1] at OP
                  refine OP.mono ?_
                  rintro e wb ⟨Qb, left, ⟨h0, _⟩ | ⟨_, rfl⟩⟩
                  · exact absurd h0 (show ¬ ((20 : Int) = 0) by decide)
                  have HB := Lib.hid (left.disk.weaken (T := fun j => j < w1.heap.size) left.grow)
                  have MB := Lib.hid (MA3.out.trans left.mod (fun j _ h => Nat.le_of_not_lt h))
                  have FB4 := Lib.hid g3
                  have OFF4 := Lib.hid g2
                  clear OP left gx g1 g2 g3 g4 hx1
                  go_wp2_with fail
                  refine (held_down HB.out).mono ?_
                  rw [show ({ dsk := A4, er := 20, first := 0, wf := 0, wn := 0, out := [] } : OpenR).dsk.off = true from OFF4.out]
                  rintro e wb' ⟨rfl, rfl⟩
                  go_wp2_with fail
                  refine (held_on HB.out).mono ?_
                  rintro e wc ⟨rfl, hH, hm⟩
                  have HC := Lib.hid hH
                  have MC := Lib.hid (MB.out.trans hm (fun j _ h => Nat.le_of_not_lt h))
                  clear hH hm
                  go_wp2_with fail
                  refine (held_arm HC.out 0 0 (by decide) (by decide) (by decide)).mono ?_
                  rintro e we ⟨rfl, hH, hm⟩
                  have HE0 := Lib.hid hH
                  have ME := Lib.hid (MC.out.trans hm (fun j _ h => Nat.le_of_not_lt h))
                  clear hH hm
                  obtain ⟨A6, hA6⟩ : ∃ A6, A6 = ({ A4 with off := false } : ADsk).arm 0 0 := ⟨_, rfl⟩
                  rw [← hA6] at HE0
                  have F6 := Lib.hid (show Broken D' A6.files ∧ A6.off = false ∧ A6.ar = 0 from by rw [hA6]; exact ⟨FB4.out, rfl, rfl⟩)
                  clear hA6
                  have LE := Lib.hid (L1.out.grown ME.out)
                  have XE := Lib.hid (ME.out.heap XB1.out (fun h => Nat.not_le_of_lt SZ1.out h))
                  have hx1 := cell_of_heap XE.out 1
                  go_wp2_with fail
                  obtain ⟨A7, e7⟩ : ∃ A7, openA A6 per = ⟨A7, 0, 1, lastStart 1 D' 1, 1 + many D', D'.flatten⟩ := by
                    rcases open_law F6.out.2.1 HE0.out.ok.rising F6.out.1 (by have := DM.out; omega) (fun e he r hr => (SM.out e he r hr).1) per hper0 with ⟨g, _⟩ | ⟨A7, g, _⟩
                    · exact absurd F6.out.2.2 g
                    · exact ⟨A7, g⟩
                  have OP := open_ok HE0.out (broken_bytes F6.out.1 SM.out) per hper0 hp1 F6.out.2.1 LE.out (fun k hk => L1.out.lt hk) (by rw [e7])
                  rw [e7] at OP
                  refine OP.mono ?_
                  rintro e wf ⟨Q7, wp7, rv7, rfl, hg, hnq, hW, hrow, hm⟩
                  have MF := Lib.hid (ME.out.trans hm (fun j _ h => Nat.le_of_not_lt h))
                  have hrow' : RowsAt wf Q7 rv7 (rowsTo P t) := by rw [← DF.out]; exact hrow
                  have RD7 := Lib.hid hrow'.rd
                  obtain ⟨ar7, cr7, hv7, _⟩ := hrow'.rd.ex
                  rw [rowsTo_length] at hv7
                  subst hv7
                  have XF := Lib.hid (MF.out.heap XB1.out (fun h => Nat.not_le_of_lt SZ1.out h))
                  clear OP hg hnq hW hrow hrow' hm e7 hx1
                  have hx0 := cell_of_heap XF.out 0
                  have hsl : ∀ W, (Instr.slice 37 (.slice (some a') n ca) none (some (.int .i64 (t : Int))) none).run Tryd.prog W = .ok (.slice (some a') t ca) W := fun W => slice_rows W (some a') n ca t (by have := TB.out; omega) hcn
                  obtain ⟨ks, hks⟩ : ∃ ks : Nat, ks = k + 1 := ⟨_, rfl⟩
                  have hks2 : (k : Int) + 1 = (ks : Nat) := by omega
                  have k1 : ¬ ((t : Int) < (k : Int)) := by have tb := TB.out; omega
                  have k2 : ¬ ((ks : Int) < (t : Int)) := by have tb := TB.out; omega
                  have k3 : ¬ ((n : Int) < (t : Int)) := by have tb := TB.out; omega
                  clear hks
                  go_wp2_with fail
                  clear k1 k2 k3 hsl hks2
                  have tb := TB.out
                  refine (alike_yes wf _ _ (rowsTo P t) RD7.out ⟨(some a'), ca, by rw [rowsTo_length], fun i x hi => by
                      obtain ⟨hi1, rfl⟩ := rowsTo_get hi
                      obtain ⟨a2, x, c, ea, hcc, hr, hp⟩ := HR1.out i (by omega)
                      exact ⟨a2, _, ea, MF.out.cell hcc (fun h => by have := World.block_lt_of_cell? w1 _ hcc; omega), reads_later hr MF.out (fun j hj h => by omega)⟩⟩ (by rw [rowsTo_length]; omega) (fun x hx => by
                      obtain ⟨i, hi, rfl⟩ := List.mem_iff_getElem.1 hx
                      obtain ⟨hi1, hx2⟩ := rowsTo_get (List.getElem?_eq_getElem hi)
                      rw [hx2]
                      obtain ⟨a2, x, c, _, hcc, hr, hp⟩ := HR1.out i (by omega)
                      omega)).mono ?_
                  rintro e wg ⟨rfl, hb⟩
                  have BG := Lib.hid ((((M1.out.mono (T := fun k => w.heap.size ≤ k) (fun _ _ h => h.elim)).trans (MF.out.trans (Mod.ofBelow hb) (fun _ _ h => h.elim)) (fun k _ h => Nat.le_trans (Nat.le_of_lt SZ1.out) h)).mono (T := fun _ => False) (fun k hk h => by omega)).toBelow)
                  clear hb tb
                  go_wp2_with fail
                  go_ret
                  exact ⟨rfl, BG.out⟩
                · rw [g1] at OP
                  refine OP.mono ?_
                  rintro e wb ⟨Qb, left, ⟨_, wpb, rvb, rfl, _⟩ | ⟨h0, _⟩⟩
                  case inr => exact absurd rfl h0
                  have HB := Lib.hid (left.disk.weaken (T := fun j => j < w1.heap.size) left.grow)
                  have MB := Lib.hid (MA3.out.trans left.mod (fun j _ h => Nat.le_of_not_lt h))
                  have FB4 := Lib.hid (show Broken D' A4.files from Or.inl g3)
                  clear OP left gx g1 g2 g3 g4 hx1
                  go_wp2_with fail
                  refine (held_on HB.out).mono ?_
                  rintro e wc ⟨rfl, hH, hm⟩
                  have HC := Lib.hid hH
                  have MC := Lib.hid (MB.out.trans hm (fun j _ h => Nat.le_of_not_lt h))
                  clear hH hm
                  go_wp2_with fail
                  refine (held_arm HC.out 0 0 (by decide) (by decide) (by decide)).mono ?_
                  rintro e we ⟨rfl, hH, hm⟩
                  have HE0 := Lib.hid hH
                  have ME := Lib.hid (MC.out.trans hm (fun j _ h => Nat.le_of_not_lt h))
                  clear hH hm
                  obtain ⟨A6, hA6⟩ : ∃ A6, A6 = ({ A4 with off := false } : ADsk).arm 0 0 := ⟨_, rfl⟩
                  rw [← hA6] at HE0
                  have F6 := Lib.hid (show Broken D' A6.files ∧ A6.off = false ∧ A6.ar = 0 from by rw [hA6]; exact ⟨FB4.out, rfl, rfl⟩)
                  clear hA6
                  have LE := Lib.hid (L1.out.grown ME.out)
                  have XE := Lib.hid (ME.out.heap XB1.out (fun h => Nat.not_le_of_lt SZ1.out h))
                  have hx1 := cell_of_heap XE.out 1
                  go_wp2_with fail
                  obtain ⟨A7, e7⟩ : ∃ A7, openA A6 per = ⟨A7, 0, 1, lastStart 1 D' 1, 1 + many D', D'.flatten⟩ := by
                    rcases open_law F6.out.2.1 HE0.out.ok.rising F6.out.1 (by have := DM.out; omega) (fun e he r hr => (SM.out e he r hr).1) per hper0 with ⟨g, _⟩ | ⟨A7, g, _⟩
                    · exact absurd F6.out.2.2 g
                    · exact ⟨A7, g⟩
                  have OP := open_ok HE0.out (broken_bytes F6.out.1 SM.out) per hper0 hp1 F6.out.2.1 LE.out (fun k hk => L1.out.lt hk) (by rw [e7])
                  rw [e7] at OP
                  refine OP.mono ?_
                  rintro e wf ⟨Q7, wp7, rv7, rfl, hg, hnq, hW, hrow, hm⟩
                  have MF := Lib.hid (ME.out.trans hm (fun j _ h => Nat.le_of_not_lt h))
                  have hrow' : RowsAt wf Q7 rv7 (rowsTo P t) := by rw [← DF.out]; exact hrow
                  have RD7 := Lib.hid hrow'.rd
                  obtain ⟨ar7, cr7, hv7, _⟩ := hrow'.rd.ex
                  rw [rowsTo_length] at hv7
                  subst hv7
                  have XF := Lib.hid (MF.out.heap XB1.out (fun h => Nat.not_le_of_lt SZ1.out h))
                  clear OP hg hnq hW hrow hrow' hm e7 hx1
                  have hx0 := cell_of_heap XF.out 0
                  have hsl : ∀ W, (Instr.slice 37 (.slice (some a') n ca) none (some (.int .i64 (t : Int))) none).run Tryd.prog W = .ok (.slice (some a') t ca) W := fun W => slice_rows W (some a') n ca t (by have := TB.out; omega) hcn
                  obtain ⟨ks, hks⟩ : ∃ ks : Nat, ks = k + 1 := ⟨_, rfl⟩
                  have hks2 : (k : Int) + 1 = (ks : Nat) := by omega
                  have k1 : ¬ ((t : Int) < (k : Int)) := by have tb := TB.out; omega
                  have k2 : ¬ ((ks : Int) < (t : Int)) := by have tb := TB.out; omega
                  have k3 : ¬ ((n : Int) < (t : Int)) := by have tb := TB.out; omega
                  clear hks
                  go_wp2_with fail
                  clear k1 k2 k3 hsl hks2
                  have tb := TB.out
                  refine (alike_yes wf _ _ (rowsTo P t) RD7.out ⟨(some a'), ca, by rw [rowsTo_length], fun i x hi => by
                      obtain ⟨hi1, rfl⟩ := rowsTo_get hi
                      obtain ⟨a2, x, c, ea, hcc, hr, hp⟩ := HR1.out i (by omega)
                      exact ⟨a2, _, ea, MF.out.cell hcc (fun h => by have := World.block_lt_of_cell? w1 _ hcc; omega), reads_later hr MF.out (fun j hj h => by omega)⟩⟩ (by rw [rowsTo_length]; omega) (fun x hx => by
                      obtain ⟨i, hi, rfl⟩ := List.mem_iff_getElem.1 hx
                      obtain ⟨hi1, hx2⟩ := rowsTo_get (List.getElem?_eq_getElem hi)
                      rw [hx2]
                      obtain ⟨a2, x, c, _, hcc, hr, hp⟩ := HR1.out i (by omega)
                      omega)).mono ?_
                  rintro e wg ⟨rfl, hb⟩
                  have BG := Lib.hid ((((M1.out.mono (T := fun k => w.heap.size ≤ k) (fun _ _ h => h.elim)).trans (MF.out.trans (Mod.ofBelow hb) (fun _ _ h => h.elim)) (fun k _ h => Nat.le_trans (Nat.le_of_lt SZ1.out) h)).mono (T := fun _ => False) (fun k hk h => by omega)).toBelow)
                  clear hb tb
                  go_wp2_with fail
                  go_ret
                  exact ⟨rfl, BG.out⟩
              · rw [g1]
                rintro e w5 ⟨rfl, hW5, hm5⟩
                have S5 := Lib.hid (show LossAt w w1 (w1.heap.size + 1) wp P per #[.slice (some a') n ca, .int .i64 per, .int .i64 cut, .int .i64 keep, .int .i64 again, .int .i64 kept] (k + 1) D' W' Q w5 from
                  ⟨g2, by rw [g3, hfl, rowsTo_succ], g4, g5, hW5, S.out.grow, S.out.fresh, S.out.mod.trans hm5 (fun j _ h => by
                    rcases h with h | h
                    · exact Nat.le_of_not_lt (fun hj => h (S.out.grow j hj))
                    · have := S.out.fresh; omega), hm5.heap S.out.xb (fun h => by
                    have h1 := SZ1.out
                    rcases h with h | h
                    · exact h (S.out.grow _ h1)
                    · have := S.out.fresh; omega)⟩)
                clear gz g1 g2 g3 g4 g5 g6 hW5 hm5 hnx htk hfl
                go_wp2_with fail
                go_roundw
                case rel => exact ⟨k + 1, D', W', Q, by omega, by go_num, by go_num, S5.out⟩
                case measure => simp [intOf]; omega
            · obtain rfl : n = k := by omega
              have MX := Lib.hid S.out.mod
              have HX := Lib.hid (S.out.wal.disk.weaken (T := fun j => j < w1.heap.size) S.out.grow)
              obtain ⟨D', hD'⟩ : ∃ D', D' = D := ⟨_, rfl⟩
              have FB := Lib.hid (show Broken D' W.dsk.files from by rw [hD']; exact Or.inl S.out.jr.files)
              have SM := Lib.hid (show Small D' from by rw [hD']; exact S.out.small)
              have OC := Lib.hid (show W.dsk.off = true ∨ Calm W.dsk.files from Or.inr (by rw [S.out.jr.files]; exact segs_calm D 1))
              obtain ⟨t, ht⟩ : ∃ t, D'.flatten = rowsTo P t ∧ (n ≤ t ∧ t ≤ n + 1 ∧ t ≤ n) := ⟨n, by rw [hD', S.out.flat], by omega⟩
              have DF := Lib.hid ht.1
              have TB := Lib.hid ht.2
              have DM := Lib.hid (show many D' ≤ 2048 from by rw [many_zero, DF.out, rowsTo_length]; have := TB.out; have := COND.out.1; omega)
              clear ht hD' hk hlt
              have XX := Lib.hid (MX.out.heap XB1.out (fun h => Nat.not_le_of_lt SZ1.out h))
              have hx3 := cell_of_heap XX.out 3
              go_wp2_with fail
              refine (held_off HX.out keep hk0 hk1).mono ?_
              rintro e wa ⟨rfl, hH, hm⟩
              have HA := Lib.hid hH
              have MA := Lib.hid (MX.out.trans hm (fun j _ h => Nat.le_of_not_lt h))
              clear hH hm
              obtain ⟨A1, hA1⟩ : ∃ A1, A1 = W.dsk.goesOff keep := ⟨_, rfl⟩
              rw [← hA1] at HA
              have F1 := Lib.hid (show Broken D' A1.files from by rw [hA1, (goesOff_calm OC.out keep).2.1]; exact FB.out)
              clear hA1
              go_wp2_with fail
              refine (held_on HA.out).mono ?_
              rintro e wa2 ⟨rfl, hH, hm⟩
              have HA2 := Lib.hid hH
              have MA2 := Lib.hid (MA.out.trans hm (fun j _ h => Nat.le_of_not_lt h))
              clear hH hm hx3
              have XA := Lib.hid (MA2.out.heap XB1.out (fun h => Nat.not_le_of_lt SZ1.out h))
              have hx4 := cell_of_heap XA.out 4
              have hx5 := cell_of_heap XA.out 5
              go_wp2_with fail
              refine (held_arm HA2.out again kept ha1 he0 he1).mono ?_
              rintro e wa3 ⟨rfl, hH, hm⟩
              have HA3 := Lib.hid hH
              have MA3 := Lib.hid (MA2.out.trans hm (fun j _ h => Nat.le_of_not_lt h))
              clear hH hm hx4 hx5
              obtain ⟨A3, hA3⟩ : ∃ A3, A3 = ({ A1 with off := false } : ADsk).arm again kept := ⟨_, rfl⟩
              rw [← hA3] at HA3
              have F3 := Lib.hid (show Broken D' A3.files ∧ A3.off = false from by rw [hA3]; exact ⟨F1.out, rfl⟩)
              clear hA3
              have LA3 := Lib.hid (L1.out.grown MA3.out)
              have XA3 := Lib.hid (MA3.out.heap XB1.out (fun h => Nat.not_le_of_lt SZ1.out h))
              have hx1 := cell_of_heap XA3.out 1
              go_wp2_with fail
              have OP := open_any HA3.out (broken_bytes F3.out.1 SM.out) per hper0 hp1 F3.out.2 LA3.out (fun k hk => L1.out.lt hk)
              rcases open_law F3.out.2 HA3.out.ok.rising F3.out.1 (by have := DM.out; omega) (fun e he r hr => (SM.out e he r hr).1) per hper0 with ⟨gx, A4, g1, g2, g3, g4⟩ | ⟨A4, g1, g2, g3, g4, gx⟩
              · rw [g1] at OP
                refine OP.mono ?_
                rintro e wb ⟨Qb, left, ⟨h0, _⟩ | ⟨_, rfl⟩⟩
                · exact absurd h0 (show ¬ ((20 : Int) = 0) by decide)
                have HB := Lib.hid (left.disk.weaken (T := fun j => j < w1.heap.size) left.grow)
                have MB := Lib.hid (MA3.out.trans left.mod (fun j _ h => Nat.le_of_not_lt h))
                have FB4 := Lib.hid g3
                have OFF4 := Lib.hid g2
                clear OP left gx g1 g2 g3 g4 hx1
                go_wp2_with fail
                refine (held_down HB.out).mono ?_
                rw [show ({ dsk := A4, er := 20, first := 0, wf := 0, wn := 0, out := [] } : OpenR).dsk.off = true from OFF4.out]
                rintro e wb' ⟨rfl, rfl⟩
                go_wp2_with fail
                refine (held_on HB.out).mono ?_
                rintro e wc ⟨rfl, hH, hm⟩
                have HC := Lib.hid hH
                have MC := Lib.hid (MB.out.trans hm (fun j _ h => Nat.le_of_not_lt h))
                clear hH hm
                go_wp2_with fail
                refine (held_arm HC.out 0 0 (by decide) (by decide) (by decide)).mono ?_
                rintro e we ⟨rfl, hH, hm⟩
                have HE0 := Lib.hid hH
                have ME := Lib.hid (MC.out.trans hm (fun j _ h => Nat.le_of_not_lt h))
                clear hH hm
                obtain ⟨A6, hA6⟩ : ∃ A6, A6 = ({ A4 with off := false } : ADsk).arm 0 0 := ⟨_, rfl⟩
                rw [← hA6] at HE0
                have F6 := Lib.hid (show Broken D' A6.files ∧ A6.off = false ∧ A6.ar = 0 from by rw [hA6]; exact ⟨FB4.out, rfl, rfl⟩)
                clear hA6
                have LE := Lib.hid (L1.out.grown ME.out)
                have XE := Lib.hid (ME.out.heap XB1.out (fun h => Nat.not_le_of_lt SZ1.out h))
                have hx1 := cell_of_heap XE.out 1
                go_wp2_with fail
                obtain ⟨A7, e7⟩ : ∃ A7, openA A6 per = ⟨A7, 0, 1, lastStart 1 D' 1, 1 + many D', D'.flatten⟩ := by
                  rcases open_law F6.out.2.1 HE0.out.ok.rising F6.out.1 (by have := DM.out; omega) (fun e he r hr => (SM.out e he r hr).1) per hper0 with ⟨g, _⟩ | ⟨A7, g, _⟩
                  · exact absurd F6.out.2.2 g
                  · exact ⟨A7, g⟩
                have OP := open_ok HE0.out (broken_bytes F6.out.1 SM.out) per hper0 hp1 F6.out.2.1 LE.out (fun k hk => L1.out.lt hk) (by rw [e7])
                rw [e7] at OP
                refine OP.mono ?_
                rintro e wf ⟨Q7, wp7, rv7, rfl, hg, hnq, hW, hrow, hm⟩
                have MF := Lib.hid (ME.out.trans hm (fun j _ h => Nat.le_of_not_lt h))
                have hrow' : RowsAt wf Q7 rv7 (rowsTo P t) := by rw [← DF.out]; exact hrow
                have RD7 := Lib.hid hrow'.rd
                obtain ⟨ar7, cr7, hv7, _⟩ := hrow'.rd.ex
                rw [rowsTo_length] at hv7
                subst hv7
                have XF := Lib.hid (MF.out.heap XB1.out (fun h => Nat.not_le_of_lt SZ1.out h))
                clear OP hg hnq hW hrow hrow' hm e7 hx1
                have hx0 := cell_of_heap XF.out 0
                have hsl : ∀ W, (Instr.slice 37 (.slice a n ca) none (some (.int .i64 (t : Int))) none).run Tryd.prog W = .ok (.slice a t ca) W := fun W => slice_rows W a n ca t (by have := TB.out; omega) hcn
                obtain ⟨ks, hks⟩ : ∃ ks : Nat, ks = n + 1 := ⟨_, rfl⟩
                have hks2 : (n : Int) + 1 = (ks : Nat) := by omega
                have k1 : ¬ ((t : Int) < (n : Int)) := by have tb := TB.out; omega
                have k2 : ¬ ((ks : Int) < (t : Int)) := by have tb := TB.out; omega
                have k3 : ¬ ((n : Int) < (t : Int)) := by have tb := TB.out; omega
                clear hks
                go_wp2_with fail
                clear k1 k2 k3 hsl hks2
                have tb := TB.out
                refine (alike_yes wf _ _ (rowsTo P t) RD7.out ⟨a, ca, by rw [rowsTo_length], fun i x hi => by
                    obtain ⟨hi1, rfl⟩ := rowsTo_get hi
                    obtain ⟨a2, x, c, ea, hcc, hr, hp⟩ := HR1.out i (by omega)
                    exact ⟨a2, _, ea, MF.out.cell hcc (fun h => by have := World.block_lt_of_cell? w1 _ hcc; omega), reads_later hr MF.out (fun j hj h => by omega)⟩⟩ (by rw [rowsTo_length]; omega) (fun x hx => by
                    obtain ⟨i, hi, rfl⟩ := List.mem_iff_getElem.1 hx
                    obtain ⟨hi1, hx2⟩ := rowsTo_get (List.getElem?_eq_getElem hi)
                    rw [hx2]
                    obtain ⟨a2, x, c, _, hcc, hr, hp⟩ := HR1.out i (by omega)
                    omega)).mono ?_
                rintro e wg ⟨rfl, hb⟩
                have BG := Lib.hid ((((M1.out.mono (T := fun k => w.heap.size ≤ k) (fun _ _ h => h.elim)).trans (MF.out.trans (Mod.ofBelow hb) (fun _ _ h => h.elim)) (fun k _ h => Nat.le_trans (Nat.le_of_lt SZ1.out) h)).mono (T := fun _ => False) (fun k hk h => by omega)).toBelow)
                clear hb tb
                go_wp2_with fail
                go_ret
                exact ⟨rfl, BG.out⟩
              · rw [g1] at OP
                refine OP.mono ?_
                rintro e wb ⟨Qb, left, ⟨_, wpb, rvb, rfl, _⟩ | ⟨h0, _⟩⟩
                case inr => exact absurd rfl h0
                have HB := Lib.hid (left.disk.weaken (T := fun j => j < w1.heap.size) left.grow)
                have MB := Lib.hid (MA3.out.trans left.mod (fun j _ h => Nat.le_of_not_lt h))
                have FB4 := Lib.hid (show Broken D' A4.files from Or.inl g3)
                clear OP left gx g1 g2 g3 g4 hx1
                go_wp2_with fail
                refine (held_on HB.out).mono ?_
                rintro e wc ⟨rfl, hH, hm⟩
                have HC := Lib.hid hH
                have MC := Lib.hid (MB.out.trans hm (fun j _ h => Nat.le_of_not_lt h))
                clear hH hm
                go_wp2_with fail
                refine (held_arm HC.out 0 0 (by decide) (by decide) (by decide)).mono ?_
                rintro e we ⟨rfl, hH, hm⟩
                have HE0 := Lib.hid hH
                have ME := Lib.hid (MC.out.trans hm (fun j _ h => Nat.le_of_not_lt h))
                clear hH hm
                obtain ⟨A6, hA6⟩ : ∃ A6, A6 = ({ A4 with off := false } : ADsk).arm 0 0 := ⟨_, rfl⟩
                rw [← hA6] at HE0
                have F6 := Lib.hid (show Broken D' A6.files ∧ A6.off = false ∧ A6.ar = 0 from by rw [hA6]; exact ⟨FB4.out, rfl, rfl⟩)
                clear hA6
                have LE := Lib.hid (L1.out.grown ME.out)
                have XE := Lib.hid (ME.out.heap XB1.out (fun h => Nat.not_le_of_lt SZ1.out h))
                have hx1 := cell_of_heap XE.out 1
                go_wp2_with fail
                obtain ⟨A7, e7⟩ : ∃ A7, openA A6 per = ⟨A7, 0, 1, lastStart 1 D' 1, 1 + many D', D'.flatten⟩ := by
                  rcases open_law F6.out.2.1 HE0.out.ok.rising F6.out.1 (by have := DM.out; omega) (fun e he r hr => (SM.out e he r hr).1) per hper0 with ⟨g, _⟩ | ⟨A7, g, _⟩
                  · exact absurd F6.out.2.2 g
                  · exact ⟨A7, g⟩
                have OP := open_ok HE0.out (broken_bytes F6.out.1 SM.out) per hper0 hp1 F6.out.2.1 LE.out (fun k hk => L1.out.lt hk) (by rw [e7])
                rw [e7] at OP
                refine OP.mono ?_
                rintro e wf ⟨Q7, wp7, rv7, rfl, hg, hnq, hW, hrow, hm⟩
                have MF := Lib.hid (ME.out.trans hm (fun j _ h => Nat.le_of_not_lt h))
                have hrow' : RowsAt wf Q7 rv7 (rowsTo P t) := by rw [← DF.out]; exact hrow
                have RD7 := Lib.hid hrow'.rd
                obtain ⟨ar7, cr7, hv7, _⟩ := hrow'.rd.ex
                rw [rowsTo_length] at hv7
                subst hv7
                have XF := Lib.hid (MF.out.heap XB1.out (fun h => Nat.not_le_of_lt SZ1.out h))
                clear OP hg hnq hW hrow hrow' hm e7 hx1
                have hx0 := cell_of_heap XF.out 0
                have hsl : ∀ W, (Instr.slice 37 (.slice a n ca) none (some (.int .i64 (t : Int))) none).run Tryd.prog W = .ok (.slice a t ca) W := fun W => slice_rows W a n ca t (by have := TB.out; omega) hcn
                obtain ⟨ks, hks⟩ : ∃ ks : Nat, ks = n + 1 := ⟨_, rfl⟩
                have hks2 : (n : Int) + 1 = (ks : Nat) := by omega
                have k1 : ¬ ((t : Int) < (n : Int)) := by have tb := TB.out; omega
                have k2 : ¬ ((ks : Int) < (t : Int)) := by have tb := TB.out; omega
                have k3 : ¬ ((n : Int) < (t : Int)) := by have tb := TB.out; omega
                clear hks
                go_wp2_with fail
                clear k1 k2 k3 hsl hks2
                have tb := TB.out
                refine (alike_yes wf _ _ (rowsTo P t) RD7.out ⟨a, ca, by rw [rowsTo_length], fun i x hi => by
                    obtain ⟨hi1, rfl⟩ := rowsTo_get hi
                    obtain ⟨a2, x, c, ea, hcc, hr, hp⟩ := HR1.out i (by omega)
                    exact ⟨a2, _, ea, MF.out.cell hcc (fun h => by have := World.block_lt_of_cell? w1 _ hcc; omega), reads_later hr MF.out (fun j hj h => by omega)⟩⟩ (by rw [rowsTo_length]; omega) (fun x hx => by
                    obtain ⟨i, hi, rfl⟩ := List.mem_iff_getElem.1 hx
                    obtain ⟨hi1, hx2⟩ := rowsTo_get (List.getElem?_eq_getElem hi)
                    rw [hx2]
                    obtain ⟨a2, x, c, _, hcc, hr, hp⟩ := HR1.out i (by omega)
                    omega)).mono ?_
                rintro e wg ⟨rfl, hb⟩
                have BG := Lib.hid ((((M1.out.mono (T := fun k => w.heap.size ≤ k) (fun _ _ h => h.elim)).trans (MF.out.trans (Mod.ofBelow hb) (fun _ _ h => h.elim)) (fun k _ h => Nat.le_trans (Nat.le_of_lt SZ1.out) h)).mono (T := fun _ => False) (fun k hk h => by omega)).toBelow)
                clear hb tb
                go_wp2_with fail
                go_ret
                exact ⟨rfl, BG.out⟩
      · have COND := Lib.hid (show n ≤ 1024 ∧ ((n : Int) ≤ 15 * per ∨ 1048576 ≤ per) from ⟨by omega, Or.inr (by omega)⟩)
        go_wp2_with fail
        · have HR1 := Lib.hid (show RowsIn w1 a n P from fun k hk => by
            obtain ⟨a', x, c, e, hcc, hr, hp⟩ := HR.out k hk
            exact ⟨a', x, c, e, M1.out.cell hcc (fun h => h), Reads.kept hr M1.out (fun _ _ h => h), hp⟩)
          refine (held_new w1 1048576).mono ?_
          rintro e w2 ⟨rfl, hH, hb, hsz⟩
          have H2 := Lib.hid hH
          have M2 := Lib.hid (Mod.ofBelow hb)
          have XB2 := Lib.hid ((Mod.ofBelow hb).heap XB1.out (fun h => h))
          clear hH hb hsz hx0 hx1
          have hx2 := cell_of_heap XB2.out 2
          have hx3 := cell_of_heap XB2.out 3
          go_wp2_with fail
          refine (held_arm H2.out cut keep hc1 hk0 hk1).mono ?_
          rintro e w3 ⟨rfl, hH, hm⟩
          have H3 := Lib.hid hH
          have G3 := Lib.hid (show Mod (fun j => w1.heap.size ≤ j) w1 w3 from (M2.out.mono (T := fun j => w1.heap.size ≤ j) (fun _ _ h => h.elim)).trans hm (fun j _ h => Nat.le_of_not_lt h))
          have XB3 := Lib.hid (hm.heap XB2.out (fun h => h SZ1.out))
          have L3 := Lib.hid (L1.out.grown G3.out)
          clear hH hm hx2 hx3
          have hx1 := cell_of_heap XB3.out 1
          go_wp2_with fail
          have OE := open_empty (A := (ADsk.new 1048576).arm cut keep) rfl rfl per hper0
          have OP := open_ok H3.out (by intro p hp; cases hp) per hper0 hp1 rfl L3.out (fun k hk => L1.out.lt hk) (by rw [OE])
          rw [OE] at OP
          refine OP.mono ?_
          rintro e w4 ⟨Q4, wp, rv, rfl, hg, hnq, hW, hrow, hm⟩
          have START := Lib.hid (show LossAt w w1 (w1.heap.size + 1) wp P per #[.slice a n ca, .int .i64 per, .int .i64 cut, .int .i64 keep, .int .i64 again, .int .i64 kept] 0 [] ⟨(ADsk.new 1048576).arm cut keep, per, 1, 1, 0⟩ Q4 w4 from
            ⟨⟨rfl, rfl, Or.inl ⟨rfl, rfl⟩, rfl, rfl, rfl⟩, rfl, (fun e he => by cases he), rfl, hW, hg, Nat.le_of_not_lt hnq, G3.out.trans hm (fun j _ h => Nat.le_of_not_lt h), hm.heap XB3.out (fun h => h SZ1.out)⟩)
          obtain ⟨vsr, hvsr, _⟩ := hrow.ex
          obtain ⟨arv, crv, rfl, _⟩ := ownsRow_slice hvsr
          clear OP OE hg hnq hW hrow hm hvsr hx1
          have hx0 := cell_of_heap START.out.xb 0
          go_wp2_with fail
          clear hx0
          go_loopw [11, 85] (fun sv i wr => ∃ (k : Nat) (D : List (List (List Int))) (W : AWal) (Q : Nat → Prop), k ≤ n ∧ i = .int .i64 k ∧ sv = .int .i64 k ∧ LossAt w w1 (w1.heap.size + 1) wp P per #[.slice a n ca, .int .i64 per, .int .i64 cut, .int .i64 keep, .int .i64 again, .int .i64 kept] k D W Q wr) (fun _ i _ => n - (intOf i).toNat)
          case atStart => exact ⟨0, [], _, Q4, Nat.zero_le _, rfl, rfl, START.out⟩
          case round =>
            obtain ⟨k, D, W, Q, hk, rfl, rfl, hS⟩ := hrel
            have S := Lib.hid hS
            clear hS
            have hmany : many D = k := by rw [many_zero, S.out.flat, rowsTo_length]
            have HMANY := Lib.hid hmany
            clear hmany
            by_cases hlt : k < n
            · obtain ⟨a', x, c, rfl, hcc, hr, hp⟩ := HR1.out k hlt
              have hc := (S.out.mod.cell hcc (fun h => by have := World.block_lt_of_cell? w1 _ hcc; omega))
              have RX := Lib.hid (reads_later hr S.out.mod (fun j hj h => by omega))
              have LX := Lib.hid (L1.out.grown S.out.mod)
              have PL := Lib.hid (show (P k).length ≤ 65536 from PLE.out k hlt)
              have HB0 := Lib.hid (HBY.out k hlt)
              have hnx : W.next = (k : Int) + 1 := by rw [S.out.jr.next, HMANY.out]; omega
              have hf : 0 ≤ W.first ∧ W.first ≤ 2000000000 := by
                have hm := HMANY.out
                have cd := COND.out.1
                rcases S.out.jr.shape with ⟨_, h⟩ | ⟨C, c, h1, _, _, _, h⟩
                · omega
                · have : many D = many C + c.length := by rw [h1, many_append]; simp [many]
                  omega
              have hend : ends D.flatten = tot P k := by rw [S.out.flat, ends_rows]
              have htk : tot P (k + 1) ≤ 262144 := Nat.le_trans (tot_mono P (show k + 1 ≤ n from hlt)) HT.out
              rw [tot_succ] at htk
              have J := jr_append S.out.jr hper0 S.out.small (by rw [HMANY.out]; have := COND.out.1; omega) (by rw [hend]; omega) (r := P k) PL.out HB0.out
              rw [hend, HMANY.out, S.out.room, hnx] at J
              have hfl := S.out.flat
              have AP := walAppend_any S.out.wal hf (by rw [hnx]; have := COND.out.1; omega) (.slice x (P k).length c) (P k) RX.out (by have := PL.out; omega) LX.out
              clear hcc hr hf hend
              go_wp2_with fail
              refine AP.mono ?_
              clear AP
              rcases J with ⟨_, g | g⟩ | ⟨gz, ⟨gy, W', g1, g2, g3, g4⟩ | ⟨W', D', g1, g2, g3, g4, g5, g6⟩⟩
              · exfalso
                rcases COND.out with ⟨c1, c2 | c2⟩
                · omega
                · omega
              · exfalso; omega
              · rw [g1]
                rintro e w5 ⟨rfl, hW5, hm5⟩
                have MX := Lib.hid (S.out.mod.trans hm5 (fun j _ h => by
                  rcases h with h | h
                  · exact Nat.le_of_not_lt (fun hj => h (S.out.grow j hj))
                  · have := S.out.fresh; omega))
                have HX := Lib.hid (hW5.disk.weaken (T := fun j => j < w1.heap.size) S.out.grow)
                obtain ⟨D', g7, g8, g9⟩ := g4.ex
                have FB := Lib.hid g7
                have SM := Lib.hid g9
                have OC := Lib.hid (show W'.dsk.off = true ∨ Calm W'.dsk.files from Or.inl g2)
                obtain ⟨t, ht⟩ : ∃ t, D'.flatten = rowsTo P t ∧ (k ≤ t ∧ t ≤ k + 1 ∧ t ≤ n) := by
                  rcases g8 with g8 | g8
                  · exact ⟨k, by rw [g8, hfl], by omega⟩
                  · exact ⟨k + 1, by rw [g8, hfl, rowsTo_succ], by omega⟩
                have DF := Lib.hid ht.1
                have TB := Lib.hid ht.2
                have DM := Lib.hid (show many D' ≤ 2048 from by rw [many_zero, DF.out, rowsTo_length]; have := TB.out; have := COND.out.1; omega)
                have OFFX := Lib.hid g2
                clear gz gy g1 g2 g3 g4 g7 g8 g9 ht hW5 hm5 hnx htk hfl
                go_wp2_with fail
                refine (held_down HX.out).mono ?_
                rw [OFFX.out]
                rintro e w6 ⟨rfl, rfl⟩
                have XX := Lib.hid (MX.out.heap XB1.out (fun h => Nat.not_le_of_lt SZ1.out h))
                have hx3 := cell_of_heap XX.out 3
                go_wp2_with fail
                refine (held_off HX.out keep hk0 hk1).mono ?_
                rintro e wa ⟨rfl, hH, hm⟩
                have HA := Lib.hid hH
                have MA := Lib.hid (MX.out.trans hm (fun j _ h => Nat.le_of_not_lt h))
                clear hH hm
                obtain ⟨A1, hA1⟩ : ∃ A1, A1 = W'.dsk.goesOff keep := ⟨_, rfl⟩
                rw [← hA1] at HA
                have F1 := Lib.hid (show Broken D' A1.files from by rw [hA1, (goesOff_calm OC.out keep).2.1]; exact FB.out)
                clear hA1
                go_wp2_with fail
                refine (held_on HA.out).mono ?_
                rintro e wa2 ⟨rfl, hH, hm⟩
                have HA2 := Lib.hid hH
                have MA2 := Lib.hid (MA.out.trans hm (fun j _ h => Nat.le_of_not_lt h))
                clear hH hm hx3
                have XA := Lib.hid (MA2.out.heap XB1.out (fun h => Nat.not_le_of_lt SZ1.out h))
                have hx4 := cell_of_heap XA.out 4
                have hx5 := cell_of_heap XA.out 5
                go_wp2_with fail
                refine (held_arm HA2.out again kept ha1 he0 he1).mono ?_
                rintro e wa3 ⟨rfl, hH, hm⟩
                have HA3 := Lib.hid hH
                have MA3 := Lib.hid (MA2.out.trans hm (fun j _ h => Nat.le_of_not_lt h))
                clear hH hm hx4 hx5
                obtain ⟨A3, hA3⟩ : ∃ A3, A3 = ({ A1 with off := false } : ADsk).arm again kept := ⟨_, rfl⟩
                rw [← hA3] at HA3
                have F3 := Lib.hid (show Broken D' A3.files ∧ A3.off = false from by rw [hA3]; exact ⟨F1.out, rfl⟩)
                clear hA3
                have LA3 := Lib.hid (L1.out.grown MA3.out)
                have XA3 := Lib.hid (MA3.out.heap XB1.out (fun h => Nat.not_le_of_lt SZ1.out h))
                have hx1 := cell_of_heap XA3.out 1
                go_wp2_with fail
                have OP := open_any HA3.out (broken_bytes F3.out.1 SM.out) per hper0 hp1 F3.out.2 LA3.out (fun k hk => L1.out.lt hk)
                rcases open_law F3.out.2 HA3.out.ok.rising F3.out.1 (by have := DM.out; omega) (fun e he r hr => (SM.out e he r hr).1) per hper0 with ⟨gx, A4, g1, g2, g3, g4⟩ | ⟨A4, g1, g2, g3, g4, gx⟩
                · rw [g1] at OP
                  refine OP.mono ?_
                  rintro e wb ⟨Qb, left, ⟨h0, _⟩ | ⟨_, rfl⟩⟩
                  · exact absurd h0 (show ¬ ((20 : Int) = 0) by decide)
                  have HB := Lib.hid (left.disk.weaken (T := fun j => j < w1.heap.size) left.grow)
                  have MB := Lib.hid (MA3.out.trans left.mod (fun j _ h => Nat.le_of_not_lt h))
                  have FB4 := Lib.hid g3
                  have OFF4 := Lib.hid g2
                  clear OP left gx g1 g2 g3 g4 hx1
                  go_wp2_with fail
                  refine (held_down HB.out).mono ?_
                  rw [show ({ dsk := A4, er := 20, first := 0, wf := 0, wn := 0, out := [] } : OpenR).dsk.off = true from OFF4.out]
                  rintro e wb' ⟨rfl, rfl⟩
                  go_wp2_with fail
                  refine (held_on HB.out).mono ?_
                  rintro e wc ⟨rfl, hH, hm⟩
                  have HC := Lib.hid hH
                  have MC := Lib.hid (MB.out.trans hm (fun j _ h => Nat.le_of_not_lt h))
                  clear hH hm
                  go_wp2_with fail
                  refine (held_arm HC.out 0 0 (by decide) (by decide) (by decide)).mono ?_
                  rintro e we ⟨rfl, hH, hm⟩
                  have HE0 := Lib.hid hH
                  have ME := Lib.hid (MC.out.trans hm (fun j _ h => Nat.le_of_not_lt h))
                  clear hH hm
                  obtain ⟨A6, hA6⟩ : ∃ A6, A6 = ({ A4 with off := false } : ADsk).arm 0 0 := ⟨_, rfl⟩
                  rw [← hA6] at HE0
                  have F6 := Lib.hid (show Broken D' A6.files ∧ A6.off = false ∧ A6.ar = 0 from by rw [hA6]; exact ⟨FB4.out, rfl, rfl⟩)
                  clear hA6
                  have LE := Lib.hid (L1.out.grown ME.out)
                  have XE := Lib.hid (ME.out.heap XB1.out (fun h => Nat.not_le_of_lt SZ1.out h))
                  have hx1 := cell_of_heap XE.out 1
                  go_wp2_with fail
                  obtain ⟨A7, e7⟩ : ∃ A7, openA A6 per = ⟨A7, 0, 1, lastStart 1 D' 1, 1 + many D', D'.flatten⟩ := by
                    rcases open_law F6.out.2.1 HE0.out.ok.rising F6.out.1 (by have := DM.out; omega) (fun e he r hr => (SM.out e he r hr).1) per hper0 with ⟨g, _⟩ | ⟨A7, g, _⟩
                    · exact absurd F6.out.2.2 g
                    · exact ⟨A7, g⟩
                  have OP := open_ok HE0.out (broken_bytes F6.out.1 SM.out) per hper0 hp1 F6.out.2.1 LE.out (fun k hk => L1.out.lt hk) (by rw [e7])
                  rw [e7] at OP
                  refine OP.mono ?_
                  rintro e wf ⟨Q7, wp7, rv7, rfl, hg, hnq, hW, hrow, hm⟩
                  have MF := Lib.hid (ME.out.trans hm (fun j _ h => Nat.le_of_not_lt h))
                  have hrow' : RowsAt wf Q7 rv7 (rowsTo P t) := by rw [← DF.out]; exact hrow
                  have RD7 := Lib.hid hrow'.rd
                  obtain ⟨ar7, cr7, hv7, _⟩ := hrow'.rd.ex
                  rw [rowsTo_length] at hv7
                  subst hv7
                  have XF := Lib.hid (MF.out.heap XB1.out (fun h => Nat.not_le_of_lt SZ1.out h))
                  clear OP hg hnq hW hrow hrow' hm e7 hx1
                  have hx0 := cell_of_heap XF.out 0
                  have hsl : ∀ W, (Instr.slice 37 (.slice (some a') n ca) none (some (.int .i64 (t : Int))) none).run Tryd.prog W = .ok (.slice (some a') t ca) W := fun W => slice_rows W (some a') n ca t (by have := TB.out; omega) hcn
                  obtain ⟨ks, hks⟩ : ∃ ks : Nat, ks = k + 1 := ⟨_, rfl⟩
                  have hks2 : (k : Int) + 1 = (ks : Nat) := by omega
                  have k1 : ¬ ((t : Int) < (k : Int)) := by have tb := TB.out; omega
                  have k2 : ¬ ((ks : Int) < (t : Int)) := by have tb := TB.out; omega
                  have k3 : ¬ ((n : Int) < (t : Int)) := by have tb := TB.out; omega
                  clear hks
                  go_wp2_with fail
                  clear k1 k2 k3 hsl hks2
                  have tb := TB.out
                  refine (alike_yes wf _ _ (rowsTo P t) RD7.out ⟨(some a'), ca, by rw [rowsTo_length], fun i x hi => by
                      obtain ⟨hi1, rfl⟩ := rowsTo_get hi
                      obtain ⟨a2, x, c, ea, hcc, hr, hp⟩ := HR1.out i (by omega)
                      exact ⟨a2, _, ea, MF.out.cell hcc (fun h => by have := World.block_lt_of_cell? w1 _ hcc; omega), reads_later hr MF.out (fun j hj h => by omega)⟩⟩ (by rw [rowsTo_length]; omega) (fun x hx => by
                      obtain ⟨i, hi, rfl⟩ := List.mem_iff_getElem.1 hx
                      obtain ⟨hi1, hx2⟩ := rowsTo_get (List.getElem?_eq_getElem hi)
                      rw [hx2]
                      obtain ⟨a2, x, c, _, hcc, hr, hp⟩ := HR1.out i (by omega)
                      omega)).mono ?_
                  rintro e wg ⟨rfl, hb⟩
                  have BG := Lib.hid ((((M1.out.mono (T := fun k => w.heap.size ≤ k) (fun _ _ h => h.elim)).trans (MF.out.trans (Mod.ofBelow hb) (fun _ _ h => h.elim)) (fun k _ h => Nat.le_trans (Nat.le_of_lt SZ1.out) h)).mono (T := fun _ => False) (fun k hk h => by omega)).toBelow)
                  clear hb tb
                  go_wp2_with fail
                  go_ret
                  exact ⟨rfl, BG.out⟩
                · rw [g1] at OP
                  refine OP.mono ?_
                  rintro e wb ⟨Qb, left, ⟨_, wpb, rvb, rfl, _⟩ | ⟨h0, _⟩⟩
                  case inr => exact absurd rfl h0
                  have HB := Lib.hid (left.disk.weaken (T := fun j => j < w1.heap.size) left.grow)
                  have MB := Lib.hid (MA3.out.trans left.mod (fun j _ h => Nat.le_of_not_lt h))
                  have FB4 := Lib.hid (show Broken D' A4.files from Or.inl g3)
                  clear OP left gx g1 g2 g3 g4 hx1
                  go_wp2_with fail
                  refine (held_on HB.out).mono ?_
                  rintro e wc ⟨rfl, hH, hm⟩
                  have HC := Lib.hid hH
                  have MC := Lib.hid (MB.out.trans hm (fun j _ h => Nat.le_of_not_lt h))
                  clear hH hm
                  go_wp2_with fail
                  refine (held_arm HC.out 0 0 (by decide) (by decide) (by decide)).mono ?_
                  rintro e we ⟨rfl, hH, hm⟩
                  have HE0 := Lib.hid hH
                  have ME := Lib.hid (MC.out.trans hm (fun j _ h => Nat.le_of_not_lt h))
                  clear hH hm
                  obtain ⟨A6, hA6⟩ : ∃ A6, A6 = ({ A4 with off := false } : ADsk).arm 0 0 := ⟨_, rfl⟩
                  rw [← hA6] at HE0
                  have F6 := Lib.hid (show Broken D' A6.files ∧ A6.off = false ∧ A6.ar = 0 from by rw [hA6]; exact ⟨FB4.out, rfl, rfl⟩)
                  clear hA6
                  have LE := Lib.hid (L1.out.grown ME.out)
                  have XE := Lib.hid (ME.out.heap XB1.out (fun h => Nat.not_le_of_lt SZ1.out h))
                  have hx1 := cell_of_heap XE.out 1
                  go_wp2_with fail
                  obtain ⟨A7, e7⟩ : ∃ A7, openA A6 per = ⟨A7, 0, 1, lastStart 1 D' 1, 1 + many D', D'.flatten⟩ := by
                    rcases open_law F6.out.2.1 HE0.out.ok.rising F6.out.1 (by have := DM.out; omega) (fun e he r hr => (SM.out e he r hr).1) per hper0 with ⟨g, _⟩ | ⟨A7, g, _⟩
                    · exact absurd F6.out.2.2 g
                    · exact ⟨A7, g⟩
                  have OP := open_ok HE0.out (broken_bytes F6.out.1 SM.out) per hper0 hp1 F6.out.2.1 LE.out (fun k hk => L1.out.lt hk) (by rw [e7])
                  rw [e7] at OP
                  refine OP.mono ?_
                  rintro e wf ⟨Q7, wp7, rv7, rfl, hg, hnq, hW, hrow, hm⟩
                  have MF := Lib.hid (ME.out.trans hm (fun j _ h => Nat.le_of_not_lt h))
                  have hrow' : RowsAt wf Q7 rv7 (rowsTo P t) := by rw [← DF.out]; exact hrow
                  have RD7 := Lib.hid hrow'.rd
                  obtain ⟨ar7, cr7, hv7, _⟩ := hrow'.rd.ex
                  rw [rowsTo_length] at hv7
                  subst hv7
                  have XF := Lib.hid (MF.out.heap XB1.out (fun h => Nat.not_le_of_lt SZ1.out h))
                  clear OP hg hnq hW hrow hrow' hm e7 hx1
                  have hx0 := cell_of_heap XF.out 0
                  have hsl : ∀ W, (Instr.slice 37 (.slice (some a') n ca) none (some (.int .i64 (t : Int))) none).run Tryd.prog W = .ok (.slice (some a') t ca) W := fun W => slice_rows W (some a') n ca t (by have := TB.out; omega) hcn
                  obtain ⟨ks, hks⟩ : ∃ ks : Nat, ks = k + 1 := ⟨_, rfl⟩
                  have hks2 : (k : Int) + 1 = (ks : Nat) := by omega
                  have k1 : ¬ ((t : Int) < (k : Int)) := by have tb := TB.out; omega
                  have k2 : ¬ ((ks : Int) < (t : Int)) := by have tb := TB.out; omega
                  have k3 : ¬ ((n : Int) < (t : Int)) := by have tb := TB.out; omega
                  clear hks
                  go_wp2_with fail
                  clear k1 k2 k3 hsl hks2
                  have tb := TB.out
                  refine (alike_yes wf _ _ (rowsTo P t) RD7.out ⟨(some a'), ca, by rw [rowsTo_length], fun i x hi => by
                      obtain ⟨hi1, rfl⟩ := rowsTo_get hi
                      obtain ⟨a2, x, c, ea, hcc, hr, hp⟩ := HR1.out i (by omega)
                      exact ⟨a2, _, ea, MF.out.cell hcc (fun h => by have := World.block_lt_of_cell? w1 _ hcc; omega), reads_later hr MF.out (fun j hj h => by omega)⟩⟩ (by rw [rowsTo_length]; omega) (fun x hx => by
                      obtain ⟨i, hi, rfl⟩ := List.mem_iff_getElem.1 hx
                      obtain ⟨hi1, hx2⟩ := rowsTo_get (List.getElem?_eq_getElem hi)
                      rw [hx2]
                      obtain ⟨a2, x, c, _, hcc, hr, hp⟩ := HR1.out i (by omega)
                      omega)).mono ?_
                  rintro e wg ⟨rfl, hb⟩
                  have BG := Lib.hid ((((M1.out.mono (T := fun k => w.heap.size ≤ k) (fun _ _ h => h.elim)).trans (MF.out.trans (Mod.ofBelow hb) (fun _ _ h => h.elim)) (fun k _ h => Nat.le_trans (Nat.le_of_lt SZ1.out) h)).mono (T := fun _ => False) (fun k hk h => by omega)).toBelow)
                  clear hb tb
                  go_wp2_with fail
                  go_ret
                  exact ⟨rfl, BG.out⟩
              · rw [g1]
                rintro e w5 ⟨rfl, hW5, hm5⟩
                have S5 := Lib.hid (show LossAt w w1 (w1.heap.size + 1) wp P per #[.slice (some a') n ca, .int .i64 per, .int .i64 cut, .int .i64 keep, .int .i64 again, .int .i64 kept] (k + 1) D' W' Q w5 from
                  ⟨g2, by rw [g3, hfl, rowsTo_succ], g4, g5, hW5, S.out.grow, S.out.fresh, S.out.mod.trans hm5 (fun j _ h => by
                    rcases h with h | h
                    · exact Nat.le_of_not_lt (fun hj => h (S.out.grow j hj))
                    · have := S.out.fresh; omega), hm5.heap S.out.xb (fun h => by
                    have h1 := SZ1.out
                    rcases h with h | h
                    · exact h (S.out.grow _ h1)
                    · have := S.out.fresh; omega)⟩)
                clear gz g1 g2 g3 g4 g5 g6 hW5 hm5 hnx htk hfl
                go_wp2_with fail
                go_roundw
                case rel => exact ⟨k + 1, D', W', Q, by omega, by go_num, by go_num, S5.out⟩
                case measure => simp [intOf]; omega
            · obtain rfl : n = k := by omega
              have MX := Lib.hid S.out.mod
              have HX := Lib.hid (S.out.wal.disk.weaken (T := fun j => j < w1.heap.size) S.out.grow)
              obtain ⟨D', hD'⟩ : ∃ D', D' = D := ⟨_, rfl⟩
              have FB := Lib.hid (show Broken D' W.dsk.files from by rw [hD']; exact Or.inl S.out.jr.files)
              have SM := Lib.hid (show Small D' from by rw [hD']; exact S.out.small)
              have OC := Lib.hid (show W.dsk.off = true ∨ Calm W.dsk.files from Or.inr (by rw [S.out.jr.files]; exact segs_calm D 1))
              obtain ⟨t, ht⟩ : ∃ t, D'.flatten = rowsTo P t ∧ (n ≤ t ∧ t ≤ n + 1 ∧ t ≤ n) := ⟨n, by rw [hD', S.out.flat], by omega⟩
              have DF := Lib.hid ht.1
              have TB := Lib.hid ht.2
              have DM := Lib.hid (show many D' ≤ 2048 from by rw [many_zero, DF.out, rowsTo_length]; have := TB.out; have := COND.out.1; omega)
              clear ht hD' hk hlt
              have XX := Lib.hid (MX.out.heap XB1.out (fun h => Nat.not_le_of_lt SZ1.out h))
              have hx3 := cell_of_heap XX.out 3
              go_wp2_with fail
              refine (held_off HX.out keep hk0 hk1).mono ?_
              rintro e wa ⟨rfl, hH, hm⟩
              have HA := Lib.hid hH
              have MA := Lib.hid (MX.out.trans hm (fun j _ h => Nat.le_of_not_lt h))
              clear hH hm
              obtain ⟨A1, hA1⟩ : ∃ A1, A1 = W.dsk.goesOff keep := ⟨_, rfl⟩
              rw [← hA1] at HA
              have F1 := Lib.hid (show Broken D' A1.files from by rw [hA1, (goesOff_calm OC.out keep).2.1]; exact FB.out)
              clear hA1
              go_wp2_with fail
              refine (held_on HA.out).mono ?_
              rintro e wa2 ⟨rfl, hH, hm⟩
              have HA2 := Lib.hid hH
              have MA2 := Lib.hid (MA.out.trans hm (fun j _ h => Nat.le_of_not_lt h))
              clear hH hm hx3
              have XA := Lib.hid (MA2.out.heap XB1.out (fun h => Nat.not_le_of_lt SZ1.out h))
              have hx4 := cell_of_heap XA.out 4
              have hx5 := cell_of_heap XA.out 5
              go_wp2_with fail
              refine (held_arm HA2.out again kept ha1 he0 he1).mono ?_
              rintro e wa3 ⟨rfl, hH, hm⟩
              have HA3 := Lib.hid hH
              have MA3 := Lib.hid (MA2.out.trans hm (fun j _ h => Nat.le_of_not_lt h))
              clear hH hm hx4 hx5
              obtain ⟨A3, hA3⟩ : ∃ A3, A3 = ({ A1 with off := false } : ADsk).arm again kept := ⟨_, rfl⟩
              rw [← hA3] at HA3
              have F3 := Lib.hid (show Broken D' A3.files ∧ A3.off = false from by rw [hA3]; exact ⟨F1.out, rfl⟩)
              clear hA3
              have LA3 := Lib.hid (L1.out.grown MA3.out)
              have XA3 := Lib.hid (MA3.out.heap XB1.out (fun h => Nat.not_le_of_lt SZ1.out h))
              have hx1 := cell_of_heap XA3.out 1
              go_wp2_with fail
              have OP := open_any HA3.out (broken_bytes F3.out.1 SM.out) per hper0 hp1 F3.out.2 LA3.out (fun k hk => L1.out.lt hk)
              rcases open_law F3.out.2 HA3.out.ok.rising F3.out.1 (by have := DM.out; omega) (fun e he r hr => (SM.out e he r hr).1) per hper0 with ⟨gx, A4, g1, g2, g3, g4⟩ | ⟨A4, g1, g2, g3, g4, gx⟩
              · rw [g1] at OP
                refine OP.mono ?_
                rintro e wb ⟨Qb, left, ⟨h0, _⟩ | ⟨_, rfl⟩⟩
                · exact absurd h0 (show ¬ ((20 : Int) = 0) by decide)
                have HB := Lib.hid (left.disk.weaken (T := fun j => j < w1.heap.size) left.grow)
                have MB := Lib.hid (MA3.out.trans left.mod (fun j _ h => Nat.le_of_not_lt h))
                have FB4 := Lib.hid g3
                have OFF4 := Lib.hid g2
                clear OP left gx g1 g2 g3 g4 hx1
                go_wp2_with fail
                refine (held_down HB.out).mono ?_
                rw [show ({ dsk := A4, er := 20, first := 0, wf := 0, wn := 0, out := [] } : OpenR).dsk.off = true from OFF4.out]
                rintro e wb' ⟨rfl, rfl⟩
                go_wp2_with fail
                refine (held_on HB.out).mono ?_
                rintro e wc ⟨rfl, hH, hm⟩
                have HC := Lib.hid hH
                have MC := Lib.hid (MB.out.trans hm (fun j _ h => Nat.le_of_not_lt h))
                clear hH hm
                go_wp2_with fail
                refine (held_arm HC.out 0 0 (by decide) (by decide) (by decide)).mono ?_
                rintro e we ⟨rfl, hH, hm⟩
                have HE0 := Lib.hid hH
                have ME := Lib.hid (MC.out.trans hm (fun j _ h => Nat.le_of_not_lt h))
                clear hH hm
                obtain ⟨A6, hA6⟩ : ∃ A6, A6 = ({ A4 with off := false } : ADsk).arm 0 0 := ⟨_, rfl⟩
                rw [← hA6] at HE0
                have F6 := Lib.hid (show Broken D' A6.files ∧ A6.off = false ∧ A6.ar = 0 from by rw [hA6]; exact ⟨FB4.out, rfl, rfl⟩)
                clear hA6
                have LE := Lib.hid (L1.out.grown ME.out)
                have XE := Lib.hid (ME.out.heap XB1.out (fun h => Nat.not_le_of_lt SZ1.out h))
                have hx1 := cell_of_heap XE.out 1
                go_wp2_with fail
                obtain ⟨A7, e7⟩ : ∃ A7, openA A6 per = ⟨A7, 0, 1, lastStart 1 D' 1, 1 + many D', D'.flatten⟩ := by
                  rcases open_law F6.out.2.1 HE0.out.ok.rising F6.out.1 (by have := DM.out; omega) (fun e he r hr => (SM.out e he r hr).1) per hper0 with ⟨g, _⟩ | ⟨A7, g, _⟩
                  · exact absurd F6.out.2.2 g
                  · exact ⟨A7, g⟩
                have OP := open_ok HE0.out (broken_bytes F6.out.1 SM.out) per hper0 hp1 F6.out.2.1 LE.out (fun k hk => L1.out.lt hk) (by rw [e7])
                rw [e7] at OP
                refine OP.mono ?_
                rintro e wf ⟨Q7, wp7, rv7, rfl, hg, hnq, hW, hrow, hm⟩
                have MF := Lib.hid (ME.out.trans hm (fun j _ h => Nat.le_of_not_lt h))
                have hrow' : RowsAt wf Q7 rv7 (rowsTo P t) := by rw [← DF.out]; exact hrow
                have RD7 := Lib.hid hrow'.rd
                obtain ⟨ar7, cr7, hv7, _⟩ := hrow'.rd.ex
                rw [rowsTo_length] at hv7
                subst hv7
                have XF := Lib.hid (MF.out.heap XB1.out (fun h => Nat.not_le_of_lt SZ1.out h))
                clear OP hg hnq hW hrow hrow' hm e7 hx1
                have hx0 := cell_of_heap XF.out 0
                have hsl : ∀ W, (Instr.slice 37 (.slice a n ca) none (some (.int .i64 (t : Int))) none).run Tryd.prog W = .ok (.slice a t ca) W := fun W => slice_rows W a n ca t (by have := TB.out; omega) hcn
                obtain ⟨ks, hks⟩ : ∃ ks : Nat, ks = n + 1 := ⟨_, rfl⟩
                have hks2 : (n : Int) + 1 = (ks : Nat) := by omega
                have k1 : ¬ ((t : Int) < (n : Int)) := by have tb := TB.out; omega
                have k2 : ¬ ((ks : Int) < (t : Int)) := by have tb := TB.out; omega
                have k3 : ¬ ((n : Int) < (t : Int)) := by have tb := TB.out; omega
                clear hks
                go_wp2_with fail
                clear k1 k2 k3 hsl hks2
                have tb := TB.out
                refine (alike_yes wf _ _ (rowsTo P t) RD7.out ⟨a, ca, by rw [rowsTo_length], fun i x hi => by
                    obtain ⟨hi1, rfl⟩ := rowsTo_get hi
                    obtain ⟨a2, x, c, ea, hcc, hr, hp⟩ := HR1.out i (by omega)
                    exact ⟨a2, _, ea, MF.out.cell hcc (fun h => by have := World.block_lt_of_cell? w1 _ hcc; omega), reads_later hr MF.out (fun j hj h => by omega)⟩⟩ (by rw [rowsTo_length]; omega) (fun x hx => by
                    obtain ⟨i, hi, rfl⟩ := List.mem_iff_getElem.1 hx
                    obtain ⟨hi1, hx2⟩ := rowsTo_get (List.getElem?_eq_getElem hi)
                    rw [hx2]
                    obtain ⟨a2, x, c, _, hcc, hr, hp⟩ := HR1.out i (by omega)
                    omega)).mono ?_
                rintro e wg ⟨rfl, hb⟩
                have BG := Lib.hid ((((M1.out.mono (T := fun k => w.heap.size ≤ k) (fun _ _ h => h.elim)).trans (MF.out.trans (Mod.ofBelow hb) (fun _ _ h => h.elim)) (fun k _ h => Nat.le_trans (Nat.le_of_lt SZ1.out) h)).mono (T := fun _ => False) (fun k hk h => by omega)).toBelow)
                clear hb tb
                go_wp2_with fail
                go_ret
                exact ⟨rfl, BG.out⟩
              · rw [g1] at OP
                refine OP.mono ?_
                rintro e wb ⟨Qb, left, ⟨_, wpb, rvb, rfl, _⟩ | ⟨h0, _⟩⟩
                case inr => exact absurd rfl h0
                have HB := Lib.hid (left.disk.weaken (T := fun j => j < w1.heap.size) left.grow)
                have MB := Lib.hid (MA3.out.trans left.mod (fun j _ h => Nat.le_of_not_lt h))
                have FB4 := Lib.hid (show Broken D' A4.files from Or.inl g3)
                clear OP left gx g1 g2 g3 g4 hx1
                go_wp2_with fail
                refine (held_on HB.out).mono ?_
                rintro e wc ⟨rfl, hH, hm⟩
                have HC := Lib.hid hH
                have MC := Lib.hid (MB.out.trans hm (fun j _ h => Nat.le_of_not_lt h))
                clear hH hm
                go_wp2_with fail
                refine (held_arm HC.out 0 0 (by decide) (by decide) (by decide)).mono ?_
                rintro e we ⟨rfl, hH, hm⟩
                have HE0 := Lib.hid hH
                have ME := Lib.hid (MC.out.trans hm (fun j _ h => Nat.le_of_not_lt h))
                clear hH hm
                obtain ⟨A6, hA6⟩ : ∃ A6, A6 = ({ A4 with off := false } : ADsk).arm 0 0 := ⟨_, rfl⟩
                rw [← hA6] at HE0
                have F6 := Lib.hid (show Broken D' A6.files ∧ A6.off = false ∧ A6.ar = 0 from by rw [hA6]; exact ⟨FB4.out, rfl, rfl⟩)
                clear hA6
                have LE := Lib.hid (L1.out.grown ME.out)
                have XE := Lib.hid (ME.out.heap XB1.out (fun h => Nat.not_le_of_lt SZ1.out h))
                have hx1 := cell_of_heap XE.out 1
                go_wp2_with fail
                obtain ⟨A7, e7⟩ : ∃ A7, openA A6 per = ⟨A7, 0, 1, lastStart 1 D' 1, 1 + many D', D'.flatten⟩ := by
                  rcases open_law F6.out.2.1 HE0.out.ok.rising F6.out.1 (by have := DM.out; omega) (fun e he r hr => (SM.out e he r hr).1) per hper0 with ⟨g, _⟩ | ⟨A7, g, _⟩
                  · exact absurd F6.out.2.2 g
                  · exact ⟨A7, g⟩
                have OP := open_ok HE0.out (broken_bytes F6.out.1 SM.out) per hper0 hp1 F6.out.2.1 LE.out (fun k hk => L1.out.lt hk) (by rw [e7])
                rw [e7] at OP
                refine OP.mono ?_
                rintro e wf ⟨Q7, wp7, rv7, rfl, hg, hnq, hW, hrow, hm⟩
                have MF := Lib.hid (ME.out.trans hm (fun j _ h => Nat.le_of_not_lt h))
                have hrow' : RowsAt wf Q7 rv7 (rowsTo P t) := by rw [← DF.out]; exact hrow
                have RD7 := Lib.hid hrow'.rd
                obtain ⟨ar7, cr7, hv7, _⟩ := hrow'.rd.ex
                rw [rowsTo_length] at hv7
                subst hv7
                have XF := Lib.hid (MF.out.heap XB1.out (fun h => Nat.not_le_of_lt SZ1.out h))
                clear OP hg hnq hW hrow hrow' hm e7 hx1
                have hx0 := cell_of_heap XF.out 0
                have hsl : ∀ W, (Instr.slice 37 (.slice a n ca) none (some (.int .i64 (t : Int))) none).run Tryd.prog W = .ok (.slice a t ca) W := fun W => slice_rows W a n ca t (by have := TB.out; omega) hcn
                obtain ⟨ks, hks⟩ : ∃ ks : Nat, ks = n + 1 := ⟨_, rfl⟩
                have hks2 : (n : Int) + 1 = (ks : Nat) := by omega
                have k1 : ¬ ((t : Int) < (n : Int)) := by have tb := TB.out; omega
                have k2 : ¬ ((ks : Int) < (t : Int)) := by have tb := TB.out; omega
                have k3 : ¬ ((n : Int) < (t : Int)) := by have tb := TB.out; omega
                clear hks
                go_wp2_with fail
                clear k1 k2 k3 hsl hks2
                have tb := TB.out
                refine (alike_yes wf _ _ (rowsTo P t) RD7.out ⟨a, ca, by rw [rowsTo_length], fun i x hi => by
                    obtain ⟨hi1, rfl⟩ := rowsTo_get hi
                    obtain ⟨a2, x, c, ea, hcc, hr, hp⟩ := HR1.out i (by omega)
                    exact ⟨a2, _, ea, MF.out.cell hcc (fun h => by have := World.block_lt_of_cell? w1 _ hcc; omega), reads_later hr MF.out (fun j hj h => by omega)⟩⟩ (by rw [rowsTo_length]; omega) (fun x hx => by
                    obtain ⟨i, hi, rfl⟩ := List.mem_iff_getElem.1 hx
                    obtain ⟨hi1, hx2⟩ := rowsTo_get (List.getElem?_eq_getElem hi)
                    rw [hx2]
                    obtain ⟨a2, x, c, _, hcc, hr, hp⟩ := HR1.out i (by omega)
                    omega)).mono ?_
                rintro e wg ⟨rfl, hb⟩
                have BG := Lib.hid ((((M1.out.mono (T := fun k => w.heap.size ≤ k) (fun _ _ h => h.elim)).trans (MF.out.trans (Mod.ofBelow hb) (fun _ _ h => h.elim)) (fun k _ h => Nat.le_trans (Nat.le_of_lt SZ1.out) h)).mono (T := fun _ => False) (fun k hk h => by omega)).toBelow)
                clear hb tb
                go_wp2_with fail
                go_ret
                exact ⟨rfl, BG.out⟩
        · have HR1 := Lib.hid (show RowsIn w1 a n P from fun k hk => by
            obtain ⟨a', x, c, e, hcc, hr, hp⟩ := HR.out k hk
            exact ⟨a', x, c, e, M1.out.cell hcc (fun h => h), Reads.kept hr M1.out (fun _ _ h => h), hp⟩)
          refine (held_new w1 1048576).mono ?_
          rintro e w2 ⟨rfl, hH, hb, hsz⟩
          have H2 := Lib.hid hH
          have M2 := Lib.hid (Mod.ofBelow hb)
          have XB2 := Lib.hid ((Mod.ofBelow hb).heap XB1.out (fun h => h))
          clear hH hb hsz hx0 hx1
          have hx2 := cell_of_heap XB2.out 2
          have hx3 := cell_of_heap XB2.out 3
          go_wp2_with fail
          refine (held_arm H2.out cut keep hc1 hk0 hk1).mono ?_
          rintro e w3 ⟨rfl, hH, hm⟩
          have H3 := Lib.hid hH
          have G3 := Lib.hid (show Mod (fun j => w1.heap.size ≤ j) w1 w3 from (M2.out.mono (T := fun j => w1.heap.size ≤ j) (fun _ _ h => h.elim)).trans hm (fun j _ h => Nat.le_of_not_lt h))
          have XB3 := Lib.hid (hm.heap XB2.out (fun h => h SZ1.out))
          have L3 := Lib.hid (L1.out.grown G3.out)
          clear hH hm hx2 hx3
          have hx1 := cell_of_heap XB3.out 1
          go_wp2_with fail
          have OE := open_empty (A := (ADsk.new 1048576).arm cut keep) rfl rfl per hper0
          have OP := open_ok H3.out (by intro p hp; cases hp) per hper0 hp1 rfl L3.out (fun k hk => L1.out.lt hk) (by rw [OE])
          rw [OE] at OP
          refine OP.mono ?_
          rintro e w4 ⟨Q4, wp, rv, rfl, hg, hnq, hW, hrow, hm⟩
          have START := Lib.hid (show LossAt w w1 (w1.heap.size + 1) wp P per #[.slice a n ca, .int .i64 per, .int .i64 cut, .int .i64 keep, .int .i64 again, .int .i64 kept] 0 [] ⟨(ADsk.new 1048576).arm cut keep, per, 1, 1, 0⟩ Q4 w4 from
            ⟨⟨rfl, rfl, Or.inl ⟨rfl, rfl⟩, rfl, rfl, rfl⟩, rfl, (fun e he => by cases he), rfl, hW, hg, Nat.le_of_not_lt hnq, G3.out.trans hm (fun j _ h => Nat.le_of_not_lt h), hm.heap XB3.out (fun h => h SZ1.out)⟩)
          obtain ⟨vsr, hvsr, _⟩ := hrow.ex
          obtain ⟨arv, crv, rfl, _⟩ := ownsRow_slice hvsr
          clear OP OE hg hnq hW hrow hm hvsr hx1
          have hx0 := cell_of_heap START.out.xb 0
          go_wp2_with fail
          clear hx0
          go_loopw [11, 85] (fun sv i wr => ∃ (k : Nat) (D : List (List (List Int))) (W : AWal) (Q : Nat → Prop), k ≤ n ∧ i = .int .i64 k ∧ sv = .int .i64 k ∧ LossAt w w1 (w1.heap.size + 1) wp P per #[.slice a n ca, .int .i64 per, .int .i64 cut, .int .i64 keep, .int .i64 again, .int .i64 kept] k D W Q wr) (fun _ i _ => n - (intOf i).toNat)
          case atStart => exact ⟨0, [], _, Q4, Nat.zero_le _, rfl, rfl, START.out⟩
          case round =>
            obtain ⟨k, D, W, Q, hk, rfl, rfl, hS⟩ := hrel
            have S := Lib.hid hS
            clear hS
            have hmany : many D = k := by rw [many_zero, S.out.flat, rowsTo_length]
            have HMANY := Lib.hid hmany
            clear hmany
            by_cases hlt : k < n
            · obtain ⟨a', x, c, rfl, hcc, hr, hp⟩ := HR1.out k hlt
              have hc := (S.out.mod.cell hcc (fun h => by have := World.block_lt_of_cell? w1 _ hcc; omega))
              have RX := Lib.hid (reads_later hr S.out.mod (fun j hj h => by omega))
              have LX := Lib.hid (L1.out.grown S.out.mod)
              have PL := Lib.hid (show (P k).length ≤ 65536 from PLE.out k hlt)
              have HB0 := Lib.hid (HBY.out k hlt)
              have hnx : W.next = (k : Int) + 1 := by rw [S.out.jr.next, HMANY.out]; omega
              have hf : 0 ≤ W.first ∧ W.first ≤ 2000000000 := by
                have hm := HMANY.out
                have cd := COND.out.1
                rcases S.out.jr.shape with ⟨_, h⟩ | ⟨C, c, h1, _, _, _, h⟩
                · omega
                · have : many D = many C + c.length := by rw [h1, many_append]; simp [many]
                  omega
              have hend : ends D.flatten = tot P k := by rw [S.out.flat, ends_rows]
              have htk : tot P (k + 1) ≤ 262144 := Nat.le_trans (tot_mono P (show k + 1 ≤ n from hlt)) HT.out
              rw [tot_succ] at htk
              have J := jr_append S.out.jr hper0 S.out.small (by rw [HMANY.out]; have := COND.out.1; omega) (by rw [hend]; omega) (r := P k) PL.out HB0.out
              rw [hend, HMANY.out, S.out.room, hnx] at J
              have hfl := S.out.flat
              have AP := walAppend_any S.out.wal hf (by rw [hnx]; have := COND.out.1; omega) (.slice x (P k).length c) (P k) RX.out (by have := PL.out; omega) LX.out
              clear hcc hr hf hend
              go_wp2_with fail
              refine AP.mono ?_
              clear AP
              rcases J with ⟨_, g | g⟩ | ⟨gz, ⟨gy, W', g1, g2, g3, g4⟩ | ⟨W', D', g1, g2, g3, g4, g5, g6⟩⟩
              · exfalso
                rcases COND.out with ⟨c1, c2 | c2⟩
                · omega
                · omega
              · exfalso; omega
              · rw [g1]
                rintro e w5 ⟨rfl, hW5, hm5⟩
                have MX := Lib.hid (S.out.mod.trans hm5 (fun j _ h => by
                  rcases h with h | h
                  · exact Nat.le_of_not_lt (fun hj => h (S.out.grow j hj))
                  · have := S.out.fresh; omega))
                have HX := Lib.hid (hW5.disk.weaken (T := fun j => j < w1.heap.size) S.out.grow)
                obtain ⟨D', g7, g8, g9⟩ := g4.ex
                have FB := Lib.hid g7
                have SM := Lib.hid g9
                have OC := Lib.hid (show W'.dsk.off = true ∨ Calm W'.dsk.files from Or.inl g2)
                obtain ⟨t, ht⟩ : ∃ t, D'.flatten = rowsTo P t ∧ (k ≤ t ∧ t ≤ k + 1 ∧ t ≤ n) := by
                  rcases g8 with g8 | g8
                  · exact ⟨k, by rw [g8, hfl], by omega⟩
                  · exact ⟨k + 1, by rw [g8, hfl, rowsTo_succ], by omega⟩
                have DF := Lib.hid ht.1
                have TB := Lib.hid ht.2
                have DM := Lib.hid (show many D' ≤ 2048 from by rw [many_zero, DF.out, rowsTo_length]; have := TB.out; have := COND.out.1; omega)
                have OFFX := Lib.hid g2
                clear gz gy g1 g2 g3 g4 g7 g8 g9 ht hW5 hm5 hnx htk hfl
                go_wp2_with fail
                refine (held_down HX.out).mono ?_
                rw [OFFX.out]
                rintro e w6 ⟨rfl, rfl⟩
                have XX := Lib.hid (MX.out.heap XB1.out (fun h => Nat.not_le_of_lt SZ1.out h))
                have hx3 := cell_of_heap XX.out 3
                go_wp2_with fail
                refine (held_off HX.out keep hk0 hk1).mono ?_
                rintro e wa ⟨rfl, hH, hm⟩
                have HA := Lib.hid hH
                have MA := Lib.hid (MX.out.trans hm (fun j _ h => Nat.le_of_not_lt h))
                clear hH hm
                obtain ⟨A1, hA1⟩ : ∃ A1, A1 = W'.dsk.goesOff keep := ⟨_, rfl⟩
                rw [← hA1] at HA
                have F1 := Lib.hid (show Broken D' A1.files from by rw [hA1, (goesOff_calm OC.out keep).2.1]; exact FB.out)
                clear hA1
                go_wp2_with fail
                refine (held_on HA.out).mono ?_
                rintro e wa2 ⟨rfl, hH, hm⟩
                have HA2 := Lib.hid hH
                have MA2 := Lib.hid (MA.out.trans hm (fun j _ h => Nat.le_of_not_lt h))
                clear hH hm hx3
                have XA := Lib.hid (MA2.out.heap XB1.out (fun h => Nat.not_le_of_lt SZ1.out h))
                have hx4 := cell_of_heap XA.out 4
                have hx5 := cell_of_heap XA.out 5
                go_wp2_with fail
                refine (held_arm HA2.out again kept ha1 he0 he1).mono ?_
                rintro e wa3 ⟨rfl, hH, hm⟩
                have HA3 := Lib.hid hH
                have MA3 := Lib.hid (MA2.out.trans hm (fun j _ h => Nat.le_of_not_lt h))
                clear hH hm hx4 hx5
                obtain ⟨A3, hA3⟩ : ∃ A3, A3 = ({ A1 with off := false } : ADsk).arm again kept := ⟨_, rfl⟩
                rw [← hA3] at HA3
                have F3 := Lib.hid (show Broken D' A3.files ∧ A3.off = false from by rw [hA3]; exact ⟨F1.out, rfl⟩)
                clear hA3
                have LA3 := Lib.hid (L1.out.grown MA3.out)
                have XA3 := Lib.hid (MA3.out.heap XB1.out (fun h => Nat.not_le_of_lt SZ1.out h))
                have hx1 := cell_of_heap XA3.out 1
                go_wp2_with fail
                have OP := open_any HA3.out (broken_bytes F3.out.1 SM.out) per hper0 hp1 F3.out.2 LA3.out (fun k hk => L1.out.lt hk)
                rcases open_law F3.out.2 HA3.out.ok.rising F3.out.1 (by have := DM.out; omega) (fun e he r hr => (SM.out e he r hr).1) per hper0 with ⟨gx, A4, g1, g2, g3, g4⟩ | ⟨A4, g1, g2, g3, g4, gx⟩
                · rw [g1] at OP
                  refine OP.mono ?_
                  rintro e wb ⟨Qb, left, ⟨h0, _⟩ | ⟨_, rfl⟩⟩
                  · exact absurd h0 (show ¬ ((20 : Int) = 0) by decide)
                  have HB := Lib.hid (left.disk.weaken (T := fun j => j < w1.heap.size) left.grow)
                  have MB := Lib.hid (MA3.out.trans left.mod (fun j _ h => Nat.le_of_not_lt h))
                  have FB4 := Lib.hid g3
                  have OFF4 := Lib.hid g2
                  clear OP left gx g1 g2 g3 g4 hx1
                  go_wp2_with fail
                  refine (held_down HB.out).mono ?_
                  rw [show ({ dsk := A4, er := 20, first := 0, wf := 0, wn := 0, out := [] } : OpenR).dsk.off = true from OFF4.out]
                  rintro e wb' ⟨rfl, rfl⟩
                  go_wp2_with fail
                  refine (held_on HB.out).mono ?_
                  rintro e wc ⟨rfl, hH, hm⟩
                  have HC := Lib.hid hH
                  have MC := Lib.hid (MB.out.trans hm (fun j _ h => Nat.le_of_not_lt h))
                  clear hH hm
                  go_wp2_with fail
                  refine (held_arm HC.out 0 0 (by decide) (by decide) (by decide)).mono ?_
                  rintro e we ⟨rfl, hH, hm⟩
                  have HE0 := Lib.hid hH
                  have ME := Lib.hid (MC.out.trans hm (fun j _ h => Nat.le_of_not_lt h))
                  clear hH hm
                  obtain ⟨A6, hA6⟩ : ∃ A6, A6 = ({ A4 with off := false } : ADsk).arm 0 0 := ⟨_, rfl⟩
                  rw [← hA6] at HE0
                  have F6 := Lib.hid (show Broken D' A6.files ∧ A6.off = false ∧ A6.ar = 0 from by rw [hA6]; exact ⟨FB4.out, rfl, rfl⟩)
                  clear hA6
                  have LE := Lib.hid (L1.out.grown ME.out)
                  have XE := Lib.hid (ME.out.heap XB1.out (fun h => Nat.not_le_of_lt SZ1.out h))
                  have hx1 := cell_of_heap XE.out 1
                  go_wp2_with fail
                  obtain ⟨A7, e7⟩ : ∃ A7, openA A6 per = ⟨A7, 0, 1, lastStart 1 D' 1, 1 + many D', D'.flatten⟩ := by
                    rcases open_law F6.out.2.1 HE0.out.ok.rising F6.out.1 (by have := DM.out; omega) (fun e he r hr => (SM.out e he r hr).1) per hper0 with ⟨g, _⟩ | ⟨A7, g, _⟩
                    · exact absurd F6.out.2.2 g
                    · exact ⟨A7, g⟩
                  have OP := open_ok HE0.out (broken_bytes F6.out.1 SM.out) per hper0 hp1 F6.out.2.1 LE.out (fun k hk => L1.out.lt hk) (by rw [e7])
                  rw [e7] at OP
                  refine OP.mono ?_
                  rintro e wf ⟨Q7, wp7, rv7, rfl, hg, hnq, hW, hrow, hm⟩
                  have MF := Lib.hid (ME.out.trans hm (fun j _ h => Nat.le_of_not_lt h))
                  have hrow' : RowsAt wf Q7 rv7 (rowsTo P t) := by rw [← DF.out]; exact hrow
                  have RD7 := Lib.hid hrow'.rd
                  obtain ⟨ar7, cr7, hv7, _⟩ := hrow'.rd.ex
                  rw [rowsTo_length] at hv7
                  subst hv7
                  have XF := Lib.hid (MF.out.heap XB1.out (fun h => Nat.not_le_of_lt SZ1.out h))
                  clear OP hg hnq hW hrow hrow' hm e7 hx1
                  have hx0 := cell_of_heap XF.out 0
                  have hsl : ∀ W, (Instr.slice 37 (.slice (some a') n ca) none (some (.int .i64 (t : Int))) none).run Tryd.prog W = .ok (.slice (some a') t ca) W := fun W => slice_rows W (some a') n ca t (by have := TB.out; omega) hcn
                  obtain ⟨ks, hks⟩ : ∃ ks : Nat, ks = k + 1 := ⟨_, rfl⟩
                  have hks2 : (k : Int) + 1 = (ks : Nat) := by omega
                  have k1 : ¬ ((t : Int) < (k : Int)) := by have tb := TB.out; omega
                  have k2 : ¬ ((ks : Int) < (t : Int)) := by have tb := TB.out; omega
                  have k3 : ¬ ((n : Int) < (t : Int)) := by have tb := TB.out; omega
                  clear hks
                  go_wp2_with fail
                  clear k1 k2 k3 hsl hks2
                  have tb := TB.out
                  refine (alike_yes wf _ _ (rowsTo P t) RD7.out ⟨(some a'), ca, by rw [rowsTo_length], fun i x hi => by
                      obtain ⟨hi1, rfl⟩ := rowsTo_get hi
                      obtain ⟨a2, x, c, ea, hcc, hr, hp⟩ := HR1.out i (by omega)
                      exact ⟨a2, _, ea, MF.out.cell hcc (fun h => by have := World.block_lt_of_cell? w1 _ hcc; omega), reads_later hr MF.out (fun j hj h => by omega)⟩⟩ (by rw [rowsTo_length]; omega) (fun x hx => by
                      obtain ⟨i, hi, rfl⟩ := List.mem_iff_getElem.1 hx
                      obtain ⟨hi1, hx2⟩ := rowsTo_get (List.getElem?_eq_getElem hi)
                      rw [hx2]
                      obtain ⟨a2, x, c, _, hcc, hr, hp⟩ := HR1.out i (by omega)
                      omega)).mono ?_
                  rintro e wg ⟨rfl, hb⟩
                  have BG := Lib.hid ((((M1.out.mono (T := fun k => w.heap.size ≤ k) (fun _ _ h => h.elim)).trans (MF.out.trans (Mod.ofBelow hb) (fun _ _ h => h.elim)) (fun k _ h => Nat.le_trans (Nat.le_of_lt SZ1.out) h)).mono (T := fun _ => False) (fun k hk h => by omega)).toBelow)
                  clear hb tb
                  go_wp2_with fail
                  go_ret
                  exact ⟨rfl, BG.out⟩
                · rw [g1] at OP
                  refine OP.mono ?_
                  rintro e wb ⟨Qb, left, ⟨_, wpb, rvb, rfl, _⟩ | ⟨h0, _⟩⟩
                  case inr => exact absurd rfl h0
                  have HB := Lib.hid (left.disk.weaken (T := fun j => j < w1.heap.size) left.grow)
                  have MB := Lib.hid (MA3.out.trans left.mod (fun j _ h => Nat.le_of_not_lt h))
                  have FB4 := Lib.hid (show Broken D' A4.files from Or.inl g3)
                  clear OP left gx g1 g2 g3 g4 hx1
                  go_wp2_with fail
                  refine (held_on HB.out).mono ?_
                  rintro e wc ⟨rfl, hH, hm⟩
                  have HC := Lib.hid hH
                  have MC := Lib.hid (MB.out.trans hm (fun j _ h => Nat.le_of_not_lt h))
                  clear hH hm
                  go_wp2_with fail
                  refine (held_arm HC.out 0 0 (by decide) (by decide) (by decide)).mono ?_
                  rintro e we ⟨rfl, hH, hm⟩
                  have HE0 := Lib.hid hH
                  have ME := Lib.hid (MC.out.trans hm (fun j _ h => Nat.le_of_not_lt h))
                  clear hH hm
                  obtain ⟨A6, hA6⟩ : ∃ A6, A6 = ({ A4 with off := false } : ADsk).arm 0 0 := ⟨_, rfl⟩
                  rw [← hA6] at HE0
                  have F6 := Lib.hid (show Broken D' A6.files ∧ A6.off = false ∧ A6.ar = 0 from by rw [hA6]; exact ⟨FB4.out, rfl, rfl⟩)
                  clear hA6
                  have LE := Lib.hid (L1.out.grown ME.out)
                  have XE := Lib.hid (ME.out.heap XB1.out (fun h => Nat.not_le_of_lt SZ1.out h))
                  have hx1 := cell_of_heap XE.out 1
                  go_wp2_with fail
                  obtain ⟨A7, e7⟩ : ∃ A7, openA A6 per = ⟨A7, 0, 1, lastStart 1 D' 1, 1 + many D', D'.flatten⟩ := by
                    rcases open_law F6.out.2.1 HE0.out.ok.rising F6.out.1 (by have := DM.out; omega) (fun e he r hr => (SM.out e he r hr).1) per hper0 with ⟨g, _⟩ | ⟨A7, g, _⟩
                    · exact absurd F6.out.2.2 g
                    · exact ⟨A7, g⟩
                  have OP := open_ok HE0.out (broken_bytes F6.out.1 SM.out) per hper0 hp1 F6.out.2.1 LE.out (fun k hk => L1.out.lt hk) (by rw [e7])
                  rw [e7] at OP
                  refine OP.mono ?_
                  rintro e wf ⟨Q7, wp7, rv7, rfl, hg, hnq, hW, hrow, hm⟩
                  have MF := Lib.hid (ME.out.trans hm (fun j _ h => Nat.le_of_not_lt h))
                  have hrow' : RowsAt wf Q7 rv7 (rowsTo P t) := by rw [← DF.out]; exact hrow
                  have RD7 := Lib.hid hrow'.rd
                  obtain ⟨ar7, cr7, hv7, _⟩ := hrow'.rd.ex
                  rw [rowsTo_length] at hv7
                  subst hv7
                  have XF := Lib.hid (MF.out.heap XB1.out (fun h => Nat.not_le_of_lt SZ1.out h))
                  clear OP hg hnq hW hrow hrow' hm e7 hx1
                  have hx0 := cell_of_heap XF.out 0
                  have hsl : ∀ W, (Instr.slice 37 (.slice (some a') n ca) none (some (.int .i64 (t : Int))) none).run Tryd.prog W = .ok (.slice (some a') t ca) W := fun W => slice_rows W (some a') n ca t (by have := TB.out; omega) hcn
                  obtain ⟨ks, hks⟩ : ∃ ks : Nat, ks = k + 1 := ⟨_, rfl⟩
                  have hks2 : (k : Int) + 1 = (ks : Nat) := by omega
                  have k1 : ¬ ((t : Int) < (k : Int)) := by have tb := TB.out; omega
                  have k2 : ¬ ((ks : Int) < (t : Int)) := by have tb := TB.out; omega
                  have k3 : ¬ ((n : Int) < (t : Int)) := by have tb := TB.out; omega
                  clear hks
                  go_wp2_with fail
                  clear k1 k2 k3 hsl hks2
                  have tb := TB.out
                  refine (alike_yes wf _ _ (rowsTo P t) RD7.out ⟨(some a'), ca, by rw [rowsTo_length], fun i x hi => by
                      obtain ⟨hi1, rfl⟩ := rowsTo_get hi
                      obtain ⟨a2, x, c, ea, hcc, hr, hp⟩ := HR1.out i (by omega)
                      exact ⟨a2, _, ea, MF.out.cell hcc (fun h => by have := World.block_lt_of_cell? w1 _ hcc; omega), reads_later hr MF.out (fun j hj h => by omega)⟩⟩ (by rw [rowsTo_length]; omega) (fun x hx => by
                      obtain ⟨i, hi, rfl⟩ := List.mem_iff_getElem.1 hx
                      obtain ⟨hi1, hx2⟩ := rowsTo_get (List.getElem?_eq_getElem hi)
                      rw [hx2]
                      obtain ⟨a2, x, c, _, hcc, hr, hp⟩ := HR1.out i (by omega)
                      omega)).mono ?_
                  rintro e wg ⟨rfl, hb⟩
                  have BG := Lib.hid ((((M1.out.mono (T := fun k => w.heap.size ≤ k) (fun _ _ h => h.elim)).trans (MF.out.trans (Mod.ofBelow hb) (fun _ _ h => h.elim)) (fun k _ h => Nat.le_trans (Nat.le_of_lt SZ1.out) h)).mono (T := fun _ => False) (fun k hk h => by omega)).toBelow)
                  clear hb tb
                  go_wp2_with fail
                  go_ret
                  exact ⟨rfl, BG.out⟩
              · rw [g1]
                rintro e w5 ⟨rfl, hW5, hm5⟩
                have S5 := Lib.hid (show LossAt w w1 (w1.heap.size + 1) wp P per #[.slice (some a') n ca, .int .i64 per, .int .i64 cut, .int .i64 keep, .int .i64 again, .int .i64 kept] (k + 1) D' W' Q w5 from
                  ⟨g2, by rw [g3, hfl, rowsTo_succ], g4, g5, hW5, S.out.grow, S.out.fresh, S.out.mod.trans hm5 (fun j _ h => by
                    rcases h with h | h
                    · exact Nat.le_of_not_lt (fun hj => h (S.out.grow j hj))
                    · have := S.out.fresh; omega), hm5.heap S.out.xb (fun h => by
                    have h1 := SZ1.out
                    rcases h with h | h
                    · exact h (S.out.grow _ h1)
                    · have := S.out.fresh; omega)⟩)
                clear gz g1 g2 g3 g4 g5 g6 hW5 hm5 hnx htk hfl
                go_wp2_with fail
                go_roundw
                case rel => exact ⟨k + 1, D', W', Q, by omega, by go_num, by go_num, S5.out⟩
                case measure => simp [intOf]; omega
            · obtain rfl : n = k := by omega
              have MX := Lib.hid S.out.mod
              have HX := Lib.hid (S.out.wal.disk.weaken (T := fun j => j < w1.heap.size) S.out.grow)
              obtain ⟨D', hD'⟩ : ∃ D', D' = D := ⟨_, rfl⟩
              have FB := Lib.hid (show Broken D' W.dsk.files from by rw [hD']; exact Or.inl S.out.jr.files)
              have SM := Lib.hid (show Small D' from by rw [hD']; exact S.out.small)
              have OC := Lib.hid (show W.dsk.off = true ∨ Calm W.dsk.files from Or.inr (by rw [S.out.jr.files]; exact segs_calm D 1))
              obtain ⟨t, ht⟩ : ∃ t, D'.flatten = rowsTo P t ∧ (n ≤ t ∧ t ≤ n + 1 ∧ t ≤ n) := ⟨n, by rw [hD', S.out.flat], by omega⟩
              have DF := Lib.hid ht.1
              have TB := Lib.hid ht.2
              have DM := Lib.hid (show many D' ≤ 2048 from by rw [many_zero, DF.out, rowsTo_length]; have := TB.out; have := COND.out.1; omega)
              clear ht hD' hk hlt
              have XX := Lib.hid (MX.out.heap XB1.out (fun h => Nat.not_le_of_lt SZ1.out h))
              have hx3 := cell_of_heap XX.out 3
              go_wp2_with fail
              refine (held_off HX.out keep hk0 hk1).mono ?_
              rintro e wa ⟨rfl, hH, hm⟩
              have HA := Lib.hid hH
              have MA := Lib.hid (MX.out.trans hm (fun j _ h => Nat.le_of_not_lt h))
              clear hH hm
              obtain ⟨A1, hA1⟩ : ∃ A1, A1 = W.dsk.goesOff keep := ⟨_, rfl⟩
              rw [← hA1] at HA
              have F1 := Lib.hid (show Broken D' A1.files from by rw [hA1, (goesOff_calm OC.out keep).2.1]; exact FB.out)
              clear hA1
              go_wp2_with fail
              refine (held_on HA.out).mono ?_
              rintro e wa2 ⟨rfl, hH, hm⟩
              have HA2 := Lib.hid hH
              have MA2 := Lib.hid (MA.out.trans hm (fun j _ h => Nat.le_of_not_lt h))
              clear hH hm hx3
              have XA := Lib.hid (MA2.out.heap XB1.out (fun h => Nat.not_le_of_lt SZ1.out h))
              have hx4 := cell_of_heap XA.out 4
              have hx5 := cell_of_heap XA.out 5
              go_wp2_with fail
              refine (held_arm HA2.out again kept ha1 he0 he1).mono ?_
              rintro e wa3 ⟨rfl, hH, hm⟩
              have HA3 := Lib.hid hH
              have MA3 := Lib.hid (MA2.out.trans hm (fun j _ h => Nat.le_of_not_lt h))
              clear hH hm hx4 hx5
              obtain ⟨A3, hA3⟩ : ∃ A3, A3 = ({ A1 with off := false } : ADsk).arm again kept := ⟨_, rfl⟩
              rw [← hA3] at HA3
              have F3 := Lib.hid (show Broken D' A3.files ∧ A3.off = false from by rw [hA3]; exact ⟨F1.out, rfl⟩)
              clear hA3
              have LA3 := Lib.hid (L1.out.grown MA3.out)
              have XA3 := Lib.hid (MA3.out.heap XB1.out (fun h => Nat.not_le_of_lt SZ1.out h))
              have hx1 := cell_of_heap XA3.out 1
              go_wp2_with fail
              have OP := open_any HA3.out (broken_bytes F3.out.1 SM.out) per hper0 hp1 F3.out.2 LA3.out (fun k hk => L1.out.lt hk)
              rcases open_law F3.out.2 HA3.out.ok.rising F3.out.1 (by have := DM.out; omega) (fun e he r hr => (SM.out e he r hr).1) per hper0 with ⟨gx, A4, g1, g2, g3, g4⟩ | ⟨A4, g1, g2, g3, g4, gx⟩
              · rw [g1] at OP
                refine OP.mono ?_
                rintro e wb ⟨Qb, left, ⟨h0, _⟩ | ⟨_, rfl⟩⟩
                · exact absurd h0 (show ¬ ((20 : Int) = 0) by decide)
                have HB := Lib.hid (left.disk.weaken (T := fun j => j < w1.heap.size) left.grow)
                have MB := Lib.hid (MA3.out.trans left.mod (fun j _ h => Nat.le_of_not_lt h))
                have FB4 := Lib.hid g3
                have OFF4 := Lib.hid g2
                clear OP left gx g1 g2 g3 g4 hx1
                go_wp2_with fail
                refine (held_down HB.out).mono ?_
                rw [show ({ dsk := A4, er := 20, first := 0, wf := 0, wn := 0, out := [] } : OpenR).dsk.off = true from OFF4.out]
                rintro e wb' ⟨rfl, rfl⟩
                go_wp2_with fail
                refine (held_on HB.out).mono ?_
                rintro e wc ⟨rfl, hH, hm⟩
                have HC := Lib.hid hH
                have MC := Lib.hid (MB.out.trans hm (fun j _ h => Nat.le_of_not_lt h))
                clear hH hm
                go_wp2_with fail
                refine (held_arm HC.out 0 0 (by decide) (by decide) (by decide)).mono ?_
                rintro e we ⟨rfl, hH, hm⟩
                have HE0 := Lib.hid hH
                have ME := Lib.hid (MC.out.trans hm (fun j _ h => Nat.le_of_not_lt h))
                clear hH hm
                obtain ⟨A6, hA6⟩ : ∃ A6, A6 = ({ A4 with off := false } : ADsk).arm 0 0 := ⟨_, rfl⟩
                rw [← hA6] at HE0
                have F6 := Lib.hid (show Broken D' A6.files ∧ A6.off = false ∧ A6.ar = 0 from by rw [hA6]; exact ⟨FB4.out, rfl, rfl⟩)
                clear hA6
                have LE := Lib.hid (L1.out.grown ME.out)
                have XE := Lib.hid (ME.out.heap XB1.out (fun h => Nat.not_le_of_lt SZ1.out h))
                have hx1 := cell_of_heap XE.out 1
                go_wp2_with fail
                obtain ⟨A7, e7⟩ : ∃ A7, openA A6 per = ⟨A7, 0, 1, lastStart 1 D' 1, 1 + many D', D'.flatten⟩ := by
                  rcases open_law F6.out.2.1 HE0.out.ok.rising F6.out.1 (by have := DM.out; omega) (fun e he r hr => (SM.out e he r hr).1) per hper0 with ⟨g, _⟩ | ⟨A7, g, _⟩
                  · exact absurd F6.out.2.2 g
                  · exact ⟨A7, g⟩
                have OP := open_ok HE0.out (broken_bytes F6.out.1 SM.out) per hper0 hp1 F6.out.2.1 LE.out (fun k hk => L1.out.lt hk) (by rw [e7])
                rw [e7] at OP
                refine OP.mono ?_
                rintro e wf ⟨Q7, wp7, rv7, rfl, hg, hnq, hW, hrow, hm⟩
                have MF := Lib.hid (ME.out.trans hm (fun j _ h => Nat.le_of_not_lt h))
                have hrow' : RowsAt wf Q7 rv7 (rowsTo P t) := by rw [← DF.out]; exact hrow
                have RD7 := Lib.hid hrow'.rd
                obtain ⟨ar7, cr7, hv7, _⟩ := hrow'.rd.ex
                rw [rowsTo_length] at hv7
                subst hv7
                have XF := Lib.hid (MF.out.heap XB1.out (fun h => Nat.not_le_of_lt SZ1.out h))
                clear OP hg hnq hW hrow hrow' hm e7 hx1
                have hx0 := cell_of_heap XF.out 0
                have hsl : ∀ W, (Instr.slice 37 (.slice a n ca) none (some (.int .i64 (t : Int))) none).run Tryd.prog W = .ok (.slice a t ca) W := fun W => slice_rows W a n ca t (by have := TB.out; omega) hcn
                obtain ⟨ks, hks⟩ : ∃ ks : Nat, ks = n + 1 := ⟨_, rfl⟩
                have hks2 : (n : Int) + 1 = (ks : Nat) := by omega
                have k1 : ¬ ((t : Int) < (n : Int)) := by have tb := TB.out; omega
                have k2 : ¬ ((ks : Int) < (t : Int)) := by have tb := TB.out; omega
                have k3 : ¬ ((n : Int) < (t : Int)) := by have tb := TB.out; omega
                clear hks
                go_wp2_with fail
                clear k1 k2 k3 hsl hks2
                have tb := TB.out
                refine (alike_yes wf _ _ (rowsTo P t) RD7.out ⟨a, ca, by rw [rowsTo_length], fun i x hi => by
                    obtain ⟨hi1, rfl⟩ := rowsTo_get hi
                    obtain ⟨a2, x, c, ea, hcc, hr, hp⟩ := HR1.out i (by omega)
                    exact ⟨a2, _, ea, MF.out.cell hcc (fun h => by have := World.block_lt_of_cell? w1 _ hcc; omega), reads_later hr MF.out (fun j hj h => by omega)⟩⟩ (by rw [rowsTo_length]; omega) (fun x hx => by
                    obtain ⟨i, hi, rfl⟩ := List.mem_iff_getElem.1 hx
                    obtain ⟨hi1, hx2⟩ := rowsTo_get (List.getElem?_eq_getElem hi)
                    rw [hx2]
                    obtain ⟨a2, x, c, _, hcc, hr, hp⟩ := HR1.out i (by omega)
                    omega)).mono ?_
                rintro e wg ⟨rfl, hb⟩
                have BG := Lib.hid ((((M1.out.mono (T := fun k => w.heap.size ≤ k) (fun _ _ h => h.elim)).trans (MF.out.trans (Mod.ofBelow hb) (fun _ _ h => h.elim)) (fun k _ h => Nat.le_trans (Nat.le_of_lt SZ1.out) h)).mono (T := fun _ => False) (fun k hk h => by omega)).toBelow)
                clear hb tb
                go_wp2_with fail
                go_ret
                exact ⟨rfl, BG.out⟩
              · rw [g1] at OP
                refine OP.mono ?_
                rintro e wb ⟨Qb, left, ⟨_, wpb, rvb, rfl, _⟩ | ⟨h0, _⟩⟩
                case inr => exact absurd rfl h0
                have HB := Lib.hid (left.disk.weaken (T := fun j => j < w1.heap.size) left.grow)
                have MB := Lib.hid (MA3.out.trans left.mod (fun j _ h => Nat.le_of_not_lt h))
                have FB4 := Lib.hid (show Broken D' A4.files from Or.inl g3)
                clear OP left gx g1 g2 g3 g4 hx1
                go_wp2_with fail
                refine (held_on HB.out).mono ?_
                rintro e wc ⟨rfl, hH, hm⟩
                have HC := Lib.hid hH
                have MC := Lib.hid (MB.out.trans hm (fun j _ h => Nat.le_of_not_lt h))
                clear hH hm
                go_wp2_with fail
                refine (held_arm HC.out 0 0 (by decide) (by decide) (by decide)).mono ?_
                rintro e we ⟨rfl, hH, hm⟩
                have HE0 := Lib.hid hH
                have ME := Lib.hid (MC.out.trans hm (fun j _ h => Nat.le_of_not_lt h))
                clear hH hm
                obtain ⟨A6, hA6⟩ : ∃ A6, A6 = ({ A4 with off := false } : ADsk).arm 0 0 := ⟨_, rfl⟩
                rw [← hA6] at HE0
                have F6 := Lib.hid (show Broken D' A6.files ∧ A6.off = false ∧ A6.ar = 0 from by rw [hA6]; exact ⟨FB4.out, rfl, rfl⟩)
                clear hA6
                have LE := Lib.hid (L1.out.grown ME.out)
                have XE := Lib.hid (ME.out.heap XB1.out (fun h => Nat.not_le_of_lt SZ1.out h))
                have hx1 := cell_of_heap XE.out 1
                go_wp2_with fail
                obtain ⟨A7, e7⟩ : ∃ A7, openA A6 per = ⟨A7, 0, 1, lastStart 1 D' 1, 1 + many D', D'.flatten⟩ := by
                  rcases open_law F6.out.2.1 HE0.out.ok.rising F6.out.1 (by have := DM.out; omega) (fun e he r hr => (SM.out e he r hr).1) per hper0 with ⟨g, _⟩ | ⟨A7, g, _⟩
                  · exact absurd F6.out.2.2 g
                  · exact ⟨A7, g⟩
                have OP := open_ok HE0.out (broken_bytes F6.out.1 SM.out) per hper0 hp1 F6.out.2.1 LE.out (fun k hk => L1.out.lt hk) (by rw [e7])
                rw [e7] at OP
                refine OP.mono ?_
                rintro e wf ⟨Q7, wp7, rv7, rfl, hg, hnq, hW, hrow, hm⟩
                have MF := Lib.hid (ME.out.trans hm (fun j _ h => Nat.le_of_not_lt h))
                have hrow' : RowsAt wf Q7 rv7 (rowsTo P t) := by rw [← DF.out]; exact hrow
                have RD7 := Lib.hid hrow'.rd
                obtain ⟨ar7, cr7, hv7, _⟩ := hrow'.rd.ex
                rw [rowsTo_length] at hv7
                subst hv7
                have XF := Lib.hid (MF.out.heap XB1.out (fun h => Nat.not_le_of_lt SZ1.out h))
                clear OP hg hnq hW hrow hrow' hm e7 hx1
                have hx0 := cell_of_heap XF.out 0
                have hsl : ∀ W, (Instr.slice 37 (.slice a n ca) none (some (.int .i64 (t : Int))) none).run Tryd.prog W = .ok (.slice a t ca) W := fun W => slice_rows W a n ca t (by have := TB.out; omega) hcn
                obtain ⟨ks, hks⟩ : ∃ ks : Nat, ks = n + 1 := ⟨_, rfl⟩
                have hks2 : (n : Int) + 1 = (ks : Nat) := by omega
                have k1 : ¬ ((t : Int) < (n : Int)) := by have tb := TB.out; omega
                have k2 : ¬ ((ks : Int) < (t : Int)) := by have tb := TB.out; omega
                have k3 : ¬ ((n : Int) < (t : Int)) := by have tb := TB.out; omega
                clear hks
                go_wp2_with fail
                clear k1 k2 k3 hsl hks2
                have tb := TB.out
                refine (alike_yes wf _ _ (rowsTo P t) RD7.out ⟨a, ca, by rw [rowsTo_length], fun i x hi => by
                    obtain ⟨hi1, rfl⟩ := rowsTo_get hi
                    obtain ⟨a2, x, c, ea, hcc, hr, hp⟩ := HR1.out i (by omega)
                    exact ⟨a2, _, ea, MF.out.cell hcc (fun h => by have := World.block_lt_of_cell? w1 _ hcc; omega), reads_later hr MF.out (fun j hj h => by omega)⟩⟩ (by rw [rowsTo_length]; omega) (fun x hx => by
                    obtain ⟨i, hi, rfl⟩ := List.mem_iff_getElem.1 hx
                    obtain ⟨hi1, hx2⟩ := rowsTo_get (List.getElem?_eq_getElem hi)
                    rw [hx2]
                    obtain ⟨a2, x, c, _, hcc, hr, hp⟩ := HR1.out i (by omega)
                    omega)).mono ?_
                rintro e wg ⟨rfl, hb⟩
                have BG := Lib.hid ((((M1.out.mono (T := fun k => w.heap.size ≤ k) (fun _ _ h => h.elim)).trans (MF.out.trans (Mod.ofBelow hb) (fun _ _ h => h.elim)) (fun k _ h => Nat.le_trans (Nat.le_of_lt SZ1.out) h)).mono (T := fun _ => False) (fun k hk h => by omega)).toBelow)
                clear hb tb
                go_wp2_with fail
                go_ret
                exact ⟨rfl, BG.out⟩
end Go.Proofs.YtmpdmejlpicdlaaDoor

/- WalFull, walked. -/
import Derived.Test.YtmpdmejlpicdlaaDoorDiskIn
import Derived.Test.YtmpdmejlpicdlaaDoorWalW
import Derived.Test.YtmpdmejlpicdlaaDoorWalJ
namespace Go.Proofs.YtmpdmejlpicdlaaDoor
open Go.RowKit Go.Bw Go.Maps
set_option linter.unusedVariables false
set_option linter.unusedSimpArgs false

theorem slice_rowsF (w : World) (a : Option Addr) (n ca t : Nat) (h : t ≤ ca) (hn : a = none → n = 0 ∧ ca = 0) :
    (Instr.slice 37 (.slice a n ca) none (some (.int .i64 (t : Int))) none).run Tryd.prog w = .ok (.slice a t ca) w := by
  have ht := Tryd.underlying37
  have h1 : (t : Int) ≤ (ca : Int) := by omega
  have h2 : ¬ ((ca : Int) < t) := by omega
  have h3 : ¬ (ca < t) := by omega
  cases a with
  | none =>
    obtain ⟨rfl, rfl⟩ := hn rfl
    obtain rfl : t = 0 := by omega
    simp [Instr.slice, go_sem, run_underlying ht]
  | some a =>
    simp [Instr.slice, go_sem, run_underlying ht, h, h1, h2, h3]
variable {O : Nat → Prop} {w w' : World} {d : Nat} {A A' : ADsk}
theorem wheld_room (h : Held O w d A) (n : Int) :
    Calls Tryd.prog 37 #[.pointer (some ⟨d, 0, none⟩), .int .i64 n] w (HStep O w d (.tuple #[]) { A with room := n }) :=
  held_of h (fun D hd e hk => by subst e; exact room_any hd n)
theorem WalAt.fresh {Q T : Nat → Prop} {wp : Nat} {W : AWal} (h : WalAt Q w wp d W) (hm : Mod T w w') (hT : ∀ k, k < w.heap.size → T k → Q k ∧ k ≠ wp) : WalAt (fun k => Q k ∨ (w.heap.size ≤ k ∧ k < w'.heap.size)) w' wp d W :=
  ⟨hm.heap h.cells (fun ht => (hT wp (lt_of_heap h.cells) ht).2 rfl), Or.inl h.own, h.disk.fresh hm (fun k h1 h2 => (hT k h1 h2).1)⟩
theorem Jr.room {per : Int} {D : List (List (List Int))} {W : AWal} (h : Jr per D W) (n : Int) : Jr per D { W with dsk := { W.dsk with room := n } } := ⟨h.files, h.on, h.shape, h.next, h.sick, h.per⟩

/-- The rows that were taken: a slice of the call's own, of rows that came in. -/
structure Took (w1 : World) (Q : Nat → Prop) (wp : Nat) (v : Value) (T : List (List Int)) (wr : World) : Prop where
  ex : ∃ vs : List Value, wr.ownsRow 0 22 1 v T.length vs ∧ ∀ (i : Nat) (x : List Int), T[i]? = some x → ∃ u, vs[i]? = some u ∧ u.oneCell' = true ∧ Reads w1 1 u x.length (bcells x)
  own : ∀ j, v.ownBlock = some j → Q j ∧ j ≠ wp ∧ w1.heap.size ≤ j
theorem Took.mod {w1 : World} {Q S : Nat → Prop} {wp : Nat} {v : Value} {T : List (List Int)} (h : Took w1 Q wp v T w) (hm : Mod S w w') (hS : ∀ j, S j → ¬ Q j ∨ j = wp) : Took w1 Q wp v T w' := by
  obtain ⟨vs, h1, h2⟩ := h.ex
  exact ⟨⟨vs, ownsRow_kept h1 (fun k hk => hm.block k (h1.lt k hk).2 (fun hs => by
    obtain ⟨g1, g2, _⟩ := h.own k hk
    rcases hS k hs with h | h
    · exact h g1
    · exact g2 h)), h2⟩, h.own⟩
theorem Took.rd {w1 : World} {Q : Nat → Prop} {wp : Nat} {v : Value} {T : List (List Int)} (h : Took w1 Q wp v T w) (hm : Mod (fun j => w1.heap.size ≤ j) w1 w) : RowsRd w v T := by
  obtain ⟨vs, h1, h2⟩ := h.ex
  obtain ⟨a, c, rfl, _⟩ := ownsRow_slice h1
  refine ⟨a, c, rfl, fun i x hi => ?_⟩
  obtain ⟨u, h3, _, h4⟩ := h2 i x hi
  obtain ⟨_, hr⟩ := ownsRow_reads h1
  rcases hr with ⟨_, _, h0⟩ | ⟨a', c', e, hc⟩
  · have := (List.getElem?_eq_some_iff.1 hi).1; omega
  · cases e
    exact ⟨a', u, rfl, hc i u h3, reads_later h4 hm (fun j hj h => by omega)⟩
theorem took_app {w1 : World} {Q : Nat → Prop} {wp : Nat} {v u : Value} {T : List (List Int)} {x : List Int} (h : Took w1 Q wp v T w) (hx : Reads w1 1 u x.length (bcells x)) (hu : u.oneCell' = true) (hl : T.length ≤ 1000000) (hwp : wp < w.heap.size) (hw : w1.heap.size ≤ w.heap.size) :
    ∃ v' w3, (Builtin.append_ #[37, 37] 37 #[v, .slice (some ⟨w.heap.size, 0, none⟩) 1 1]).run Tryd.prog (w.alloc (.cells #[u] 22)) = .ok v' w3 ∧
      Took w1 (fun k => Q k ∨ (w.heap.size ≤ k ∧ k < w3.heap.size)) wp v' (T ++ [x]) w3 ∧ Mod (fun k => v.ownBlock = some k) w w3 := by
  obtain ⟨vs, h1, h2⟩ := h.ex
  have m0 := (Mod.refl (fun _ => False) w).alloc (.cells #[u] 22)
  have h1' := ownsRow_kept h1 (fun k hk => m0.block k (h1.lt k hk).2 (fun h => h))
  have hvl := ownsRow_len h1
  obtain ⟨i0, hi, hz0, hz1, hz2⟩ := info_parts TRow.info
  obtain ⟨v', w3, hrun, ho3, hm3, hb3, _⟩ := run_append_to (P := Tryd.prog) 37 37 22 i0 (.slice none 0 0) 1 24 Tryd.underlying37 hi hz0 hz1 hz2 rfl (by decide) v _ _ h1' _ 1 [u] (reads_one w u _) (fun y hy => by rcases List.mem_singleton.1 hy with rfl; exact hu) (by unfold maxLen; omega) (by omega)
  refine ⟨v', w3, hrun, ⟨⟨vs ++ [u], by rw [List.length_append]; exact ho3, fun i y hi => ?_⟩, fun j hj => ?_⟩, (m0.mono (T := fun k => v.ownBlock = some k) (fun _ _ h => h.elim)).trans hm3 (fun _ _ h => h)⟩
  · by_cases hlt : i < T.length
    · rw [List.getElem?_append_left hlt] at hi
      obtain ⟨z, g1, g2⟩ := h2 i y hi
      exact ⟨z, by rw [List.getElem?_append_left (by omega)]; exact g1, g2⟩
    · rw [List.getElem?_append_right (by omega)] at hi
      have hi0 : i - T.length = 0 := by have := (List.getElem?_eq_some_iff.1 hi).1; simpa using this
      rw [hi0] at hi
      have hxy : x = y := by simpa using hi
      subst hxy
      exact ⟨u, by rw [List.getElem?_append_right (by omega), hvl, hi0]; rfl, hu, hx⟩
  · have hj3 : j < w3.heap.size := (ho3.lt j hj).2
    rcases hb3 j hj with h5 | h5
    · obtain ⟨g1, g2, g3⟩ := h.own j h5
      exact ⟨Or.inl g1, g2, g3⟩
    · have : w.heap.size ≤ j := by simp at h5; omega
      exact ⟨Or.inr ⟨this, hj3⟩, by omega, by omega⟩
/-- Behind k records. -/
structure FullAt (w1 : World) (d wp : Nat) (per : Int) (k : Nat) (T : List (List Int)) (D : List (List (List Int))) (W : AWal) (v : Value) (Q : Nat → Prop) (wr : World) : Prop where
  jr : Jr per D W
  flat : D.flatten = T
  small : Small D
  ar : W.dsk.ar = 0
  wal : WalAt Q wr wp d W
  grow : ∀ j, j < w1.heap.size → Q j
  fresh : w1.heap.size ≤ wp
  mod : Mod (fun j => w1.heap.size ≤ j) w1 wr
  took : Took w1 Q wp v T wr
  tl : T.length ≤ k
  te : ends T ≤ 1032 * k

set_option maxRecDepth 100000 in
set_option maxHeartbeats 16000000 in
theorem wfull_walk (w : World) (a : Option Addr) (n ca : Nat) (P : Nat → List Int) (per : Int) (b : Option Addr) (m cb : Nat) (hR : RowsIn w a n P) (hF : IntsIn w b m) (hBy : ∀ k, k < n → Bytes (P k)) (hL : Laid w) (hn : n ≤ 140737488351232) (hm : m ≤ 140737488351232)
    (hp1 : per ≤ 9223372036854775807) (hp0 : -9223372036854775808 ≤ per) :
    Calls Tryd.prog 8 #[.slice a n ca, .int .i64 per, .slice b m cb] w (SaysOut w true) := by
  have HR := Lib.hid hR
  have HF := Lib.hid hF
  have HL := Lib.hid hL
  have HBY := Lib.hid hBy
  clear hR hF hL hBy
  have kc := fun (w : World) (C : Array Value) (n c : Nat) => Lib.run_convert_bytes_const (P := Tryd.prog) w 22 5 C n c Tryd.underlying22 Tryd.underlying5
  go_enter Tryd.func8, Tryd.ntmps8
  go_wp2_with fail
  refine (wwakes_any w HL.out).mono ?_
  rintro e w1 ⟨rfl, hb⟩
  have M1 := Lib.hid (Mod.ofBelow hb)
  have B1 := Lib.hid hb
  have L1 := Lib.hid (HL.out.below hb)
  have HR1 := Lib.hid (show RowsIn w1 a n P from fun k hk => by
    obtain ⟨a', x, c, e, hcc, hr, hp⟩ := HR.out k hk
    exact ⟨a', x, c, e, M1.out.cell hcc (fun h => h), Reads.kept hr M1.out (fun _ _ h => h), hp⟩)
  have HF1 := Lib.hid (show IntsIn w1 b m from fun k hk => by
    obtain ⟨b', x, e, hcc⟩ := HF.out k hk
    exact ⟨b', x, e, M1.out.cell hcc (fun h => h)⟩)
  clear hb
  by_cases hper : per < 1
  · go_wp2_with fail
    go_ret
    exact ⟨rfl, B1.out⟩
  have hper0 : 1 ≤ per := by omega
  clear hper
  by_cases hbig : 200 < n
  · by_cases hm : per < 1048576
    · go_wp2_with fail
      all_goals (go_ret; exact ⟨rfl, B1.out⟩)
    · go_wp2_with fail
      all_goals (go_ret; exact ⟨rfl, B1.out⟩)
  by_cases hm : per < 1048576
  · by_cases h15 : 14 * per < (n : Int)
    · go_wp2_with fail
      go_ret
      exact ⟨rfl, B1.out⟩
    · have COND := Lib.hid (show n ≤ 200 ∧ ((n : Int) ≤ 14 * per ∨ 1048576 ≤ per) from ⟨by omega, Or.inl (by omega)⟩)
      go_wp2_with fail
      refine (held_new w1 1048576).mono ?_
      rintro e w2 ⟨rfl, hH, hb, hsz⟩
      have H2 := Lib.hid hH
      have M2 := Lib.hid (Mod.ofBelow hb)
      have L2 := Lib.hid (L1.out.below hb)
      clear hH hb hsz
      go_wp2_with fail
      have OE := open_empty (A := ADsk.new 1048576) rfl rfl per hper0
      have OP := open_ok H2.out (by intro p hp; cases hp) per hper0 hp1 rfl L2.out (fun k hk => L1.out.lt hk) (by rw [OE])
      rw [OE] at OP
      refine OP.mono ?_
      rintro e w4 ⟨Q4, wp, rv, rfl, hg, hnq, hW, hrow, hm⟩
      have START := Lib.hid (show FullAt w1 (w1.heap.size + 1) wp per 0 [] [] ⟨ADsk.new 1048576, per, 1, 1, 0⟩ (.slice none 0 0) Q4 w4 from
        ⟨⟨rfl, rfl, Or.inl ⟨rfl, rfl⟩, rfl, rfl, rfl⟩, rfl, (fun e he => by cases he), rfl, hW, hg, Nat.le_of_not_lt hnq, (M2.out.mono (T := fun j => w1.heap.size ≤ j) (fun _ _ h => h.elim)).trans hm (fun j _ h => Nat.le_of_not_lt h), ⟨⟨[], World.ownsRow_nil _ _ _ _, (fun i x h => by simp at h)⟩, (fun j h => by cases h)⟩, Nat.zero_le _, Nat.zero_le _⟩)
      obtain ⟨vsr, hvsr, _⟩ := hrow.ex
      obtain ⟨arv, crv, rfl, _⟩ := ownsRow_slice hvsr
      clear OP OE hg hnq hW hrow hm hvsr
      go_wp2_with fail
      go_loopw [12, 55] (fun v i wr => ∃ (k : Nat) (TT : List (List Int)) (D : List (List (List Int))) (W : AWal) (Q : Nat → Prop), k ≤ n ∧ i = .int .i64 k ∧ FullAt w1 (w1.heap.size + 1) wp per k TT D W v Q wr) (fun _ i _ => n - (intOf i).toNat)
      case atStart => exact ⟨0, [], [], _, Q4, Nat.zero_le _, rfl, START.out⟩
      case round =>
        obtain ⟨k, TT, D, W, Q, hk, rfl, hS⟩ := hrel
        have S := Lib.hid hS
        clear hS
        have HMANY := Lib.hid (show many D = TT.length from by rw [many_zero, S.out.flat])
        have hnx := Lib.hid (show W.next = (TT.length : Int) + 1 from by rw [S.out.jr.next, HMANY.out]; omega)
        have S2 := Lib.hid (show (0 ≤ W.first ∧ W.first ≤ 2000000000) ∧ (0 ≤ W.next ∧ W.next ≤ 2000000000) from by
            have hm := HMANY.out
            have htl := S.out.tl
            have cd := COND.out.1
            have hx := hnx.out
            refine ⟨?_, by omega⟩
            rcases S.out.jr.shape with ⟨_, h⟩ | ⟨C, c, h1, _, _, _, h⟩
            · omega
            · have : many D = many C + c.length := by rw [h1, many_append]; simp [many]
              omega)
        by_cases hlt : k < n
        · obtain ⟨a', x, c, rfl, hcc, hr, hp⟩ := HR1.out k hlt
          have hc := (S.out.mod.cell hcc (fun h => by have := World.block_lt_of_cell? w1 _ hcc; omega))
          have RX := Lib.hid hr
          have HB0 := Lib.hid (HBY.out k hlt)
          clear hcc hr
          by_cases hlen : 1024 < (P k).length
          · have hlen' : (1024 : Int) < (P k).length := by omega
            have BR := Lib.hid (show Below w.heap.size w wr from by
              exact (((M1.out.mono (T := fun j => w.heap.size ≤ j) (fun _ _ h => h.elim)).trans S.out.mod (fun j _ h => Nat.le_trans B1.out.size h)).mono (T := fun _ => False) (fun k hk h => by omega)).toBelow)
            go_wp2_with fail
            go_ret
            exact ⟨rfl, BR.out⟩
          have hlen' : ¬ (1024 : Int) < (P k).length := by omega
          have TE := S.out.te
          have c200 := COND.out.1
          by_cases hkm : k < m
          · obtain ⟨b', y, rfl, hcb⟩ := HF1.out k hkm
            have hcy := (S.out.mod.cell hcb (fun h => by have := World.block_lt_of_cell? w1 _ hcb; omega))
            clear hcb
            go_wp2_with fail
            refine (wheld_room S.out.wal.disk y).mono ?_
            rintro e w5 ⟨rfl, hH, hmm⟩
            have S' := Lib.hid (show FullAt w1 (w1.heap.size + 1) wp per k TT D { W with dsk := { W.dsk with room := y } } u12 Q w5 from
              ⟨S.out.jr.room y, S.out.flat, S.out.small, S.out.ar, ⟨hmm.heap S.out.wal.cells (fun h => h S.out.wal.own), S.out.wal.own, hH⟩, S.out.grow, S.out.fresh, S.out.mod.trans hmm (fun j _ h => Nat.le_of_not_lt (fun hj => h (S.out.grow j hj))), S.out.took.mod hmm (fun j h => Or.inl h), S.out.tl, S.out.te⟩)
            have hnx' := Lib.hid (show ({ W with dsk := { W.dsk with room := y } } : AWal).next = (TT.length : Int) + 1 from hnx.out)
            have S2' := Lib.hid (show (0 ≤ ({ W with dsk := { W.dsk with room := y } } : AWal).first ∧ ({ W with dsk := { W.dsk with room := y } } : AWal).first ≤ 2000000000) ∧ (0 ≤ ({ W with dsk := { W.dsk with room := y } } : AWal).next ∧ ({ W with dsk := { W.dsk with room := y } } : AWal).next ≤ 2000000000) from S2.out)
            clear hH hmm hcy hc S hnx S2
            generalize ({ W with dsk := { W.dsk with room := y } } : AWal) = W2 at S' hnx' S2'
            have S := S'
            have S2 := S2'
            have hnx := hnx'
            clear S' S2' hnx'
            have J := jr_append S.out.jr hper0 S.out.small (by rw [HMANY.out]; have h1 := COND.out.1; have h2 := S.out.tl; omega) (by rw [S.out.flat]; omega) (r := P k) (by omega) HB0.out
            have AP := walAppend_any S.out.wal S2.out.1 S2.out.2 (.slice x (P k).length c) (P k) (reads_later RX.out S.out.mod (fun j hj h => by omega)) (by omega) (L1.out.grown S.out.mod)
            go_wp2_with fail
            refine AP.mono ?_
            clear AP
            rcases J with ⟨g1, gz⟩ | ⟨gz, ⟨g0, _⟩ | ⟨W', D', g1, g2, g3, g4, g5, g6⟩⟩
            · rw [g1]
              rintro e w6 ⟨rfl, hW6, hm6⟩
              have S6 := Lib.hid (show FullAt w1 (w1.heap.size + 1) wp per (k + 1) TT D W2 u12 Q w6 from
                ⟨S.out.jr, S.out.flat, S.out.small, S.out.ar, hW6, S.out.grow, S.out.fresh, S.out.mod.trans hm6 (fun j _ h => by
                  rcases h with h | h
                  · exact Nat.le_of_not_lt (fun hj => h (S.out.grow j hj))
                  · have := S.out.fresh; omega), S.out.took.mod hm6 (fun j h => h), by have := S.out.tl; omega, by have := S.out.te; omega⟩)
              clear gz g1 hW6 hm6
              go_wp2_with fail
              go_roundw
              case rel => exact ⟨k + 1, TT, D, W2, Q, by omega, by go_num, S6.out⟩
              case measure => simp [intOf]; omega
            · exact absurd S.out.ar g0
            · rw [hnx.out] at g1
              rw [g1]
              rintro e w6 ⟨rfl, hW6, hm6⟩
              have M6 := Lib.hid (S.out.mod.trans hm6 (fun j _ h => by
                  rcases h with h | h
                  · exact Nat.le_of_not_lt (fun hj => h (S.out.grow j hj))
                  · have := S.out.fresh; omega))
              have T6 := Lib.hid (S.out.took.mod hm6 (fun j h => h))
              have W6 := Lib.hid hW6
              have TLN := Lib.hid S.out.tl
              obtain ⟨v7, w7, R7, T7, M7⟩ := took_app T6.out (u := .slice x (P k).length c) (x := P k) RX.out rfl (by have := TLN.out; have := COND.out.1; omega) (lt_of_heap hW6.cells) M6.out.size
              obtain ⟨Z, hZ⟩ : ∃ Z, Z = TT ++ [P k] := ⟨_, rfl⟩
              rw [← hZ] at T7
              have ZL := Lib.hid (show Z.length = TT.length + 1 from by rw [hZ]; simp)
              have S7 := Lib.hid (show FullAt w1 (w1.heap.size + 1) wp per (k + 1) Z D' W' v7 _ w7 from
                ⟨g2, by rw [g3, S.out.flat, hZ], g4, g6 S.out.ar, W6.out.fresh M7 (fun j _ h => ⟨(T6.out.own j h).1, (T6.out.own j h).2.1⟩), fun j hj => Or.inl (S.out.grow j hj), S.out.fresh, M6.out.trans M7 (fun j _ h => (T6.out.own j h).2.2), T7, by rw [ZL.out]; have := TLN.out; omega, by rw [hZ, ends_append, ends_one]; have := S.out.te; omega⟩)
              have R7' := Lib.hid R7
              obtain ⟨vs7, hvs7, _⟩ := T7.ex
              obtain ⟨a7, c7, rfl, _⟩ := ownsRow_slice hvs7
              have hzl : (Z.length : Int) = (TT.length : Int) + 1 := by have := ZL.out; omega
              clear gz hZ g1 g2 g3 g4 g5 g6 hW6 hm6 R7 T7 M7 hvs7
              go_wp2_with (at_builtin; refine wpList_append_run rfl (.tmp 87) (.tmp 89) 37 rfl rfl rfl R7'.out ?_)
              go_roundw
              case rel => exact ⟨k + 1, Z, D', W', _, by omega, by go_num, S7.out⟩
              case measure => simp [intOf]; omega
          · have HKM := Lib.hid hkm
            have J := jr_append S.out.jr hper0 S.out.small (by rw [HMANY.out]; have h1 := COND.out.1; have h2 := S.out.tl; omega) (by rw [S.out.flat]; omega) (r := P k) (by omega) HB0.out
            have AP := walAppend_any S.out.wal S2.out.1 S2.out.2 (.slice x (P k).length c) (P k) (reads_later RX.out S.out.mod (fun j hj h => by omega)) (by omega) (L1.out.grown S.out.mod)
            go_wp2_with fail
            refine AP.mono ?_
            clear AP
            rcases J with ⟨g1, gz⟩ | ⟨gz, ⟨g0, _⟩ | ⟨W', D', g1, g2, g3, g4, g5, g6⟩⟩
            · rw [g1]
              rintro e w6 ⟨rfl, hW6, hm6⟩
              have S6 := Lib.hid (show FullAt w1 (w1.heap.size + 1) wp per (k + 1) TT D W u12 Q w6 from
                ⟨S.out.jr, S.out.flat, S.out.small, S.out.ar, hW6, S.out.grow, S.out.fresh, S.out.mod.trans hm6 (fun j _ h => by
                  rcases h with h | h
                  · exact Nat.le_of_not_lt (fun hj => h (S.out.grow j hj))
                  · have := S.out.fresh; omega), S.out.took.mod hm6 (fun j h => h), by have := S.out.tl; omega, by have := S.out.te; omega⟩)
              clear gz g1 hW6 hm6
              go_wp2_with fail
              go_roundw
              case rel => exact ⟨k + 1, TT, D, W, Q, by omega, by go_num, S6.out⟩
              case measure => simp [intOf]; omega
            · exact absurd S.out.ar g0
            · rw [hnx.out] at g1
              rw [g1]
              rintro e w6 ⟨rfl, hW6, hm6⟩
              have M6 := Lib.hid (S.out.mod.trans hm6 (fun j _ h => by
                  rcases h with h | h
                  · exact Nat.le_of_not_lt (fun hj => h (S.out.grow j hj))
                  · have := S.out.fresh; omega))
              have T6 := Lib.hid (S.out.took.mod hm6 (fun j h => h))
              have W6 := Lib.hid hW6
              have TLN := Lib.hid S.out.tl
              obtain ⟨v7, w7, R7, T7, M7⟩ := took_app T6.out (u := .slice x (P k).length c) (x := P k) RX.out rfl (by have := TLN.out; have := COND.out.1; omega) (lt_of_heap hW6.cells) M6.out.size
              obtain ⟨Z, hZ⟩ : ∃ Z, Z = TT ++ [P k] := ⟨_, rfl⟩
              rw [← hZ] at T7
              have ZL := Lib.hid (show Z.length = TT.length + 1 from by rw [hZ]; simp)
              have S7 := Lib.hid (show FullAt w1 (w1.heap.size + 1) wp per (k + 1) Z D' W' v7 _ w7 from
                ⟨g2, by rw [g3, S.out.flat, hZ], g4, g6 S.out.ar, W6.out.fresh M7 (fun j _ h => ⟨(T6.out.own j h).1, (T6.out.own j h).2.1⟩), fun j hj => Or.inl (S.out.grow j hj), S.out.fresh, M6.out.trans M7 (fun j _ h => (T6.out.own j h).2.2), T7, by rw [ZL.out]; have := TLN.out; omega, by rw [hZ, ends_append, ends_one]; have := S.out.te; omega⟩)
              have R7' := Lib.hid R7
              obtain ⟨vs7, hvs7, _⟩ := T7.ex
              obtain ⟨a7, c7, rfl, _⟩ := ownsRow_slice hvs7
              have hzl : (Z.length : Int) = (TT.length : Int) + 1 := by have := ZL.out; omega
              clear gz hZ g1 g2 g3 g4 g5 g6 hW6 hm6 R7 T7 M7 hvs7
              go_wp2_with (at_builtin; refine wpList_append_run rfl (.tmp 87) (.tmp 89) 37 rfl rfl rfl R7'.out ?_)
              go_roundw
              case rel => exact ⟨k + 1, Z, D', W', _, by omega, by go_num, S7.out⟩
              case measure => simp [intOf]; omega
        · obtain rfl : n = k := by omega
          go_wp2_with fail
          refine (wheld_room S.out.wal.disk 1048576).mono ?_
          rintro e w5 ⟨rfl, hH, hmm⟩
          have S' := Lib.hid (show FullAt w1 (w1.heap.size + 1) wp per n TT D { W with dsk := { W.dsk with room := 1048576 } } u12 Q w5 from
            ⟨S.out.jr.room 1048576, S.out.flat, S.out.small, S.out.ar, ⟨hmm.heap S.out.wal.cells (fun h => h S.out.wal.own), S.out.wal.own, hH⟩, S.out.grow, S.out.fresh, S.out.mod.trans hmm (fun j _ h => Nat.le_of_not_lt (fun hj => h (S.out.grow j hj))), S.out.took.mod hmm (fun j h => Or.inl h), S.out.tl, S.out.te⟩)
          have RM := Lib.hid (show ({ W with dsk := { W.dsk with room := 1048576 } } : AWal).dsk.room = 1048576 from rfl)
          have hnx' := Lib.hid (show ({ W with dsk := { W.dsk with room := 1048576 } } : AWal).next = (TT.length : Int) + 1 from hnx.out)
          have S2' := Lib.hid (show (0 ≤ ({ W with dsk := { W.dsk with room := 1048576 } } : AWal).first ∧ ({ W with dsk := { W.dsk with room := 1048576 } } : AWal).first ≤ 2000000000) ∧ (0 ≤ ({ W with dsk := { W.dsk with room := 1048576 } } : AWal).next ∧ ({ W with dsk := { W.dsk with room := 1048576 } } : AWal).next ≤ 2000000000) from S2.out)
          clear hH hmm S hnx S2 hk hlt
          generalize ({ W with dsk := { W.dsk with room := 1048576 } } : AWal) = W2 at S' hnx' S2' RM
          have S := S'
          have S2 := S2'
          have hnx := hnx'
          clear S' S2' hnx'
          go_wp2_with fail
          have TE := S.out.te
          have TL := S.out.tl
          have c200 := COND.out.1
          have J := jr_append S.out.jr hper0 S.out.small (by rw [HMANY.out]; omega) (by rw [S.out.flat]; omega) (r := [108, 97, 115, 116]) (by decide) (by intro y hy; simp only [List.mem_cons, List.not_mem_nil, or_false] at hy; rcases hy with rfl | rfl | rfl | rfl <;> decide)
          rw [S.out.flat, HMANY.out, RM.out, hnx.out] at J
          have W3 := Lib.hid (S.out.wal.mod ((Mod.refl (fun _ => False) w5).alloc (.cells #[.int .u8 108, .int .u8 97, .int .u8 115, .int .u8 116] 5 (4, 5))) (fun _ _ h => h.elim))
          have M3 := Lib.hid (S.out.mod.alloc (.cells #[.int .u8 108, .int .u8 97, .int .u8 115, .int .u8 116] 5 (4, 5)))
          have T3 := Lib.hid (S.out.took.mod ((Mod.refl (fun _ => False) w5).alloc (.cells #[.int .u8 108, .int .u8 97, .int .u8 115, .int .u8 116] 5 (4, 5))) (fun _ h => h.elim))
          have AP := walAppend_any W3.out S2.out.1 S2.out.2 _ [108, 97, 115, 116] (reads_const w5 [108, 97, 115, 116] (4, 5)) (by decide) (L1.out.grown M3.out)
          refine AP.mono ?_
          clear AP
          rcases J with ⟨_, g⟩ | ⟨gz, ⟨g0, _⟩ | ⟨W', D', g1, g2, g3, g4, g5, g6⟩⟩
          · exfalso
            rcases g with g | g
            · rcases COND.out with ⟨c1, c2 | c2⟩
              · omega
              · omega
            · have : (([108, 97, 115, 116] : List Int)).length = 4 := rfl
              rw [this] at g; omega
          · exact absurd S.out.ar g0
          rw [g1]
          rintro e w6 ⟨rfl, hW6, hm6⟩
          have M6 := Lib.hid (M3.out.trans hm6 (fun j _ h => by
            rcases h with h | h
            · exact Nat.le_of_not_lt (fun hj => h (S.out.grow j hj))
            · have := S.out.fresh; omega))
          have T6 := Lib.hid (T3.out.mod hm6 (fun j h => h))
          have H6 := Lib.hid hW6.disk
          have FL := Lib.hid (show D'.flatten = TT ++ [[108, 97, 115, 116]] from g3)
          have hmd : many D' ≤ 100000 := by rw [many_zero, FL.out]; simp; omega
          have G2 := Lib.hid g2
          have G4 := Lib.hid g4
          have G6 := Lib.hid (g6 S.out.ar)
          have L6 := Lib.hid (L1.out.grown M6.out)
          obtain ⟨A7, e7⟩ : ∃ A7, openA W'.dsk per = ⟨A7, 0, 1, lastStart 1 D' 1, 1 + many D', D'.flatten⟩ := by
            rcases open_law G2.out.on H6.out.ok.rising (Or.inl G2.out.files) hmd (fun e he r hr => (G4.out e he r hr).1) per hper0 with ⟨g, _⟩ | ⟨A7, g, _⟩
            · exact absurd G6.out g
            · exact ⟨A7, g⟩
          have OP := open_ok H6.out (broken_bytes (Or.inl G2.out.files) G4.out) per hper0 hp1 G2.out.on L6.out (fun k hk => S.out.grow _ (L1.out.lt hk)) (by rw [e7])
          rw [e7] at OP
          clear gz g1 g2 g3 g4 g5 g6 hW6 hm6 hmd TE
          go_wp2_with fail
          refine OP.mono ?_
          rintro e w7 ⟨Q7, wp7, rv7, rfl, hg, hnq, hW, hrow, hm⟩
          have M7 := Lib.hid (M6.out.trans hm (fun j _ h => Nat.le_of_not_lt (fun hj => h (S.out.grow j hj))))
          have T7 := T6.out.mod hm (fun j h => Or.inl h)
          have TRD := Lib.hid (T7.rd M7.out)
          rw [FL.out] at hrow
          have RD7 := Lib.hid hrow.rd
          obtain ⟨vs7, hvs7, _⟩ := hrow.ex
          obtain ⟨ar7, cr7, rfl, hcr⟩ := ownsRow_slice hvs7
          obtain ⟨vst, hvst, _⟩ := T7.ex
          obtain ⟨at7, ct7, rfl, _⟩ := ownsRow_slice hvst
          obtain ⟨a2, c2, he2, hall⟩ := RD7.out.ex
          obtain ⟨b7, u7, hb7, hcell, hu7⟩ := hall TT.length [108, 97, 115, 116] (by simp)
          have hb8 : ar7 = some b7 := by injection he2 with h _ _; rw [h]; exact hb7
          clear he2 hb7
          subst hb8
          obtain ⟨t1, ht⟩ : ∃ t1, t1 = (TT ++ [[108, 97, 115, 116]]).length := ⟨_, rfl⟩
          rw [← ht] at RD7 hcr ⊢
          have ht1 : ((t1 : Nat) : Int) = (TT.length : Int) + 1 := by rw [ht]; simp
          have htl : (TT.length : Int) + 1 - 1 = (TT.length : Int) := by omega
          have RD8 := Lib.hid (show RowsRd w7 (.slice (some b7) TT.length cr7) TT from by
            have := RD7.out.front (k := TT.length) (c' := cr7) (by simp)
            rw [List.take_left] at this
            exact this)
          have hsl : ∀ W, (Instr.slice 37 (.slice (some b7) t1 cr7) none (some (.int .i64 (TT.length : Int))) none).run Tryd.prog W = .ok (.slice (some b7) TT.length cr7) W := fun W => slice_rowsF W (some b7) t1 cr7 TT.length (by omega) (by simp)
          obtain ⟨ua, uc, rfl⟩ := reads_form hu7
          have HC7 := Lib.hid hcell
          have HU7 := Lib.hid hu7
          have SMT := Lib.hid (show ∀ x ∈ TT, x.length ≤ 65536 from fun x hx => by
            have hx2 : x ∈ D'.flatten := by rw [FL.out]; exact List.mem_append_left _ hx
            obtain ⟨e, he, hxe⟩ := List.mem_flatten.1 hx2
            exact (G4.out e he x hxe).1)
          clear OP hg hnq hW hrow hm hvs7 hvst hall hcell hu7 ht T7 e7
          go_wp2_with fail
          refine (alike_yes w7 _ _ TT RD8.out TRD.out (by omega) (fun x hx => by have := SMT.out x hx; omega)).mono ?_
          rintro e w8 ⟨rfl, hb8⟩
          have c8 := (Mod.ofBelow hb8).cell HC7.out (fun h => h)
          have kv := convert_reads (w := w8) (x := 108) (xs := [97, 115, 116]) (Reads.kept HU7.out (Mod.ofBelow hb8) (fun _ _ h => h))
          rw [show strOfNums [108, 97, 115, 116] = ⟨#[108, 97, 115, 116]⟩ from by kernel_rfl] at kv
          have hl4 : ([108, 97, 115, 116] : List Int).length = 4 := rfl
          rw [hl4] at kv c8
          have B8 := Lib.hid ((((M1.out.mono (T := fun j => w.heap.size ≤ j) (fun _ _ h => h.elim)).trans (M7.out.trans (Mod.ofBelow hb8) (fun _ _ h => h.elim)) (fun j _ h => Nat.le_trans B1.out.size h)).mono (T := fun _ => False) (fun k hk h => by omega)).toBelow)
          clear hb8 hsl
          go_wp2_with fail
          go_ret
          exact ⟨rfl, B8.out⟩
  · have COND := Lib.hid (show n ≤ 200 ∧ ((n : Int) ≤ 14 * per ∨ 1048576 ≤ per) from ⟨by omega, Or.inr (by omega)⟩)
    go_wp2_with fail
    · refine (held_new w1 1048576).mono ?_
      rintro e w2 ⟨rfl, hH, hb, hsz⟩
      have H2 := Lib.hid hH
      have M2 := Lib.hid (Mod.ofBelow hb)
      have L2 := Lib.hid (L1.out.below hb)
      clear hH hb hsz
      go_wp2_with fail
      have OE := open_empty (A := ADsk.new 1048576) rfl rfl per hper0
      have OP := open_ok H2.out (by intro p hp; cases hp) per hper0 hp1 rfl L2.out (fun k hk => L1.out.lt hk) (by rw [OE])
      rw [OE] at OP
      refine OP.mono ?_
      rintro e w4 ⟨Q4, wp, rv, rfl, hg, hnq, hW, hrow, hm⟩
      have START := Lib.hid (show FullAt w1 (w1.heap.size + 1) wp per 0 [] [] ⟨ADsk.new 1048576, per, 1, 1, 0⟩ (.slice none 0 0) Q4 w4 from
        ⟨⟨rfl, rfl, Or.inl ⟨rfl, rfl⟩, rfl, rfl, rfl⟩, rfl, (fun e he => by cases he), rfl, hW, hg, Nat.le_of_not_lt hnq, (M2.out.mono (T := fun j => w1.heap.size ≤ j) (fun _ _ h => h.elim)).trans hm (fun j _ h => Nat.le_of_not_lt h), ⟨⟨[], World.ownsRow_nil _ _ _ _, (fun i x h => by simp at h)⟩, (fun j h => by cases h)⟩, Nat.zero_le _, Nat.zero_le _⟩)
      obtain ⟨vsr, hvsr, _⟩ := hrow.ex
      obtain ⟨arv, crv, rfl, _⟩ := ownsRow_slice hvsr
      clear OP OE hg hnq hW hrow hm hvsr
      go_wp2_with fail
      go_loopw [12, 55] (fun v i wr => ∃ (k : Nat) (TT : List (List Int)) (D : List (List (List Int))) (W : AWal) (Q : Nat → Prop), k ≤ n ∧ i = .int .i64 k ∧ FullAt w1 (w1.heap.size + 1) wp per k TT D W v Q wr) (fun _ i _ => n - (intOf i).toNat)
      case atStart => exact ⟨0, [], [], _, Q4, Nat.zero_le _, rfl, START.out⟩
      case round =>
        obtain ⟨k, TT, D, W, Q, hk, rfl, hS⟩ := hrel
        have S := Lib.hid hS
        clear hS
        have HMANY := Lib.hid (show many D = TT.length from by rw [many_zero, S.out.flat])
        have hnx := Lib.hid (show W.next = (TT.length : Int) + 1 from by rw [S.out.jr.next, HMANY.out]; omega)
        have S2 := Lib.hid (show (0 ≤ W.first ∧ W.first ≤ 2000000000) ∧ (0 ≤ W.next ∧ W.next ≤ 2000000000) from by
            have hm := HMANY.out
            have htl := S.out.tl
            have cd := COND.out.1
            have hx := hnx.out
            refine ⟨?_, by omega⟩
            rcases S.out.jr.shape with ⟨_, h⟩ | ⟨C, c, h1, _, _, _, h⟩
            · omega
            · have : many D = many C + c.length := by rw [h1, many_append]; simp [many]
              omega)
        by_cases hlt : k < n
        · obtain ⟨a', x, c, rfl, hcc, hr, hp⟩ := HR1.out k hlt
          have hc := (S.out.mod.cell hcc (fun h => by have := World.block_lt_of_cell? w1 _ hcc; omega))
          have RX := Lib.hid hr
          have HB0 := Lib.hid (HBY.out k hlt)
          clear hcc hr
          by_cases hlen : 1024 < (P k).length
          · have hlen' : (1024 : Int) < (P k).length := by omega
            have BR := Lib.hid (show Below w.heap.size w wr from by
              exact (((M1.out.mono (T := fun j => w.heap.size ≤ j) (fun _ _ h => h.elim)).trans S.out.mod (fun j _ h => Nat.le_trans B1.out.size h)).mono (T := fun _ => False) (fun k hk h => by omega)).toBelow)
            go_wp2_with fail
            go_ret
            exact ⟨rfl, BR.out⟩
          have hlen' : ¬ (1024 : Int) < (P k).length := by omega
          have TE := S.out.te
          have c200 := COND.out.1
          by_cases hkm : k < m
          · obtain ⟨b', y, rfl, hcb⟩ := HF1.out k hkm
            have hcy := (S.out.mod.cell hcb (fun h => by have := World.block_lt_of_cell? w1 _ hcb; omega))
            clear hcb
            go_wp2_with fail
            refine (wheld_room S.out.wal.disk y).mono ?_
            rintro e w5 ⟨rfl, hH, hmm⟩
            have S' := Lib.hid (show FullAt w1 (w1.heap.size + 1) wp per k TT D { W with dsk := { W.dsk with room := y } } u12 Q w5 from
              ⟨S.out.jr.room y, S.out.flat, S.out.small, S.out.ar, ⟨hmm.heap S.out.wal.cells (fun h => h S.out.wal.own), S.out.wal.own, hH⟩, S.out.grow, S.out.fresh, S.out.mod.trans hmm (fun j _ h => Nat.le_of_not_lt (fun hj => h (S.out.grow j hj))), S.out.took.mod hmm (fun j h => Or.inl h), S.out.tl, S.out.te⟩)
            have hnx' := Lib.hid (show ({ W with dsk := { W.dsk with room := y } } : AWal).next = (TT.length : Int) + 1 from hnx.out)
            have S2' := Lib.hid (show (0 ≤ ({ W with dsk := { W.dsk with room := y } } : AWal).first ∧ ({ W with dsk := { W.dsk with room := y } } : AWal).first ≤ 2000000000) ∧ (0 ≤ ({ W with dsk := { W.dsk with room := y } } : AWal).next ∧ ({ W with dsk := { W.dsk with room := y } } : AWal).next ≤ 2000000000) from S2.out)
            clear hH hmm hcy hc S hnx S2
            generalize ({ W with dsk := { W.dsk with room := y } } : AWal) = W2 at S' hnx' S2'
            have S := S'
            have S2 := S2'
            have hnx := hnx'
            clear S' S2' hnx'
            have J := jr_append S.out.jr hper0 S.out.small (by rw [HMANY.out]; have h1 := COND.out.1; have h2 := S.out.tl; omega) (by rw [S.out.flat]; omega) (r := P k) (by omega) HB0.out
            have AP := walAppend_any S.out.wal S2.out.1 S2.out.2 (.slice x (P k).length c) (P k) (reads_later RX.out S.out.mod (fun j hj h => by omega)) (by omega) (L1.out.grown S.out.mod)
            go_wp2_with fail
            refine AP.mono ?_
            clear AP
            rcases J with ⟨g1, gz⟩ | ⟨gz, ⟨g0, _⟩ | ⟨W', D', g1, g2, g3, g4, g5, g6⟩⟩
            · rw [g1]
              rintro e w6 ⟨rfl, hW6, hm6⟩
              have S6 := Lib.hid (show FullAt w1 (w1.heap.size + 1) wp per (k + 1) TT D W2 u12 Q w6 from
                ⟨S.out.jr, S.out.flat, S.out.small, S.out.ar, hW6, S.out.grow, S.out.fresh, S.out.mod.trans hm6 (fun j _ h => by
                  rcases h with h | h
                  · exact Nat.le_of_not_lt (fun hj => h (S.out.grow j hj))
                  · have := S.out.fresh; omega), S.out.took.mod hm6 (fun j h => h), by have := S.out.tl; omega, by have := S.out.te; omega⟩)
              clear gz g1 hW6 hm6
              go_wp2_with fail
              go_roundw
              case rel => exact ⟨k + 1, TT, D, W2, Q, by omega, by go_num, S6.out⟩
              case measure => simp [intOf]; omega
            · exact absurd S.out.ar g0
            · rw [hnx.out] at g1
              rw [g1]
              rintro e w6 ⟨rfl, hW6, hm6⟩
              have M6 := Lib.hid (S.out.mod.trans hm6 (fun j _ h => by
                  rcases h with h | h
                  · exact Nat.le_of_not_lt (fun hj => h (S.out.grow j hj))
                  · have := S.out.fresh; omega))
              have T6 := Lib.hid (S.out.took.mod hm6 (fun j h => h))
              have W6 := Lib.hid hW6
              have TLN := Lib.hid S.out.tl
              obtain ⟨v7, w7, R7, T7, M7⟩ := took_app T6.out (u := .slice x (P k).length c) (x := P k) RX.out rfl (by have := TLN.out; have := COND.out.1; omega) (lt_of_heap hW6.cells) M6.out.size
              obtain ⟨Z, hZ⟩ : ∃ Z, Z = TT ++ [P k] := ⟨_, rfl⟩
              rw [← hZ] at T7
              have ZL := Lib.hid (show Z.length = TT.length + 1 from by rw [hZ]; simp)
              have S7 := Lib.hid (show FullAt w1 (w1.heap.size + 1) wp per (k + 1) Z D' W' v7 _ w7 from
                ⟨g2, by rw [g3, S.out.flat, hZ], g4, g6 S.out.ar, W6.out.fresh M7 (fun j _ h => ⟨(T6.out.own j h).1, (T6.out.own j h).2.1⟩), fun j hj => Or.inl (S.out.grow j hj), S.out.fresh, M6.out.trans M7 (fun j _ h => (T6.out.own j h).2.2), T7, by rw [ZL.out]; have := TLN.out; omega, by rw [hZ, ends_append, ends_one]; have := S.out.te; omega⟩)
              have R7' := Lib.hid R7
              obtain ⟨vs7, hvs7, _⟩ := T7.ex
              obtain ⟨a7, c7, rfl, _⟩ := ownsRow_slice hvs7
              have hzl : (Z.length : Int) = (TT.length : Int) + 1 := by have := ZL.out; omega
              clear gz hZ g1 g2 g3 g4 g5 g6 hW6 hm6 R7 T7 M7 hvs7
              go_wp2_with (at_builtin; refine wpList_append_run rfl (.tmp 87) (.tmp 89) 37 rfl rfl rfl R7'.out ?_)
              go_roundw
              case rel => exact ⟨k + 1, Z, D', W', _, by omega, by go_num, S7.out⟩
              case measure => simp [intOf]; omega
          · have HKM := Lib.hid hkm
            have J := jr_append S.out.jr hper0 S.out.small (by rw [HMANY.out]; have h1 := COND.out.1; have h2 := S.out.tl; omega) (by rw [S.out.flat]; omega) (r := P k) (by omega) HB0.out
            have AP := walAppend_any S.out.wal S2.out.1 S2.out.2 (.slice x (P k).length c) (P k) (reads_later RX.out S.out.mod (fun j hj h => by omega)) (by omega) (L1.out.grown S.out.mod)
            go_wp2_with fail
            refine AP.mono ?_
            clear AP
            rcases J with ⟨g1, gz⟩ | ⟨gz, ⟨g0, _⟩ | ⟨W', D', g1, g2, g3, g4, g5, g6⟩⟩
            · rw [g1]
              rintro e w6 ⟨rfl, hW6, hm6⟩
              have S6 := Lib.hid (show FullAt w1 (w1.heap.size + 1) wp per (k + 1) TT D W u12 Q w6 from
                ⟨S.out.jr, S.out.flat, S.out.small, S.out.ar, hW6, S.out.grow, S.out.fresh, S.out.mod.trans hm6 (fun j _ h => by
                  rcases h with h | h
                  · exact Nat.le_of_not_lt (fun hj => h (S.out.grow j hj))
                  · have := S.out.fresh; omega), S.out.took.mod hm6 (fun j h => h), by have := S.out.tl; omega, by have := S.out.te; omega⟩)
              clear gz g1 hW6 hm6
              go_wp2_with fail
              go_roundw
              case rel => exact ⟨k + 1, TT, D, W, Q, by omega, by go_num, S6.out⟩
              case measure => simp [intOf]; omega
            · exact absurd S.out.ar g0
            · rw [hnx.out] at g1
              rw [g1]
              rintro e w6 ⟨rfl, hW6, hm6⟩
              have M6 := Lib.hid (S.out.mod.trans hm6 (fun j _ h => by
                  rcases h with h | h
                  · exact Nat.le_of_not_lt (fun hj => h (S.out.grow j hj))
                  · have := S.out.fresh; omega))
              have T6 := Lib.hid (S.out.took.mod hm6 (fun j h => h))
              have W6 := Lib.hid hW6
              have TLN := Lib.hid S.out.tl
              obtain ⟨v7, w7, R7, T7, M7⟩ := took_app T6.out (u := .slice x (P k).length c) (x := P k) RX.out rfl (by have := TLN.out; have := COND.out.1; omega) (lt_of_heap hW6.cells) M6.out.size
              obtain ⟨Z, hZ⟩ : ∃ Z, Z = TT ++ [P k] := ⟨_, rfl⟩
              rw [← hZ] at T7
              have ZL := Lib.hid (show Z.length = TT.length + 1 from by rw [hZ]; simp)
              have S7 := Lib.hid (show FullAt w1 (w1.heap.size + 1) wp per (k + 1) Z D' W' v7 _ w7 from
                ⟨g2, by rw [g3, S.out.flat, hZ], g4, g6 S.out.ar, W6.out.fresh M7 (fun j _ h => ⟨(T6.out.own j h).1, (T6.out.own j h).2.1⟩), fun j hj => Or.inl (S.out.grow j hj), S.out.fresh, M6.out.trans M7 (fun j _ h => (T6.out.own j h).2.2), T7, by rw [ZL.out]; have := TLN.out; omega, by rw [hZ, ends_append, ends_one]; have := S.out.te; omega⟩)
              have R7' := Lib.hid R7
              obtain ⟨vs7, hvs7, _⟩ := T7.ex
              obtain ⟨a7, c7, rfl, _⟩ := ownsRow_slice hvs7
              have hzl : (Z.length : Int) = (TT.length : Int) + 1 := by have := ZL.out; omega
              clear gz hZ g1 g2 g3 g4 g5 g6 hW6 hm6 R7 T7 M7 hvs7
              go_wp2_with (at_builtin; refine wpList_append_run rfl (.tmp 87) (.tmp 89) 37 rfl rfl rfl R7'.out ?_)
              go_roundw
              case rel => exact ⟨k + 1, Z, D', W', _, by omega, by go_num, S7.out⟩
              case measure => simp [intOf]; omega
        · obtain rfl : n = k := by omega
          go_wp2_with fail
          refine (wheld_room S.out.wal.disk 1048576).mono ?_
          rintro e w5 ⟨rfl, hH, hmm⟩
          have S' := Lib.hid (show FullAt w1 (w1.heap.size + 1) wp per n TT D { W with dsk := { W.dsk with room := 1048576 } } u12 Q w5 from
            ⟨S.out.jr.room 1048576, S.out.flat, S.out.small, S.out.ar, ⟨hmm.heap S.out.wal.cells (fun h => h S.out.wal.own), S.out.wal.own, hH⟩, S.out.grow, S.out.fresh, S.out.mod.trans hmm (fun j _ h => Nat.le_of_not_lt (fun hj => h (S.out.grow j hj))), S.out.took.mod hmm (fun j h => Or.inl h), S.out.tl, S.out.te⟩)
          have RM := Lib.hid (show ({ W with dsk := { W.dsk with room := 1048576 } } : AWal).dsk.room = 1048576 from rfl)
          have hnx' := Lib.hid (show ({ W with dsk := { W.dsk with room := 1048576 } } : AWal).next = (TT.length : Int) + 1 from hnx.out)
          have S2' := Lib.hid (show (0 ≤ ({ W with dsk := { W.dsk with room := 1048576 } } : AWal).first ∧ ({ W with dsk := { W.dsk with room := 1048576 } } : AWal).first ≤ 2000000000) ∧ (0 ≤ ({ W with dsk := { W.dsk with room := 1048576 } } : AWal).next ∧ ({ W with dsk := { W.dsk with room := 1048576 } } : AWal).next ≤ 2000000000) from S2.out)
          clear hH hmm S hnx S2 hk hlt
          generalize ({ W with dsk := { W.dsk with room := 1048576 } } : AWal) = W2 at S' hnx' S2' RM
          have S := S'
          have S2 := S2'
          have hnx := hnx'
          clear S' S2' hnx'
          go_wp2_with fail
          have TE := S.out.te
          have TL := S.out.tl
          have c200 := COND.out.1
          have J := jr_append S.out.jr hper0 S.out.small (by rw [HMANY.out]; omega) (by rw [S.out.flat]; omega) (r := [108, 97, 115, 116]) (by decide) (by intro y hy; simp only [List.mem_cons, List.not_mem_nil, or_false] at hy; rcases hy with rfl | rfl | rfl | rfl <;> decide)
          rw [S.out.flat, HMANY.out, RM.out, hnx.out] at J
          have W3 := Lib.hid (S.out.wal.mod ((Mod.refl (fun _ => False) w5).alloc (.cells #[.int .u8 108, .int .u8 97, .int .u8 115, .int .u8 116] 5 (4, 5))) (fun _ _ h => h.elim))
          have M3 := Lib.hid (S.out.mod.alloc (.cells #[.int .u8 108, .int .u8 97, .int .u8 115, .int .u8 116] 5 (4, 5)))
          have T3 := Lib.hid (S.out.took.mod ((Mod.refl (fun _ => False) w5).alloc (.cells #[.int .u8 108, .int .u8 97, .int .u8 115, .int .u8 116] 5 (4, 5))) (fun _ h => h.elim))
          have AP := walAppend_any W3.out S2.out.1 S2.out.2 _ [108, 97, 115, 116] (reads_const w5 [108, 97, 115, 116] (4, 5)) (by decide) (L1.out.grown M3.out)
          refine AP.mono ?_
          clear AP
          rcases J with ⟨_, g⟩ | ⟨gz, ⟨g0, _⟩ | ⟨W', D', g1, g2, g3, g4, g5, g6⟩⟩
          · exfalso
            rcases g with g | g
            · rcases COND.out with ⟨c1, c2 | c2⟩
              · omega
              · omega
            · have : (([108, 97, 115, 116] : List Int)).length = 4 := rfl
              rw [this] at g; omega
          · exact absurd S.out.ar g0
          rw [g1]
          rintro e w6 ⟨rfl, hW6, hm6⟩
          have M6 := Lib.hid (M3.out.trans hm6 (fun j _ h => by
            rcases h with h | h
            · exact Nat.le_of_not_lt (fun hj => h (S.out.grow j hj))
            · have := S.out.fresh; omega))
          have T6 := Lib.hid (T3.out.mod hm6 (fun j h => h))
          have H6 := Lib.hid hW6.disk
          have FL := Lib.hid (show D'.flatten = TT ++ [[108, 97, 115, 116]] from g3)
          have hmd : many D' ≤ 100000 := by rw [many_zero, FL.out]; simp; omega
          have G2 := Lib.hid g2
          have G4 := Lib.hid g4
          have G6 := Lib.hid (g6 S.out.ar)
          have L6 := Lib.hid (L1.out.grown M6.out)
          obtain ⟨A7, e7⟩ : ∃ A7, openA W'.dsk per = ⟨A7, 0, 1, lastStart 1 D' 1, 1 + many D', D'.flatten⟩ := by
            rcases open_law G2.out.on H6.out.ok.rising (Or.inl G2.out.files) hmd (fun e he r hr => (G4.out e he r hr).1) per hper0 with ⟨g, _⟩ | ⟨A7, g, _⟩
            · exact absurd G6.out g
            · exact ⟨A7, g⟩
          have OP := open_ok H6.out (broken_bytes (Or.inl G2.out.files) G4.out) per hper0 hp1 G2.out.on L6.out (fun k hk => S.out.grow _ (L1.out.lt hk)) (by rw [e7])
          rw [e7] at OP
          clear gz g1 g2 g3 g4 g5 g6 hW6 hm6 hmd TE
          go_wp2_with fail
          refine OP.mono ?_
          rintro e w7 ⟨Q7, wp7, rv7, rfl, hg, hnq, hW, hrow, hm⟩
          have M7 := Lib.hid (M6.out.trans hm (fun j _ h => Nat.le_of_not_lt (fun hj => h (S.out.grow j hj))))
          have T7 := T6.out.mod hm (fun j h => Or.inl h)
          have TRD := Lib.hid (T7.rd M7.out)
          rw [FL.out] at hrow
          have RD7 := Lib.hid hrow.rd
          obtain ⟨vs7, hvs7, _⟩ := hrow.ex
          obtain ⟨ar7, cr7, rfl, hcr⟩ := ownsRow_slice hvs7
          obtain ⟨vst, hvst, _⟩ := T7.ex
          obtain ⟨at7, ct7, rfl, _⟩ := ownsRow_slice hvst
          obtain ⟨a2, c2, he2, hall⟩ := RD7.out.ex
          obtain ⟨b7, u7, hb7, hcell, hu7⟩ := hall TT.length [108, 97, 115, 116] (by simp)
          have hb8 : ar7 = some b7 := by injection he2 with h _ _; rw [h]; exact hb7
          clear he2 hb7
          subst hb8
          obtain ⟨t1, ht⟩ : ∃ t1, t1 = (TT ++ [[108, 97, 115, 116]]).length := ⟨_, rfl⟩
          rw [← ht] at RD7 hcr ⊢
          have ht1 : ((t1 : Nat) : Int) = (TT.length : Int) + 1 := by rw [ht]; simp
          have htl : (TT.length : Int) + 1 - 1 = (TT.length : Int) := by omega
          have RD8 := Lib.hid (show RowsRd w7 (.slice (some b7) TT.length cr7) TT from by
            have := RD7.out.front (k := TT.length) (c' := cr7) (by simp)
            rw [List.take_left] at this
            exact this)
          have hsl : ∀ W, (Instr.slice 37 (.slice (some b7) t1 cr7) none (some (.int .i64 (TT.length : Int))) none).run Tryd.prog W = .ok (.slice (some b7) TT.length cr7) W := fun W => slice_rowsF W (some b7) t1 cr7 TT.length (by omega) (by simp)
          obtain ⟨ua, uc, rfl⟩ := reads_form hu7
          have HC7 := Lib.hid hcell
          have HU7 := Lib.hid hu7
          have SMT := Lib.hid (show ∀ x ∈ TT, x.length ≤ 65536 from fun x hx => by
            have hx2 : x ∈ D'.flatten := by rw [FL.out]; exact List.mem_append_left _ hx
            obtain ⟨e, he, hxe⟩ := List.mem_flatten.1 hx2
            exact (G4.out e he x hxe).1)
          clear OP hg hnq hW hrow hm hvs7 hvst hall hcell hu7 ht T7 e7
          go_wp2_with fail
          refine (alike_yes w7 _ _ TT RD8.out TRD.out (by omega) (fun x hx => by have := SMT.out x hx; omega)).mono ?_
          rintro e w8 ⟨rfl, hb8⟩
          have c8 := (Mod.ofBelow hb8).cell HC7.out (fun h => h)
          have kv := convert_reads (w := w8) (x := 108) (xs := [97, 115, 116]) (Reads.kept HU7.out (Mod.ofBelow hb8) (fun _ _ h => h))
          rw [show strOfNums [108, 97, 115, 116] = ⟨#[108, 97, 115, 116]⟩ from by kernel_rfl] at kv
          have hl4 : ([108, 97, 115, 116] : List Int).length = 4 := rfl
          rw [hl4] at kv c8
          have B8 := Lib.hid ((((M1.out.mono (T := fun j => w.heap.size ≤ j) (fun _ _ h => h.elim)).trans (M7.out.trans (Mod.ofBelow hb8) (fun _ _ h => h.elim)) (fun j _ h => Nat.le_trans B1.out.size h)).mono (T := fun _ => False) (fun k hk h => by omega)).toBelow)
          clear hb8 hsl
          go_wp2_with fail
          go_ret
          exact ⟨rfl, B8.out⟩
    · refine (held_new w1 1048576).mono ?_
      rintro e w2 ⟨rfl, hH, hb, hsz⟩
      have H2 := Lib.hid hH
      have M2 := Lib.hid (Mod.ofBelow hb)
      have L2 := Lib.hid (L1.out.below hb)
      clear hH hb hsz
      go_wp2_with fail
      have OE := open_empty (A := ADsk.new 1048576) rfl rfl per hper0
      have OP := open_ok H2.out (by intro p hp; cases hp) per hper0 hp1 rfl L2.out (fun k hk => L1.out.lt hk) (by rw [OE])
      rw [OE] at OP
      refine OP.mono ?_
      rintro e w4 ⟨Q4, wp, rv, rfl, hg, hnq, hW, hrow, hm⟩
      have START := Lib.hid (show FullAt w1 (w1.heap.size + 1) wp per 0 [] [] ⟨ADsk.new 1048576, per, 1, 1, 0⟩ (.slice none 0 0) Q4 w4 from
        ⟨⟨rfl, rfl, Or.inl ⟨rfl, rfl⟩, rfl, rfl, rfl⟩, rfl, (fun e he => by cases he), rfl, hW, hg, Nat.le_of_not_lt hnq, (M2.out.mono (T := fun j => w1.heap.size ≤ j) (fun _ _ h => h.elim)).trans hm (fun j _ h => Nat.le_of_not_lt h), ⟨⟨[], World.ownsRow_nil _ _ _ _, (fun i x h => by simp at h)⟩, (fun j h => by cases h)⟩, Nat.zero_le _, Nat.zero_le _⟩)
      obtain ⟨vsr, hvsr, _⟩ := hrow.ex
      obtain ⟨arv, crv, rfl, _⟩ := ownsRow_slice hvsr
      clear OP OE hg hnq hW hrow hm hvsr
      go_wp2_with fail
      go_loopw [12, 55] (fun v i wr => ∃ (k : Nat) (TT : List (List Int)) (D : List (List (List Int))) (W : AWal) (Q : Nat → Prop), k ≤ n ∧ i = .int .i64 k ∧ FullAt w1 (w1.heap.size + 1) wp per k TT D W v Q wr) (fun _ i _ => n - (intOf i).toNat)
      case atStart => exact ⟨0, [], [], _, Q4, Nat.zero_le _, rfl, START.out⟩
      case round =>
        obtain ⟨k, TT, D, W, Q, hk, rfl, hS⟩ := hrel
        have S := Lib.hid hS
        clear hS
        have HMANY := Lib.hid (show many D = TT.length from by rw [many_zero, S.out.flat])
        have hnx := Lib.hid (show W.next = (TT.length : Int) + 1 from by rw [S.out.jr.next, HMANY.out]; omega)
        have S2 := Lib.hid (show (0 ≤ W.first ∧ W.first ≤ 2000000000) ∧ (0 ≤ W.next ∧ W.next ≤ 2000000000) from by
            have hm := HMANY.out
            have htl := S.out.tl
            have cd := COND.out.1
            have hx := hnx.out
            refine ⟨?_, by omega⟩
            rcases S.out.jr.shape with ⟨_, h⟩ | ⟨C, c, h1, _, _, _, h⟩
            · omega
            · have : many D = many C + c.length := by rw [h1, many_append]; simp [many]
              omega)
        by_cases hlt : k < n
        · obtain ⟨a', x, c, rfl, hcc, hr, hp⟩ := HR1.out k hlt
          have hc := (S.out.mod.cell hcc (fun h => by have := World.block_lt_of_cell? w1 _ hcc; omega))
          have RX := Lib.hid hr
          have HB0 := Lib.hid (HBY.out k hlt)
          clear hcc hr
          by_cases hlen : 1024 < (P k).length
          · have hlen' : (1024 : Int) < (P k).length := by omega
            have BR := Lib.hid (show Below w.heap.size w wr from by
              exact (((M1.out.mono (T := fun j => w.heap.size ≤ j) (fun _ _ h => h.elim)).trans S.out.mod (fun j _ h => Nat.le_trans B1.out.size h)).mono (T := fun _ => False) (fun k hk h => by omega)).toBelow)
            go_wp2_with fail
            go_ret
            exact ⟨rfl, BR.out⟩
          have hlen' : ¬ (1024 : Int) < (P k).length := by omega
          have TE := S.out.te
          have c200 := COND.out.1
          by_cases hkm : k < m
          · obtain ⟨b', y, rfl, hcb⟩ := HF1.out k hkm
            have hcy := (S.out.mod.cell hcb (fun h => by have := World.block_lt_of_cell? w1 _ hcb; omega))
            clear hcb
            go_wp2_with fail
            refine (wheld_room S.out.wal.disk y).mono ?_
            rintro e w5 ⟨rfl, hH, hmm⟩
            have S' := Lib.hid (show FullAt w1 (w1.heap.size + 1) wp per k TT D { W with dsk := { W.dsk with room := y } } u12 Q w5 from
              ⟨S.out.jr.room y, S.out.flat, S.out.small, S.out.ar, ⟨hmm.heap S.out.wal.cells (fun h => h S.out.wal.own), S.out.wal.own, hH⟩, S.out.grow, S.out.fresh, S.out.mod.trans hmm (fun j _ h => Nat.le_of_not_lt (fun hj => h (S.out.grow j hj))), S.out.took.mod hmm (fun j h => Or.inl h), S.out.tl, S.out.te⟩)
            have hnx' := Lib.hid (show ({ W with dsk := { W.dsk with room := y } } : AWal).next = (TT.length : Int) + 1 from hnx.out)
            have S2' := Lib.hid (show (0 ≤ ({ W with dsk := { W.dsk with room := y } } : AWal).first ∧ ({ W with dsk := { W.dsk with room := y } } : AWal).first ≤ 2000000000) ∧ (0 ≤ ({ W with dsk := { W.dsk with room := y } } : AWal).next ∧ ({ W with dsk := { W.dsk with room := y } } : AWal).next ≤ 2000000000) from S2.out)
            clear hH hmm hcy hc S hnx S2
            generalize ({ W with dsk := { W.dsk with room := y } } : AWal) = W2 at S' hnx' S2'
            have S := S'
            have S2 := S2'
            have hnx := hnx'
            clear S' S2' hnx'
            have J := jr_append S.out.jr hper0 S.out.small (by rw [HMANY.out]; have h1 := COND.out.1; have h2 := S.out.tl; omega) (by rw [S.out.flat]; omega) (r := P k) (by omega) HB0.out
            have AP := walAppend_any S.out.wal S2.out.1 S2.out.2 (.slice x (P k).length c) (P k) (reads_later RX.out S.out.mod (fun j hj h => by omega)) (by omega) (L1.out.grown S.out.mod)
            go_wp2_with fail
            refine AP.mono ?_
            clear AP
            rcases J with ⟨g1, gz⟩ | ⟨gz, ⟨g0, _⟩ | ⟨W', D', g1, g2, g3, g4, g5, g6⟩⟩
            · rw [g1]
              rintro e w6 ⟨rfl, hW6, hm6⟩
              have S6 := Lib.hid (show FullAt w1 (w1.heap.size + 1) wp per (k + 1) TT D W2 u12 Q w6 from
                ⟨S.out.jr, S.out.flat, S.out.small, S.out.ar, hW6, S.out.grow, S.out.fresh, S.out.mod.trans hm6 (fun j _ h => by
                  rcases h with h | h
                  · exact Nat.le_of_not_lt (fun hj => h (S.out.grow j hj))
                  · have := S.out.fresh; omega), S.out.took.mod hm6 (fun j h => h), by have := S.out.tl; omega, by have := S.out.te; omega⟩)
              clear gz g1 hW6 hm6
              go_wp2_with fail
              go_roundw
              case rel => exact ⟨k + 1, TT, D, W2, Q, by omega, by go_num, S6.out⟩
              case measure => simp [intOf]; omega
            · exact absurd S.out.ar g0
            · rw [hnx.out] at g1
              rw [g1]
              rintro e w6 ⟨rfl, hW6, hm6⟩
              have M6 := Lib.hid (S.out.mod.trans hm6 (fun j _ h => by
                  rcases h with h | h
                  · exact Nat.le_of_not_lt (fun hj => h (S.out.grow j hj))
                  · have := S.out.fresh; omega))
              have T6 := Lib.hid (S.out.took.mod hm6 (fun j h => h))
              have W6 := Lib.hid hW6
              have TLN := Lib.hid S.out.tl
              obtain ⟨v7, w7, R7, T7, M7⟩ := took_app T6.out (u := .slice x (P k).length c) (x := P k) RX.out rfl (by have := TLN.out; have := COND.out.1; omega) (lt_of_heap hW6.cells) M6.out.size
              obtain ⟨Z, hZ⟩ : ∃ Z, Z = TT ++ [P k] := ⟨_, rfl⟩
              rw [← hZ] at T7
              have ZL := Lib.hid (show Z.length = TT.length + 1 from by rw [hZ]; simp)
              have S7 := Lib.hid (show FullAt w1 (w1.heap.size + 1) wp per (k + 1) Z D' W' v7 _ w7 from
                ⟨g2, by rw [g3, S.out.flat, hZ], g4, g6 S.out.ar, W6.out.fresh M7 (fun j _ h => ⟨(T6.out.own j h).1, (T6.out.own j h).2.1⟩), fun j hj => Or.inl (S.out.grow j hj), S.out.fresh, M6.out.trans M7 (fun j _ h => (T6.out.own j h).2.2), T7, by rw [ZL.out]; have := TLN.out; omega, by rw [hZ, ends_append, ends_one]; have := S.out.te; omega⟩)
              have R7' := Lib.hid R7
              obtain ⟨vs7, hvs7, _⟩ := T7.ex
              obtain ⟨a7, c7, rfl, _⟩ := ownsRow_slice hvs7
              have hzl : (Z.length : Int) = (TT.length : Int) + 1 := by have := ZL.out; omega
              clear gz hZ g1 g2 g3 g4 g5 g6 hW6 hm6 R7 T7 M7 hvs7
              go_wp2_with (at_builtin; refine wpList_append_run rfl (.tmp 87) (.tmp 89) 37 rfl rfl rfl R7'.out ?_)
              go_roundw
              case rel => exact ⟨k + 1, Z, D', W', _, by omega, by go_num, S7.out⟩
              case measure => simp [intOf]; omega
          · have HKM := Lib.hid hkm
            have J := jr_append S.out.jr hper0 S.out.small (by rw [HMANY.out]; have h1 := COND.out.1; have h2 := S.out.tl; omega) (by rw [S.out.flat]; omega) (r := P k) (by omega) HB0.out
            have AP := walAppend_any S.out.wal S2.out.1 S2.out.2 (.slice x (P k).length c) (P k) (reads_later RX.out S.out.mod (fun j hj h => by omega)) (by omega) (L1.out.grown S.out.mod)
            go_wp2_with fail
            refine AP.mono ?_
            clear AP
            rcases J with ⟨g1, gz⟩ | ⟨gz, ⟨g0, _⟩ | ⟨W', D', g1, g2, g3, g4, g5, g6⟩⟩
            · rw [g1]
              rintro e w6 ⟨rfl, hW6, hm6⟩
              have S6 := Lib.hid (show FullAt w1 (w1.heap.size + 1) wp per (k + 1) TT D W u12 Q w6 from
                ⟨S.out.jr, S.out.flat, S.out.small, S.out.ar, hW6, S.out.grow, S.out.fresh, S.out.mod.trans hm6 (fun j _ h => by
                  rcases h with h | h
                  · exact Nat.le_of_not_lt (fun hj => h (S.out.grow j hj))
                  · have := S.out.fresh; omega), S.out.took.mod hm6 (fun j h => h), by have := S.out.tl; omega, by have := S.out.te; omega⟩)
              clear gz g1 hW6 hm6
              go_wp2_with fail
              go_roundw
              case rel => exact ⟨k + 1, TT, D, W, Q, by omega, by go_num, S6.out⟩
              case measure => simp [intOf]; omega
            · exact absurd S.out.ar g0
            · rw [hnx.out] at g1
              rw [g1]
              rintro e w6 ⟨rfl, hW6, hm6⟩
              have M6 := Lib.hid (S.out.mod.trans hm6 (fun j _ h => by
                  rcases h with h | h
                  · exact Nat.le_of_not_lt (fun hj => h (S.out.grow j hj))
                  · have := S.out.fresh; omega))
              have T6 := Lib.hid (S.out.took.mod hm6 (fun j h => h))
              have W6 := Lib.hid hW6
              have TLN := Lib.hid S.out.tl
              obtain ⟨v7, w7, R7, T7, M7⟩ := took_app T6.out (u := .slice x (P k).length c) (x := P k) RX.out rfl (by have := TLN.out; have := COND.out.1; omega) (lt_of_heap hW6.cells) M6.out.size
              obtain ⟨Z, hZ⟩ : ∃ Z, Z = TT ++ [P k] := ⟨_, rfl⟩
              rw [← hZ] at T7
              have ZL := Lib.hid (show Z.length = TT.length + 1 from by rw [hZ]; simp)
              have S7 := Lib.hid (show FullAt w1 (w1.heap.size + 1) wp per (k + 1) Z D' W' v7 _ w7 from
                ⟨g2, by rw [g3, S.out.flat, hZ], g4, g6 S.out.ar, W6.out.fresh M7 (fun j _ h => ⟨(T6.out.own j h).1, (T6.out.own j h).2.1⟩), fun j hj => Or.inl (S.out.grow j hj), S.out.fresh, M6.out.trans M7 (fun j _ h => (T6.out.own j h).2.2), T7, by rw [ZL.out]; have := TLN.out; omega, by rw [hZ, ends_append, ends_one]; have := S.out.te; omega⟩)
              have R7' := Lib.hid R7
              obtain ⟨vs7, hvs7, _⟩ := T7.ex
              obtain ⟨a7, c7, rfl, _⟩ := ownsRow_slice hvs7
              have hzl : (Z.length : Int) = (TT.length : Int) + 1 := by have := ZL.out; omega
              clear gz hZ g1 g2 g3 g4 g5 g6 hW6 hm6 R7 T7 M7 hvs7
              go_wp2_with (at_builtin; refine wpList_append_run rfl (.tmp 87) (.tmp 89) 37 rfl rfl rfl R7'.out ?_)
              go_roundw
              case rel => exact ⟨k + 1, Z, D', W', _, by omega, by go_num, S7.out⟩
              case measure => simp [intOf]; omega
        · obtain rfl : n = k := by omega
          go_wp2_with fail
          refine (wheld_room S.out.wal.disk 1048576).mono ?_
          rintro e w5 ⟨rfl, hH, hmm⟩
          have S' := Lib.hid (show FullAt w1 (w1.heap.size + 1) wp per n TT D { W with dsk := { W.dsk with room := 1048576 } } u12 Q w5 from
            ⟨S.out.jr.room 1048576, S.out.flat, S.out.small, S.out.ar, ⟨hmm.heap S.out.wal.cells (fun h => h S.out.wal.own), S.out.wal.own, hH⟩, S.out.grow, S.out.fresh, S.out.mod.trans hmm (fun j _ h => Nat.le_of_not_lt (fun hj => h (S.out.grow j hj))), S.out.took.mod hmm (fun j h => Or.inl h), S.out.tl, S.out.te⟩)
          have RM := Lib.hid (show ({ W with dsk := { W.dsk with room := 1048576 } } : AWal).dsk.room = 1048576 from rfl)
          have hnx' := Lib.hid (show ({ W with dsk := { W.dsk with room := 1048576 } } : AWal).next = (TT.length : Int) + 1 from hnx.out)
          have S2' := Lib.hid (show (0 ≤ ({ W with dsk := { W.dsk with room := 1048576 } } : AWal).first ∧ ({ W with dsk := { W.dsk with room := 1048576 } } : AWal).first ≤ 2000000000) ∧ (0 ≤ ({ W with dsk := { W.dsk with room := 1048576 } } : AWal).next ∧ ({ W with dsk := { W.dsk with room := 1048576 } } : AWal).next ≤ 2000000000) from S2.out)
          clear hH hmm S hnx S2 hk hlt
          generalize ({ W with dsk := { W.dsk with room := 1048576 } } : AWal) = W2 at S' hnx' S2' RM
          have S := S'
          have S2 := S2'
          have hnx := hnx'
          clear S' S2' hnx'
          go_wp2_with fail
          have TE := S.out.te
          have TL := S.out.tl
          have c200 := COND.out.1
          have J := jr_append S.out.jr hper0 S.out.small (by rw [HMANY.out]; omega) (by rw [S.out.flat]; omega) (r := [108, 97, 115, 116]) (by decide) (by intro y hy; simp only [List.mem_cons, List.not_mem_nil, or_false] at hy; rcases hy with rfl | rfl | rfl | rfl <;> decide)
          rw [S.out.flat, HMANY.out, RM.out, hnx.out] at J
          have W3 := Lib.hid (S.out.wal.mod ((Mod.refl (fun _ => False) w5).alloc (.cells #[.int .u8 108, .int .u8 97, .int .u8 115, .int .u8 116] 5 (4, 5))) (fun _ _ h => h.elim))
          have M3 := Lib.hid (S.out.mod.alloc (.cells #[.int .u8 108, .int .u8 97, .int .u8 115, .int .u8 116] 5 (4, 5)))
          have T3 := Lib.hid (S.out.took.mod ((Mod.refl (fun _ => False) w5).alloc (.cells #[.int .u8 108, .int .u8 97, .int .u8 115, .int .u8 116] 5 (4, 5))) (fun _ h => h.elim))
          have AP := walAppend_any W3.out S2.out.1 S2.out.2 _ [108, 97, 115, 116] (reads_const w5 [108, 97, 115, 116] (4, 5)) (by decide) (L1.out.grown M3.out)
          refine AP.mono ?_
          clear AP
          rcases J with ⟨_, g⟩ | ⟨gz, ⟨g0, _⟩ | ⟨W', D', g1, g2, g3, g4, g5, g6⟩⟩
          · exfalso
            rcases g with g | g
            · rcases COND.out with ⟨c1, c2 | c2⟩
              · omega
              · omega
            · have : (([108, 97, 115, 116] : List Int)).length = 4 := rfl
              rw [this] at g; omega
          · exact absurd S.out.ar g0
          rw [g1]
          rintro e w6 ⟨rfl, hW6, hm6⟩
          have M6 := Lib.hid (M3.out.trans hm6 (fun j _ h => by
            rcases h with h | h
            · exact Nat.le_of_not_lt (fun hj => h (S.out.grow j hj))
            · have := S.out.fresh; omega))
          have T6 := Lib.hid (T3.out.mod hm6 (fun j h => h))
          have H6 := Lib.hid hW6.disk
          have FL := Lib.hid (show D'.flatten = TT ++ [[108, 97, 115, 116]] from g3)
          have hmd : many D' ≤ 100000 := by rw [many_zero, FL.out]; simp; omega
          have G2 := Lib.hid g2
          have G4 := Lib.hid g4
          have G6 := Lib.hid (g6 S.out.ar)
          have L6 := Lib.hid (L1.out.grown M6.out)
          obtain ⟨A7, e7⟩ : ∃ A7, openA W'.dsk per = ⟨A7, 0, 1, lastStart 1 D' 1, 1 + many D', D'.flatten⟩ := by
            rcases open_law G2.out.on H6.out.ok.rising (Or.inl G2.out.files) hmd (fun e he r hr => (G4.out e he r hr).1) per hper0 with ⟨g, _⟩ | ⟨A7, g, _⟩
            · exact absurd G6.out g
            · exact ⟨A7, g⟩
          have OP := open_ok H6.out (broken_bytes (Or.inl G2.out.files) G4.out) per hper0 hp1 G2.out.on L6.out (fun k hk => S.out.grow _ (L1.out.lt hk)) (by rw [e7])
          rw [e7] at OP
          clear gz g1 g2 g3 g4 g5 g6 hW6 hm6 hmd TE
          go_wp2_with fail
          refine OP.mono ?_
          rintro e w7 ⟨Q7, wp7, rv7, rfl, hg, hnq, hW, hrow, hm⟩
          have M7 := Lib.hid (M6.out.trans hm (fun j _ h => Nat.le_of_not_lt (fun hj => h (S.out.grow j hj))))
          have T7 := T6.out.mod hm (fun j h => Or.inl h)
          have TRD := Lib.hid (T7.rd M7.out)
          rw [FL.out] at hrow
          have RD7 := Lib.hid hrow.rd
          obtain ⟨vs7, hvs7, _⟩ := hrow.ex
          obtain ⟨ar7, cr7, rfl, hcr⟩ := ownsRow_slice hvs7
          obtain ⟨vst, hvst, _⟩ := T7.ex
          obtain ⟨at7, ct7, rfl, _⟩ := ownsRow_slice hvst
          obtain ⟨a2, c2, he2, hall⟩ := RD7.out.ex
          obtain ⟨b7, u7, hb7, hcell, hu7⟩ := hall TT.length [108, 97, 115, 116] (by simp)
          have hb8 : ar7 = some b7 := by injection he2 with h _ _; rw [h]; exact hb7
          clear he2 hb7
          subst hb8
          obtain ⟨t1, ht⟩ : ∃ t1, t1 = (TT ++ [[108, 97, 115, 116]]).length := ⟨_, rfl⟩
          rw [← ht] at RD7 hcr ⊢
          have ht1 : ((t1 : Nat) : Int) = (TT.length : Int) + 1 := by rw [ht]; simp
          have htl : (TT.length : Int) + 1 - 1 = (TT.length : Int) := by omega
          have RD8 := Lib.hid (show RowsRd w7 (.slice (some b7) TT.length cr7) TT from by
            have := RD7.out.front (k := TT.length) (c' := cr7) (by simp)
            rw [List.take_left] at this
            exact this)
          have hsl : ∀ W, (Instr.slice 37 (.slice (some b7) t1 cr7) none (some (.int .i64 (TT.length : Int))) none).run Tryd.prog W = .ok (.slice (some b7) TT.length cr7) W := fun W => slice_rowsF W (some b7) t1 cr7 TT.length (by omega) (by simp)
          obtain ⟨ua, uc, rfl⟩ := reads_form hu7
          have HC7 := Lib.hid hcell
          have HU7 := Lib.hid hu7
          have SMT := Lib.hid (show ∀ x ∈ TT, x.length ≤ 65536 from fun x hx => by
            have hx2 : x ∈ D'.flatten := by rw [FL.out]; exact List.mem_append_left _ hx
            obtain ⟨e, he, hxe⟩ := List.mem_flatten.1 hx2
            exact (G4.out e he x hxe).1)
          clear OP hg hnq hW hrow hm hvs7 hvst hall hcell hu7 ht T7 e7
          go_wp2_with fail
          refine (alike_yes w7 _ _ TT RD8.out TRD.out (by omega) (fun x hx => by have := SMT.out x hx; omega)).mono ?_
          rintro e w8 ⟨rfl, hb8⟩
          have c8 := (Mod.ofBelow hb8).cell HC7.out (fun h => h)
          have kv := convert_reads (w := w8) (x := 108) (xs := [97, 115, 116]) (Reads.kept HU7.out (Mod.ofBelow hb8) (fun _ _ h => h))
          rw [show strOfNums [108, 97, 115, 116] = ⟨#[108, 97, 115, 116]⟩ from by kernel_rfl] at kv
          have hl4 : ([108, 97, 115, 116] : List Int).length = 4 := rfl
          rw [hl4] at kv c8
          have B8 := Lib.hid ((((M1.out.mono (T := fun j => w.heap.size ≤ j) (fun _ _ h => h.elim)).trans (M7.out.trans (Mod.ofBelow hb8) (fun _ _ h => h.elim)) (fun j _ h => Nat.le_trans B1.out.size h)).mono (T := fun _ => False) (fun k hk h => by omega)).toBelow)
          clear hb8 hsl
          go_wp2_with fail
          go_ret
          exact ⟨rfl, B8.out⟩
end Go.Proofs.YtmpdmejlpicdlaaDoor

/- SnapLoses, walked. -/
import Derived.Test.YtmpdmejlpicdlaaDoorDiskIn
import Derived.Test.YtmpdmejlpicdlaaDoorSnapW
import Derived.Test.YtmpdmejlpicdlaaDoorSnapQb
namespace Go.Proofs.YtmpdmejlpicdlaaDoor
open Go.RowKit Go.Bw Go.Maps
set_option linter.unusedVariables false
set_option linter.unusedSimpArgs false

theorem i64_and255 (n : Int) : bits .and .i64 n 255 = n % 256 := by
  have h255 : (BitVec.ofInt 64 255).toNat = 2 ^ 8 - 1 := by decide
  have key : (BitVec.ofInt 64 n &&& BitVec.ofInt 64 255).toNat = (n % ((2 ^ 64 : Nat) : Int)).toNat % 2 ^ 8 := by
    rw [BitVec.toNat_and, BitVec.toNat_ofInt, h255, Nat.and_two_pow_sub_one_eq_mod]
  show IntKind.i64.wrap ((BitVec.ofInt 64 n &&& BitVec.ofInt 64 255).toNat : Nat) = n % 256
  rw [key, IntKind.wrap_i64]
  omega
def StepsIn (w : World) (b : Option Addr) (m : Nat) : Prop := ∀ j, j < m → ∃ b' x, b = some b' ∧ w.cell? (b'.add j) = some (.int .i64 x)
/-- What is found behind the loss. -/
def Found (p : Option (Int × List Int)) (N2 : Int) (body : List Int) (r : Int × List Int) : Prop := (r.1 = (lastOf p).1 ∧ r.2 = (lastOf p).2) ∨ (r.1 ≠ (lastOf p).1 ∧ r.1 = N2 ∧ r.2 = body)
theorem found_cut {p : Option (Int × List Int)} {n : Int} (hp : Good p n) (h0 : 0 ≤ n) (h1 : n ≤ 999999999) {body : List Int} (hl : body.length ≤ 262144) {F : List (Nm × Cont)} (h : CutF p n body F) : Found p n body (loadGo F (-1, [])) := by
  rcases load_cut hp h0 h1 hl h with e | e
  · rw [e]; exact Or.inl ⟨rfl, rfl⟩
  · rw [e]
    refine Or.inr ⟨?_, rfl, rfl⟩
    show n ≠ (lastOf p).1
    cases p with
    | none => show n ≠ -1; omega
    | some q => have := (hp q rfl).2.1; show n ≠ q.1; omega
/-- Behind k snapshots. -/
structure LoseAt (w w1 : World) (d : Nat) (P : Nat → List Int) (cs : Array Value) (k : Nat) (N : Int) (p : Option (Int × List Int)) (v : Value) (wr : World) : Prop where
  shape : (k = 0 ∧ p = none ∧ N = 0) ∨ (0 < k ∧ p = some (N, P (k - 1)))
  bound : 0 ≤ N ∧ N ≤ 256 * (k : Int)
  mod : Mod (fun j => w.heap.size ≤ j) w wr
  disk : ∃ A, Snug A p ∧ Held (fun j => j < w1.heap.size) wr d A
  xb : wr.heap[w.heap.size]? = some (.cells cs 40 (0, 0))
  rd : Reads w 1 v (lastOf p).2.length (bcells (lastOf p).2)

set_option maxRecDepth 100000 in
set_option maxHeartbeats 3000000 in
theorem loses_walk (w : World) (a : Option Addr) (n ca : Nat) (P : Nat → List Int) (b : Option Addr) (m cb : Nat) (cut keep : Int) (hR : RowsIn w a n P) (hF : StepsIn w b m) (hBy : ∀ k, k < n → Bytes (P k))
    (hL : Laid w) (hn : n ≤ 9223372036854775807) (hm : m ≤ 9223372036854775807) (hc0 : -9223372036854775808 ≤ cut) (hc1 : cut ≤ 9223372036854775807) (hk0 : -9223372036854775808 ≤ keep) (hk1 : keep ≤ 9223372036854775807) :
    Calls Tryd.prog 6 #[.agg #[.slice a n ca, .slice b m cb, .int .i64 cut, .int .i64 keep]] w (SaysOut w true) := by
  have HR := Lib.hid hR
  have HL := Lib.hid hL
  have HF := Lib.hid hF
  have HBY := Lib.hid hBy
  clear hR hL hF hBy
  have kc := fun (w : World) (C : Array Value) (n c : Nat) => Lib.run_convert_bytes_const (P := Tryd.prog) w 22 5 C n c Tryd.underlying22 Tryd.underlying5
  go_enter Tryd.func6, Tryd.ntmps6
  go_wp2_with fail
  have XB0 := Lib.hid (show (w.alloc (.cells #[.slice a n ca, .slice b m cb, .int .i64 cut, .int .i64 keep] 40)).heap[w.heap.size]? = some (.cells #[.slice a n ca, .slice b m cb, .int .i64 cut, .int .i64 keep] 40 (0, 0)) from by show (w.heap.push _)[w.heap.size]? = _; simp)
  have M0 := Lib.hid ((Mod.refl (fun _ => False) w).alloc (.cells #[.slice a n ca, .slice b m cb, .int .i64 cut, .int .i64 keep] 40))
  have hsz0 : w.heap.size < (w.alloc (.cells #[.slice a n ca, .slice b m cb, .int .i64 cut, .int .i64 keep] 40)).heap.size := by simp
  generalize w.alloc (.cells #[.slice a n ca, .slice b m cb, .int .i64 cut, .int .i64 keep] 40) = w0 at XB0 M0 hsz0 ⊢
  refine (swakes_any w0 (HL.out.below M0.out.toBelow)).mono ?_
  rintro e w1 ⟨rfl, hb⟩
  have M1 := Lib.hid (M0.out.trans (Mod.ofBelow hb) (fun _ _ h => h))
  have B1 := Lib.hid M1.out.toBelow
  have L1 := Lib.hid (HL.out.below M1.out.toBelow)
  have XB1 := Lib.hid ((Mod.ofBelow hb).heap XB0.out (fun h => h))
  have SZ1 := Lib.hid (Nat.lt_of_lt_of_le hsz0 hb.size)
  clear hb hsz0
  have hx0 := cell_of_heap XB1.out 0
  have hx1 := cell_of_heap XB1.out 1
  have hx2 := cell_of_heap XB1.out 2
  have hx3 := cell_of_heap XB1.out 3
  go_wp2_with fail
  go_loop [3, 23] (fun t i => ∃ k : Nat, k ≤ n ∧ i = .int .i64 k ∧ t = .int .i64 (flat P k).length ∧ (flat P k).length ≤ 262144) (fun _ i => n - (intOf i).toNat)
  case atStart => exact ⟨0, Nat.zero_le _, rfl, rfl, by simp [flat]⟩
  case round =>
    obtain ⟨k, hk, rfl, rfl, hl⟩ := hrel
    by_cases hlt : k < n
    · obtain ⟨a', x, c, rfl, hcc, hr, hp⟩ := HR.out k hlt
      have hc := (B1.out.cell (World.block_lt_of_cell? w _ hcc)).trans hcc
      have FL := Lib.hid (flat_len P k)
      clear hcc hr
      by_cases hgt : (flat P k).length + (P k).length ≤ 262144
      · go_wp2
        go_round
        case rel => exact ⟨k + 1, by omega, by go_num, by rw [FL.out]; go_num, by rw [FL.out]; omega⟩
        case measure => simp [intOf]; omega
      · have hgt' : (262144 : Int) < ((flat P k).length : Int) + (P k).length := by omega
        go_wp2
        go_ret
        exact ⟨rfl, B1.out⟩
    · obtain rfl : n = k := by omega
      have HT := Lib.hid hl
      clear hlt hk hl
      by_cases hbig : n ≤ 256
      case neg =>
        go_wp2_with fail
        go_ret
        exact ⟨rfl, B1.out⟩
      go_wp2_with fail
      refine (held_new w1 2097152).mono ?_
      rintro e w2 ⟨rfl, hH, hb, hsz⟩
      have H2 := Lib.hid hH
      have M2 := Lib.hid (M1.out.trans (Mod.ofBelow hb) (fun _ _ h => h))
      have XB2 := Lib.hid ((Mod.ofBelow hb).heap XB1.out (fun h => h))
      have L2 := Lib.hid (L1.out.below hb)
      clear hH hb hsz hx0 hx1 hx2 hx3
      have hx0 := cell_of_heap XB2.out 0
      have hx1 := cell_of_heap XB2.out 1
      have hx2 := cell_of_heap XB2.out 2
      have hx3 := cell_of_heap XB2.out 3
      go_wp2_with fail
      refine (held_arm H2.out cut keep hc1 hk0 hk1).mono ?_
      rintro e w3 ⟨rfl, hH, hm⟩
      have H3 := Lib.hid hH
      have G3 := Lib.hid (show Mod (fun j => w.heap.size ≤ j) w w3 from (M2.out.mono (T := fun j => w.heap.size ≤ j) (fun _ _ h => h.elim)).trans hm (fun j _ h => Nat.le_trans (Nat.le_of_lt SZ1.out) (Nat.le_of_not_lt h)))
      have XB3 := Lib.hid (hm.heap XB2.out (fun h => h SZ1.out))
      have L3 := Lib.hid (L2.out.mod hm (fun k hk h => h (L1.out.lt hk)))
      clear hH hm hx0 hx1 hx2 hx3
      have hx0 := cell_of_heap XB3.out 0
      have hx1 := cell_of_heap XB3.out 1
      have hx2 := cell_of_heap XB3.out 2
      have hx3 := cell_of_heap XB3.out 3
      go_wp2_with fail
      have START := Lib.hid (show LoseAt w w1 (w1.heap.size + 1) P #[.slice a n ca, .slice b m cb, .int .i64 cut, .int .i64 keep] 0 0 none (.slice none 0 0) w3 from
        ⟨Or.inl ⟨rfl, rfl, rfl⟩, by omega, G3.out, ⟨_, ⟨rfl, rfl, rfl⟩, H3.out⟩, XB3.out, ⟨rfl, Or.inl ⟨_, rfl, rfl⟩⟩⟩)
      have SZ := Lib.hid SZ1.out
      clear hx0 hx1 hx2 hx3
      go_loopw [7, 8, 9, 10, 11, 48] (fun nv lv bv xv yv i wr => ∃ (k : Nat) (N : Int) (p : Option (Int × List Int)), k ≤ n ∧ i = .int .i64 k ∧ nv = .int .i64 N ∧ lv = .int .i64 (lastOf p).1 ∧ xv = .int .i64 (lastOf p).1 ∧ yv = bv ∧ LoseAt w w1 (w1.heap.size + 1) P #[.slice a n ca, .slice b m cb, .int .i64 cut, .int .i64 keep] k N p bv wr) (fun _ _ _ _ _ i _ => n - (intOf i).toNat)
      case atStart => exact ⟨0, 0, none, Nat.zero_le _, rfl, rfl, rfl, rfl, rfl, START.out⟩
      case round =>
        obtain ⟨k, N, p, hk, rfl, rfl, rfl, rfl, rfl, hS⟩ := hrel
        have S := Lib.hid hS
        clear hS
        have hx0 := cell_of_heap S.out.xb 0
        have hx1 := cell_of_heap S.out.xb 1
        have hx3 := cell_of_heap S.out.xb 3
        by_cases hlt : k < n
        · obtain ⟨a', x, c, rfl, hcc, hr, hp⟩ := HR.out k hlt
          have hc := (S.out.mod.cell hcc (fun h => by have := World.block_lt_of_cell? w _ hcc; omega))
          have HRD := Lib.hid hr
          have L01 := Lib.hid B1.out.size
          have hplen : (P k).length ≤ 262144 := by
            have h3 := flat_len P k
            have h4 := flat_mono P (show k + 1 ≤ n from hlt)
            have h5 := HT.out
            omega
          have hb2 := S.out.bound
          clear hcc hr
          by_cases hkm : k < m
          · obtain ⟨b', y, rfl, hcb⟩ := HF.out k hkm
            have hcy := (S.out.mod.cell hcb (fun h => by have := World.block_lt_of_cell? w _ hcb; omega))
            obtain ⟨q, hq⟩ : ∃ q : Int, q = y % 256 := ⟨_, rfl⟩
            have hq0 : 0 ≤ q := by omega
            have hq1 : q ≤ 255 := by omega
            have ha : bits .and .i64 y 255 = q := by rw [i64_and255, hq]
            obtain ⟨N2, hN2e⟩ : ∃ N2 : Int, N + (1 + q) = N2 := ⟨_, rfl⟩
            have hN2 : N < N2 := by omega
            have hN2b : N2 ≤ 256 * (k + 1) := by omega
            clear hcb hq
            go_wp2_with fail
            obtain ⟨A, hsn, hH⟩ := S.out.disk
            have HG := Lib.hid (show Good p N2 from fun q hq => by
              rcases S.out.shape with ⟨_, h, _⟩ | ⟨h1, h⟩
              · rw [h] at hq; cases hq
              · rw [h] at hq; cases hq
                refine ⟨S.out.bound.1, hN2, ?_⟩
                have h3 := flat_len P (k - 1)
                rw [Nat.sub_add_cancel h1] at h3
                have h4 := flat_mono P hk
                have h5 := HT.out
                show (P (k - 1)).length ≤ 262144
                omega)
            have RX := Lib.hid (reads_later HRD.out S.out.mod (fun j hj h => by omega))
            have LX := Lib.hid (HL.out.mod S.out.mod (fun j hj h => by have := HL.out.lt hj; omega))
            refine (save_any hH N2 (by omega) (by omega) _ (P k) RX.out (fun hne j hj => Nat.lt_of_lt_of_le (reads_lt HRD.out hne j hj) L01.out) (by omega) LX.out (fun j hj => L1.out.lt hj)).mono ?_
            have HBD := Lib.hid (show Bytes (P k) from HBY.out k hlt)
            have SN := Lib.hid hsn
            rcases save_snug hsn HG.out (by omega) (by omega) hplen with ⟨A', hsv, hsn'⟩ | ⟨A', hsv, hoff, hroom, hcut⟩
            · rw [hsv]
              rintro e w5 ⟨rfl, hH5, hm5⟩
              have S5 := Lib.hid (show LoseAt w w1 (w1.heap.size + 1) P #[.slice (some a') n ca, .slice (some b') m cb, .int .i64 cut, .int .i64 keep] (k + 1) N2 (some (N2, P k)) (.slice x (P k).length c) w5 from
                ⟨Or.inr ⟨by omega, rfl⟩, by omega, S.out.mod.trans hm5 (fun j _ h => Nat.le_trans (Nat.le_of_lt SZ.out) (Nat.le_of_not_lt h)), ⟨_, hsn', hH5⟩, hm5.heap S.out.xb (fun h => h SZ.out), HRD.out⟩)
              clear hsv hsn' hH5 hm5 hsn hH
              go_wp2_with fail
              go_roundw
              case rel => exact ⟨k + 1, N2, some (N2, P k), by omega, by go_num, rfl, rfl, rfl, rfl, S5.out⟩
              case measure => simp [intOf]; omega
            · rw [hsv]
              rintro e w5 ⟨rfl, hH5, hm5⟩
              have H5 := Lib.hid hH5
              have M5 := Lib.hid (S.out.mod.trans hm5 (fun j _ h => Nat.le_trans (Nat.le_of_lt SZ.out) (Nat.le_of_not_lt h)))
              have XB5 := Lib.hid (hm5.heap S.out.xb (fun h => h SZ.out))
              have CUT := Lib.hid hcut
              have ROOM := Lib.hid hroom
              have OFFH := Lib.hid hoff
              clear hsv hH5 hm5 hsn hH hcut hroom hoff
              go_wp2_with fail
              refine (held_down H5.out).mono ?_
              rw [OFFH.out]
              rintro e w6 ⟨rfl, rfl⟩
              go_wp2_with fail
              refine (held_down H5.out).mono ?_
              rw [OFFH.out]
              rintro e w6 ⟨rfl, rfl⟩
              go_wp2_with fail
              have BYF := Lib.hid (show BytesF A'.files from bytes_cut (p := p) (fun q hq => by
                rcases S.out.shape with ⟨_, h, _⟩ | ⟨h1, h⟩
                · rw [h] at hq; cases hq
                · rw [h] at hq; cases hq
                  exact HBY.out (k - 1) (by omega)) HBD.out CUT.out)
              have FOUND := Lib.hid (found_cut HG.out (by omega) (by omega) hplen CUT.out)
              refine (held_on H5.out).mono ?_
              rintro e w6 ⟨rfl, hH, hm⟩
              have H6 := Lib.hid hH
              have M6 := Lib.hid (M5.out.trans hm (fun j _ h => Nat.le_trans (Nat.le_of_lt SZ.out) (Nat.le_of_not_lt h)))
              clear hH hm
              go_wp2_with fail
              refine (held_arm H6.out 0 0 (by decide) (by decide) (by decide)).mono ?_
              rintro e w7 ⟨rfl, hH, hm⟩
              have H7 := Lib.hid hH
              have M7 := Lib.hid (M6.out.trans hm (fun j _ h => Nat.le_trans (Nat.le_of_lt SZ.out) (Nat.le_of_not_lt h)))
              have L7 := Lib.hid (HL.out.mod M7.out (fun j hj h => by have := HL.out.lt hj; omega))
              clear hH hm
              obtain ⟨A7, hA7⟩ : ∃ A7, A7 = ({ A' with off := false } : ADsk).arm 0 0 := ⟨_, rfl⟩
              rw [← hA7] at H7
              have F7 := Lib.hid (show A7.files = A'.files from by rw [hA7]; rfl)
              have O7 := Lib.hid (show A7.off = false from by rw [hA7]; rfl)
              have R7 := Lib.hid (show A7.room = 2097152 from by rw [hA7]; exact ROOM.out)
              have AR7 := Lib.hid (show A7.ar = 0 from by rw [hA7]; rfl)
              clear hA7
              go_wp2_with fail
              have LD := load_any H7.out (by rw [F7.out]; exact BYF.out) L7.out
              rw [O7.out, F7.out] at LD
              simp only [Bool.false_eq_true, if_false] at LD
              have FND := FOUND.out
              obtain ⟨m1, x1, hmx⟩ : ∃ m1 x1, loadGo A'.files (-1, []) = (m1, x1) := ⟨_, _, rfl⟩
              rw [hmx] at LD FND
              have LD' := Lib.hid LD
              clear LD hmx
              refine LD'.out.mono ?_
              rintro e w8 ⟨v8, rfl, ho, hb, hH⟩
              obtain ⟨a8, c8, hv8, _⟩ := ownsRow_slice ho
              subst hv8
              have X8 := Lib.hid (ownsRow_reads ho)
              have H8 := Lib.hid (hH.weaken (T := fun j => j < w1.heap.size) (fun k hk => Or.inl hk))
              have M8 := Lib.hid (M7.out.trans (Mod.ofBelow hb) (fun _ _ h => h.elim))
              clear ho hb hH LD'
              have V8 := Lib.hid (reads_later S.out.rd M8.out (fun j hj h => by omega))
              have B8 := Lib.hid (reads_later HRD.out M8.out (fun j hj h => by omega))
              have HLL := Lib.hid (show (lastOf p).2.length ≤ 262144 from by
                cases p with
                | none => simp [lastOf]
                | some q => exact (HG.out q rfl).2.2)
              rcases FND with ⟨e1, e2⟩ | ⟨e1, e2, e3⟩
              · subst e1
                subst e2
                go_wp2_with fail
                refine (same_yes w8 _ _ _ X8.out V8.out (by have h5 := HLL.out; omega)).mono ?_
                rintro e w9 ⟨rfl, hb⟩
                have H9 := Lib.hid (H8.out.mod (Mod.ofBelow hb) (fun _ _ h => h.elim))
                have M9 := Lib.hid (M8.out.trans (Mod.ofBelow hb) (fun _ _ h => h.elim))
                clear hb
                go_wp2_with fail
                have L9 := Lib.hid (HL.out.mod (M9.out.alloc (.cells #[.int .u8 122] 5 (1, 2))) (fun j hj h => by have := HL.out.lt hj; omega))
                refine (save_any (H9.out.row (.cells #[.int .u8 122] 5 (1, 2))) (N2 + 1) (by omega) (by omega) _ [122] (reads_const w9 [122] (1, 2)) (fun _ j hj => Or.inr (by simpa [Value.ownBlock] using hj.symm)) (by simp) L9.out (fun j hj => Or.inl (L1.out.lt hj))).mono ?_
                have OK9 := H9.out.ok
                have FW := few_cut HG.out (by omega) (by omega) hplen CUT.out
                rw [← F7.out] at FW
                obtain ⟨A10, hsv, hoff, hfl⟩ := save_ok (A := A7) (n := N2 + 1) (body := [122]) (by omega) (by omega) (by simp) O7.out AR7.out OK9.rising OK9.names (by have := FW.len; omega) (by rw [R7.out]; have := FW.tot; simp; omega) (by simp) FW.all
                rw [hsv]
                rintro e w10 ⟨rfl, hH, hm⟩
                have H10 := Lib.hid (hH.weaken (T := fun j => j < w1.heap.size) (fun k hk => Or.inl hk))
                have M10 := Lib.hid ((M9.out.alloc (.cells #[.int .u8 122] 5 (1, 2))).trans hm (fun j _ h => Nat.le_trans (Nat.le_of_lt SZ.out) (Nat.le_of_not_lt (fun hlt => h (Or.inl hlt)))))
                have L10 := Lib.hid (HL.out.mod M10.out (fun j hj h => by have := HL.out.lt hj; omega))
                have FL := Lib.hid hfl
                have OF := Lib.hid hoff
                clear OK9 FW hsv hoff hfl hH hm
                go_wp2_with fail
                have LD := load_any H10.out (by rw [FL.out]; intro f hf; rcases List.mem_singleton.1 hf with rfl; show Bytes (encode (N2 + 1) [122] ++ []); rw [List.append_nil]; exact encode_bytes (by intro y hy; rcases List.mem_singleton.1 hy with rfl; decide)) L10.out
                rw [OF.out, FL.out, show loadGo [entry (N2 + 1) [122]] (-1, []) = (N2 + 1, [122]) from load_entry (by omega) (by omega) (by simp) _] at LD
                simp only [Bool.false_eq_true, if_false] at LD
                have LD' := Lib.hid LD
                clear LD
                refine LD'.out.mono ?_
                rintro e w11 ⟨v11, rfl, ho, hb, hH⟩
                obtain ⟨a11, c11, hv11, _⟩ := ownsRow_slice ho
                subst hv11
                have kv : (convert 22 9 (.slice a11 1 c11)).run Tryd.prog w11 = .ok (.string ⟨#[122]⟩) w11 := by
                  have h := convert_reads (w := w11) (x := 122) (xs := []) (ownsRow_reads ho)
                  rw [show strOfNums [122] = ⟨#[122]⟩ from by kernel_rfl] at h
                  exact h
                have H11 := Lib.hid (hH.weaken (T := fun j => j < w1.heap.size) (fun k hk => Or.inl hk))
                have M11 := Lib.hid (M10.out.trans (Mod.ofBelow hb) (fun _ _ h => h.elim))
                clear ho hb hH LD'
                go_wp2_with fail
                refine (held_names H11.out).mono ?_
                rw [show A10.names = [nm9 115 0 (N2 + 1)] from by unfold ADsk.names; rw [OF.out, FL.out]; rfl]
                rintro e w12 ⟨v12, rfl, ho, hb, hH⟩
                obtain ⟨a12, c12, hv12, _⟩ := ownsRow_slice ho
                subst hv12
                have B12 := Lib.hid (((M11.out.trans (Mod.ofBelow hb) (fun _ _ h => h.elim)).mono (T := fun _ => False) (fun k hk h => by omega)).toBelow)
                clear ho hb hH
                go_wp2_with fail
                go_ret
                exact ⟨rfl, B12.out⟩
              · have e2' := e2.symm
                subst e2'
                subst e3
                have ne1 : (N2 != (lastOf p).1) = true := by rw [bne_iff_ne]; exact e1
                have ne2 : (N2 == (lastOf p).1) = false := by rw [beq_eq_false_iff_ne]; exact e1
                clear e1
                go_wp2_with fail
                refine (same_yes w8 _ _ _ X8.out B8.out (by omega)).mono ?_
                rintro e w9 ⟨rfl, hb⟩
                have H9 := Lib.hid (H8.out.mod (Mod.ofBelow hb) (fun _ _ h => h.elim))
                have M9 := Lib.hid (M8.out.trans (Mod.ofBelow hb) (fun _ _ h => h.elim))
                clear hb
                go_wp2_with fail
                have L9 := Lib.hid (HL.out.mod (M9.out.alloc (.cells #[.int .u8 122] 5 (1, 2))) (fun j hj h => by have := HL.out.lt hj; omega))
                refine (save_any (H9.out.row (.cells #[.int .u8 122] 5 (1, 2))) (N2 + 1) (by omega) (by omega) _ [122] (reads_const w9 [122] (1, 2)) (fun _ j hj => Or.inr (by simpa [Value.ownBlock] using hj.symm)) (by simp) L9.out (fun j hj => Or.inl (L1.out.lt hj))).mono ?_
                have OK9 := H9.out.ok
                have FW := few_cut HG.out (by omega) (by omega) hplen CUT.out
                rw [← F7.out] at FW
                obtain ⟨A10, hsv, hoff, hfl⟩ := save_ok (A := A7) (n := N2 + 1) (body := [122]) (by omega) (by omega) (by simp) O7.out AR7.out OK9.rising OK9.names (by have := FW.len; omega) (by rw [R7.out]; have := FW.tot; simp; omega) (by simp) FW.all
                rw [hsv]
                rintro e w10 ⟨rfl, hH, hm⟩
                have H10 := Lib.hid (hH.weaken (T := fun j => j < w1.heap.size) (fun k hk => Or.inl hk))
                have M10 := Lib.hid ((M9.out.alloc (.cells #[.int .u8 122] 5 (1, 2))).trans hm (fun j _ h => Nat.le_trans (Nat.le_of_lt SZ.out) (Nat.le_of_not_lt (fun hlt => h (Or.inl hlt)))))
                have L10 := Lib.hid (HL.out.mod M10.out (fun j hj h => by have := HL.out.lt hj; omega))
                have FL := Lib.hid hfl
                have OF := Lib.hid hoff
                clear OK9 FW hsv hoff hfl hH hm
                go_wp2_with fail
                have LD := load_any H10.out (by rw [FL.out]; intro f hf; rcases List.mem_singleton.1 hf with rfl; show Bytes (encode (N2 + 1) [122] ++ []); rw [List.append_nil]; exact encode_bytes (by intro y hy; rcases List.mem_singleton.1 hy with rfl; decide)) L10.out
                rw [OF.out, FL.out, show loadGo [entry (N2 + 1) [122]] (-1, []) = (N2 + 1, [122]) from load_entry (by omega) (by omega) (by simp) _] at LD
                simp only [Bool.false_eq_true, if_false] at LD
                have LD' := Lib.hid LD
                clear LD
                refine LD'.out.mono ?_
                rintro e w11 ⟨v11, rfl, ho, hb, hH⟩
                obtain ⟨a11, c11, hv11, _⟩ := ownsRow_slice ho
                subst hv11
                have kv : (convert 22 9 (.slice a11 1 c11)).run Tryd.prog w11 = .ok (.string ⟨#[122]⟩) w11 := by
                  have h := convert_reads (w := w11) (x := 122) (xs := []) (ownsRow_reads ho)
                  rw [show strOfNums [122] = ⟨#[122]⟩ from by kernel_rfl] at h
                  exact h
                have H11 := Lib.hid (hH.weaken (T := fun j => j < w1.heap.size) (fun k hk => Or.inl hk))
                have M11 := Lib.hid (M10.out.trans (Mod.ofBelow hb) (fun _ _ h => h.elim))
                clear ho hb hH LD'
                go_wp2_with fail
                refine (held_names H11.out).mono ?_
                rw [show A10.names = [nm9 115 0 (N2 + 1)] from by unfold ADsk.names; rw [OF.out, FL.out]; rfl]
                rintro e w12 ⟨v12, rfl, ho, hb, hH⟩
                obtain ⟨a12, c12, hv12, _⟩ := ownsRow_slice ho
                subst hv12
                have B12 := Lib.hid (((M11.out.trans (Mod.ofBelow hb) (fun _ _ h => h.elim)).mono (T := fun _ => False) (fun k hk h => by omega)).toBelow)
                clear ho hb hH
                go_wp2_with fail
                go_ret
                exact ⟨rfl, B12.out⟩
          · obtain ⟨N2, hN2e⟩ : ∃ N2 : Int, N + 1 = N2 := ⟨_, rfl⟩
            have hN2 : N < N2 := by omega
            have hN2b : N2 ≤ 256 * (k + 1) := by omega
            go_wp2_with fail
            obtain ⟨A, hsn, hH⟩ := S.out.disk
            have HG := Lib.hid (show Good p N2 from fun q hq => by
              rcases S.out.shape with ⟨_, h, _⟩ | ⟨h1, h⟩
              · rw [h] at hq; cases hq
              · rw [h] at hq; cases hq
                refine ⟨S.out.bound.1, hN2, ?_⟩
                have h3 := flat_len P (k - 1)
                rw [Nat.sub_add_cancel h1] at h3
                have h4 := flat_mono P hk
                have h5 := HT.out
                show (P (k - 1)).length ≤ 262144
                omega)
            have RX := Lib.hid (reads_later HRD.out S.out.mod (fun j hj h => by omega))
            have LX := Lib.hid (HL.out.mod S.out.mod (fun j hj h => by have := HL.out.lt hj; omega))
            refine (save_any hH N2 (by omega) (by omega) _ (P k) RX.out (fun hne j hj => Nat.lt_of_lt_of_le (reads_lt HRD.out hne j hj) L01.out) (by omega) LX.out (fun j hj => L1.out.lt hj)).mono ?_
            have HBD := Lib.hid (show Bytes (P k) from HBY.out k hlt)
            have SN := Lib.hid hsn
            rcases save_snug hsn HG.out (by omega) (by omega) hplen with ⟨A', hsv, hsn'⟩ | ⟨A', hsv, hoff, hroom, hcut⟩
            · rw [hsv]
              rintro e w5 ⟨rfl, hH5, hm5⟩
              have S5 := Lib.hid (show LoseAt w w1 (w1.heap.size + 1) P #[.slice (some a') n ca, .slice b m cb, .int .i64 cut, .int .i64 keep] (k + 1) N2 (some (N2, P k)) (.slice x (P k).length c) w5 from
                ⟨Or.inr ⟨by omega, rfl⟩, by omega, S.out.mod.trans hm5 (fun j _ h => Nat.le_trans (Nat.le_of_lt SZ.out) (Nat.le_of_not_lt h)), ⟨_, hsn', hH5⟩, hm5.heap S.out.xb (fun h => h SZ.out), HRD.out⟩)
              clear hsv hsn' hH5 hm5 hsn hH
              go_wp2_with fail
              go_roundw
              case rel => exact ⟨k + 1, N2, some (N2, P k), by omega, by go_num, rfl, rfl, rfl, rfl, S5.out⟩
              case measure => simp [intOf]; omega
            · rw [hsv]
              rintro e w5 ⟨rfl, hH5, hm5⟩
              have H5 := Lib.hid hH5
              have M5 := Lib.hid (S.out.mod.trans hm5 (fun j _ h => Nat.le_trans (Nat.le_of_lt SZ.out) (Nat.le_of_not_lt h)))
              have XB5 := Lib.hid (hm5.heap S.out.xb (fun h => h SZ.out))
              have CUT := Lib.hid hcut
              have ROOM := Lib.hid hroom
              have OFFH := Lib.hid hoff
              clear hsv hH5 hm5 hsn hH hcut hroom hoff
              go_wp2_with fail
              refine (held_down H5.out).mono ?_
              rw [OFFH.out]
              rintro e w6 ⟨rfl, rfl⟩
              go_wp2_with fail
              refine (held_down H5.out).mono ?_
              rw [OFFH.out]
              rintro e w6 ⟨rfl, rfl⟩
              go_wp2_with fail
              have BYF := Lib.hid (show BytesF A'.files from bytes_cut (p := p) (fun q hq => by
                rcases S.out.shape with ⟨_, h, _⟩ | ⟨h1, h⟩
                · rw [h] at hq; cases hq
                · rw [h] at hq; cases hq
                  exact HBY.out (k - 1) (by omega)) HBD.out CUT.out)
              have FOUND := Lib.hid (found_cut HG.out (by omega) (by omega) hplen CUT.out)
              refine (held_on H5.out).mono ?_
              rintro e w6 ⟨rfl, hH, hm⟩
              have H6 := Lib.hid hH
              have M6 := Lib.hid (M5.out.trans hm (fun j _ h => Nat.le_trans (Nat.le_of_lt SZ.out) (Nat.le_of_not_lt h)))
              clear hH hm
              go_wp2_with fail
              refine (held_arm H6.out 0 0 (by decide) (by decide) (by decide)).mono ?_
              rintro e w7 ⟨rfl, hH, hm⟩
              have H7 := Lib.hid hH
              have M7 := Lib.hid (M6.out.trans hm (fun j _ h => Nat.le_trans (Nat.le_of_lt SZ.out) (Nat.le_of_not_lt h)))
              have L7 := Lib.hid (HL.out.mod M7.out (fun j hj h => by have := HL.out.lt hj; omega))
              clear hH hm
              obtain ⟨A7, hA7⟩ : ∃ A7, A7 = ({ A' with off := false } : ADsk).arm 0 0 := ⟨_, rfl⟩
              rw [← hA7] at H7
              have F7 := Lib.hid (show A7.files = A'.files from by rw [hA7]; rfl)
              have O7 := Lib.hid (show A7.off = false from by rw [hA7]; rfl)
              have R7 := Lib.hid (show A7.room = 2097152 from by rw [hA7]; exact ROOM.out)
              have AR7 := Lib.hid (show A7.ar = 0 from by rw [hA7]; rfl)
              clear hA7
              go_wp2_with fail
              have LD := load_any H7.out (by rw [F7.out]; exact BYF.out) L7.out
              rw [O7.out, F7.out] at LD
              simp only [Bool.false_eq_true, if_false] at LD
              have FND := FOUND.out
              obtain ⟨m1, x1, hmx⟩ : ∃ m1 x1, loadGo A'.files (-1, []) = (m1, x1) := ⟨_, _, rfl⟩
              rw [hmx] at LD FND
              have LD' := Lib.hid LD
              clear LD hmx
              refine LD'.out.mono ?_
              rintro e w8 ⟨v8, rfl, ho, hb, hH⟩
              obtain ⟨a8, c8, hv8, _⟩ := ownsRow_slice ho
              subst hv8
              have X8 := Lib.hid (ownsRow_reads ho)
              have H8 := Lib.hid (hH.weaken (T := fun j => j < w1.heap.size) (fun k hk => Or.inl hk))
              have M8 := Lib.hid (M7.out.trans (Mod.ofBelow hb) (fun _ _ h => h.elim))
              clear ho hb hH LD'
              have V8 := Lib.hid (reads_later S.out.rd M8.out (fun j hj h => by omega))
              have B8 := Lib.hid (reads_later HRD.out M8.out (fun j hj h => by omega))
              have HLL := Lib.hid (show (lastOf p).2.length ≤ 262144 from by
                cases p with
                | none => simp [lastOf]
                | some q => exact (HG.out q rfl).2.2)
              rcases FND with ⟨e1, e2⟩ | ⟨e1, e2, e3⟩
              · subst e1
                subst e2
                go_wp2_with fail
                refine (same_yes w8 _ _ _ X8.out V8.out (by have h5 := HLL.out; omega)).mono ?_
                rintro e w9 ⟨rfl, hb⟩
                have H9 := Lib.hid (H8.out.mod (Mod.ofBelow hb) (fun _ _ h => h.elim))
                have M9 := Lib.hid (M8.out.trans (Mod.ofBelow hb) (fun _ _ h => h.elim))
                clear hb
                go_wp2_with fail
                have L9 := Lib.hid (HL.out.mod (M9.out.alloc (.cells #[.int .u8 122] 5 (1, 2))) (fun j hj h => by have := HL.out.lt hj; omega))
                refine (save_any (H9.out.row (.cells #[.int .u8 122] 5 (1, 2))) (N2 + 1) (by omega) (by omega) _ [122] (reads_const w9 [122] (1, 2)) (fun _ j hj => Or.inr (by simpa [Value.ownBlock] using hj.symm)) (by simp) L9.out (fun j hj => Or.inl (L1.out.lt hj))).mono ?_
                have OK9 := H9.out.ok
                have FW := few_cut HG.out (by omega) (by omega) hplen CUT.out
                rw [← F7.out] at FW
                obtain ⟨A10, hsv, hoff, hfl⟩ := save_ok (A := A7) (n := N2 + 1) (body := [122]) (by omega) (by omega) (by simp) O7.out AR7.out OK9.rising OK9.names (by have := FW.len; omega) (by rw [R7.out]; have := FW.tot; simp; omega) (by simp) FW.all
                rw [hsv]
                rintro e w10 ⟨rfl, hH, hm⟩
                have H10 := Lib.hid (hH.weaken (T := fun j => j < w1.heap.size) (fun k hk => Or.inl hk))
                have M10 := Lib.hid ((M9.out.alloc (.cells #[.int .u8 122] 5 (1, 2))).trans hm (fun j _ h => Nat.le_trans (Nat.le_of_lt SZ.out) (Nat.le_of_not_lt (fun hlt => h (Or.inl hlt)))))
                have L10 := Lib.hid (HL.out.mod M10.out (fun j hj h => by have := HL.out.lt hj; omega))
                have FL := Lib.hid hfl
                have OF := Lib.hid hoff
                clear OK9 FW hsv hoff hfl hH hm
                go_wp2_with fail
                have LD := load_any H10.out (by rw [FL.out]; intro f hf; rcases List.mem_singleton.1 hf with rfl; show Bytes (encode (N2 + 1) [122] ++ []); rw [List.append_nil]; exact encode_bytes (by intro y hy; rcases List.mem_singleton.1 hy with rfl; decide)) L10.out
                rw [OF.out, FL.out, show loadGo [entry (N2 + 1) [122]] (-1, []) = (N2 + 1, [122]) from load_entry (by omega) (by omega) (by simp) _] at LD
                simp only [Bool.false_eq_true, if_false] at LD
                have LD' := Lib.hid LD
                clear LD
                refine LD'.out.mono ?_
                rintro e w11 ⟨v11, rfl, ho, hb, hH⟩
                obtain ⟨a11, c11, hv11, _⟩ := ownsRow_slice ho
                subst hv11
                have kv : (convert 22 9 (.slice a11 1 c11)).run Tryd.prog w11 = .ok (.string ⟨#[122]⟩) w11 := by
                  have h := convert_reads (w := w11) (x := 122) (xs := []) (ownsRow_reads ho)
                  rw [show strOfNums [122] = ⟨#[122]⟩ from by kernel_rfl] at h
                  exact h
                have H11 := Lib.hid (hH.weaken (T := fun j => j < w1.heap.size) (fun k hk => Or.inl hk))
                have M11 := Lib.hid (M10.out.trans (Mod.ofBelow hb) (fun _ _ h => h.elim))
                clear ho hb hH LD'
                go_wp2_with fail
                refine (held_names H11.out).mono ?_
                rw [show A10.names = [nm9 115 0 (N2 + 1)] from by unfold ADsk.names; rw [OF.out, FL.out]; rfl]
                rintro e w12 ⟨v12, rfl, ho, hb, hH⟩
                obtain ⟨a12, c12, hv12, _⟩ := ownsRow_slice ho
                subst hv12
                have B12 := Lib.hid (((M11.out.trans (Mod.ofBelow hb) (fun _ _ h => h.elim)).mono (T := fun _ => False) (fun k hk h => by omega)).toBelow)
                clear ho hb hH
                go_wp2_with fail
                go_ret
                exact ⟨rfl, B12.out⟩
              · have e2' := e2.symm
                subst e2'
                subst e3
                have ne1 : (N2 != (lastOf p).1) = true := by rw [bne_iff_ne]; exact e1
                have ne2 : (N2 == (lastOf p).1) = false := by rw [beq_eq_false_iff_ne]; exact e1
                clear e1
                go_wp2_with fail
                refine (same_yes w8 _ _ _ X8.out B8.out (by omega)).mono ?_
                rintro e w9 ⟨rfl, hb⟩
                have H9 := Lib.hid (H8.out.mod (Mod.ofBelow hb) (fun _ _ h => h.elim))
                have M9 := Lib.hid (M8.out.trans (Mod.ofBelow hb) (fun _ _ h => h.elim))
                clear hb
                go_wp2_with fail
                have L9 := Lib.hid (HL.out.mod (M9.out.alloc (.cells #[.int .u8 122] 5 (1, 2))) (fun j hj h => by have := HL.out.lt hj; omega))
                refine (save_any (H9.out.row (.cells #[.int .u8 122] 5 (1, 2))) (N2 + 1) (by omega) (by omega) _ [122] (reads_const w9 [122] (1, 2)) (fun _ j hj => Or.inr (by simpa [Value.ownBlock] using hj.symm)) (by simp) L9.out (fun j hj => Or.inl (L1.out.lt hj))).mono ?_
                have OK9 := H9.out.ok
                have FW := few_cut HG.out (by omega) (by omega) hplen CUT.out
                rw [← F7.out] at FW
                obtain ⟨A10, hsv, hoff, hfl⟩ := save_ok (A := A7) (n := N2 + 1) (body := [122]) (by omega) (by omega) (by simp) O7.out AR7.out OK9.rising OK9.names (by have := FW.len; omega) (by rw [R7.out]; have := FW.tot; simp; omega) (by simp) FW.all
                rw [hsv]
                rintro e w10 ⟨rfl, hH, hm⟩
                have H10 := Lib.hid (hH.weaken (T := fun j => j < w1.heap.size) (fun k hk => Or.inl hk))
                have M10 := Lib.hid ((M9.out.alloc (.cells #[.int .u8 122] 5 (1, 2))).trans hm (fun j _ h => Nat.le_trans (Nat.le_of_lt SZ.out) (Nat.le_of_not_lt (fun hlt => h (Or.inl hlt)))))
                have L10 := Lib.hid (HL.out.mod M10.out (fun j hj h => by have := HL.out.lt hj; omega))
                have FL := Lib.hid hfl
                have OF := Lib.hid hoff
                clear OK9 FW hsv hoff hfl hH hm
                go_wp2_with fail
                have LD := load_any H10.out (by rw [FL.out]; intro f hf; rcases List.mem_singleton.1 hf with rfl; show Bytes (encode (N2 + 1) [122] ++ []); rw [List.append_nil]; exact encode_bytes (by intro y hy; rcases List.mem_singleton.1 hy with rfl; decide)) L10.out
                rw [OF.out, FL.out, show loadGo [entry (N2 + 1) [122]] (-1, []) = (N2 + 1, [122]) from load_entry (by omega) (by omega) (by simp) _] at LD
                simp only [Bool.false_eq_true, if_false] at LD
                have LD' := Lib.hid LD
                clear LD
                refine LD'.out.mono ?_
                rintro e w11 ⟨v11, rfl, ho, hb, hH⟩
                obtain ⟨a11, c11, hv11, _⟩ := ownsRow_slice ho
                subst hv11
                have kv : (convert 22 9 (.slice a11 1 c11)).run Tryd.prog w11 = .ok (.string ⟨#[122]⟩) w11 := by
                  have h := convert_reads (w := w11) (x := 122) (xs := []) (ownsRow_reads ho)
                  rw [show strOfNums [122] = ⟨#[122]⟩ from by kernel_rfl] at h
                  exact h
                have H11 := Lib.hid (hH.weaken (T := fun j => j < w1.heap.size) (fun k hk => Or.inl hk))
                have M11 := Lib.hid (M10.out.trans (Mod.ofBelow hb) (fun _ _ h => h.elim))
                clear ho hb hH LD'
                go_wp2_with fail
                refine (held_names H11.out).mono ?_
                rw [show A10.names = [nm9 115 0 (N2 + 1)] from by unfold ADsk.names; rw [OF.out, FL.out]; rfl]
                rintro e w12 ⟨v12, rfl, ho, hb, hH⟩
                obtain ⟨a12, c12, hv12, _⟩ := ownsRow_slice ho
                subst hv12
                have B12 := Lib.hid (((M11.out.trans (Mod.ofBelow hb) (fun _ _ h => h.elim)).mono (T := fun _ => False) (fun k hk h => by omega)).toBelow)
                clear ho hb hH
                go_wp2_with fail
                go_ret
                exact ⟨rfl, B12.out⟩
        · have hkn : n = k := by omega
          have L01 := Lib.hid B1.out.size
          have hb2 := S.out.bound
          go_wp2_with fail
          obtain ⟨A, hsn, hH⟩ := S.out.disk
          have HG := Lib.hid (show Good p (N + 1) from fun q hq => by
            rcases S.out.shape with ⟨_, h, _⟩ | ⟨h1, h⟩
            · rw [h] at hq; cases hq
            · rw [h] at hq; cases hq
              refine ⟨S.out.bound.1, by show N < N + 1; omega, ?_⟩
              have h3 := flat_len P (k - 1)
              rw [Nat.sub_add_cancel h1] at h3
              have h4 := flat_mono P hk
              have h5 := HT.out
              show (P (k - 1)).length ≤ 262144
              omega)
          have BYF := Lib.hid (show BytesF (last1 p) from bytes_last (p := p) (fun q hq => by
            rcases S.out.shape with ⟨_, h, _⟩ | ⟨h1, h⟩
            · rw [h] at hq; cases hq
            · rw [h] at hq; cases hq
              exact HBY.out (k - 1) (by omega)))
          have FOUND := Lib.hid (show loadGo (last1 p) (-1, []) = lastOf p from by
            have := load_snug (A := A) hsn HG.out (by omega)
            rw [hsn.files] at this; exact this)
          have FO := Lib.hid (show (A.goesOff keep).files = last1 p from by
            unfold ADsk.goesOff
            rw [hsn.on, hsn.files]
            simp [last_lost p keep])
          have ROOM := Lib.hid (show (A.goesOff keep).room = 2097152 from by
            unfold ADsk.goesOff
            rw [hsn.on]
            simp [hsn.room])
          have ONH := Lib.hid hsn.on
          have HH := Lib.hid hH
          clear hsn hH
          refine (held_down HH.out).mono ?_
          rw [ONH.out]
          rintro e w4 ⟨rfl, rfl⟩
          go_wp2_with fail
          refine (held_off HH.out keep hk0 hk1).mono ?_
          rintro e w5 ⟨rfl, hH5, hm5⟩
          have H5 := Lib.hid hH5
          have M5 := Lib.hid (S.out.mod.trans hm5 (fun j _ h => Nat.le_trans (Nat.le_of_lt SZ.out) (Nat.le_of_not_lt h)))
          clear hH5 hm5
          go_wp2_with fail
          refine (held_on H5.out).mono ?_
          rintro e w6 ⟨rfl, hH, hm⟩
          have H6 := Lib.hid hH
          have M6 := Lib.hid (M5.out.trans hm (fun j _ h => Nat.le_trans (Nat.le_of_lt SZ.out) (Nat.le_of_not_lt h)))
          clear hH hm
          go_wp2_with fail
          refine (held_arm H6.out 0 0 (by decide) (by decide) (by decide)).mono ?_
          rintro e w7 ⟨rfl, hH, hm⟩
          have H7 := Lib.hid hH
          have M7 := Lib.hid (M6.out.trans hm (fun j _ h => Nat.le_trans (Nat.le_of_lt SZ.out) (Nat.le_of_not_lt h)))
          have L7 := Lib.hid (HL.out.mod M7.out (fun j hj h => by have := HL.out.lt hj; omega))
          clear hH hm
          obtain ⟨A7, hA7⟩ : ∃ A7, A7 = ({ (A.goesOff keep) with off := false } : ADsk).arm 0 0 := ⟨_, rfl⟩
          rw [← hA7] at H7
          have F7 := Lib.hid (show A7.files = (last1 p) from by rw [hA7]; exact FO.out)
          have O7 := Lib.hid (show A7.off = false from by rw [hA7]; rfl)
          have R7 := Lib.hid (show A7.room = 2097152 from by rw [hA7]; exact ROOM.out)
          have AR7 := Lib.hid (show A7.ar = 0 from by rw [hA7]; rfl)
          clear hA7
          go_wp2_with fail
          have LD := load_any H7.out (by rw [F7.out]; exact BYF.out) L7.out
          rw [O7.out, F7.out] at LD
          simp only [Bool.false_eq_true, if_false] at LD
          have FND : (loadGo (last1 p) (-1, [])).1 = (lastOf p).1 ∧ (loadGo (last1 p) (-1, [])).2 = (lastOf p).2 := by rw [FOUND.out]; exact ⟨rfl, rfl⟩
          obtain ⟨m1, x1, hmx⟩ : ∃ m1 x1, loadGo (last1 p) (-1, []) = (m1, x1) := ⟨_, _, rfl⟩
          rw [hmx] at LD FND
          have LD' := Lib.hid LD
          clear LD hmx
          refine LD'.out.mono ?_
          rintro e w8 ⟨v8, rfl, ho, hb, hH⟩
          obtain ⟨a8, c8, hv8, _⟩ := ownsRow_slice ho
          subst hv8
          have X8 := Lib.hid (ownsRow_reads ho)
          have H8 := Lib.hid (hH.weaken (T := fun j => j < w1.heap.size) (fun k hk => Or.inl hk))
          have M8 := Lib.hid (M7.out.trans (Mod.ofBelow hb) (fun _ _ h => h.elim))
          clear ho hb hH LD'
          have V8 := Lib.hid (reads_later S.out.rd M8.out (fun j hj h => by omega))
          have HLL := Lib.hid (show (lastOf p).2.length ≤ 262144 from by
            cases p with
            | none => simp [lastOf]
            | some q => exact (HG.out q rfl).2.2)
          obtain ⟨e1, e2⟩ := FND
          subst e1
          subst e2
          go_wp2_with fail
          refine (same_yes w8 _ _ _ X8.out V8.out (by have h5 := HLL.out; omega)).mono ?_
          rintro e w9 ⟨rfl, hb⟩
          have H9 := Lib.hid (H8.out.mod (Mod.ofBelow hb) (fun _ _ h => h.elim))
          have M9 := Lib.hid (M8.out.trans (Mod.ofBelow hb) (fun _ _ h => h.elim))
          clear hb
          go_wp2_with fail
          have L9 := Lib.hid (HL.out.mod (M9.out.alloc (.cells #[.int .u8 122] 5 (1, 2))) (fun j hj h => by have := HL.out.lt hj; omega))
          refine (save_any (H9.out.row (.cells #[.int .u8 122] 5 (1, 2))) (N + 1) (by omega) (by omega) _ [122] (reads_const w9 [122] (1, 2)) (fun _ j hj => Or.inr (by simpa [Value.ownBlock] using hj.symm)) (by simp) L9.out (fun j hj => Or.inl (L1.out.lt hj))).mono ?_
          have OK9 := H9.out.ok
          have FW := few_last HG.out (by omega)
          rw [← F7.out] at FW
          obtain ⟨A10, hsv, hoff, hfl⟩ := save_ok (A := A7) (n := N + 1) (body := [122]) (by omega) (by omega) (by simp) O7.out AR7.out OK9.rising OK9.names (by have := FW.len; omega) (by rw [R7.out]; have := FW.tot; simp; omega) (by simp) FW.all
          rw [hsv]
          rintro e w10 ⟨rfl, hH, hm⟩
          have H10 := Lib.hid (hH.weaken (T := fun j => j < w1.heap.size) (fun k hk => Or.inl hk))
          have M10 := Lib.hid ((M9.out.alloc (.cells #[.int .u8 122] 5 (1, 2))).trans hm (fun j _ h => Nat.le_trans (Nat.le_of_lt SZ.out) (Nat.le_of_not_lt (fun hlt => h (Or.inl hlt)))))
          have L10 := Lib.hid (HL.out.mod M10.out (fun j hj h => by have := HL.out.lt hj; omega))
          have FL := Lib.hid hfl
          have OF := Lib.hid hoff
          clear OK9 FW hsv hoff hfl hH hm
          go_wp2_with fail
          have LD := load_any H10.out (by rw [FL.out]; intro f hf; rcases List.mem_singleton.1 hf with rfl; show Bytes (encode (N + 1) [122] ++ []); rw [List.append_nil]; exact encode_bytes (by intro y hy; rcases List.mem_singleton.1 hy with rfl; decide)) L10.out
          rw [OF.out, FL.out, show loadGo [entry (N + 1) [122]] (-1, []) = (N + 1, [122]) from load_entry (by omega) (by omega) (by simp) _] at LD
          simp only [Bool.false_eq_true, if_false] at LD
          have LD' := Lib.hid LD
          clear LD
          refine LD'.out.mono ?_
          rintro e w11 ⟨v11, rfl, ho, hb, hH⟩
          obtain ⟨a11, c11, hv11, _⟩ := ownsRow_slice ho
          subst hv11
          have kv : (convert 22 9 (.slice a11 1 c11)).run Tryd.prog w11 = .ok (.string ⟨#[122]⟩) w11 := by
            have h := convert_reads (w := w11) (x := 122) (xs := []) (ownsRow_reads ho)
            rw [show strOfNums [122] = ⟨#[122]⟩ from by kernel_rfl] at h
            exact h
          have H11 := Lib.hid (hH.weaken (T := fun j => j < w1.heap.size) (fun k hk => Or.inl hk))
          have M11 := Lib.hid (M10.out.trans (Mod.ofBelow hb) (fun _ _ h => h.elim))
          clear ho hb hH LD'
          go_wp2_with fail
          refine (held_names H11.out).mono ?_
          rw [show A10.names = [nm9 115 0 (N + 1)] from by unfold ADsk.names; rw [OF.out, FL.out]; rfl]
          rintro e w12 ⟨v12, rfl, ho, hb, hH⟩
          obtain ⟨a12, c12, hv12, _⟩ := ownsRow_slice ho
          subst hv12
          have B12 := Lib.hid (((M11.out.trans (Mod.ofBelow hb) (fun _ _ h => h.elim)).mono (T := fun _ => False) (fun k hk h => by omega)).toBelow)
          clear ho hb hH
          go_wp2_with fail
          go_ret
          exact ⟨rfl, B12.out⟩
end Go.Proofs.YtmpdmejlpicdlaaDoor

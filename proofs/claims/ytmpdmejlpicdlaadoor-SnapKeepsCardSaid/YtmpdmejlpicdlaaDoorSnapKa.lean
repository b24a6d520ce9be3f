/- SnapKeeps, walked (printed by wip/tools/gen_keeps.py). -/
import Derived.Test.YtmpdmejlpicdlaaDoorSnapBb
namespace Go.Proofs.YtmpdmejlpicdlaaDoor
open Go.RowKit Go.Bw Go.Maps
set_option linter.unusedVariables false
set_option linter.unusedSimpArgs false

theorem keep_bad {n : Int} {body : List Int} (h : nm9 115 0 n = []) (A : ADsk) : saveA A n body = (A, 1) := by unfold saveA; rw [if_pos h]
def keepD (n : Int) (body : List Int) : ADsk := ⟨[(nm9 115 0 n, ⟨encode n body, []⟩)], 1048576, false, 3, 0, 0⟩
theorem keep_good {n : Int} {body : List Int} (h : nm9 115 0 n ≠ []) (hl : body.length ≤ 4096) : saveA (ADsk.new 1048576) n body = (keepD n body, 0) := by
  obtain ⟨h0, h1⟩ := nm9_bounds h
  have el := encode_length n body
  have hlen := nm9_length h
  have hnb : namedB (nm9 115 0 n) = true := by unfold namedB; rw [hlen]; decide
  have e1 : (ADsk.new 1048576).read draft = ([], 21) := rfl
  have e2 : (ADsk.new 1048576).append draft (encode n body) = (⟨[(draft, ⟨[], encode n body⟩)], 1048576, false, 1, 0, 0⟩, 0) := by
    have f1 : ¬ ((encode n body).length > 1048576) := by omega
    have f2 : ¬ (1048576 < ((encode n body).length : Int)) := by omega
    simp [ADsk.append, ADsk.new, ADsk.ready, namedB, lookF, put, drop, ins, Cont.len, total, ADsk.armed, f1, f2]
    exact (show RowKit.wrap64 1 = 1 from by kernel_rfl)
  have e3 : (⟨[(draft, ⟨[], encode n body⟩)], 1048576, false, 1, 0, 0⟩ : ADsk).sync draft = (⟨[(draft, ⟨encode n body, []⟩)], 1048576, false, 2, 0, 0⟩, 0) := by
    simp [ADsk.sync, ADsk.there, ADsk.ready, namedB, lookF, ADsk.does, ADsk.onFile, ADsk.armed]
    kernel_rfl
  have e4 : (⟨[(draft, ⟨encode n body, []⟩)], 1048576, false, 2, 0, 0⟩ : ADsk).rename draft (nm9 115 0 n) = (keepD n body, 0) := by
    have k2 : namedB draft = true := rfl
    simp [ADsk.rename, ADsk.there, ADsk.ready, k2, hnb, lookF, ADsk.does, ADsk.armed, put, drop, ins, keepD]
    exact (show RowKit.wrap64 3 = 3 from by kernel_rfl)
  unfold saveA
  rw [if_neg h, if_neg (by omega), e1]
  show (if false = true then _ else _) = _
  simp only [Bool.false_eq_true, if_false, show ¬ ((21 : Int) = 0) from by decide]
  unfold save1
  rw [if_neg (by simp), e2]
  unfold save2
  rw [if_neg (by simp), e3]
  unfold save3
  rw [if_neg (by simp), e4]
  unfold save4
  rw [if_neg (by simp)]
  show saveGo n [nm9 115 0 n] (keepD n body) = _
  unfold saveGo
  rw [if_pos (Or.inr (show snapNo (nm9 115 0 n) = n from num9_nm9 (Int.le_refl 0) h0 h1))]
  rfl
theorem keep_load {n : Int} {body : List Int} (h : nm9 115 0 n ≠ []) (hl : body.length ≤ 4096) : loadGo (keepD n body).files (-1, []) = (n, body) := by
  obtain ⟨h0, h1⟩ := nm9_bounds h
  have hs : snapNo (nm9 115 0 n) = n := num9_nm9 (Int.le_refl 0) h0 h1
  show loadGo [(nm9 115 0 n, ⟨encode n body, []⟩)] (-1, []) = _
  unfold loadGo loadStep
  show loadGo [] (if snapNo (nm9 115 0 n) < 0 then _ else if (decode (snapNo (nm9 115 0 n)) (encode n body ++ [])).2 = 0 then (snapNo (nm9 115 0 n), (decode (snapNo (nm9 115 0 n)) (encode n body ++ [])).1) else _) = _
  rw [hs, List.append_nil, decode_self h0 h1 (by omega), if_neg (by omega)]
  rfl
theorem keep_bytes {n : Int} {body : List Int} (hB : Bytes body) : BytesF (keepD n body).files := by
  intro p hp
  rcases List.mem_singleton.1 hp with rfl
  show Bytes (encode n body ++ [])
  rw [List.append_nil]; exact encode_bytes hB

set_option maxRecDepth 100000 in
set_option maxHeartbeats 4000000 in
theorem keeps_big (w : World) (n : Int) (a : Option Addr) (len c : Nat) (hL : Laid w) (hbig : 4096 < len) (hlen : len ≤ 140737488351232) :
    Calls Tryd.prog 5 #[.int .i64 n, .slice a len c] w (SaysOut w true) := by
  have hbig' : (4096 : Int) < len := by omega
  go_enter Tryd.func5, Tryd.ntmps5
  go_wp2_with fail
  refine (swakes_any w hL).mono ?_
  rintro e w1 ⟨rfl, hb⟩
  go_wp2_with fail
  go_ret
  exact ⟨rfl, hb⟩

set_option maxRecDepth 100000 in
set_option maxHeartbeats 32000000 in
theorem skeeps_small (w : World) (n : Int) (hn0 : -9223372036854775808 ≤ n) (hn1 : n ≤ 9223372036854775807) (a : Option Addr) (c : Nat) (body : List Int)
    (hR : Reads w 1 (.slice a body.length c) body.length (bcells body)) (hB : Bytes body) (hL : Laid w) (hs : body.length ≤ 4096) :
    Calls Tryd.prog 5 #[.int .i64 n, .slice a body.length c] w (SaysOut w true) := by
  have HR := Lib.hid hR
  have HB := Lib.hid hB
  have HL := Lib.hid hL
  have el := encode_length n body
  obtain ⟨ys, hys⟩ : ∃ ys, ys = encode n body := ⟨_, rfl⟩
  rw [← hys] at el
  have hyl : ys.length ≤ 4108 := by omega
  have EL := Lib.hid el
  have YB := Lib.hid (show Bytes ys from by rw [hys]; exact encode_bytes hB)
  have YS := Lib.hid hys
  clear hR hB hL el hys
  go_enter Tryd.func5, Tryd.ntmps5
  go_wp2_with fail
  refine (swakes_any w HL.out).mono ?_
  rintro e w1 ⟨rfl, hb⟩
  have B1 := Lib.hid (Mod.ofBelow hb)
  have Z1 := Lib.hid hb.size
  clear hb
  have MW0 := Lib.hid (Mod.refl (fun k => w.heap.size ≤ k) w)
  have MW1 := Lib.hid (MW0.out.trans B1.out (fun k hk h => h.elim))
  obtain ⟨v1, w2, R1, O1, M1⟩ := app_run (w1.alloc (.cells #[] 5)) w1.heap.size (.slice (some ⟨w1.heap.size, 0, none⟩) 0 0) (.slice a body.length c) [] body (row_empty w1) (by simp)
    (reads_later HR.out (MW1.out.alloc _) (fun k hk h => by omega)) (by simp; omega)
  rw [List.nil_append] at O1
  have n1 := ((Mod.refl (fun _ => False) w1).alloc (.cells #[] 5)).trans (T := fun k => Value.ownBlock (.slice (some ⟨w1.heap.size, 0, none⟩) 0 0) = some k) M1 (fun k hk h => absurd ((Option.some.inj h) : w1.heap.size = k) (Nat.ne_of_gt hk))
  obtain ⟨v2, w3, R2, O2, M2⟩ := app_run (w2.alloc (.cells (bcells [71]).toArray 5)) w1.heap.size v1 (.slice (some ⟨w2.heap.size, 0, none⟩) 1 1) body [71]
    (ownsRow_kept O1 (fun k hk => ((Mod.refl (fun _ => False) w2).alloc _).block k (O1.lt k hk).2 (fun h => h))) (by have := n1.size; simp; omega) (reads_const w2 [71] (0, 0)) (by simp; omega)
  have n3 := (n1.alloc (.cells (bcells [71]).toArray 5)).trans M2 (fun k hk h => by have := (O1.lt k h).1; omega)
  have hl71 : (body ++ [(71 : Int)]).length = body.length + 1 := by simp
  rw [hl71] at O2
  clear hl71
  obtain ⟨g, cm, hvm, hcm, hg1, hg3⟩ := own_form O2 (by omega)
  subst hvm
  have hcm' : body.length + 1 ≤ cm := hcm
  have MINE3 := Lib.hid O2
  have N3 := Lib.hid n3
  have G := Lib.hid (show w1.heap.size ≤ g ∧ g < w3.heap.size from ⟨hg1, hg3⟩)
  have R1' := Lib.hid R1
  have R2' := Lib.hid R2
  clear R1 R2 O1 O2 M1 M2 n1 n3 hg1 hg3 hcm
  go_wp2_with (at_builtin; first | refine wpList_append_run rfl (.tmp 28) (.tmp 29) 22 rfl rfl rfl R1'.out ?_ | refine wpList_append_run rfl (.tmp 30) (.tmp 31) 22 rfl rfl rfl R2'.out ?_)
  have MW2 := Lib.hid (MW1.out.trans N3.out (fun k hk h => h.elim))
  refine (held_new w3 1048576).mono ?_
  rintro e w4 ⟨rfl, hH, hb, hsz⟩
  have HD4 := Lib.hid hH
  have B4 := Lib.hid (Mod.ofBelow hb)
  clear hH hb hsz
  have MW3 := Lib.hid (MW2.out.trans B4.out (fun k hk h => h.elim))
  go_wp2_with fail
  have MINE4 := Lib.hid (ownsRow_kept MINE3.out (fun k hk => B4.out.block k (MINE3.out.lt k hk).2 (fun h => h)))
  have SV := save_any HD4.out n hn0 hn1 (.slice (some ⟨g, 0, none⟩) body.length cm) body (reads_prefix MINE4.out) (fun _ k hk => by cases hk; exact G.out.2) (by omega) (HL.out.grown MW3.out) (fun k hk => by have := HL.out.lt hk; have := MW2.out.size; omega)
  obtain ⟨r, hr⟩ : ∃ r, r = saveA (ADsk.new 1048576) n body := ⟨_, rfl⟩
  rw [← hr] at SV
  have RR := Lib.hid hr
  have SV' := Lib.hid SV
  clear SV hr
  refine SV'.out.mono ?_
  rintro e w5 ⟨rfl, hH, hm⟩
  have HD5 := Lib.hid hH
  have M5 := Lib.hid hm
  clear hH hm SV'
  obtain ⟨D, er⟩ := r
  have MINE5 := Lib.hid (ownsRow_kept MINE4.out (fun k hk => M5.out.block k (MINE4.out.lt k hk).2 (fun h => h (by cases hk; exact G.out.2))))
  have MW4 := Lib.hid (MW3.out.trans M5.out (fun k hk h => by have := MW2.out.size; omega))
  have MD0 := Lib.hid (Mod.refl (fun k => k < w3.heap.size ∨ w5.heap.size ≤ k) w5)
  go_wp2_with fail
  refine (encode_any w5 n _ body (reads_prefix MINE5.out) (by omega) (HL.out.grown MW4.out)).mono ?_
  rw [← YS.out]
  rintro e w6 ⟨va, rfl, ho, hb⟩
  obtain ⟨aa, ca, hva, _⟩ := ownsRow_slice ho
  subst hva
  have ROWA6 := Lib.hid ho
  have B6 := Lib.hid (Mod.ofBelow hb)
  have MINE6 := Lib.hid (ownsRow_kept MINE5.out (fun k hk => hb.block k (MINE5.out.lt k hk).2))
  clear ho hb
  have MW5 := Lib.hid (MW4.out.trans B6.out (fun k hk h => h.elim))
  have MD5 := Lib.hid (MD0.out.trans B6.out (fun k hk h => h.elim))
  have MA0 := Lib.hid (Mod.refl (fun k => k < w5.heap.size ∨ w6.heap.size ≤ k) w6)
  go_wp2_with fail
  refine (encode_any w6 n _ body (reads_prefix MINE6.out) (by omega) (HL.out.grown MW5.out)).mono ?_
  rw [← YS.out]
  rintro e w7 ⟨vb, rfl, ho, hb⟩
  obtain ⟨ab, cb, hvb, hcb⟩ := ownsRow_slice ho
  subst hvb
  have ROWB7 := Lib.hid ho
  have B7 := Lib.hid (Mod.ofBelow hb)
  have MINE7 := Lib.hid (ownsRow_kept MINE6.out (fun k hk => hb.block k (MINE6.out.lt k hk).2))
  clear ho hb
  have MW6 := Lib.hid (MW5.out.trans B7.out (fun k hk h => h.elim))
  have MD6 := Lib.hid (MD5.out.trans B7.out (fun k hk h => h.elim))
  have MA6 := Lib.hid (MA0.out.trans B7.out (fun k hk h => h.elim))
  have MB0 := Lib.hid (Mod.refl (fun k => k < w6.heap.size ∨ w7.heap.size ≤ k) w7)
  go_wp2_with fail
  refine (same_yes w7 _ _ body (reads_prefix MINE7.out) (reads_later HR.out MW6.out (fun k hk h => by omega)) (by omega)).mono ?_
  rintro e w8 ⟨rfl, hb⟩
  have B8 := Lib.hid (Mod.ofBelow hb)
  have MINE8 := Lib.hid (ownsRow_kept MINE7.out (fun k hk => hb.block k (MINE7.out.lt k hk).2))
  clear hb
  have MW7 := Lib.hid (MW6.out.trans B8.out (fun k hk h => h.elim))
  have MD7 := Lib.hid (MD6.out.trans B8.out (fun k hk h => h.elim))
  have MA7 := Lib.hid (MA6.out.trans B8.out (fun k hk h => h.elim))
  have MB7 := Lib.hid (MB0.out.trans B8.out (fun k hk h => h.elim))
  have c71 := own_cell MINE8.out (k := body.length) (u := .int .u8 71) (by simp [bcells])
  go_wp2_with fail
  clear c71
  go_loopw [70] (fun i wr => ∃ k : Nat, k ≤ (body.length + 1) ∧ i = .int .i64 k ∧ (∃ qs : List Int, qs.length = (body.length + 1) ∧ wr.ownsRow w1.heap.size 5 1 (.slice (some ⟨g, 0, none⟩) (body.length + 1) cm) (body.length + 1) (bcells qs)) ∧ Mod (fun k => Value.ownBlock (.slice (some ⟨g, 0, none⟩) (body.length + 1) cm) = some k) w8 wr) (fun i _ => (body.length + 1) - (intOf i).toNat)
  case atStart => exact ⟨0, Nat.zero_le _, rfl, ⟨_, (by simp), MINE8.out⟩, Mod.refl _ _⟩
  case round =>
    obtain ⟨k, hk, rfl, ⟨qs, hql, ho⟩, hm⟩ := hrel
    have Ho := Lib.hid ho
    have Hm := Lib.hid hm
    have Hq := Lib.hid hql
    clear ho hm hql
    by_cases hlt : k < (body.length + 1)
    case pos =>
      obtain ⟨gg, cc, hv, _, _, _⟩ := own_form Ho.out (by omega)
      cases hv
      obtain ⟨u, hu, hcell, hfz⟩ := ownsRow_cell Ho.out hlt
      clear hu
      go_wp2
      go_roundw
      case rel => exact ⟨k + 1, by omega, by go_num, ⟨qs.set k 1, by rw [List.length_set]; exact Hq.out, by rw [bcells_set]; exact ownsRow_set Ho.out rfl hlt _⟩, Hm.out.setCell _ (fun _ => rfl)⟩
      case measure => simp [intOf]; omega
    obtain rfl : k = (body.length + 1) := by omega
    obtain ⟨w9, rfl⟩ : ∃ wz : World, wz = wr := ⟨_, rfl⟩
    have w9M := Lib.hid Hm.out
    have w9R := Lib.hid Ho.out
    have w9Q := Lib.hid Hq.out
    clear Ho Hm Hq
    have MW8 := Lib.hid (MW7.out.trans w9M.out (fun k hk h => by have hkg : g = k := Option.some.inj h; have := G.out; have := N3.out.size; have := B1.out.size; have := B4.out.size; have := M5.out.size; have := B6.out.size; have := B7.out.size; omega))
    have MD8 := Lib.hid (MD7.out.trans w9M.out (fun k hk h => by have hkg : g = k := Option.some.inj h; have := G.out; have := N3.out.size; have := B1.out.size; have := B4.out.size; have := M5.out.size; have := B6.out.size; have := B7.out.size; omega))
    have MA8 := Lib.hid (MA7.out.trans w9M.out (fun k hk h => by have hkg : g = k := Option.some.inj h; have := G.out; have := N3.out.size; have := B1.out.size; have := B4.out.size; have := M5.out.size; have := B6.out.size; have := B7.out.size; omega))
    have MB8 := Lib.hid (MB7.out.trans w9M.out (fun k hk h => by have hkg : g = k := Option.some.inj h; have := G.out; have := N3.out.size; have := B1.out.size; have := B4.out.size; have := M5.out.size; have := B6.out.size; have := B7.out.size; omega))
    obtain ⟨vw, w10, R10, O10, M10, N10⟩ := app_run2 (w9.alloc (.cells #[] 5)) w9.heap.size (.slice (some ⟨w9.heap.size, 0, none⟩) 0 0) (.slice ab ys.length cb) [] ys (row_empty w9) (by simp)
      (Reads.kept (Reads.kept (ownsRow_reads ROWB7.out) MB8.out (fun k hk h => by have := ROWB7.out.lt k hk; omega)) ((Mod.refl (fun _ => False) w9).alloc _) (fun _ _ h => h)) (by simp; omega)
    rw [List.nil_append] at O10
    have n10 := ((Mod.refl (fun _ => False) w9).alloc (.cells #[] 5)).trans (T := fun k => Value.ownBlock (.slice (some ⟨w9.heap.size, 0, none⟩) 0 0) = some k) M10 (fun k hk h => absurd ((Option.some.inj h) : w9.heap.size = k) (Nat.ne_of_gt hk))
    obtain ⟨aw, cw, hvw, _⟩ := ownsRow_slice O10
    subst hvw
    have R10' := Lib.hid R10
    have ROWW10 := Lib.hid O10
    have B10 := Lib.hid n10
    clear R10 O10 M10 N10 n10
    go_wp2_with (at_builtin; refine wpList_append_run rfl (.tmp 77) (.tmp 78) 22 rfl rfl rfl R10'.out ?_)
    have MW9 := Lib.hid (MW8.out.trans B10.out (fun k hk h => h.elim))
    have MD9 := Lib.hid (MD8.out.trans B10.out (fun k hk h => h.elim))
    have MA9 := Lib.hid (MA8.out.trans B10.out (fun k hk h => h.elim))
    have MB9 := Lib.hid (MB8.out.trans B10.out (fun k hk h => h.elim))
    have MT0 := Lib.hid (Mod.refl (fun k => k < w9.heap.size ∨ w10.heap.size ≤ k) w10)
    have RB10 := Lib.hid (Reads.kept (ownsRow_reads ROWB7.out) MB9.out (fun k hk h => by have := ROWB7.out.lt k hk; omega))
    refine (decode_any w10 n hn0 hn1 _ ys RB10.out (fun a k c e => by cases e; exact hcb) YB.out (by omega) (HL.out.grown MW9.out)).mono ?_
    obtain ⟨dd, hdd⟩ : ∃ dd, dd = decode n ys := ⟨_, rfl⟩
    rw [← hdd]
    have hdl : dd.1.length ≤ 4096 := by
      rw [hdd, YS.out, decode_encode n n body (by omega)]
      split
      · simp
      · exact hs
    clear hdd
    obtain ⟨db, de⟩ := dd
    rintro e w11 ⟨vx, rfl, ho, hb⟩
    obtain ⟨ax, cx, hvx, _⟩ := ownsRow_slice ho
    subst hvx
    have ROWX11 := Lib.hid ho
    have B11 := Lib.hid (Mod.ofBelow hb)
    clear ho hb
    have MW10 := Lib.hid (MW9.out.trans B11.out (fun k hk h => h.elim))
    have MD10 := Lib.hid (MD9.out.trans B11.out (fun k hk h => h.elim))
    have MA10 := Lib.hid (MA9.out.trans B11.out (fun k hk h => h.elim))
    have MB10 := Lib.hid (MB9.out.trans B11.out (fun k hk h => h.elim))
    have MT10 := Lib.hid (MT0.out.trans B11.out (fun k hk h => h.elim))
    have MX0 := Lib.hid (Mod.refl (fun k => k < w10.heap.size ∨ w11.heap.size ≤ k) w11)
    have ROWA11 := Lib.hid (ownsRow_kept ROWA6.out (fun k hk => MA10.out.block k (ROWA6.out.lt k hk).2 (fun h => by have := ROWA6.out.lt k hk; omega)))
    have hdl2 : db.length ≤ 4096 := hdl
    clear hdl
    go_wp2_with fail
    go_loopw [88] (fun i wr => ∃ k : Nat, k ≤ ys.length ∧ i = .int .i64 k ∧ (∃ qs : List Int, qs.length = ys.length ∧ wr.ownsRow w5.heap.size 5 1 (.slice aa ys.length ca) ys.length (bcells qs)) ∧ Mod (fun k => Value.ownBlock (.slice aa ys.length ca) = some k) w11 wr) (fun i _ => ys.length - (intOf i).toNat)
    case atStart => exact ⟨0, Nat.zero_le _, rfl, ⟨_, rfl, ROWA11.out⟩, Mod.refl _ _⟩
    case round =>
      obtain ⟨k, hk, rfl, ⟨qs, hql, ho⟩, hm⟩ := hrel
      have Ho := Lib.hid ho
      have Hm := Lib.hid hm
      have Hq := Lib.hid hql
      clear ho hm hql
      by_cases hlt : k < ys.length
      case pos =>
        obtain ⟨gg, cc, hv, _, _, _⟩ := own_form Ho.out (by omega)
        cases hv
        obtain ⟨u, hu, hcell, hfz⟩ := ownsRow_cell Ho.out hlt
        clear hu
        go_wp2
        go_roundw
        case rel => exact ⟨k + 1, by omega, by go_num, ⟨qs.set k 2, by rw [List.length_set]; exact Hq.out, by rw [bcells_set]; exact ownsRow_set Ho.out rfl hlt _⟩, Hm.out.setCell _ (fun _ => rfl)⟩
        case measure => simp [intOf]; omega
      obtain rfl : k = ys.length := by omega
      obtain ⟨w12, rfl⟩ : ∃ wz : World, wz = wr := ⟨_, rfl⟩
      have w12M := Lib.hid Hm.out
      have w12R := Lib.hid Ho.out
      have w12Q := Lib.hid Hq.out
      clear Ho Hm Hq
      have SZ := Lib.hid (show w.heap.size ≤ w3.heap.size ∧ w3.heap.size ≤ w5.heap.size ∧ w5.heap.size ≤ w6.heap.size ∧ w6.heap.size ≤ w7.heap.size ∧ w7.heap.size ≤ w9.heap.size ∧ w9.heap.size ≤ w10.heap.size ∧ w10.heap.size ≤ w11.heap.size from by
        have := B1.out.size; have := N3.out.size; have := B4.out.size; have := M5.out.size; have := B6.out.size; have := B7.out.size; have := B8.out.size; have := w9M.out.size; have := B10.out.size; have := B11.out.size; omega)
      have ALT := Lib.hid (show ∀ k, Value.ownBlock (.slice aa ys.length ca) = some k → w5.heap.size ≤ k ∧ k < w6.heap.size from fun k h => ROWA6.out.lt k h)
      have MW11 := Lib.hid (MW10.out.trans w12M.out (fun k hk h => by have hh := ALT.out k h; have := SZ.out; omega))
      have MD11 := Lib.hid (MD10.out.trans w12M.out (fun k hk h => by have hh := ALT.out k h; have := SZ.out; omega))
      have MB11 := Lib.hid (MB10.out.trans w12M.out (fun k hk h => by have hh := ALT.out k h; have := SZ.out; omega))
      have MT11 := Lib.hid (MT10.out.trans w12M.out (fun k hk h => by have hh := ALT.out k h; have := SZ.out; omega))
      have MX11 := Lib.hid (MX0.out.trans w12M.out (fun k hk h => by have hh := ALT.out k h; have := SZ.out; omega))
      obtain ⟨qa, hqa⟩ : ∃ qa : List Int, qa = qs := ⟨_, rfl⟩
      rw [← hqa] at w12R w12Q
      have QA := Lib.hid w12Q.out
      obtain ⟨va2, w13, R13, O13, M13, N13⟩ := app_run2 (w12.alloc (.cells (bcells [3]).toArray 5)) w5.heap.size (.slice aa ys.length ca) (.slice (some ⟨w12.heap.size, 0, none⟩) 1 1) qa [3]
        (by rw [QA.out]; exact ownsRow_kept w12R.out (fun k hk => ((Mod.refl (fun _ => False) w12).alloc _).block k (w12R.out.lt k hk).2 (fun h => h))) (by have := SZ.out; have := w12M.out.size; simp; omega) (reads_const w12 [3] (0, 0)) (by rw [QA.out]; simp; omega)
      have n13 := ((Mod.refl (fun k => Value.ownBlock (.slice aa ys.length ca) = some k) w12).alloc (.cells (bcells [3]).toArray 5)).trans M13 (fun k hk h => h)
      have hl13 : (qa ++ [3]).length = ys.length + 1 := by rw [List.length_append, QA.out]; rfl
      obtain ⟨a13, c13, hv13, _⟩ := ownsRow_slice O13
      rw [hl13] at hv13
      subst hv13
      have R13' := Lib.hid R13
      have B13 := Lib.hid n13
      clear R13 O13 M13 N13 n13 hl13 hqa
      go_wp2_with (at_builtin; refine wpList_append_run rfl (.tmp 95) (.tmp 96) 22 rfl rfl rfl R13'.out ?_)
      have MW12 := Lib.hid (MW11.out.trans B13.out (fun k hk h => by have hh := ALT.out k h; have := SZ.out; omega))
      have MD12 := Lib.hid (MD11.out.trans B13.out (fun k hk h => by have hh := ALT.out k h; have := SZ.out; omega))
      have MB12 := Lib.hid (MB11.out.trans B13.out (fun k hk h => by have hh := ALT.out k h; have := SZ.out; omega))
      have MT12 := Lib.hid (MT11.out.trans B13.out (fun k hk h => by have hh := ALT.out k h; have := SZ.out; omega))
      have MX12 := Lib.hid (MX11.out.trans B13.out (fun k hk h => by have hh := ALT.out k h; have := SZ.out; omega))
      have RB13 := Lib.hid (Reads.kept (ownsRow_reads ROWB7.out) MB12.out (fun k hk h => by have := ROWB7.out.lt k hk; omega))
      have RW13 := Lib.hid (Reads.kept (ownsRow_reads ROWW10.out) MT12.out (fun k hk h => by have := ROWW10.out.lt k hk; omega))
      refine (same_yes w13 _ _ ys RB13.out RW13.out (by omega)).mono ?_
      rintro e w14 ⟨rfl, hb⟩
      have B14 := Lib.hid (Mod.ofBelow hb)
      clear hb
      have MW13 := Lib.hid (MW12.out.trans B14.out (fun k hk h => h.elim))
      have MD13 := Lib.hid (MD12.out.trans B14.out (fun k hk h => h.elim))
      have MB13 := Lib.hid (MB12.out.trans B14.out (fun k hk h => h.elim))
      have MT13 := Lib.hid (MT12.out.trans B14.out (fun k hk h => h.elim))
      have MX13 := Lib.hid (MX12.out.trans B14.out (fun k hk h => h.elim))
      have ROWX14 := Lib.hid (ownsRow_kept ROWX11.out (fun k hk => MX13.out.block k (ROWX11.out.lt k hk).2 (fun h => by have := ROWX11.out.lt k hk; omega)))
      go_wp2_with fail
      go_loopw [112] (fun i wr => ∃ k : Nat, k ≤ db.length ∧ i = .int .i64 k ∧ (∃ qs : List Int, qs.length = db.length ∧ wr.ownsRow w10.heap.size 5 1 (.slice ax db.length cx) db.length (bcells qs)) ∧ Mod (fun k => Value.ownBlock (.slice ax db.length cx) = some k) w14 wr) (fun i _ => db.length - (intOf i).toNat)
      case atStart => exact ⟨0, Nat.zero_le _, rfl, ⟨_, rfl, ROWX14.out⟩, Mod.refl _ _⟩
      case round =>
        obtain ⟨k, hk, rfl, ⟨qs, hql, ho⟩, hm⟩ := hrel
        have Ho := Lib.hid ho
        have Hm := Lib.hid hm
        have Hq := Lib.hid hql
        clear ho hm hql
        by_cases hlt : k < db.length
        case pos =>
          obtain ⟨gg, cc, hv, _, _, _⟩ := own_form Ho.out (by omega)
          cases hv
          obtain ⟨u, hu, hcell, hfz⟩ := ownsRow_cell Ho.out hlt
          clear hu
          go_wp2
          go_roundw
          case rel => exact ⟨k + 1, by omega, by go_num, ⟨qs.set k 4, by rw [List.length_set]; exact Hq.out, by rw [bcells_set]; exact ownsRow_set Ho.out rfl hlt _⟩, Hm.out.setCell _ (fun _ => rfl)⟩
          case measure => simp [intOf]; omega
        obtain rfl : k = db.length := by omega
        obtain ⟨w15, rfl⟩ : ∃ wz : World, wz = wr := ⟨_, rfl⟩
        have w15M := Lib.hid Hm.out
        have w15R := Lib.hid Ho.out
        have w15Q := Lib.hid Hq.out
        clear Ho Hm Hq
        have XLT := Lib.hid (show ∀ k, Value.ownBlock (.slice ax db.length cx) = some k → w10.heap.size ≤ k ∧ k < w11.heap.size from fun k h => ROWX11.out.lt k h)
        have MW14 := Lib.hid (MW13.out.trans w15M.out (fun k hk h => by have hh := XLT.out k h; have := SZ.out; omega))
        have MD14 := Lib.hid (MD13.out.trans w15M.out (fun k hk h => by have hh := XLT.out k h; have := SZ.out; omega))
        have MB14 := Lib.hid (MB13.out.trans w15M.out (fun k hk h => by have hh := XLT.out k h; have := SZ.out; omega))
        have MT14 := Lib.hid (MT13.out.trans w15M.out (fun k hk h => by have hh := XLT.out k h; have := SZ.out; omega))
        have RB15 := Lib.hid (Reads.kept (ownsRow_reads ROWB7.out) MB14.out (fun k hk h => by have := ROWB7.out.lt k hk; omega))
        have RW15 := Lib.hid (Reads.kept (ownsRow_reads ROWW10.out) MT14.out (fun k hk h => by have := ROWW10.out.lt k hk; omega))
        go_wp2_with fail
        refine (same_yes w15 _ _ ys RB15.out RW15.out (by omega)).mono ?_
        rintro e w16 ⟨rfl, hb⟩
        have B16 := Lib.hid (Mod.ofBelow hb)
        clear hb
        have MW15 := Lib.hid (MW14.out.trans B16.out (fun k hk h => h.elim))
        have MD15 := Lib.hid (MD14.out.trans B16.out (fun k hk h => h.elim))
        have MB15 := Lib.hid (MB14.out.trans B16.out (fun k hk h => h.elim))
        have MT15 := Lib.hid (MT14.out.trans B16.out (fun k hk h => h.elim))
        have S16 := Lib.hid (show w.heap.size ≤ w16.heap.size from MW15.out.size)
        by_cases hnm : nm9 115 0 n = []
        case pos =>
          have hE := RR.out.trans (keep_bad (body := body) hnm (ADsk.new 1048576))
          have he1 : er = 1 := congrArg Prod.snd hE
          subst he1
          have HNM := Lib.hid hnm
          clear hE hnm
          go_wp2_with fail
          refine (snapName_any w16 n hn0 hn1 (HL.out.grown MW15.out)).mono ?_
          rw [HNM.out]
          rintro e w17 ⟨rfl, hb⟩
          have BF := Lib.hid (show Below w.heap.size w w17 from ((MW15.out.trans (Mod.ofBelow hb) (fun _ _ h => h.elim)).mono (T := fun _ => False) (fun k hk h => by omega)).toBelow)
          clear hb
          go_wp2_with fail
          go_ret
          exact ⟨rfl, BF.out⟩
        have hE := RR.out.trans (keep_good (body := body) hnm hs)
        have he0 : er = 0 := congrArg Prod.snd hE
        have hD : D = keepD n body := congrArg Prod.fst hE
        subst he0
        have HD16 := Lib.hid (HD5.out.mod MD15.out (fun k hk h => h.elim id (fun h => by omega)))
        have KL := Lib.hid (show loadGo D.files (-1, []) = (n, body) from by rw [hD]; exact keep_load hnm hs)
        have KB := Lib.hid (show BytesF D.files from by rw [hD]; exact keep_bytes HB.out)
        have KO := Lib.hid (show D.off = false from by rw [hD]; rfl)
        clear hE hD hnm
        go_wp2_with fail
        have LD := load_any HD16.out KB.out (HL.out.grown MW15.out)
        rw [KO.out, KL.out] at LD
        simp only [Bool.false_eq_true, if_false] at LD
        have LD' := Lib.hid LD
        clear LD
        refine LD'.out.mono ?_
        rintro e w17 ⟨vy, rfl, ho, hb, hH⟩
        obtain ⟨ay, cy, hvy, _⟩ := ownsRow_slice ho
        subst hvy
        have ROWY17 := Lib.hid ho
        have HD17 := Lib.hid hH
        have B17 := Lib.hid (Mod.ofBelow hb)
        clear ho hb hH LD'
        have MW16 := Lib.hid (MW15.out.trans B17.out (fun k hk h => h.elim))
        have MD16 := Lib.hid (MD15.out.trans B17.out (fun k hk h => h.elim))
        have MB16 := Lib.hid (MB15.out.trans B17.out (fun k hk h => h.elim))
        have MT16 := Lib.hid (MT15.out.trans B17.out (fun k hk h => h.elim))
        go_wp2_with fail
        have LD := load_any HD17.out KB.out (HL.out.grown MW16.out)
        rw [KO.out, KL.out] at LD
        simp only [Bool.false_eq_true, if_false] at LD
        have LD' := Lib.hid LD
        clear LD
        refine LD'.out.mono ?_
        rintro e w18 ⟨vz, rfl, ho, hb, hH⟩
        obtain ⟨az, cz, hvz, _⟩ := ownsRow_slice ho
        subst hvz
        have ROWZ18 := Lib.hid ho
        have B18 := Lib.hid (Mod.ofBelow hb)
        have ROWY18 := Lib.hid (ownsRow_kept ROWY17.out (fun k hk => hb.block k (ROWY17.out.lt k hk).2))
        clear ho hb hH LD'
        have MW17 := Lib.hid (MW16.out.trans B18.out (fun k hk h => h.elim))
        have MD17 := Lib.hid (MD16.out.trans B18.out (fun k hk h => h.elim))
        have MB17 := Lib.hid (MB16.out.trans B18.out (fun k hk h => h.elim))
        have MT17 := Lib.hid (MT16.out.trans B18.out (fun k hk h => h.elim))
        go_wp2_with fail
        go_loopw [146] (fun i wr => ∃ k : Nat, k ≤ body.length ∧ i = .int .i64 k ∧ (∃ qs : List Int, qs.length = body.length ∧ wr.ownsRow w16.heap.size 5 1 (.slice ay body.length cy) body.length (bcells qs)) ∧ Mod (fun k => Value.ownBlock (.slice ay body.length cy) = some k) w18 wr) (fun i _ => body.length - (intOf i).toNat)
        case atStart => exact ⟨0, Nat.zero_le _, rfl, ⟨_, rfl, ROWY18.out⟩, Mod.refl _ _⟩
        case round =>
          obtain ⟨k, hk, rfl, ⟨qs, hql, ho⟩, hm⟩ := hrel
          have Ho := Lib.hid ho
          have Hm := Lib.hid hm
          have Hq := Lib.hid hql
          clear ho hm hql
          by_cases hlt : k < body.length
          case pos =>
            obtain ⟨gg, cc, hv, _, _, _⟩ := own_form Ho.out (by omega)
            cases hv
            obtain ⟨u, hu, hcell, hfz⟩ := ownsRow_cell Ho.out hlt
            clear hu
            go_wp2
            go_roundw
            case rel => exact ⟨k + 1, by omega, by go_num, ⟨qs.set k 5, by rw [List.length_set]; exact Hq.out, by rw [bcells_set]; exact ownsRow_set Ho.out rfl hlt _⟩, Hm.out.setCell _ (fun _ => rfl)⟩
            case measure => simp [intOf]; omega
          obtain rfl : k = body.length := by omega
          obtain ⟨w19, rfl⟩ : ∃ wz : World, wz = wr := ⟨_, rfl⟩
          have w19M := Lib.hid Hm.out
          have w19R := Lib.hid Ho.out
          have w19Q := Lib.hid Hq.out
          clear Ho Hm Hq
          have YLT := Lib.hid (show ∀ k, Value.ownBlock (.slice ay body.length cy) = some k → w16.heap.size ≤ k ∧ k < w17.heap.size from fun k h => ROWY17.out.lt k h)
          have SY := Lib.hid (show w.heap.size ≤ w16.heap.size from MW17.out.size |> fun h => by have := B18.out.size; have := B17.out.size; have h16 := S16.out; omega)
          have RZ19 := Lib.hid (Reads.kept (ownsRow_reads ROWZ18.out) w19M.out (fun k hk h => by have := ROWZ18.out.lt k hk; have := YLT.out k h; omega))
          have MW99 := Lib.hid (MW17.out.trans w19M.out (fun k hk h => by have := YLT.out k h; have := SY.out; omega))
          go_wp2_with fail
          refine (same_yes w19 _ _ body RZ19.out (reads_later HR.out MW99.out (fun k hk h => by omega)) (by omega)).mono ?_
          rintro e w20 ⟨rfl, hb⟩
          have BF := Lib.hid (show Below w.heap.size w w20 from ((MW99.out.trans (Mod.ofBelow hb) (fun _ _ h => h.elim)).mono (T := fun _ => False) (fun k hk h => by omega)).toBelow)
          clear hb
          go_wp2_with fail
          go_ret
          exact ⟨rfl, BF.out⟩
end Go.Proofs.YtmpdmejlpicdlaaDoor

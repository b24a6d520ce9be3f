/- tree.Check; the document's Up, Check, walked. -/
import Derived.Test.YtcjbhgnlmmeeeaaGreatDoorTree
import Derived.Laws.MakeOwn
namespace Go.Proofs.YtcjbhgnlmmeeeaaGreatDoor
open Go.RowKit Go.Bw Go.Maps Go.Shelf
set_option linter.unusedVariables false
set_option linter.unusedSimpArgs false

def OkAt (ps : List Int) (v : Nat) (p : Int) : Prop := p = -1 ∨ (2 ≤ v ∧ 2 ≤ p ∧ p < v ∧ (pathL ps v).length ≤ 4)
def OkTo (ps : List Int) (k : Nat) : Prop := ∀ (v : Nat) (p : Int), v < k → ps[v]? = some p → OkAt ps v p
theorem OkTo.falls {ps : List Int} {k : Nat} (h : OkTo ps k) : Falls ps k := fun v p hv hp => by
  rcases h v p hv hp with h | h
  · exact Or.inl h
  · exact Or.inr (by omega)
theorem OkTo.falls1 {ps : List Int} {k : Nat} (h : OkTo ps k) {p : Int} (hp : ps[k]? = some p) (h0 : 0 ≤ p) (h1 : p < k) : Falls ps (k + 1) := fun v q hv hq => by
  by_cases e : v = k
  · subst e; rw [hp] at hq; cases hq; exact Or.inr ⟨h0, h1⟩
  · exact h.falls v q (by omega) hq
theorem OkTo.next {ps : List Int} {k : Nat} (h : OkTo ps k) {p : Int} (hp : ps[k]? = some p) (ho : OkAt ps k p) : OkTo ps (k + 1) := fun v q hv hq => by
  by_cases e : v = k
  · subst e; rw [hp] at hq; cases hq; exact ho
  · exact h v q (by omega) hq
theorem OkTo.tree {ps : List Int} (h : OkTo ps ps.length) (h1 : 2 ≤ ps.length) (h2 : ps.length ≤ 16) : TreeOk ps := ⟨h1, h2, fun v p hp => h v p (List.getElem?_eq_some_iff.1 hp).1 hp⟩
def ChkOut (w : World) (ps : List Int) (e : Ending) (w' : World) : Prop := ∃ p er : Int, e = .returned (.tuple #[.int .i64 p, .int .i64 er]) ∧ (er = 0 ↔ TreeOk ps) ∧ Below w.heap.size w w'
theorem chk_bad {w w' : World} {ps : List Int} {p er : Int} (he : er ≠ 0) (hn : ¬ TreeOk ps) (hb : Below w.heap.size w w') : ChkOut w ps (.returned (.tuple #[.int .i64 p, .int .i64 er])) w' :=
  ⟨p, er, rfl, ⟨fun h => absurd h he, fun h => absurd h hn⟩, hb⟩
structure DeepAt (w : World) (ps : List Int) (k : Nat) (wr : World) (DS : Array Value) : Prop where
  blk : wr.heap[w.heap.size]? = some (.cells DS 3 (0, 0))
  size : DS.size = ps.length
  deep : ∀ j, j < k → DS[j]? = some (.int .i64 ((pathL ps j).length : Nat))
  low : Below w.heap.size w wr
theorem DeepAt.next {w wr : World} {ps : List Int} {k : Nat} {DS : Array Value} (h : DeepAt w ps k wr DS) (hk : k < ps.length) (d : Nat) (hd : d = (pathL ps k).length) :
    DeepAt w ps (k + 1) (wr.setCell ⟨w.heap.size, k, none⟩ (.int .i64 (d : Nat))) (DS.setIfInBounds k (.int .i64 (d : Nat))) := by
  subst hd
  refine ⟨heap_setCell_at h.blk k _, by simp [h.size], fun j hj => ?_, ?_⟩
  · rw [Array.getElem?_setIfInBounds]
    by_cases e : k = j
    · subst e; rw [if_pos rfl, if_pos (by rw [h.size]; exact hk)]
    · rw [if_neg e]; exact h.deep j (by omega)
  · exact (((Mod.of_below h.low).mono (T := fun x => w.heap.size ≤ x) (fun _ _ h => h.elim)).setCell _ (fun _ => Nat.le_refl _)).mono (T := fun _ => False) (fun i hi h => by omega) |>.toBelow

set_option maxRecDepth 100000 in
set_option maxHeartbeats 2000000 in
theorem check_any (w : World) (v : Value) (ps : List Int) (hR : RowOf w 1 icell v ps) :
    Calls Tryz.prog 99 #[v] w (ChkOut w ps) := by
  obtain ⟨a, c, rfl⟩ := hR.form
  have HR := Lib.hid hR
  clear hR
  by_cases h2 : ps.length < 2
  · have BAD := Lib.hid (show ¬ TreeOk ps from fun h => by have := h.lo; omega)
    have h2' : (ps.length : Int) < 2 := by omega
    go_enter Tryz.func99, Tryz.ntmps99
    go_wp2_with fail
    go_ret2
    exact chk_bad (by decide) BAD.out (Below.refl _ _)
  by_cases h16 : 16 < ps.length
  · have BAD := Lib.hid (show ¬ TreeOk ps from fun h => by have := h.hi; omega)
    have h2' : ¬ (ps.length : Int) < 2 := by omega
    have h16' : (16 : Int) < (ps.length : Int) := by omega
    go_enter Tryz.func99, Tryz.ntmps99
    go_wp2_with fail
    go_ret2
    exact chk_bad (by decide) BAD.out (Below.refl _ _)
  have h2' : ¬ (ps.length : Int) < 2 := by omega
  have h16' : ¬ (16 : Int) < (ps.length : Int) := by omega
  have LB := Lib.hid (And.intro (Nat.le_of_not_lt h2) (Nat.le_of_not_lt h16))
  obtain ⟨i0, t1, t2, t3, t4⟩ := info_parts TInt.info
  obtain ⟨DS, hDS⟩ : ∃ DS, DS = madeCells (Value.int .i64 0).cells (ps.length * i0.size) := ⟨_, rfl⟩
  have hmk : ∀ W : World, (Instr.makeSlice 28 (.int .i64 (ps.length : Nat)) (.int .i64 (ps.length : Nat))).run Tryz.prog W = .ok (.slice (some ⟨W.heap.size, 0, none⟩) ps.length ps.length) (W.alloc (.cells DS 3)) := fun W => by
    have := run_make (P := Tryz.prog) W 28 3 i0 (.int .i64 0) Tryz.underlying28 t1 t2 .i64 .i64 (ps.length : Nat) (ps.length : Nat) (by omega) (Int.le_refl _) (by rw [t4]; omega) (by omega)
    rw [hDS]
    exact this
  have DSZ := Lib.hid (show DS.size = ps.length from by rw [hDS, size_madeCells, t3, Nat.mul_one])
  clear h2 h16 hDS t1 t2 t3 t4
  have START := Lib.hid (show DeepAt w ps 0 (w.alloc (.cells DS 3)) DS from ⟨heap_alloc_new w _, DSZ.out, fun j hj => by omega, (Below.refl _ _).alloc (Nat.le_refl _) _⟩)
  go_enter Tryz.func99, Tryz.ntmps99
  go_wp2_with fail
  clear hmk h2' h16'
  go_loopw [18] (fun i wr => ∃ (k : Nat) (DS : Array Value), k ≤ ps.length ∧ i = .int .i64 k ∧ Hid (OkTo ps k) ∧ Hid (DeepAt w ps k wr DS)) (fun i _ => ps.length - (intOf i).toNat)
  case atStart => exact ⟨0, DS, Nat.zero_le _, rfl, Lib.hid (fun v p hv => by omega), START⟩
  case round =>
    obtain ⟨k, DS, hk, rfl, OK, DP⟩ := hrel
    have ROW := Lib.hid (HR.out.below DP.out.low)
    by_cases hlt : k < ps.length
    · obtain ⟨x, hx⟩ : ∃ x, ps[k]? = some x := ⟨_, List.getElem?_eq_getElem hlt⟩
      obtain ⟨b, o, rfl, hbl, hc⟩ := ROW.out.at_ hx
      have c0 := hc 0 (.int .i64 x) rfl
      rw [Nat.mul_one, Nat.add_zero] at c0
      have hlt' : (k : Int) < (ps.length : Int) := by omega
      have k0 : (0 : Int) ≤ (k : Int) := by omega
      have kb : (k : Int) ≤ 15 := by have := LB.out.2; omega
      have HX := Lib.hid hx
      have LT := Lib.hid hlt
      have BAD := Lib.hid (show ¬ OkAt ps k x → ¬ TreeOk ps from fun hn ht => hn (ht.ok k x HX.out))
      obtain ⟨u, hu⟩ : ∃ u, DS[k]? = some u := ⟨_, Array.getElem?_eq_getElem (by rw [DP.out.size]; exact hlt)⟩
      have dk := (cell_of_heap DP.out.blk k).trans hu
      have fz := free_of_heap DP.out.blk
      clear hx hc hu
      by_cases hm : x = -1
      · have hb : (x == -1) = true := by simp [hm]
        have OKA := Lib.hid (show OkAt ps k x from Or.inl hm)
        have PL := Lib.hid (show 1 = (pathL ps k).length from by rw [pathL_root (by rw [HX.out, hm])]; rfl)
        have NX := Lib.hid (DP.out.next LT.out 1 PL.out)
        clear hm
        go_wp2_with fail
        go_roundw
        case rel => exact ⟨k + 1, _, by have := LT.out; omega, by go_num, Lib.hid (OK.out.next HX.out OKA.out), NX⟩
        case measure => have := LT.out; simp [intOf]; omega
      have hb : (x == -1) = false := by simp [hm]
      have HM := Lib.hid hm
      clear hm
      by_cases h1 : x ≤ 1
      · have NO := Lib.hid (BAD.out (fun h => by rcases h with h | h; exact HM.out h; omega))
        go_wp2_with fail
        go_ret2
        exact chk_bad (by decide) NO.out DP.out.low
      by_cases h3 : (k : Int) ≤ x
      · have NO := Lib.hid (BAD.out (fun h => by rcases h with h | h; exact HM.out h; omega))
        go_wp2_with fail
        go_ret2
        exact chk_bad (by decide) NO.out DP.out.low
      obtain ⟨q, rfl⟩ := Int.eq_ofNat_of_zero_le (show 0 ≤ x by omega)
      have hq : q < k := by omega
      have hkk : ¬ (k : Int) ≤ 1 := by omega
      obtain ⟨d, hd⟩ : ∃ d, d = (pathL ps q).length := ⟨_, rfl⟩
      have dq := (cell_of_heap DP.out.blk q).trans (DP.out.deep q hq)
      rw [← hd] at dq
      have q0 : (0 : Int) ≤ (q : Int) := by omega
      have q1 : (q : Int) < (ps.length : Int) := by omega
      have PL := Lib.hid (show d + 1 = (pathL ps k).length from by
        rw [pathL_step (OK.out.falls1 HX.out (by omega) (by omega)) (Nat.lt_succ_self k) HX.out HM.out, List.length_cons, hd]; rfl)
      clear hd
      by_cases h4 : 4 ≤ d
      · have h4' : (4 : Int) ≤ (d : Int) := by omega
        have NO := Lib.hid (BAD.out (fun h => by rcases h with h | h; exact HM.out h; have := PL.out; omega))
        go_wp2_with fail
        go_ret2
        exact chk_bad (by decide) NO.out DP.out.low
      · have h4' : ¬ (4 : Int) ≤ (d : Int) := by omega
        have OKA := Lib.hid (show OkAt ps k (q : Int) from Or.inr (by have := PL.out; omega))
        have NX := Lib.hid (DP.out.next LT.out (d + 1) PL.out)
        go_wp2_with fail
        go_roundw
        case rel => exact ⟨k + 1, _, by have := LT.out; omega, by go_num, Lib.hid (OK.out.next HX.out OKA.out), NX⟩
        case measure => have := LT.out; simp [intOf]; omega
    · have hlt' : ¬ (k : Int) < (ps.length : Int) := by omega
      have YES := Lib.hid (show TreeOk ps from OkTo.tree (by have h := OK.out; rwa [show k = ps.length from by omega] at h) LB.out.1 LB.out.2)
      go_wp2_with fail
      go_ret2
      exact ⟨0, 0, rfl, ⟨fun _ => YES.out, fun _ => rfl⟩, DP.out.low⟩

/-- The way up from an account whose own place and those ahead of it can be. -/
theorem path_cut {ps : List Int} {n v : Nat} (hf : Falls ps n) : ∀ (v : Nat), v < n → (pathL ps v).length ≤ v + 1 := by
  intro v
  induction v using Nat.strongRecOn with
  | _ v ih =>
    intro hv
    cases hp : ps[v]? with
    | none => unfold pathL upL; rw [hp]; simp
    | some p =>
      by_cases h1 : p = -1
      · rw [pathL_root (by rw [hp, h1])]; simp
      · rw [pathL_step hf hv hp h1, List.length_cons]
        rcases hf v p hv hp with h2 | h2
        · exact absurd h2 h1
        · have := ih p.toNat (by omega) (by omega); omega
set_option maxRecDepth 100000 in
set_option maxHeartbeats 1000000 in
theorem rup_any (w : World) (v : Value) (ps : List Int) (hR : RowOf w 1 icell v ps) (hl : ps.length ≤ 16) (n u : Nat) (hf : Falls ps n) (hu : u < n) (hn : n ≤ ps.length) :
    Calls Tryz.prog 82 #[v, .int .i64 (u : Nat)] w (RowOut w ((pathL ps u).map fun x : Nat => (x : Int))) := by
  obtain ⟨a, c, rfl⟩ := hR.form
  have HR := Lib.hid hR
  have HF := Lib.hid hf
  have HL := Lib.hid hl
  have HN := Lib.hid (And.intro hu hn)
  obtain ⟨PL, hPL⟩ : ∃ PL, PL = pathL ps u := ⟨_, rfl⟩
  rw [← hPL]
  have P0 := Lib.hid hPL
  have PN := Lib.hid (show PL.length ≤ ps.length from by rw [hPL]; have := path_cut (v := u) hf u hu; omega)
  clear hR hf hPL hl hu hn
  go_enter Tryz.func82, Tryz.ntmps82
  go_wp2_with fail
  go_loopw [5, 6] (fun ov at_ wr => ∃ (cur : List Int) (x : Int) (left : List Nat), at_ = .int .i64 x ∧ wr.ownsRow w.heap.size 3 1 ov cur.length (icells cur) ∧ Below w.heap.size w wr ∧ Hid (PL.map (fun x : Nat => (x : Int)) = cur ++ left.map (fun x : Nat => (x : Int)) ∧ ((x = -1 ∧ left = []) ∨ ∃ q : Nat, x = q ∧ q < n ∧ left = pathL ps q))) (fun _ at_ _ => (intOf at_ + 1).toNat)
  case atStart => exact ⟨[], (u : Nat), PL, rfl, World.ownsRow_nil _ _ _ _, Below.refl _ _, Lib.hid ⟨by simp, Or.inr ⟨u, rfl, HN.out.1, P0.out⟩⟩⟩
  case round =>
    obtain ⟨cur, x, left, rfl, ho, hb, INV⟩ := hrel
    obtain ⟨ao, co, rfl, _⟩ := ownsRow_slice ho
    have OW := Lib.hid ho
    have BW := Lib.hid hb
    have ROW := Lib.hid (HR.out.below hb)
    clear ho hb
    have hcl : cur.length ≤ ps.length := by have h1 := congrArg List.length INV.out.1; have := PN.out; simp at h1; omega
    have CL := Lib.hid hcl
    clear hcl
    rcases INV.out.2 with ⟨hx, hleft⟩ | ⟨q, hx, hq, hleft⟩
    · subst hx
      have E := Lib.hid (show PL.map (fun x : Nat => (x : Int)) = cur from by rw [INV.out.1, hleft]; simp)
      clear hleft
      go_wp2_with fail
      go_ret
      exact ⟨_, rfl, by rw [E.out]; exact OW.out, BW.out⟩
    · subst hx
      have hb1 : ((q : Int) != -1) = true := by rw [bne_iff_ne]; omega
      have hle : (cur.length : Int) ≤ (ps.length : Int) := by have := CL.out; omega
      obtain ⟨p, hp⟩ : ∃ p, ps[q]? = some p := ⟨_, List.getElem?_eq_getElem (by have := HN.out.2; omega)⟩
      have M1 := ((Mod.refl (fun _ => False) wr).alloc (.cells #[.int .i64 (q : Nat)] 3))
      obtain ⟨v3, w3, R3, O3, M3, N3⟩ := app_int wr w.heap.size _ cur (q : Nat) wr.heap.size rfl OW.out BW.out.size (by have := CL.out; have := HL.out; omega)
      have R3' := Lib.hid R3
      have O3' := Lib.hid O3
      have B3 := Lib.hid (show Below w.heap.size w w3 from ((Mod.of_below BW.out).mono (T := fun k => w.heap.size ≤ k) (fun _ _ h => h.elim)).trans M3 (fun k _ h => (OW.out.lt k h).1) |>.mono (T := fun _ => False) (fun k hk h => by omega) |>.toBelow)
      obtain ⟨b, o, rfl, hbl, hc⟩ := (HR.out.below B3.out).at_ hp
      have c0 := hc 0 (.int .i64 p) rfl
      rw [Nat.mul_one, Nat.add_zero] at c0
      have q0 : (0 : Int) ≤ (q : Int) := by omega
      have q1 : (q : Int) < (ps.length : Int) := by have := HN.out.2; omega
      have HP := Lib.hid hp
      have HQ := Lib.hid (And.intro hq hleft)
      clear R3 O3 M3 N3 M1 hp hc hq hleft
      have NEXT := Lib.hid (show PL.map (fun x : Nat => (x : Int)) = (cur ++ [(q : Int)]) ++ (if p = -1 then [] else pathL ps p.toNat).map (fun x : Nat => (x : Int)) ∧ (p = -1 ∨ (0 ≤ p ∧ p < q)) from by
        refine ⟨?_, ?_⟩
        · rw [INV.out.1, HQ.out.2]
          by_cases h1 : p = -1
          · rw [if_pos h1, pathL_root (by rw [HP.out, h1])]; simp
          · rw [if_neg h1, pathL_step HF.out HQ.out.1 HP.out h1]; simp
        · exact HF.out q p HQ.out.1 HP.out)
      go_wp2_with (at_builtin; refine wpList_append_run rfl (.tmp 21) (.tmp 23) 28 rfl rfl rfl R3'.out ?_)
      go_roundw
      case rel => exact ⟨cur ++ [(q : Int)], p, (if p = -1 then [] else pathL ps p.toNat), rfl, O3'.out, B3.out, Lib.hid ⟨NEXT.out.1, by
        rcases NEXT.out.2 with h | h
        · exact Or.inl ⟨h, if_pos h⟩
        · exact Or.inr ⟨p.toNat, by omega, by have := HQ.out.1; omega, by rw [if_neg (by omega)]⟩⟩⟩
      case measure =>
        have := NEXT.out.2
        simp [intOf]
        omega

set_option maxRecDepth 100000 in
set_option maxHeartbeats 2000000 in
theorem rcheck_any (w : World) (v : Value) (ps : List Int) (hR : RowOf w 1 icell v ps) :
    Calls Tryz.prog 39 #[v] w (ChkOut w ps) := by
  obtain ⟨a, c, rfl⟩ := hR.form
  have HR := Lib.hid hR
  clear hR
  by_cases h2 : ps.length < 2
  · have BAD := Lib.hid (show ¬ TreeOk ps from fun h => by have := h.lo; omega)
    have h2' : (ps.length : Int) < 2 := by omega
    go_enter Tryz.func39, Tryz.ntmps39
    go_wp2_with fail
    go_ret2
    exact chk_bad (by decide) BAD.out (Below.refl _ _)
  by_cases h16 : 16 < ps.length
  · have BAD := Lib.hid (show ¬ TreeOk ps from fun h => by have := h.hi; omega)
    have h2' : ¬ (ps.length : Int) < 2 := by omega
    have h16' : (16 : Int) < (ps.length : Int) := by omega
    go_enter Tryz.func39, Tryz.ntmps39
    go_wp2_with fail
    go_ret2
    exact chk_bad (by decide) BAD.out (Below.refl _ _)
  have h2' : ¬ (ps.length : Int) < 2 := by omega
  have h16' : ¬ (16 : Int) < (ps.length : Int) := by omega
  have LB := Lib.hid (And.intro (Nat.le_of_not_lt h2) (Nat.le_of_not_lt h16))
  clear h2 h16
  go_enter Tryz.func39, Tryz.ntmps39
  go_wp2_with fail
  clear h2' h16'
  go_loopw [14] (fun i wr => ∃ (k : Nat), k ≤ ps.length ∧ i = .int .i64 k ∧ Hid (OkTo ps k) ∧ Below w.heap.size w wr) (fun i _ => ps.length - (intOf i).toNat)
  case atStart => exact ⟨0, Nat.zero_le _, rfl, Lib.hid (fun v p hv => by omega), Below.refl _ _⟩
  case round =>
    obtain ⟨k, hk, rfl, OK, hb0⟩ := hrel
    have BW := Lib.hid hb0
    have ROW := Lib.hid (HR.out.below hb0)
    clear hb0
    by_cases hlt : k < ps.length
    · obtain ⟨x, hx⟩ : ∃ x, ps[k]? = some x := ⟨_, List.getElem?_eq_getElem hlt⟩
      obtain ⟨b, o, rfl, hbl, hc⟩ := ROW.out.at_ hx
      have c0 := hc 0 (.int .i64 x) rfl
      rw [Nat.mul_one, Nat.add_zero] at c0
      have hlt' : (k : Int) < (ps.length : Int) := by omega
      have k0 : (0 : Int) ≤ (k : Int) := by omega
      have kb : (k : Int) ≤ 15 := by have := LB.out.2; omega
      have HX := Lib.hid hx
      have LT := Lib.hid hlt
      have BAD := Lib.hid (show ¬ OkAt ps k x → ¬ TreeOk ps from fun hn ht => hn (ht.ok k x HX.out))
      clear hx hc
      by_cases hm : x = -1
      · have hb : (x == -1) = true := by simp [hm]
        have OKA := Lib.hid (show OkAt ps k x from Or.inl hm)
        clear hm
        go_wp2_with fail
        go_roundw
        case rel => exact ⟨k + 1, by have := LT.out; omega, by go_num, Lib.hid (OK.out.next HX.out OKA.out), BW.out⟩
        case measure => have := LT.out; simp [intOf]; omega
      have hb : (x == -1) = false := by simp [hm]
      have HM := Lib.hid hm
      clear hm
      by_cases h0 : (k : Int) < 2
      · have NO := Lib.hid (BAD.out (fun h => by rcases h with h | h; exact HM.out h; omega))
        go_wp2_with fail
        go_ret2
        exact chk_bad (by decide) NO.out BW.out
      by_cases h1 : x < 2
      · have NO := Lib.hid (BAD.out (fun h => by rcases h with h | h; exact HM.out h; omega))
        go_wp2_with fail
        go_ret2
        exact chk_bad (by decide) NO.out BW.out
      by_cases h3 : (k : Int) ≤ x
      · have NO := Lib.hid (BAD.out (fun h => by rcases h with h | h; exact HM.out h; omega))
        go_wp2_with fail
        go_ret2
        exact chk_bad (by decide) NO.out BW.out
      have UP := Lib.hid (rup_any wr _ ps ROW.out LB.out.2 (k + 1) k (OK.out.falls1 HX.out (by omega) (by omega)) (Nat.lt_succ_self k) (by omega))
      obtain ⟨d, hd⟩ : ∃ d, d = (pathL ps k).length := ⟨_, rfl⟩
      have HD := Lib.hid hd
      clear hd
      have XB := Lib.hid (And.intro (Int.not_lt.1 h1) (Int.not_le.1 h3))
      have KB := Lib.hid (Int.not_lt.1 h0)
      go_wp2_with fail
      refine UP.out.mono ?_
      rintro e w2 ⟨v2, rfl, ho2, hb2⟩
      rw [List.length_map, ← HD.out] at ho2
      obtain ⟨a2, c2, rfl, _⟩ := ownsRow_slice ho2
      have B2 := Lib.hid (BW.out.trans (hb2.mono BW.out.size))
      clear ho2 hb2
      by_cases h4 : 4 < d
      · have h4' : (4 : Int) < (d : Int) := by omega
        have NO := Lib.hid (BAD.out (fun h => by rcases h with h | h; exact HM.out h; have := HD.out; omega))
        go_wp2_with fail
        go_ret2
        exact chk_bad (by decide) NO.out B2.out
      · have h4' : ¬ (4 : Int) < (d : Int) := by omega
        have OKA := Lib.hid (show OkAt ps k x from Or.inr (by have := HD.out; have := XB.out; have := KB.out; omega))
        go_wp2_with fail
        go_roundw
        case rel => exact ⟨k + 1, by have := LT.out; omega, by go_num, Lib.hid (OK.out.next HX.out OKA.out), B2.out⟩
        case measure => have := LT.out; simp [intOf]; omega
    · have hlt' : ¬ (k : Int) < (ps.length : Int) := by omega
      have YES := Lib.hid (show TreeOk ps from OkTo.tree (by have h := OK.out; rwa [show k = ps.length from by omega] at h) LB.out.1 LB.out.2)
      go_wp2_with fail
      go_ret2
      exact ⟨0, 0, rfl, ⟨fun _ => YES.out, fun _ => rfl⟩, BW.out⟩
end Go.Proofs.YtcjbhgnlmmeeeaaGreatDoor

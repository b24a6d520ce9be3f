/- Rows of whole numbers that a call makes; tree.Parents, the document's Parents and Up, walked. -/
import Derived.Test.YtcjbhgnlmmeeeaaGreatDoorGen
namespace Go.Proofs.YtcjbhgnlmmeeeaaGreatDoor
open Go.RowKit Go.Bw Go.Maps Go.Shelf
set_option linter.unusedVariables false
set_option linter.unusedSimpArgs false

theorem TInt.info : (Tryz.prog.info? 3).map (fun i => (i.zero, i.size, i.bytes)) = some (some (.int .i64 0), 1, 8) := by kernel_rfl
theorem icells_one (xs : List Int) : ∀ u ∈ icells xs, u.oneCell' = true := by
  intro u hu
  obtain ⟨x, _, rfl⟩ := List.mem_map.1 hu
  rfl
theorem row_of_owns {w : World} {B : Nat} {v : Value} {xs : List Int} (h : w.ownsRow B 3 1 v xs.length (icells xs)) : RowOf w 1 icell v xs := by
  have hR := ownsRow_reads h
  rcases h.2 with ⟨rfl, hn⟩ | ⟨g, cap, cur, rfl, hB, hg, hc, hm, hs, ht⟩
  · have hx : xs = [] := List.eq_nil_of_length_eq_zero hn
    subst hx
    exact ⟨none, 0, rfl, Nat.le_refl _, Nat.zero_le _, fun _ => rfl, fun i x hi => by simp at hi⟩
  · refine ⟨_, cap, rfl, hc, hm, (fun h => by cases h), fun i x hi => ⟨g, 0, rfl, lt_of_heap hg, fun j u hj => ?_⟩⟩
    obtain rfl : j = 0 := by
      have := (List.getElem?_eq_some_iff.1 hj).1
      simp [icell] at this; exact this
    have hu : u = .int .i64 x := by simpa [icell] using hj.symm
    subst hu
    rcases hR.2 with ⟨c', e, _⟩ | ⟨a', c', e, hh⟩
    · cases e
    · cases e
      have := hh i (.int .i64 x) (by simp [icells, hi])
      rw [add_plain] at this
      rw [show 0 + i * 1 + 0 = 0 + i from by omega]
      exact this
/-- A number is appended to a row of one's own. -/
theorem app_int (wr : World) (B : Nat) (v : Value) (cur : List Int) (x : Int) (H : Nat) (hH : wr.heap.size = H) (hor : wr.ownsRow B 3 1 v cur.length (icells cur)) (hB : B ≤ wr.heap.size) (hl : cur.length ≤ 1000000) :
    ∃ v' w3, (Builtin.append_ #[28, 28] 28 #[v, .slice (some ⟨H, 0, none⟩) 1 1]).run Tryz.prog (wr.alloc (.cells #[.int .i64 x] 3)) = .ok v' w3 ∧ w3.ownsRow B 3 1 v' (cur ++ [x]).length (icells (cur ++ [x])) ∧
      Mod (fun k => v.ownBlock = some k) wr w3 ∧ ∀ k, v'.ownBlock = some k → v.ownBlock = some k ∨ wr.heap.size ≤ k := by
  subst hH
  obtain ⟨i0, h1, h2, h3, h4⟩ := info_parts TInt.info
  have M0 := (Mod.refl (fun _ => False) wr).alloc (.cells #[.int .i64 x] 3)
  have ho : (wr.alloc (.cells #[.int .i64 x] 3)).ownsRow 0 3 1 v cur.length (icells cur) := ownsRow_kept (ownsRow_base hor (base' := 0) (fun _ _ => Nat.zero_le _)) (fun k hk => M0.block k (hor.lt k hk).2 (fun h => h))
  have hx : Reads (wr.alloc (.cells #[.int .i64 x] 3)) 1 (.slice (some ⟨wr.heap.size, 0, none⟩) 1 1) 1 (icells [x]) :=
    ⟨rfl, Or.inr ⟨_, _, rfl, fun j u hj => by
      have hj0 : j = 0 := by have := (List.getElem?_eq_some_iff.1 hj).1; simpa [icells] using this
      subst hj0
      rw [add_plain, Nat.add_zero, cell_of_heap (heap_alloc_new wr _)]
      simpa [icells] using hj⟩⟩
  obtain ⟨v', w3, hrun, ho3, hm3, hb3, _⟩ := run_append_to (P := Tryz.prog) 28 28 3 i0 (.int .i64 0) 1 8 Tryz.underlying28 h1 h2 h3 h4 rfl (by decide) v _ _ ho _ _ _ hx (icells_one _) (by unfold maxLen; omega) (by omega)
  have hsz : (wr.alloc (.cells #[.int .i64 x] 3)).heap.size = wr.heap.size + 1 := by simp
  refine ⟨v', w3, hrun, ?_, (M0.mono (fun _ _ h => h.elim)).trans hm3 (fun i _ h => h), fun k hk => (hb3 k hk).imp id (fun e => by omega)⟩
  have e : icells (cur ++ [x]) = icells cur ++ icells [x] := by simp [icells]
  rw [List.length_append, e]
  refine ownsRow_base ho3 (fun k hk => ?_)
  rcases hb3 k hk with h | h
  · exact (hor.lt k h).1
  · omega

/-- A row of numbers that a call has made. -/
def RowOut (w : World) (l : List Int) (e : Ending) (w' : World) : Prop := ∃ v, e = .returned v ∧ w'.ownsRow w.heap.size 3 1 v l.length (icells l) ∧ Below w.heap.size w w'
theorem take_snoc' {α : Type} {l : List α} {k : Nat} {x : α} (hx : l[k]? = some x) : l.take (k + 1) = l.take k ++ [x] := by
  have hk := (List.getElem?_eq_some_iff.1 hx).1
  rw [List.take_succ_eq_append_getElem hk, (List.getElem?_eq_some_iff.1 hx).2]

set_option maxRecDepth 100000 in
set_option maxHeartbeats 1000000 in
theorem parents_any (w : World) (v : Value) (l : List (Acc × Value)) (hR : RowOf w 4 Acc.cells v l) (hl : l.length ≤ 1024) (hca : ∀ p ∈ l, ∃ a n c, p.2 = .slice a n c) :
    Calls Tryz.prog 100 #[v] w (RowOut w (l.map fun p => p.1.parent)) := by
  obtain ⟨a, c, rfl⟩ := hR.form
  obtain ⟨PS, hPS⟩ : ∃ PS, PS = l.map fun p => p.1.parent := ⟨_, rfl⟩
  rw [← hPS]
  have EQ := Lib.hid hPS
  have HR := Lib.hid hR
  have HC := Lib.hid hca
  clear hR hPS hca
  go_enter Tryz.func100, Tryz.ntmps100
  go_wp2_with fail
  go_loopw [3, 8] (fun ov i wr => ∃ (k : Nat) (cur : List Int), k ≤ l.length ∧ i = .int .i64 k ∧ cur.length = k ∧ Hid (cur = PS.take k) ∧ wr.ownsRow w.heap.size 3 1 ov cur.length (icells cur) ∧ Below w.heap.size w wr) (fun _ i _ => l.length - (intOf i).toNat)
  case atStart => exact ⟨0, [], Nat.zero_le _, rfl, rfl, Lib.hid (by simp), World.ownsRow_nil _ _ _ _, Below.refl _ _⟩
  case round =>
    obtain ⟨k, cur, hk, rfl, hcl, CUR, ho, hb⟩ := hrel
    have OW := Lib.hid ho
    have BW := Lib.hid hb
    have ROW := Lib.hid (HR.out.below hb)
    clear ho hb
    by_cases hlt : k < l.length
    · obtain ⟨x, hx⟩ : ∃ x, l[k]? = some x := ⟨_, List.getElem?_eq_getElem hlt⟩
      obtain ⟨b, o, rfl, hbl, hc⟩ := ROW.out.at_ hx
      obtain ⟨va, na, ca, hva⟩ := HC.out x (List.mem_of_getElem? hx)
      have c0 := hc 0 (.int .i64 x.1.parent) rfl
      have c1 := hc 1 (.slice va na ca) (by simp [Acc.cells, hva])
      have c2 := hc 2 (.bool x.1.flag) rfl
      have c3 := hc 3 (.int .i64 x.1.last) rfl
      rw [Nat.add_zero] at c0
      have hlt' : (k : Int) < (l.length : Int) := by omega
      have HX := Lib.hid (show PS.take (k + 1) = cur ++ [x.1.parent] from by rw [CUR.out]; exact take_snoc' (by rw [EQ.out, List.getElem?_map, hx]; rfl))
      have LT := Lib.hid hlt
      have KL := Lib.hid hcl
      clear hx hc hva
      have M1 := (Mod.refl (fun _ => False) wr).alloc (.cells #[.int .i64 x.1.parent, .slice va na ca, .bool x.1.flag, .int .i64 x.1.last] 48)
      have ho1 := ownsRow_kept OW.out (fun k hk => M1.block k (OW.out.lt k hk).2 (fun h => h))
      obtain ⟨v3, w3, R3, O3, M3, N3⟩ := app_int _ w.heap.size _ cur x.1.parent (wr.heap.size + 1) (by simp) ho1 (Nat.le_trans BW.out.size M1.size) (by omega)
      have R3' := Lib.hid R3
      have O3' := Lib.hid O3
      have B3 := Lib.hid (show Below w.heap.size w w3 from (((Mod.of_below BW.out).trans M1 (fun _ _ h => h)).mono (T := fun k => w.heap.size ≤ k) (fun _ _ h => h.elim)).trans M3 (fun k _ h => (ho1.lt k h).1) |>.mono (T := fun _ => False) (fun k hk h => by omega) |>.toBelow)
      clear R3 O3 M3 N3 M1 ho1
      go_wp2_with (at_builtin; refine wpList_append_run rfl (.tmp 12) (.tmp 15) 28 rfl rfl rfl R3'.out ?_)
      go_roundw
      case rel => exact ⟨k + 1, cur ++ [x.1.parent], by have := LT.out; omega, by go_num, by rw [List.length_append, KL.out]; rfl, Lib.hid HX.out.symm, O3'.out, B3.out⟩
      case measure => have := LT.out; simp [intOf]; omega
    · have hlt' : ¬ (k : Int) < (l.length : Int) := by omega
      have E := Lib.hid (show cur = PS from by rw [CUR.out]; exact List.take_of_length_le (by rw [EQ.out, List.length_map]; omega))
      go_wp2_with fail
      go_ret
      rw [E.out] at OW
      exact ⟨_, rfl, OW.out, BW.out⟩

theorem _root_.Go.Bw.LedAt.forms {w : World} {V : LedV} {l : Led} (h : LedAt w V l) : ∃ a1 c1 a2 c2 a3 c3 a4 c4 a5 c5 a6 c6 a7 c7 a8 c8 asl,
    V = ⟨.slice a1 l.curs.length c1, .slice a2 l.unders.length c2, .slice a3 l.instrs.length c3, .slice a4 asl.length c4, .slice a5 l.poss.length c5, .slice a6 l.orders.length c6, .slice a7 l.avail.length c7, .slice a8 l.locs.length c8, asl⟩ := by
  obtain ⟨curs, unders, instrs, accts, poss, orders, avail, locs, asl⟩ := V
  obtain ⟨a1, c1, e1⟩ := h.curs.form
  obtain ⟨a2, c2, e2⟩ := h.unders.form
  obtain ⟨a3, c3, e3⟩ := h.instrs.form
  obtain ⟨a4, c4, e4⟩ := h.accts.form
  obtain ⟨a5, c5, e5⟩ := h.poss.form
  obtain ⟨a6, c6, e6⟩ := h.orders.form
  obtain ⟨a7, c7, e7⟩ := h.avail.form
  obtain ⟨a8, c8, e8⟩ := h.locs.form
  simp only at e1 e2 e3 e4 e5 e6 e7 e8
  subst e1; subst e2; subst e3; subst e4; subst e5; subst e6; subst e7; subst e8
  exact ⟨_, _, _, _, _, _, _, _, _, _, _, _, _, _, _, _, _, rfl⟩
theorem _root_.Go.Bw.LedAt.cashes {w : World} {V : LedV} {l : Led} (h : LedAt w V l) : ∀ p ∈ V.ac, ∃ a n c, p.2 = .slice a n c := fun p hp => by
  obtain ⟨a, c, e⟩ := (h.cash p hp).form
  exact ⟨a, _, c, e⟩
set_option maxRecDepth 100000 in
set_option maxHeartbeats 1000000 in
theorem rparents_any (w : World) (V : LedV) (L : Led) (h : LedAt w V L) (hl : L.accts.length ≤ 1024) :
    Calls Tryz.prog 40 #[V.val L] w (RowOut w L.parents) := by
  obtain ⟨a1, c1', a2, c2', a3, c3', a, c, a5, c5', a6, c6', a7, c7', a8, c8', l, rfl⟩ := h.forms
  have hR := h.accts
  have hca := h.cashes
  have hsame := h.same
  simp only [LedV.val, LedV.cells]
  simp only at hR hca hsame
  have hll : L.accts.length = l.length := by rw [hsame, List.length_map]
  rw [show L.parents = l.map fun p => p.1.parent from by unfold Led.parents; rw [hsame, List.map_map]; rfl]
  rw [hll] at hl
  clear h hsame hll
  obtain ⟨PS, hPS⟩ : ∃ PS, PS = l.map fun p => p.1.parent := ⟨_, rfl⟩
  rw [← hPS]
  have EQ := Lib.hid hPS
  have HR := Lib.hid hR
  have HC := Lib.hid hca
  clear hR hPS hca
  go_enter Tryz.func40, Tryz.ntmps40
  go_wp2_with fail
  go_loopw [3, 9] (fun ov i wr => ∃ (k : Nat) (cur : List Int), k ≤ l.length ∧ i = .int .i64 k ∧ cur.length = k ∧ Hid (cur = PS.take k) ∧ wr.ownsRow w.heap.size 3 1 ov cur.length (icells cur) ∧ Below w.heap.size w wr) (fun _ i _ => l.length - (intOf i).toNat)
  case atStart => exact ⟨0, [], Nat.zero_le _, rfl, rfl, Lib.hid (by simp), World.ownsRow_nil _ _ _ _, (Below.refl _ _).alloc (Nat.le_refl _) _⟩
  case round =>
    obtain ⟨k, cur, hk, rfl, hcl, CUR, ho, hb⟩ := hrel
    have OW := Lib.hid ho
    have BW := Lib.hid hb
    have ROW := Lib.hid (HR.out.below hb)
    clear ho hb
    by_cases hlt : k < l.length
    · obtain ⟨x, hx⟩ : ∃ x, l[k]? = some x := ⟨_, List.getElem?_eq_getElem hlt⟩
      obtain ⟨b, o, rfl, hbl, hc⟩ := ROW.out.at_ hx
      obtain ⟨va, na, ca, hva⟩ := HC.out x (List.mem_of_getElem? hx)
      have c0 := hc 0 (.int .i64 x.1.parent) rfl
      have c1 := hc 1 (.slice va na ca) (by simp [Acc.cells, hva])
      have c2 := hc 2 (.bool x.1.flag) rfl
      have c3 := hc 3 (.int .i64 x.1.last) rfl
      rw [Nat.add_zero] at c0
      have hlt' : (k : Int) < (l.length : Int) := by omega
      have HX := Lib.hid (show PS.take (k + 1) = cur ++ [x.1.parent] from by rw [CUR.out]; exact take_snoc' (by rw [EQ.out, List.getElem?_map, hx]; rfl))
      have LT := Lib.hid hlt
      have KL := Lib.hid hcl
      clear hx hc hva
      have M1 := (Mod.refl (fun _ => False) wr).alloc (.cells #[.int .i64 x.1.parent, .slice va na ca, .bool x.1.flag, .int .i64 x.1.last] 48)
      have ho1 := ownsRow_kept OW.out (fun k hk => M1.block k (OW.out.lt k hk).2 (fun h => h))
      obtain ⟨v3, w3, R3, O3, M3, N3⟩ := app_int _ w.heap.size _ cur x.1.parent (wr.heap.size + 1) (by simp) ho1 (Nat.le_trans BW.out.size M1.size) (by omega)
      have R3' := Lib.hid R3
      have O3' := Lib.hid O3
      have B3 := Lib.hid (show Below w.heap.size w w3 from (((Mod.of_below BW.out).trans M1 (fun _ _ h => h)).mono (T := fun k => w.heap.size ≤ k) (fun _ _ h => h.elim)).trans M3 (fun k _ h => (ho1.lt k h).1) |>.mono (T := fun _ => False) (fun k hk h => by omega) |>.toBelow)
      clear R3 O3 M3 N3 M1 ho1
      go_wp2_with (at_builtin; refine wpList_append_run rfl (.tmp 13) (.tmp 16) 28 rfl rfl rfl R3'.out ?_)
      go_roundw
      case rel => exact ⟨k + 1, cur ++ [x.1.parent], by have := LT.out; omega, by go_num, by rw [List.length_append, KL.out]; rfl, Lib.hid HX.out.symm, O3'.out, B3.out⟩
      case measure => have := LT.out; simp [intOf]; omega
    · have hlt' : ¬ (k : Int) < (l.length : Int) := by omega
      have E := Lib.hid (show cur = PS from by rw [CUR.out]; exact List.take_of_length_le (by rw [EQ.out, List.length_map]; omega))
      go_wp2_with fail
      go_ret
      rw [E.out] at OW
      exact ⟨_, rfl, OW.out, BW.out⟩
end Go.Proofs.YtcjbhgnlmmeeeaaGreatDoor

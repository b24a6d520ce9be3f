/- margin.Need, Have, Excess, Loss: what the document says, by its amounts. -/
import Derived.Test.YtcjbhgnlmmeeeaaGreatDoorReck
namespace Go.Proofs.YtcjbhgnlmmeeeaaGreatDoor
open Go.RowKit Go.Bw Go.Maps Go.Shelf Go.Bw.Fall
set_option linter.unusedVariables false
set_option linter.unusedSimpArgs false

theorem asks_need (w : World) (V : LedV) (L : Led) (a : Nat) (hg : L.Good) : Asks w V L a 31 #[] (retA (needO L a)) := fun W b mb bv hS _ _ =>
  (need_any W b mb bv V L a hS hg).mono fun e w' h => ⟨AskO.of h.1, h.2.m⟩
theorem asks_have (w : World) (V : LedV) (L : Led) (a : Nat) (hg : L.Good) : Asks w V L a 32 #[] (retA (haveO L a)) := fun W b mb bv hS _ _ =>
  (have_any W b mb bv V L a hS hg).mono fun e w' h => ⟨AskO.of h.1, h.2.m⟩
theorem haveO_fits {L : Led} {a : Nat} {x : Int} (h : haveO L a = some x) : fitsA x = true := by
  have go : ∀ (cs : List Cur) (n : Nat) (x y : Int), fitsA x = true → haveGo L a n cs x = some y → fitsA y = true := by
    intro cs
    induction cs with
    | nil => intro n x y hx h; cases h; exact hx
    | cons c r ih =>
      intro n x y hx h
      unfold haveGo at h
      rw [Option.bind_eq_some_iff] at h
      obtain ⟨k, _, h⟩ := h
      rw [Option.bind_eq_some_iff] at h
      obtain ⟨b, _, h⟩ := h
      rw [Option.bind_eq_some_iff] at h
      obtain ⟨z, hz, h⟩ := h
      obtain ⟨rfl, _, _, hf⟩ := addO_some.1 hz
      exact ih (n + 1) _ y hf h
  exact go _ _ _ _ (by decide) h
theorem needO_fits {L : Led} {a : Nat} {x : Int} (h : needO L a = some x) : fitsA x = true := by
  have go : ∀ (cs : List Und) (n : Nat) (x y : Int), fitsA x = true → needGo L a n cs x = some y → fitsA y = true := by
    intro cs
    induction cs with
    | nil => intro n x y hx h; cases h; exact hx
    | cons c r ih =>
      intro n x y hx h
      unfold needGo at h
      rw [Option.bind_eq_some_iff] at h
      obtain ⟨k, _, h⟩ := h
      rw [Option.bind_eq_some_iff] at h
      obtain ⟨b, _, h⟩ := h
      rw [Option.bind_eq_some_iff] at h
      obtain ⟨z, hz, h⟩ := h
      obtain ⟨rfl, _, _, hf⟩ := addO_some.1 hz
      exact ih (n + 1) _ y hf h
  exact go _ _ _ _ (by decide) h
set_option maxRecDepth 100000 in
set_option maxHeartbeats 2000000 in
theorem excess1_any (w : World) (b mb : Nat) (bv : Value) (V : LedV) (L : Led) (a : Nat) (hS : Sight w b mb bv V L a) (hg : L.Good) :
    Calls Tryz.prog 33 #[.pointer (some ⟨b, 0, none⟩)] w (GainOut w b mb bv V L a (excessO L a)) := by
  have HV := Lib.hid (have_any w b mb bv V L a hS hg)
  have ND := Lib.hid (fun W (hW : Sight W b mb bv V L a) => need_any W b mb bv V L a hW hg)
  obtain ⟨R, hR⟩ : ∃ R, R = excessO L a := ⟨_, rfl⟩
  rw [← hR]
  have EQ := Lib.hid hR
  clear hS hg hR
  go_enter Tryz.func33, Tryz.ntmps33
  go_wp2_with fail
  refine HV.out.mono ?_
  rintro e w1 ⟨ho, ht⟩
  have T1 := Lib.hid ht
  clear ht
  rcases Or.symm ho with ⟨hx, rfl⟩ | ⟨x, hx, rfl⟩
  · have HX := Lib.hid hx
    clear hx
    go_wp2_with fail
    exact ⟨rfl, OutO.none_ (by rw [EQ.out]; unfold excessO; rw [HX.out]; rfl), T1.out⟩
  have HX := Lib.hid hx
  clear hx
  go_wp2_with fail
  refine (ND.out _ T1.out.s).mono ?_
  rintro e w2 ⟨ho, ht⟩
  have T2 := Lib.hid (T1.out.trans ht)
  clear ht
  rcases Or.symm ho with ⟨hy, rfl⟩ | ⟨y, hy, rfl⟩
  · have HY := Lib.hid hy
    clear hy
    go_wp2_with fail
    exact ⟨rfl, OutO.none_ (by rw [EQ.out]; unfold excessO; rw [HX.out]; show (needO L a).bind _ = none; rw [HY.out]; rfl), T2.out⟩
  have HY := Lib.hid hy
  clear hy
  have FS := Lib.hid (fun W => fsub_any x y (I64.of_fits (haveO_fits HX.out)) (I64.of_fits (needO_fits HY.out)) W)
  have SE := Lib.hid (subA_er x y)
  have SO := Lib.hid (show R = optA (subA x y) from by rw [EQ.out]; unfold excessO; rw [HX.out]; show (needO L a).bind _ = _; rw [HY.out]; rfl)
  obtain ⟨SR, hSR⟩ : ∃ r, r = subA x y := ⟨_, rfl⟩
  rw [← hSR] at FS SE SO
  clear hSR
  go_wp2_with fail
  refine (FS.out _).mono ?_
  rintro e w' ⟨rfl, rfl⟩
  go_wp2_with fail
  refine (mmust_any SR (er_or SE.out) _).mono ?_
  rintro e w' ⟨ho, rfl⟩
  rcases Or.symm ho with ⟨hz, rfl⟩ | ⟨z, hz, rfl⟩
  · have HZ := Lib.hid hz
    clear hz
    go_wp2_with fail
    exact ⟨rfl, OutO.none_ (SO.out.trans HZ.out), T2.out⟩
  have HZ := Lib.hid hz
  clear hz
  go_wp2_with fail
  go_ret
  exact ⟨OutO.some_ (SO.out.trans HZ.out), T2.out⟩
theorem asks_excess (w : World) (V : LedV) (L : Led) (a : Nat) (hg : L.Good) : Asks w V L a 33 #[] (retA (excessO L a)) := fun W b mb bv hS _ _ =>
  (excess1_any W b mb bv V L a hS hg).mono fun e w' h => ⟨AskO.of h.1, h.2.m⟩
/-- What a reckoning of an account answers. -/
noncomputable def ansA (L : Led) (acct : Int) (r : Int × Int) : Int × Int := by
  classical
  exact if L.Good then (if acct < 0 ∨ (L.accts.length : Int) ≤ acct then (0, 33) else r) else (0, 43)
theorem ansA_bad {L : Led} {acct : Int} {r : Int × Int} (h : ¬ L.Good) : ansA L acct r = (0, 43) := by unfold ansA; rw [if_neg h]
theorem ansA_out {L : Led} {acct : Int} {r : Int × Int} (h : L.Good) (ho : acct < 0 ∨ (L.accts.length : Int) ≤ acct) : ansA L acct r = (0, 33) := by unfold ansA; rw [if_pos h, if_pos ho]
theorem ansA_ok {L : Led} {acct : Int} {r : Int × Int} (h : L.Good) (ho : ¬ (acct < 0 ∨ (L.accts.length : Int) ≤ acct)) : ansA L acct r = r := by unfold ansA; rw [if_pos h, if_neg ho]
theorem reckon_any (w : World) (V : LedV) (L : Led) (h : LedAt w V L) (hL : L.accts.length ≤ 1024) (hGr : Grd w) (acct : Int) (g : Nat) (lb : Array Value) (hg : Enters Tryz.prog g) (r : Int × Int) (hr : L.Good → ∀ a : Nat, acct = a → a < L.accts.length → Asks w V L a g lb r) :
    Calls Tryz.prog 30 #[V.val L, .int .i64 acct, .func (.func g) #[] lb] w fun e w' => e = .returned (.tuple #[.int .i64 (ansA L acct r).1, .int .i64 (ansA L acct r).2]) ∧ Below w.heap.size w w' := by
  by_cases hgd : L.Good
  · by_cases ho : acct < 0 ∨ (L.accts.length : Int) ≤ acct
    · rw [ansA_out hgd ho]; exact reckon_out w V L h hL hgd acct ho g lb
    · rw [ansA_ok hgd ho]
      obtain ⟨a, rfl⟩ := Int.eq_ofNat_of_zero_le (show 0 ≤ acct by omega)
      exact reckon_ok w V L h hgd hGr a (by omega) g lb hg r (hr hgd a rfl (by omega))
  · rw [ansA_bad hgd]; exact reckon_bad w V L h hL hgd acct g lb
set_option maxRecDepth 100000 in
set_option maxHeartbeats 2000000 in
theorem mneed_any (w : World) (V : LedV) (L : Led) (h : LedAt w V L) (hL : L.accts.length ≤ 1024) (hGr : Grd w) (acct : Int) :
    Calls Tryz.prog 13 #[V.val L, .int .i64 acct] w fun e w' => e = .returned (.tuple #[.int .i64 (ansA L acct (retA (needO L acct.toNat))).1, .int .i64 (ansA L acct (retA (needO L acct.toNat))).2]) ∧ Below w.heap.size w w' := by
  have RK := Lib.hid (fun W (hb : Below w.heap.size w W) => reckon_any W V L (h.below hb) hL (hGr.below hb) acct 31 #[] (enters_of Tryz.func31 (by kernel_rfl) rfl) (retA (needO L acct.toNat)) (fun hg a ha _ => by subst ha; exact asks_need W V L a hg))
  obtain ⟨R, hR⟩ : ∃ R, R = ansA L acct (retA (needO L acct.toNat)) := ⟨_, rfl⟩
  rw [← hR] at RK ⊢
  obtain ⟨a1, c1, a2, c2, a3, c3, a4, c4, a5, c5, a6, c6, a7, c7, a8, c8, e1, e2, e3, e4, e5, e6, e7, e8⟩ := LedAt.opened h
  unfold LedV.val LedV.cells at RK ⊢
  rw [e1, e2, e3, e4, e5, e6, e7, e8] at RK ⊢
  obtain ⟨n1, hn1⟩ : ∃ n, n = L.curs.length := ⟨_, rfl⟩
  obtain ⟨n2, hn2⟩ : ∃ n, n = L.unders.length := ⟨_, rfl⟩
  obtain ⟨n3, hn3⟩ : ∃ n, n = L.instrs.length := ⟨_, rfl⟩
  obtain ⟨n4, hn4⟩ : ∃ n, n = L.accts.length := ⟨_, rfl⟩
  obtain ⟨n5, hn5⟩ : ∃ n, n = L.poss.length := ⟨_, rfl⟩
  obtain ⟨n6, hn6⟩ : ∃ n, n = L.orders.length := ⟨_, rfl⟩
  obtain ⟨n7, hn7⟩ : ∃ n, n = L.avail.length := ⟨_, rfl⟩
  obtain ⟨n8, hn8⟩ : ∃ n, n = L.locs.length := ⟨_, rfl⟩
  rw [← hn1, ← hn2, ← hn3, ← hn4, ← hn5, ← hn6, ← hn7, ← hn8] at RK ⊢
  have B0 := Lib.hid ((Below.refl w.heap.size w).alloc (Nat.le_refl _) (.cells #[.int .i64 L.day, .slice a1 n1 c1, .slice a2 n2 c2, .slice a3 n3 c3, .slice a4 n4 c4, .slice a5 n5 c5, .slice a6 n6 c6, .slice a7 n7 c7, .slice a8 n8 c8] 31))
  clear h hL hGr e1 e2 e3 e4 e5 e6 e7 e8 hn1 hn2 hn3 hn4 hn5 hn6 hn7 hn8 hR
  go_enter Tryz.func13, Tryz.ntmps13
  go_wp2_with fail
  refine (RK.out _ B0.out).mono ?_
  rintro e w1 ⟨rfl, hb⟩
  have B1 := Lib.hid (B0.out.trans (hb.mono (by simp)))
  clear hb
  go_wp2_with fail
  go_ret2
  exact ⟨rfl, B1.out⟩
set_option maxRecDepth 100000 in
set_option maxHeartbeats 2000000 in
theorem mhave_any (w : World) (V : LedV) (L : Led) (h : LedAt w V L) (hL : L.accts.length ≤ 1024) (hGr : Grd w) (acct : Int) :
    Calls Tryz.prog 14 #[V.val L, .int .i64 acct] w fun e w' => e = .returned (.tuple #[.int .i64 (ansA L acct (retA (haveO L acct.toNat))).1, .int .i64 (ansA L acct (retA (haveO L acct.toNat))).2]) ∧ Below w.heap.size w w' := by
  have RK := Lib.hid (fun W (hb : Below w.heap.size w W) => reckon_any W V L (h.below hb) hL (hGr.below hb) acct 32 #[] (enters_of Tryz.func32 (by kernel_rfl) rfl) (retA (haveO L acct.toNat)) (fun hg a ha _ => by subst ha; exact asks_have W V L a hg))
  obtain ⟨R, hR⟩ : ∃ R, R = ansA L acct (retA (haveO L acct.toNat)) := ⟨_, rfl⟩
  rw [← hR] at RK ⊢
  obtain ⟨a1, c1, a2, c2, a3, c3, a4, c4, a5, c5, a6, c6, a7, c7, a8, c8, e1, e2, e3, e4, e5, e6, e7, e8⟩ := LedAt.opened h
  unfold LedV.val LedV.cells at RK ⊢
  rw [e1, e2, e3, e4, e5, e6, e7, e8] at RK ⊢
  obtain ⟨n1, hn1⟩ : ∃ n, n = L.curs.length := ⟨_, rfl⟩
  obtain ⟨n2, hn2⟩ : ∃ n, n = L.unders.length := ⟨_, rfl⟩
  obtain ⟨n3, hn3⟩ : ∃ n, n = L.instrs.length := ⟨_, rfl⟩
  obtain ⟨n4, hn4⟩ : ∃ n, n = L.accts.length := ⟨_, rfl⟩
  obtain ⟨n5, hn5⟩ : ∃ n, n = L.poss.length := ⟨_, rfl⟩
  obtain ⟨n6, hn6⟩ : ∃ n, n = L.orders.length := ⟨_, rfl⟩
  obtain ⟨n7, hn7⟩ : ∃ n, n = L.avail.length := ⟨_, rfl⟩
  obtain ⟨n8, hn8⟩ : ∃ n, n = L.locs.length := ⟨_, rfl⟩
  rw [← hn1, ← hn2, ← hn3, ← hn4, ← hn5, ← hn6, ← hn7, ← hn8] at RK ⊢
  have B0 := Lib.hid ((Below.refl w.heap.size w).alloc (Nat.le_refl _) (.cells #[.int .i64 L.day, .slice a1 n1 c1, .slice a2 n2 c2, .slice a3 n3 c3, .slice a4 n4 c4, .slice a5 n5 c5, .slice a6 n6 c6, .slice a7 n7 c7, .slice a8 n8 c8] 31))
  clear h hL hGr e1 e2 e3 e4 e5 e6 e7 e8 hn1 hn2 hn3 hn4 hn5 hn6 hn7 hn8 hR
  go_enter Tryz.func14, Tryz.ntmps14
  go_wp2_with fail
  refine (RK.out _ B0.out).mono ?_
  rintro e w1 ⟨rfl, hb⟩
  have B1 := Lib.hid (B0.out.trans (hb.mono (by simp)))
  clear hb
  go_wp2_with fail
  go_ret2
  exact ⟨rfl, B1.out⟩
set_option maxRecDepth 100000 in
set_option maxHeartbeats 2000000 in
theorem mexcess_any (w : World) (V : LedV) (L : Led) (h : LedAt w V L) (hL : L.accts.length ≤ 1024) (hGr : Grd w) (acct : Int) :
    Calls Tryz.prog 15 #[V.val L, .int .i64 acct] w fun e w' => e = .returned (.tuple #[.int .i64 (ansA L acct (retA (excessO L acct.toNat))).1, .int .i64 (ansA L acct (retA (excessO L acct.toNat))).2]) ∧ Below w.heap.size w w' := by
  have RK := Lib.hid (fun W (hb : Below w.heap.size w W) => reckon_any W V L (h.below hb) hL (hGr.below hb) acct 33 #[] (enters_of Tryz.func33 (by kernel_rfl) rfl) (retA (excessO L acct.toNat)) (fun hg a ha _ => by subst ha; exact asks_excess W V L a hg))
  obtain ⟨R, hR⟩ : ∃ R, R = ansA L acct (retA (excessO L acct.toNat)) := ⟨_, rfl⟩
  rw [← hR] at RK ⊢
  obtain ⟨a1, c1, a2, c2, a3, c3, a4, c4, a5, c5, a6, c6, a7, c7, a8, c8, e1, e2, e3, e4, e5, e6, e7, e8⟩ := LedAt.opened h
  unfold LedV.val LedV.cells at RK ⊢
  rw [e1, e2, e3, e4, e5, e6, e7, e8] at RK ⊢
  obtain ⟨n1, hn1⟩ : ∃ n, n = L.curs.length := ⟨_, rfl⟩
  obtain ⟨n2, hn2⟩ : ∃ n, n = L.unders.length := ⟨_, rfl⟩
  obtain ⟨n3, hn3⟩ : ∃ n, n = L.instrs.length := ⟨_, rfl⟩
  obtain ⟨n4, hn4⟩ : ∃ n, n = L.accts.length := ⟨_, rfl⟩
  obtain ⟨n5, hn5⟩ : ∃ n, n = L.poss.length := ⟨_, rfl⟩
  obtain ⟨n6, hn6⟩ : ∃ n, n = L.orders.length := ⟨_, rfl⟩
  obtain ⟨n7, hn7⟩ : ∃ n, n = L.avail.length := ⟨_, rfl⟩
  obtain ⟨n8, hn8⟩ : ∃ n, n = L.locs.length := ⟨_, rfl⟩
  rw [← hn1, ← hn2, ← hn3, ← hn4, ← hn5, ← hn6, ← hn7, ← hn8] at RK ⊢
  have B0 := Lib.hid ((Below.refl w.heap.size w).alloc (Nat.le_refl _) (.cells #[.int .i64 L.day, .slice a1 n1 c1, .slice a2 n2 c2, .slice a3 n3 c3, .slice a4 n4 c4, .slice a5 n5 c5, .slice a6 n6 c6, .slice a7 n7 c7, .slice a8 n8 c8] 31))
  clear h hL hGr e1 e2 e3 e4 e5 e6 e7 e8 hn1 hn2 hn3 hn4 hn5 hn6 hn7 hn8 hR
  go_enter Tryz.func15, Tryz.ntmps15
  go_wp2_with fail
  refine (RK.out _ B0.out).mono ?_
  rintro e w1 ⟨rfl, hb⟩
  have B1 := Lib.hid (B0.out.trans (hb.mono (by simp)))
  clear hb
  go_wp2_with fail
  go_ret2
  exact ⟨rfl, B1.out⟩
/-- What Loss answers of an account. -/
def lossA (L : Led) (a : Nat) (under s : Int) : Int × Int :=
  if under < 0 ∨ (L.unders.length : Int) ≤ under then (0, 31) else if s < 0 ∨ 21 ≤ s then (0, 1) else retA (lossO L a under s.toNat)
def LossOut (w : World) (mb : Nat) (r : Int × Int) (e : Ending) (w' : World) : Prop := AskO r e ∧ Mod (fun k => k = mb) w w'
set_option maxRecDepth 100000 in
set_option maxHeartbeats 2000000 in
theorem loss1_any (w : World) (b mb : Nat) (bv : Value) (V : LedV) (L : Led) (a : Nat) (hS : Sight w b mb bv V L a) (hg : L.Good) (under s : Int) (pu pl ps : Nat) (hu : w.cell? ⟨pu, 0, none⟩ = some (.int .i64 under)) (hl : w.cell? ⟨pl, 2, none⟩ = some V.unders) (hs : w.cell? ⟨ps, 0, none⟩ = some (.int .i64 s)) :
    Calls Tryz.prog 50 #[.pointer (some ⟨b, 0, none⟩), .pointer (some ⟨pu, 0, none⟩), .pointer (some ⟨pl, 0, none⟩), .pointer (some ⟨ps, 0, none⟩)] w (LossOut w mb (lossA L a under s)) := by
  obtain ⟨a2, c2, e2⟩ := hS.led.unders.form
  have u6 : L.unders.length ≤ 6 := hg.things.u1
  have LS := Lib.hid (fun k hk => loss_any w b mb bv V L a hS hg under k hk)
  rw [e2] at hl
  obtain ⟨R, hR⟩ : ∃ R, R = lossA L a under s := ⟨_, rfl⟩
  rw [← hR]
  have EQ := Lib.hid hR
  have M0 := Lib.hid (Mod.refl (fun k => k = mb) w)
  obtain ⟨n2, hn2⟩ : ∃ n, n = L.unders.length := ⟨_, rfl⟩
  have LN := Lib.hid hn2
  rw [← hn2] at u6 hl
  clear hS hg e2 hR hn2
  by_cases g1 : under < 0
  · have FL := Lib.hid (show R = (0, 31) from by rw [EQ.out]; unfold lossA; rw [if_pos (Or.inl g1)])
    have dg : decide (under < 0) = true := decide_eq_true g1
    go_enter Tryz.func50, Tryz.ntmps50
    go_wp2_with fail
    exact ⟨rfl, by rw [FL.out]; exact Or.inr ⟨by decide, rfl, rfl⟩, M0.out⟩
  by_cases g2 : (n2 : Int) ≤ under
  · have FL := Lib.hid (show R = (0, 31) from by rw [EQ.out]; unfold lossA; rw [if_pos (Or.inr (by rw [← LN.out]; exact g2))])
    have dg : decide (under < 0) = false := decide_eq_false g1
    go_enter Tryz.func50, Tryz.ntmps50
    go_wp2_with fail
    exact ⟨rfl, by rw [FL.out]; exact Or.inr ⟨by decide, rfl, rfl⟩, M0.out⟩
  by_cases g3 : s < 0
  · have FL := Lib.hid (show R = (0, 1) from by rw [EQ.out]; unfold lossA; rw [if_neg (by rw [← LN.out]; omega), if_pos (Or.inl g3)])
    have dg : decide (under < 0) = false := decide_eq_false g1
    have dg3 : decide (s < 0) = true := decide_eq_true g3
    go_enter Tryz.func50, Tryz.ntmps50
    go_wp2_with fail
    exact ⟨rfl, by rw [FL.out]; exact Or.inr ⟨by decide, rfl, rfl⟩, M0.out⟩
  by_cases g4 : 21 ≤ s
  · have FL := Lib.hid (show R = (0, 1) from by rw [EQ.out]; unfold lossA; rw [if_neg (by rw [← LN.out]; omega), if_pos (Or.inr g4)])
    have dg : decide (under < 0) = false := decide_eq_false g1
    have dg3 : decide (s < 0) = false := decide_eq_false g3
    go_enter Tryz.func50, Tryz.ntmps50
    go_wp2_with fail
    exact ⟨rfl, by rw [FL.out]; exact Or.inr ⟨by decide, rfl, rfl⟩, M0.out⟩
  obtain ⟨k, rfl⟩ := Int.eq_ofNat_of_zero_le (show 0 ≤ s by omega)
  have FL := Lib.hid (show R = retA (lossO L a under k) from by rw [EQ.out]; unfold lossA; rw [if_neg (by rw [← LN.out]; omega), if_neg (by omega)]; rfl)
  have LC := Lib.hid (LS.out k (by omega))
  have dg : decide (under < 0) = false := decide_eq_false g1
  have dg3 : decide ((k : Int) < 0) = false := decide_eq_false g3
  go_enter Tryz.func50, Tryz.ntmps50
  go_wp2_with fail
  refine LC.out.mono ?_
  rintro e w1 ⟨ho, ht⟩
  have T1 := Lib.hid ht
  clear ht
  rcases Or.symm ho with ⟨hx, rfl⟩ | ⟨x, hx, rfl⟩
  · have HX := Lib.hid hx
    clear hx
    go_wp2_with fail
    exact ⟨rfl, by rw [FL.out, HX.out]; exact Or.inr ⟨by decide, rfl, rfl⟩, T1.out.m⟩
  have HX := Lib.hid hx
  clear hx
  go_wp2_with fail
  go_ret
  exact ⟨by rw [FL.out, HX.out]; exact Or.inl ⟨rfl, rfl⟩, T1.out.m⟩
set_option maxRecDepth 100000 in
set_option maxHeartbeats 2000000 in
theorem mloss_any (w : World) (V : LedV) (L : Led) (h : LedAt w V L) (hL : L.accts.length ≤ 1024) (hGr : Grd w) (acct under s : Int) :
    Calls Tryz.prog 20 #[V.val L, .int .i64 acct, .int .i64 under, .int .i64 s] w fun e w' => e = .returned (.tuple #[.int .i64 (ansA L acct (lossA L acct.toNat under s)).1, .int .i64 (ansA L acct (lossA L acct.toNat under s)).2]) ∧ Below w.heap.size w w' := by
  have RK := Lib.hid (show ∀ W pl pu ps, Below w.heap.size w W → W.cell? ⟨pu, 0, none⟩ = some (.int .i64 under) → W.cell? ⟨pl, 2, none⟩ = some V.unders → W.cell? ⟨ps, 0, none⟩ = some (.int .i64 s) → Calls Tryz.prog 30 #[V.val L, .int .i64 acct, .func (.func 50) #[] #[.pointer (some ⟨pu, 0, none⟩), .pointer (some ⟨pl, 0, none⟩), .pointer (some ⟨ps, 0, none⟩)]] W fun e w' => e = .returned (.tuple #[.int .i64 (ansA L acct (lossA L acct.toNat under s)).1, .int .i64 (ansA L acct (lossA L acct.toNat under s)).2]) ∧ Below W.heap.size W w' from
    fun W pl pu ps hb hu hl hs => reckon_any W V L (h.below hb) hL (hGr.below hb) acct 50 _ (enters_of Tryz.func50 (by kernel_rfl) rfl) _ (fun hg a ha _ W2 b mb bv hS _ hb2 => by
      subst ha
      exact loss1_any W2 b mb bv V L a hS hg under s pu pl ps ((Mod.of_below hb2).cell hu (fun h => h)) ((Mod.of_below hb2).cell hl (fun h => h)) ((Mod.of_below hb2).cell hs (fun h => h))))
  obtain ⟨R, hR⟩ : ∃ R, R = ansA L acct (lossA L acct.toNat under s) := ⟨_, rfl⟩
  rw [← hR] at RK ⊢
  obtain ⟨a1, c1, a2, c2, a3, c3, a4, c4, a5, c5, a6, c6, a7, c7, a8, c8, e1, e2, e3, e4, e5, e6, e7, e8⟩ := LedAt.opened h
  unfold LedV.val LedV.cells at RK ⊢
  rw [e1, e2, e3, e4, e5, e6, e7, e8] at RK ⊢
  obtain ⟨n1, hn1⟩ : ∃ n, n = L.curs.length := ⟨_, rfl⟩
  obtain ⟨n2, hn2⟩ : ∃ n, n = L.unders.length := ⟨_, rfl⟩
  obtain ⟨n3, hn3⟩ : ∃ n, n = L.instrs.length := ⟨_, rfl⟩
  obtain ⟨n4, hn4⟩ : ∃ n, n = L.accts.length := ⟨_, rfl⟩
  obtain ⟨n5, hn5⟩ : ∃ n, n = L.poss.length := ⟨_, rfl⟩
  obtain ⟨n6, hn6⟩ : ∃ n, n = L.orders.length := ⟨_, rfl⟩
  obtain ⟨n7, hn7⟩ : ∃ n, n = L.avail.length := ⟨_, rfl⟩
  obtain ⟨n8, hn8⟩ : ∃ n, n = L.locs.length := ⟨_, rfl⟩
  rw [← hn1, ← hn2, ← hn3, ← hn4, ← hn5, ← hn6, ← hn7, ← hn8] at RK ⊢
  have B0 := Lib.hid (show Below w.heap.size w (((w.alloc (.cells #[.int .i64 L.day, .slice a1 n1 c1, .slice a2 n2 c2, .slice a3 n3 c3, .slice a4 n4 c4, .slice a5 n5 c5, .slice a6 n6 c6, .slice a7 n7 c7, .slice a8 n8 c8] 31)).alloc (.cells #[.int .i64 under] 3)).alloc (.cells #[.int .i64 s] 3)) from (((Below.refl _ _).alloc (Nat.le_refl _) _).alloc (by simp) _).alloc (by simp; omega) _)
  have C0 := Lib.hid (show (((w.alloc (.cells #[.int .i64 L.day, .slice a1 n1 c1, .slice a2 n2 c2, .slice a3 n3 c3, .slice a4 n4 c4, .slice a5 n5 c5, .slice a6 n6 c6, .slice a7 n7 c7, .slice a8 n8 c8] 31)).alloc (.cells #[.int .i64 under] 3)).alloc (.cells #[.int .i64 s] 3)).cell? ⟨w.heap.size + 1, 0, none⟩ = some (.int .i64 under) ∧ (((w.alloc (.cells #[.int .i64 L.day, .slice a1 n1 c1, .slice a2 n2 c2, .slice a3 n3 c3, .slice a4 n4 c4, .slice a5 n5 c5, .slice a6 n6 c6, .slice a7 n7 c7, .slice a8 n8 c8] 31)).alloc (.cells #[.int .i64 under] 3)).alloc (.cells #[.int .i64 s] 3)).cell? ⟨w.heap.size, 2, none⟩ = some (.slice a2 n2 c2) ∧ (((w.alloc (.cells #[.int .i64 L.day, .slice a1 n1 c1, .slice a2 n2 c2, .slice a3 n3 c3, .slice a4 n4 c4, .slice a5 n5 c5, .slice a6 n6 c6, .slice a7 n7 c7, .slice a8 n8 c8] 31)).alloc (.cells #[.int .i64 under] 3)).alloc (.cells #[.int .i64 s] 3)).cell? ⟨w.heap.size + 1 + 1, 0, none⟩ = some (.int .i64 s) from by
    have x1 := BoxAt.new w #[.int .i64 L.day, .slice a1 n1 c1, .slice a2 n2 c2, .slice a3 n3 c3, .slice a4 n4 c4, .slice a5 n5 c5, .slice a6 n6 c6, .slice a7 n7 c7, .slice a8 n8 c8] 31
    have x2 := BoxAt.new (w.alloc (.cells #[.int .i64 L.day, .slice a1 n1 c1, .slice a2 n2 c2, .slice a3 n3 c3, .slice a4 n4 c4, .slice a5 n5 c5, .slice a6 n6 c6, .slice a7 n7 c7, .slice a8 n8 c8] 31)) #[.int .i64 under] 3
    have x3 := BoxAt.new ((w.alloc (.cells #[.int .i64 L.day, .slice a1 n1 c1, .slice a2 n2 c2, .slice a3 n3 c3, .slice a4 n4 c4, .slice a5 n5 c5, .slice a6 n6 c6, .slice a7 n7 c7, .slice a8 n8 c8] 31)).alloc (.cells #[.int .i64 under] 3)) #[.int .i64 s] 3
    have m2 := (Mod.refl (fun _ => False) (w.alloc (.cells #[.int .i64 L.day, .slice a1 n1 c1, .slice a2 n2 c2, .slice a3 n3 c3, .slice a4 n4 c4, .slice a5 n5 c5, .slice a6 n6 c6, .slice a7 n7 c7, .slice a8 n8 c8] 31))).alloc (.cells #[.int .i64 under] 3)
    have m3 := (Mod.refl (fun _ => False) ((w.alloc (.cells #[.int .i64 L.day, .slice a1 n1 c1, .slice a2 n2 c2, .slice a3 n3 c3, .slice a4 n4 c4, .slice a5 n5 c5, .slice a6 n6 c6, .slice a7 n7 c7, .slice a8 n8 c8] 31)).alloc (.cells #[.int .i64 under] 3))).alloc (.cells #[.int .i64 s] 3)
    have y2 := (x2.mod m3 (fun h => h)).at_ 0 _ rfl
    have y3 := x3.at_ 0 _ rfl
    simp at y2 y3
    exact ⟨y2, ((x1.mod m2 (fun h => h)).mod m3 (fun h => h)).at_ 2 _ rfl, y3⟩)
  clear h hL hGr e1 e2 e3 e4 e5 e6 e7 e8 hn1 hn2 hn3 hn4 hn5 hn6 hn7 hn8 hR
  go_enter Tryz.func20, Tryz.ntmps20
  go_wp2_with fail
  refine (RK.out _ _ _ _ B0.out C0.out.1 C0.out.2.1 C0.out.2.2).mono ?_
  rintro e w1 ⟨rfl, hb⟩
  have B1 := Lib.hid (B0.out.trans (hb.mono (by simp; omega)))
  clear hb
  go_wp2_with fail
  go_ret2
  exact ⟨rfl, B1.out⟩
end Go.Proofs.YtcjbhgnlmmeeeaaGreatDoor

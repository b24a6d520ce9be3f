/- A script of calls that came in; 'does' plays one of them on a disk; 'long'. -/
import Derived.Test.YtanabedbddpooaaDiskIn
import Derived.Test.YtanabedbddpooaaDiskNil
namespace Go.Proofs.Ytanabedbddpooaa
open Go.RowKit Go.Bw Go.Maps
set_option linter.unusedVariables false
set_option linter.unusedSimpArgs false

/-- One call of a script; v is the slice that bears its bytes. -/
structure SOp where
  kind : Int
  f : ByteArray
  g : ByteArray
  n : Int
  k : Int
  b : List Int
  v : Value
def SOp.vals (o : SOp) : Array Value := #[.int .i64 o.kind, .string o.f, .string o.g, .int .i64 o.n, .int .i64 o.k, o.v]
structure OpIn (w : World) (o : SOp) : Prop where
  f : o.f.size ≤ maxLen
  g : o.g.size ≤ maxLen
  n0 : -9223372036854775808 ≤ o.n
  n1 : o.n ≤ 9223372036854775807
  k0 : -9223372036854775808 ≤ o.k
  k1 : o.k ≤ 9223372036854775807
  rd : Reads w 1 o.v o.b.length (bcells o.b)
  bl : o.b.length ≤ 140737488351232
def OpsIn (w : World) (a : Option Addr) (m : Nat) (S : Nat → SOp) : Prop :=
  ∀ r, r < m → ∃ b o, a = some ⟨b, o, none⟩ ∧ (∀ j v, (S r).vals[j]? = some v → w.cell? ⟨b, o + r * 6 + j, none⟩ = some v) ∧ OpIn w (S r)

theorem opsIn {w : World} {a : Option Addr} {n ca : Nat} (h : HasVal Try.prog w 41 [.slice a n ca]) : ∃ S, OpsIn w a n S ∧ n ≤ 140737488351232 := by
  obtain ⟨a', len, cap, hv, hl, hm, hnil, hsz, hel⟩ := h.row Try.underlying41 (show Try.prog.cellsOf 46 = 6 by kernel_rfl) (by decide)
  have hb : Try.prog.bytesOf 46 = 80 := by kernel_rfl
  rw [hb] at hsz
  simp only [reachBytes] at hsz
  cases hv
  have hI : ∀ r, r < n → ∃ o : SOp, ∃ b' o', a = some ⟨b', o', none⟩ ∧ (∀ j v, o.vals[j]? = some v → w.cell? ⟨b', o' + r * 6 + j, none⟩ = some v) ∧ OpIn w o := fun r hr => by
    obtain ⟨b', o', cs, ha, h1, h2, h3⟩ := hel r (by omega)
    match cs, h1 with
    | [c0, c1, c2, c3, c4, c5], _ =>
      have ci : Try.prog.cellsOf 3 = 1 := by kernel_rfl
      have cs : Try.prog.cellsOf 9 = 1 := by kernel_rfl
      have cb : Try.prog.cellsOf 28 = 1 := by kernel_rfl
      have F0 := h3.field Try.underlying46 0 (u := 3) rfl ci (c := c0) rfl
      have F1 := h3.field Try.underlying46 1 (u := 9) rfl cs (c := c1) rfl
      have F2 := h3.field Try.underlying46 2 (u := 9) rfl cs (c := c2) rfl
      have F3 := h3.field Try.underlying46 3 (u := 3) rfl ci (c := c3) rfl
      have F4 := h3.field Try.underlying46 4 (u := 3) rfl ci (c := c4) rfl
      have F5 := h3.field Try.underlying46 5 (u := 28) rfl cb (c := c5) rfl
      obtain ⟨k0, e0, w0⟩ := F0.int Try.underlying3
      obtain ⟨s1, e1, _, w1⟩ := F1.string Try.underlying9
      obtain ⟨s2, e2, _, w2⟩ := F2.string Try.underlying9
      obtain ⟨k3, e3, w3⟩ := F3.int Try.underlying3
      obtain ⟨k4, e4, w4⟩ := F4.int Try.underlying3
      obtain ⟨x, c, xs, hx, hR, hl'⟩ := bytesIn F5
      cases e0; cases e1; cases e2; cases e3; cases e4
      have b3 := bounds_i64 w3
      have b4 := bounds_i64 w4
      refine ⟨⟨k0, s1, s2, k3, k4, xs, c5⟩, b', o', ha, fun j v hj => ?_, ⟨w1, w2, b3.1, b3.2, b4.1, b4.2, by rw [hx]; exact hR, hl'⟩⟩
      refine h2 j v ?_
      rw [← hj]
      simp [SOp.vals]
  have : Inhabited SOp := ⟨⟨0, ⟨#[]⟩, ⟨#[]⟩, 0, 0, [], .slice none 0 0⟩⟩
  obtain ⟨S, hS⟩ := Deep.choose_lt hI
  exact ⟨S, hS, by omega⟩

/-- A call of the script, as it stands later. -/
theorem OpsIn.at {w wr : World} {a : Option Addr} {m : Nat} {S : Nat → SOp} (h : OpsIn w a m S) (hb : Below w.heap.size w wr) {r : Nat} (hr : r < m) :
    ∃ b o, a = some ⟨b, o, none⟩ ∧ wr.cell? ⟨b, o + r * 6, none⟩ = some (.int .i64 (S r).kind) ∧ wr.cell? ⟨b, o + r * 6 + 1, none⟩ = some (.string (S r).f) ∧ wr.cell? ⟨b, o + r * 6 + 2, none⟩ = some (.string (S r).g) ∧
      wr.cell? ⟨b, o + r * 6 + 3, none⟩ = some (.int .i64 (S r).n) ∧ wr.cell? ⟨b, o + r * 6 + 4, none⟩ = some (.int .i64 (S r).k) ∧ wr.cell? ⟨b, o + r * 6 + 5, none⟩ = some (S r).v ∧
      (∃ x c, (S r).v = .slice x (S r).b.length c) ∧ (S r).b.length ≤ 140737488351232 := by
  obtain ⟨b, o, ha, hc, ho⟩ := h r hr
  have C : ∀ j v, (S r).vals[j]? = some v → wr.cell? ⟨b, o + r * 6 + j, none⟩ = some v := fun j v hj => (hb.cell (World.block_lt_of_cell? w _ (hc j v hj))).trans (hc j v hj)
  exact ⟨b, o, ha, C 0 _ rfl, C 1 _ rfl, C 2 _ rfl, C 3 _ rfl, C 4 _ rfl, C 5 _ rfl, reads_form ho.rd, ho.bl⟩

/-- One call on the abstract disk: the disk behind it, and what is answered. -/
def play (A : ADsk) (o : SOp) : ADsk × (List Int × Int) :=
  if o.kind = 0 then ((A.append o.f.data.toList o.b).1, [], (A.append o.f.data.toList o.b).2)
  else if o.kind = 1 then ((A.sync o.f.data.toList).1, [], (A.sync o.f.data.toList).2)
  else if o.kind = 2 then ((A.trunc o.f.data.toList o.n).1, [], (A.trunc o.f.data.toList o.n).2)
  else if o.kind = 3 then ((A.rename o.f.data.toList o.g.data.toList).1, [], (A.rename o.f.data.toList o.g.data.toList).2)
  else if o.kind = 4 then ((A.remove o.f.data.toList).1, [], (A.remove o.f.data.toList).2)
  else if o.kind = 5 then (A, A.read o.f.data.toList)
  else if o.kind = 6 then ({ A with room := o.n }, [], 0)
  else if o.kind = 7 then (A.arm o.n o.k, [], 0)
  else if o.kind = 8 then (A.goesOff o.k, [], 0)
  else if o.kind = 9 then ({ A with off := false }, [], 0)
  else (A, [], 0)

section
variable {O : Nat → Prop} {w : World} {d : Nat} {A : ADsk}

theorem held_room (h : Held O w d A) (n : Int) :
    Calls Try.prog 25 #[.pointer (some ⟨d, 0, none⟩), .int .i64 n] w (HStep O w d (.tuple #[]) { A with room := n }) :=
  held_of h (fun D hd e hk => by subst e; exact room_any hd n)

/-- What a played call leaves: its bytes are nobody else's; the disk stands beside them. -/
def Played (O : Nat → Prop) (w : World) (d : Nat) (A' : ADsk) (xs : List Int) (er : Int) (e : Ending) (w' : World) : Prop :=
  ∃ v, e = .returned (.tuple #[v, .int .i64 er]) ∧ w'.ownsRow w.heap.size 5 1 v xs.length (bcells xs) ∧ Mod (fun k => ¬ O k) w w' ∧ Held (fun k => O k ∨ v.ownBlock = some k) w' d A'

theorem played_nil {w1 : World} {A' : ADsk} {er : Int} {o : Obj} (h : Held (fun k => O k ∨ k = w.heap.size) w1 d A') (hm : Mod (fun k => ¬ (O k ∨ k = w.heap.size)) (w.alloc o) w1) :
    Played O w d A' [] er (.returned (.tuple #[.slice none 0 0, .int .i64 er])) w1 :=
  ⟨_, rfl, World.ownsRow_nil _ _ _ _, ((Mod.refl (fun k => ¬ O k) w).alloc o).trans hm (fun k _ h1 h2 => h1 (Or.inl h2)), h.weaken (fun k hk => hk.elim Or.inl (fun e => by cases e))⟩

theorem played_read {w1 : World} {xs : List Int} {er : Int} {v : Value} {o : Obj} (ho : w1.ownsRow (w.alloc o).heap.size 5 1 v xs.length (bcells xs)) (hb : Below (w.alloc o).heap.size (w.alloc o) w1)
    (h : Held (fun k => (O k ∨ k = w.heap.size) ∨ ((w.alloc o).heap.size ≤ k ∧ k < w1.heap.size)) w1 d A) :
    Played O w d A xs er (.returned (.tuple #[v, .int .i64 er])) w1 :=
  ⟨_, rfl, ownsRow_base ho (fun j hj => by have := (ho.lt j hj).1; simp at this; omega), ((Mod.refl (fun k => ¬ O k) w).alloc o).trans (Mod.ofBelow hb) (fun k _ h1 => h1.elim),
   h.weaken (fun k hk => hk.elim (fun h => Or.inl (Or.inl h)) (fun e => Or.inr (ho.lt k e)))⟩

set_option maxRecDepth 100000 in
set_option maxHeartbeats 4000000 in
theorem does_any (h : Held O w d A) (o : SOp) (ho : OpIn w o) (hO : o.b ≠ [] → ∀ k, o.v.ownBlock = some k → O k) :
    Calls Try.prog 20 #[.pointer (some ⟨d, 0, none⟩), .agg o.vals] w (Played O w d (play A o).1 (play A o).2.1 (play A o).2.2) := by
  have HR := Lib.hid (h.row (.cells o.vals 46))
  have RD := Lib.hid (reads_later ho.rd ((Mod.refl (fun _ => False) w).alloc (.cells o.vals 46)) (fun _ _ h => h))
  have RO := Lib.hid (show o.b ≠ [] → ∀ k, o.v.ownBlock = some k → (O k ∨ k = w.heap.size) from fun hne k hk => Or.inl (hO hne k hk))
  have HO := Lib.hid ho
  have HH := Lib.hid h
  clear h hO ho
  obtain ⟨kind, f, g, n, k, b, v⟩ := o
  obtain ⟨p, hp⟩ : ∃ p, p = play A ⟨kind, f, g, n, k, b, v⟩ := ⟨_, rfl⟩
  have HP := Lib.hid hp
  simp only [SOp.vals] at HR RD ⊢
  rw [← hp]
  clear hp
  by_cases h0 : kind = 0
  · subst h0
    obtain rfl := HP.out.trans (show _ = ((A.append f.data.toList b).1, [], (A.append f.data.toList b).2) from rfl)
    go_enter Try.func20, Try.ntmps20
    go_wp2_with fail
    refine (held_append HR.out f HO.out.f _ b RD.out RO.out (by have := HO.out.bl; exact Nat.le_trans this (by decide))).mono ?_
    rintro e w1 ⟨rfl, hH, hm⟩
    have H1 := Lib.hid (played_nil (er := (A.append f.data.toList b).2) hH hm)
    clear hH hm
    go_wp2_with fail
    go_ret2
    exact H1.out
  by_cases h1 : kind = 1
  · subst h1
    obtain rfl := HP.out.trans (show _ = ((A.sync f.data.toList).1, [], (A.sync f.data.toList).2) from rfl)
    go_enter Try.func20, Try.ntmps20
    go_wp2_with fail
    refine (held_sync HR.out f HO.out.f).mono ?_
    rintro e w1 ⟨rfl, hH, hm⟩
    have H1 := Lib.hid (played_nil (er := (A.sync f.data.toList).2) hH hm)
    clear hH hm
    go_wp2_with fail
    go_ret2
    exact H1.out
  by_cases h2 : kind = 2
  · subst h2
    obtain rfl := HP.out.trans (show _ = ((A.trunc f.data.toList n).1, [], (A.trunc f.data.toList n).2) from rfl)
    go_enter Try.func20, Try.ntmps20
    go_wp2_with fail
    refine (held_trunc HR.out f HO.out.f n HO.out.n0 HO.out.n1).mono ?_
    rintro e w1 ⟨rfl, hH, hm⟩
    have H1 := Lib.hid (played_nil (er := (A.trunc f.data.toList n).2) hH hm)
    clear hH hm
    go_wp2_with fail
    go_ret2
    exact H1.out
  by_cases h3 : kind = 3
  · subst h3
    obtain rfl := HP.out.trans (show _ = ((A.rename f.data.toList g.data.toList).1, [], (A.rename f.data.toList g.data.toList).2) from rfl)
    go_enter Try.func20, Try.ntmps20
    go_wp2_with fail
    refine (held_rename HR.out f g HO.out.f HO.out.g).mono ?_
    rintro e w1 ⟨rfl, hH, hm⟩
    have H1 := Lib.hid (played_nil (er := (A.rename f.data.toList g.data.toList).2) hH hm)
    clear hH hm
    go_wp2_with fail
    go_ret2
    exact H1.out
  by_cases h4 : kind = 4
  · subst h4
    obtain rfl := HP.out.trans (show _ = ((A.remove f.data.toList).1, [], (A.remove f.data.toList).2) from rfl)
    go_enter Try.func20, Try.ntmps20
    go_wp2_with fail
    refine (held_remove HR.out f HO.out.f).mono ?_
    rintro e w1 ⟨rfl, hH, hm⟩
    have H1 := Lib.hid (played_nil (er := (A.remove f.data.toList).2) hH hm)
    clear hH hm
    go_wp2_with fail
    go_ret2
    exact H1.out
  by_cases h5 : kind = 5
  · subst h5
    obtain rfl := HP.out.trans (show _ = (A, A.read f.data.toList) from rfl)
    go_enter Try.func20, Try.ntmps20
    go_wp2_with fail
    refine (held_read HR.out f HO.out.f).mono ?_
    rintro e w1 ⟨v1, rfl, ho, hb, hH⟩
    have H1 := Lib.hid (played_read (er := (A.read f.data.toList).2) ho hb hH)
    clear ho hb hH
    go_wp2_with fail
    go_ret2
    exact H1.out
  by_cases h6 : kind = 6
  · subst h6
    obtain rfl := HP.out.trans (show _ = ({ A with room := n }, [], 0) from rfl)
    go_enter Try.func20, Try.ntmps20
    go_wp2_with fail
    refine (held_room HR.out n).mono ?_
    rintro e w1 ⟨rfl, hH, hm⟩
    have H1 := Lib.hid (played_nil (er := 0) hH hm)
    clear hH hm
    go_wp2_with fail
    go_ret2
    exact H1.out
  by_cases h7 : kind = 7
  · subst h7
    obtain rfl := HP.out.trans (show _ = (A.arm n k, [], 0) from rfl)
    go_enter Try.func20, Try.ntmps20
    go_wp2_with fail
    refine (held_arm HR.out n k HO.out.n1 HO.out.k0 HO.out.k1).mono ?_
    rintro e w1 ⟨rfl, hH, hm⟩
    have H1 := Lib.hid (played_nil (er := 0) hH hm)
    clear hH hm
    go_wp2_with fail
    go_ret2
    exact H1.out
  by_cases h8 : kind = 8
  · subst h8
    obtain rfl := HP.out.trans (show _ = (A.goesOff k, [], 0) from rfl)
    go_enter Try.func20, Try.ntmps20
    go_wp2_with fail
    refine (held_off HR.out k HO.out.k0 HO.out.k1).mono ?_
    rintro e w1 ⟨rfl, hH, hm⟩
    have H1 := Lib.hid (played_nil (er := 0) hH hm)
    clear hH hm
    go_wp2_with fail
    go_ret2
    exact H1.out
  by_cases h9 : kind = 9
  · subst h9
    obtain rfl := HP.out.trans (show _ = ({ A with off := false }, [], 0) from rfl)
    go_enter Try.func20, Try.ntmps20
    go_wp2_with fail
    refine (held_on HR.out).mono ?_
    rintro e w1 ⟨rfl, hH, hm⟩
    have H1 := Lib.hid (played_nil (er := 0) hH hm)
    clear hH hm
    go_wp2_with fail
    go_ret2
    exact H1.out
  obtain rfl := HP.out.trans (show _ = (A, [], 0) from by unfold play; simp only [h0, h1, h2, h3, h4, h5, h6, h7, h8, h9, if_false])
  have H1 := Lib.hid (played_nil (er := 0) HR.out (Mod.refl _ _))
  go_enter Try.func20, Try.ntmps20
  go_wp2_with fail
  go_ret2
  exact H1.out
end
end Go.Proofs.Ytanabedbddpooaa

/- The variables that the rows list; the names of snapshots and their numbers. -/
import Derived.Test.YtmpdmejlpicdlaaDoorSum
import Derived.Test.YtmpdmejlpicdlaaDoorNum
import Derived.Test.YtmpdmejlpicdlaaDoorConv
import Derived.Lib.LaidTab
import Derived.Lib.AppendIntMem
import Derived.Lib.AtoiErrMem
import Derived.Lib.AtoiBound
namespace Go.Proofs.YtmpdmejlpicdlaaDoor
open Go.RowKit Go.Bw Go.Maps
set_option linter.unusedVariables false
set_option linter.unusedSimpArgs false

/-- What the listed variables hold, in their blocks. -/
structure Laid (w : World) : Prop where
  half : ∃ t f, w.heap[0]? = some (.cells (halfTab.map (Value.int .u32)).toArray t f)
  pow : ∃ t f, w.heap[1]? = some (.cells (Lib.pow10Tab.map fun z => Value.int .u64 z).toArray t f)
  syn : ∃ tp p t f, w.heap[2]? = some (.cells #[.iface tp p] t f)

/-- The variables' blocks. -/
def Lk (k : Nat) : Prop := k = 0 ∨ k = 1 ∨ k = 2
theorem Laid.mod {S : Nat → Prop} {w w' : World} (h : Laid w) (hm : Mod S w w') (hS : ∀ k, Lk k → ¬ S k) : Laid w' := by
  obtain ⟨⟨t1, f1, h1⟩, ⟨t2, f2, h2⟩, ⟨tp, p, t3, f3, h3⟩⟩ := h
  exact ⟨⟨t1, f1, hm.heap h1 (hS _ (Or.inl rfl))⟩, ⟨t2, f2, hm.heap h2 (hS _ (Or.inr (Or.inl rfl)))⟩, ⟨tp, p, t3, f3, hm.heap h3 (hS _ (Or.inr (Or.inr rfl)))⟩⟩
theorem Laid.lt {w : World} (h : Laid w) {k : Nat} (hk : Lk k) : k < w.heap.size := by
  obtain ⟨⟨t1, f1, h1⟩, ⟨t2, f2, h2⟩, ⟨tp, p, t3, f3, h3⟩⟩ := h
  rcases hk with rfl | rfl | rfl
  · exact lt_of_heap h1
  · exact lt_of_heap h2
  · exact lt_of_heap h3
theorem Laid.below {w w' : World} (h : Laid w) (hb : Below w.heap.size w w') : Laid w' := h.mod (Mod.ofBelow hb) (fun _ _ h => h)
theorem Laid.grown {w w' : World} (h : Laid w) (hm : Mod (fun k => w.heap.size ≤ k) w w') : Laid w' := h.mod hm (fun k hk h2 => by have := h.lt hk; omega)
theorem Laid.halfAt {w : World} (h : Laid w) : Half w := by
  obtain ⟨t, f, hh⟩ := h.half
  intro i hi
  rw [cell_of_heap hh]
  have hl : i < halfTab.length := hi
  simp [List.getD_eq_getElem?_getD, List.getElem?_eq_getElem hl]
theorem Laid.tab {w : World} (h : Laid w) : Lib.TabIs Tryd.prog w "internal/strconv.uint64pow10" .u64 Lib.pow10Tab := by
  obtain ⟨t, f, hh⟩ := h.pow
  have hg : Tryd.prog.globalNamed "internal/strconv.uint64pow10" = some 1 := by kernel_rfl
  unfold Lib.TabIs World.var?
  rw [hg]
  simp only [Option.bind_some, hh]
theorem Laid.err {w : World} (h : Laid w) : ∃ tp p, w.var? Tryd.prog "strconv.ErrSyntax" = some #[.iface tp p] := by
  obtain ⟨tp, p, t, f, hh⟩ := h.syn
  have hg : Tryd.prog.globalNamed "strconv.ErrSyntax" = some 2 := by kernel_rfl
  refine ⟨tp, p, ?_⟩
  unfold World.var?
  rw [hg]
  simp only [Option.bind_some, hh]

/-- A string is answered; nothing that was there has turned. -/
def StrOut (w : World) (l : List UInt8) (e : Ending) (w' : World) : Prop := e = .returned (.string ⟨l.toArray⟩) ∧ Below w.heap.size w w'
def IntOut (w : World) (n : Int) (e : Ending) (w' : World) : Prop := e = .returned (.int .i64 n) ∧ Below w.heap.size w w'

theorem rep_step (l : List UInt8) (k : Nat) (h : k + l.length < 9) : [48] ++ (List.replicate k 48 ++ l) = List.replicate (k + 1) 48 ++ l := by
  rw [List.replicate_succ]; rfl
theorem rep_end (l : List UInt8) (k : Nat) (h : k + l.length = 9) : List.replicate k 48 ++ l = pad 9 l := by
  unfold pad; congr 2; omega

set_option maxRecDepth 100000 in
set_option maxHeartbeats 1000000 in
theorem snapName_any (w : World) (n : Int) (h0 : -9223372036854775808 ≤ n) (h1 : n ≤ 9223372036854775807) (hL : Laid w) :
    Calls Tryd.prog 14 #[.int .i64 n] w (StrOut w (nm9 115 0 n)) := by
  have HL := Lib.hid hL
  clear hL
  by_cases hb : n < 0 ∨ n > 999999999
  · have E := Lib.hid (show nm9 115 0 n = [] from by unfold nm9; rw [if_pos hb])
    rcases hb with hb | hb
    all_goals
      go_enter Tryd.func14, Tryd.ntmps14
      go_wp2_with fail
      go_ret
      rw [E.out]
      exact ⟨rfl, Below.refl _ _⟩
  · have hlo : 0 ≤ n := by omega
    have hhi : n ≤ 999999999 := by omega
    obtain ⟨l, hl⟩ : ∃ l, l = Lib.decDigits n.toNat := ⟨_, rfl⟩
    have hlen : l.length ≤ 9 := by rw [hl]; exact decDigits_len9 (by omega)
    have E := Lib.hid (show nm9 115 0 n = 115 :: pad 9 l from by
      unfold nm9; rw [if_neg hb, hl, pad_dig 8 n.toNat (by simpa using (show n.toNat < 1000000000 by omega))])
    have EI := Lib.hid (show Lib.itoa n = l from by unfold Lib.itoa; rw [if_neg (by omega), hl])
    have EL := Lib.hid hlen
    clear hl hlen hb
    go_enter Tryd.func14, Tryd.ntmps14
    go_wp2_with fail
    refine (Tryd.strconv_Itoa n h0 h1 w HL.out.tab).mono ?_
    rintro e w1 ⟨rfl, k, os, hw1⟩
    have B1 := Lib.hid (show Below w.heap.size w w1 from by rw [hw1]; exact Lib.below_grow _ w (Nat.le_refl _) k os)
    clear hw1
    rw [EI.out]
    go_wp2_with fail
    go_loop [3] (fun v => ∃ (k : Nat) (s : ByteArray), v = .string s ∧ Hid (s = ⟨(List.replicate k 48 ++ l).toArray⟩) ∧ k + l.length ≤ 9) (fun v => match v with | .string s => 9 - s.size | _ => 0)
    case atStart => exact ⟨0, _, rfl, Lib.hid (show (⟨l.toArray⟩ : ByteArray) = ⟨(List.replicate 0 48 ++ l).toArray⟩ from by simp), by have := EL.out; omega⟩
    case round =>
      obtain ⟨k, s, rfl, hs, hk⟩ := hrel
      have SZ := Lib.hid (show s.size = k + l.length from by rw [hs.out]; show (List.replicate k 48 ++ l).toArray.size = _; simp)
      by_cases hlt : s.size < 9
      · go_wp2_with fail
        have hs2 := SZ.out
        have hz : (({ data := #[48] } : ByteArray) ++ s).size = s.size + 1 := by
          rw [ByteArray.size_append]; show 1 + s.size = _; omega
        have he : ({ data := #[48] } : ByteArray) ++ s = ⟨(List.replicate (k + 1) 48 ++ l).toArray⟩ := by
          rw [hs.out]
          apply ByteArray.ext
          rw [ByteArray.data_append]
          show #[48] ++ (List.replicate k 48 ++ l).toArray = (List.replicate (k + 1) 48 ++ l).toArray
          rw [List.replicate_succ]
          simp
        refine ⟨⟨k + 1, { data := #[48] } ++ s, rfl, Lib.hid he, by omega⟩, ?_⟩
        · show 9 - (({ data := #[48] } : ByteArray) ++ s).size < 9 - s.size
          rw [hz]; omega
      · have hs9 : s.size ≤ 9 := by have := SZ.out; omega
        go_wp2_with fail
        go_ret
        have hs2 := SZ.out
        refine ⟨?_, B1.out⟩
        rw [E.out, ← rep_end l k (by omega)]
        have he : ({ data := #[115] } : ByteArray) ++ s = ⟨(115 :: (List.replicate k 48 ++ l)).toArray⟩ := by
          rw [hs.out]
          apply ByteArray.ext
          rw [ByteArray.data_append]
          show #[115] ++ (List.replicate k 48 ++ l).toArray = (115 :: (List.replicate k 48 ++ l)).toArray
          simp
        rw [← he]
        rfl

theorem num9_no {c : UInt8} {lo no : Int} {l : List UInt8} (h : l.length ≠ 10) : num9 c lo no l = no := by unfold num9; rw [if_neg (by omega)]

set_option maxRecDepth 100000 in
set_option maxHeartbeats 1000000 in
theorem snapNumber_any (w : World) (s : ByteArray) (hs : s.size ≤ maxLen) (hL : Laid w) :
    Calls Tryd.prog 50 #[.string s] w (IntOut w (num9 115 0 (-1) s.data.toList)) := by
  have HL := Lib.hid hL
  unfold maxLen at hs
  clear hL
  have hsz : s.data.toList.length = s.size := rfl
  by_cases h10 : s.size = 10
  case neg =>
    have E := Lib.hid (num9_no (c := 115) (lo := 0) (no := -1) (show s.data.toList.length ≠ 10 from by rw [hsz]; exact h10))
    have h10' : ((s.size : Int) != 10) = true := by rw [bne_iff_ne]; omega
    clear hsz
    go_enter Tryd.func50, Tryd.ntmps50
    go_wp2_with fail
    go_ret
    rw [E.out]
    exact ⟨rfl, Below.refl _ _⟩
  obtain ⟨c, r, hcr⟩ : ∃ c r, s.data.toList = c :: r := by
    cases h : s.data.toList with
    | nil => rw [h] at hsz; simp at hsz; omega
    | cons c r => exact ⟨c, r, rfl⟩
  have hp : 0 < s.size := by omega
  have hc0 : s[0]'hp = c := by
    show s.data[0]'hp = c
    have := List.getElem_of_eq hcr (i := 0) (by rw [hsz]; omega)
    simpa using this
  have hrl : r.length = 9 := by rw [hcr] at hsz; simp at hsz; omega
  have hext : (s.extract 1 10).data.toList = r := by
    rw [ByteArray.data_extract]
    simp only [Array.toList_extract, List.extract, hcr]
    simp [← hrl]
  have HC := Lib.hid hcr
  have HE := Lib.hid hext
  have hxs : (s.extract 1 10).size = 9 := by
    have : (s.extract 1 10).data.toList.length = 9 := by rw [hext]; exact hrl
    exact this
  have HX := Lib.hid hxs
  have HR := Lib.hid hrl
  clear hsz hcr hext hxs hrl
  by_cases h115 : c = 115
  case neg =>
    have E := Lib.hid (show num9 115 0 (-1) s.data.toList = -1 from by
      unfold num9; rw [HC.out, if_neg (by simp [h115])])
    have hne : (((s[0]'hp).toNat : Int) != 115) = true := by
      rw [hc0, bne_iff_ne]; intro e; exact h115 (UInt8.toNat_inj.1 (show c.toNat = 115 from by omega))
    clear hc0
    go_enter Tryd.func50, Tryd.ntmps50
    go_wp2_with fail
    go_ret
    rw [E.out]
    exact ⟨rfl, Below.refl _ _⟩
  subst h115
  have heq : (((s[0]'hp).toNat : Int) != 115) = false := by rw [hc0]; rfl
  clear hc0
  go_enter Tryd.func50, Tryd.ntmps50
  go_wp2_with fail
  cases ha : Lib.atoi r with
  | none =>
    obtain ⟨tp, p, hv⟩ := HL.out.err
    have E := Lib.hid (show num9 115 0 (-1) s.data.toList = -1 from by
      unfold num9; rw [HC.out]; simp [ha])
    have HA := Lib.hid (show Lib.atoi (s.extract 1 10).data.toList = none from by rw [HE.out]; exact ha)
    have HV := Lib.hid hv
    clear ha hv
    refine (Tryd.strconv_Atoi_err_var (s.extract 1 10) (by rw [HX.out]; decide) HA.out tp p w HV.out).mono ?_
    rintro e w1 ⟨N, rfl, hN, hcell, hb⟩
    have B1 := Lib.hid hb
    clear hb hcell hN
    go_wp2_with fail
    go_ret
    rw [E.out]
    exact ⟨rfl, B1.out⟩
  | some v =>
    have HA := Lib.hid (show Lib.atoi (s.extract 1 10).data.toList = some v from by rw [HE.out]; exact ha)
    have hvb := Lib.atoi_bound ha (by rw [HR.out]; decide)
    have EN := Lib.hid (show num9 115 0 (-1) s.data.toList = if nm9 115 0 v = s.data.toList then v else -1 from by
      unfold num9; rw [if_pos ⟨by rw [HC.out, List.length_cons, HR.out], by rw [HC.out]; rfl⟩]
      have : s.data.toList.tail = r := by rw [HC.out]; rfl
      rw [this, ha])
    clear ha
    refine (Tryd.strconv_Atoi (s.extract 1 10) v (by rw [HX.out]; decide) HA.out w).mono ?_
    rintro e w1 ⟨rfl, t, hw1⟩
    have B1 := Lib.hid (show Below w.heap.size w w1 from by rw [hw1]; exact Lib.bytesWorld_below _ _ _)
    clear hw1
    go_wp2_with fail
    refine (snapName_any w1 v (by omega) (by omega) (HL.out.below B1.out)).mono ?_
    rintro e w2 ⟨rfl, hb⟩
    have B2 := Lib.hid (B1.out.trans (hb.mono B1.out.size))
    clear hb
    by_cases hn : nm9 115 0 v = s.data.toList
    · have E := Lib.hid (show num9 115 0 (-1) s.data.toList = v from by rw [EN.out, if_pos hn])
      have hs' : (⟨(nm9 115 0 v).toArray⟩ : ByteArray) = s := by rw [hn]
      rw [hs']
      clear hn hs'
      go_wp2_with fail
      go_ret
      rw [E.out]
      exact ⟨rfl, B2.out⟩
    · have E := Lib.hid (show num9 115 0 (-1) s.data.toList = -1 from by rw [EN.out, if_neg hn])
      obtain ⟨q, hq⟩ : ∃ q : ByteArray, q = ⟨(nm9 115 0 v).toArray⟩ := ⟨_, rfl⟩
      rw [← hq]
      have hs' : (q.toList == s.toList) = false := by
        rw [ByteArray.toList_eq, ByteArray.toList_eq, hq, beq_eq_false_iff_ne]; exact hn
      clear hq
      clear hn
      go_wp2_with fail
      go_ret
      rw [E.out]
      exact ⟨rfl, B2.out⟩
end Go.Proofs.YtmpdmejlpicdlaaDoor

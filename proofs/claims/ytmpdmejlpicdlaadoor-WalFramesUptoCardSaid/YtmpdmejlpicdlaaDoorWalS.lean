/- wal.must, wal.segment. -/
import Derived.Test.YtmpdmejlpicdlaaDoorWalRb
import Derived.Test.YtmpdmejlpicdlaaDoorDiskFa
import Derived.Test.YtmpdmejlpicdlaaDoorSnapS
import Derived.WalkSmall
namespace Go.Proofs.YtmpdmejlpicdlaaDoor
open Go.RowKit Go.Bw Go.Maps
set_option linter.unusedVariables false
set_option linter.unusedSimpArgs false

/-- What is given up with. -/
def stopWith (er : Int) : List PanicEntry := [{ v := .iface 102 (.agg #[.int .i64 er]), recovered := false }]

set_option maxHeartbeats 1000000 in
theorem must_ok (w : World) : Calls Tryd.prog 57 #[.int .i64 0] w fun e w' => e = .returned (.tuple #[]) ∧ w = w' := by
  go_enter Tryd.func57, Tryd.ntmps57
  go_wp2_with fail
  go_end0
  exact ⟨rfl, rfl⟩
set_option maxHeartbeats 1000000 in
theorem must_bad (w : World) (er : Int) (h : er ≠ 0) : Calls Tryd.prog 57 #[.int .i64 er] w fun e w' => e = .panicked (stopWith er) ∧ w = w' := by
  have h' : (er != 0) = true := by rw [bne_iff_ne]; exact h
  clear h
  go_enter Tryd.func57, Tryd.ntmps57
  go_wp2_with fail
  exact ⟨rfl, rfl, rfl⟩

/-- What a call has left: a disk, and what is not its own. -/
structure Left (Q : Nat → Prop) (w : World) (d : Nat) (A' : ADsk) (w' : World) (Q' : Nat → Prop) : Prop where
  grow : ∀ k, Q k → Q' k
  disk : Held Q' w' d A'
  mod : Mod (fun k => ¬ Q k) w w'
def SegOut (Q : Nat → Prop) (w : World) (d : Nat) (A' : ADsk) (er : Int) (L : List (List Int)) (e : Ending) (w' : World) : Prop :=
  ∃ Q', Left Q w d A' w' Q' ∧ ((er = 0 ∧ ∃ v, e = .returned v ∧ RowsAt w' Q' v L) ∨ (er ≠ 0 ∧ e = .panicked (stopWith er)))

set_option maxRecDepth 100000 in
set_option maxHeartbeats 2000000 in
theorem segment_any {Q : Nat → Prop} {w : World} {d : Nat} {A : ADsk} (h : Held Q w d A) (s : ByteArray) (hs : s.size ≤ maxLen) (b : List Int) (hrd : A.read s.data.toList = (b, 0)) (hB : Bytes b) (hl : b.length ≤ 1048576) (hL : Laid w) :
    Calls Tryd.prog 58 #[.pointer (some ⟨d, 0, none⟩), .string s] w (SegOut Q w d (segA A s.data.toList).1 (segA A s.data.toList).2 (recs b)) := by
  have H := Lib.hid h
  have HB := Lib.hid hB
  have HL := Lib.hid hL
  have HS := Lib.hid hs
  have RD := Lib.hid hrd
  clear h hB hL hs hrd
  obtain ⟨S, hS⟩ : ∃ S, S = segA A s.data.toList := ⟨_, rfl⟩
  rw [← hS]
  have ES := Lib.hid (show S = (if (if ends (recs b) < b.length then A.trunc s.data.toList (ends (recs b) : Nat) else (A, 0)).2 ≠ 0 then (if ends (recs b) < b.length then A.trunc s.data.toList (ends (recs b) : Nat) else (A, 0)) else (if ends (recs b) < b.length then A.trunc s.data.toList (ends (recs b) : Nat) else (A, 0)).1.sync s.data.toList) from by
    rw [hS]; unfold segA; rw [RD.out]; rfl)
  clear hS
  obtain ⟨L, hLr⟩ : ∃ L, L = recs b := ⟨_, rfl⟩
  rw [← hLr] at ES ⊢
  have ELr := Lib.hid hLr
  clear hLr
  go_enter Tryd.func58, Tryd.ntmps58
  go_wp2_with fail
  refine (held_read_to H.out s HS.out RD.out).mono ?_
  rintro e w5 ⟨v5, rfl, ho, hb, hH⟩
  have HC := Lib.hid (fun (a : Option Addr) (k c : Nat) (e : v5 = .slice a k c) => show k ≤ c from by
    obtain ⟨a', c', h1, h2⟩ := ownsRow_slice ho
    rw [h1] at e; cases e; exact h2)
  have R5 := Lib.hid (ownsRow_reads ho)
  obtain ⟨a5, c5, rfl, _⟩ := ownsRow_slice ho
  have H5 := Lib.hid hH
  have M5 := Lib.hid (Mod.ofBelow hb)
  have L5 := Lib.hid (HL.out.below hb)
  clear ho hb hH
  go_wp2_with fail
  refine (must_ok w5).mono ?_
  rintro e w6 ⟨rfl, rfl⟩
  go_wp2_with fail
  refine (records_any w5 _ b R5.out HC.out HB.out (by omega) L5.out).mono ?_
  unfold RecsOut
  rw [← ELr.out]
  rintro e w6 ⟨v6, rfl, hrow, hb⟩
  have H6 := Lib.hid (H5.out.fresh (Mod.ofBelow hb) (fun _ _ h => h.elim))
  obtain ⟨Q6, hQ6⟩ : ∃ Q6 : Nat → Prop, Q6 = (fun k => (Q k ∨ (w.heap.size ≤ k ∧ k < w5.heap.size)) ∨ (w5.heap.size ≤ k ∧ k < w6.heap.size)) := ⟨_, rfl⟩
  have ROW6 := Lib.hid (show RowsAt w6 Q6 v6 L from hrow.weaken (fun k hk h => by rw [hQ6]; exact Or.inr ⟨h, hk⟩))
  have QQ := Lib.hid (show ∀ k, Q k → Q6 k from fun k hk => by rw [hQ6]; exact Or.inl (Or.inl hk))
  rw [← hQ6] at H6
  have M6 := Lib.hid (M5.out.trans (Mod.ofBelow hb) (fun _ _ h => h))
  clear hrow hb hQ6
  by_cases hend : ends L < b.length
  · have ES2 := Lib.hid (ES.out.trans (by rw [if_pos hend]))
    have hend' : (((ends L : Nat) : Int)) < b.length := by omega
    go_wp2_with fail
    refine (held_trunc H6.out s HS.out (ends L : Nat) (by omega) (by omega)).mono ?_
    obtain ⟨T, hT⟩ : ∃ T, T = A.trunc s.data.toList (ends L : Nat) := ⟨_, rfl⟩
    rw [← hT] at ES2 ⊢
    clear hT
    rintro e w7 ⟨rfl, hH, hm⟩
    have H7 := Lib.hid hH
    have M7 := Lib.hid (show Mod (fun k => ¬ Q k) w w7 from (M6.out.mono (T := fun k => ¬ Q k) (fun _ _ h => h.elim)).trans hm (fun k _ h hq => h (QQ.out k hq)))
    have ROW7 := Lib.hid (ROW6.out.mod hm (fun k hk h => h hk))
    clear hH hm
    obtain ⟨A7, e7⟩ := T
    by_cases h0 : e7 = 0
    · subst h0
      have ES3 := Lib.hid (ES2.out.trans (if_neg (by simp)))
      go_wp2_with fail
      refine (must_ok w7).mono ?_
      rintro e w8 ⟨rfl, rfl⟩
      go_wp2_with fail
      refine (held_sync H7.out s HS.out).mono ?_
      rw [← ES3.out]
      rintro e w8 ⟨rfl, hH, hm⟩
      have H8 := Lib.hid hH
      have M8 := Lib.hid (M7.out.trans hm (fun k _ h hq => h (QQ.out k hq)))
      have ROW8 := Lib.hid (ROW7.out.mod hm (fun k hk h => h hk))
      clear hH hm
      obtain ⟨A8, e8⟩ := S
      by_cases h0 : e8 = 0
      · subst h0
        go_wp2_with fail
        refine (must_ok w8).mono ?_
        rintro e w9 ⟨rfl, rfl⟩
        go_wp2_with fail
        go_ret
        exact ⟨Q6, ⟨QQ.out, H8.out, M8.out⟩, Or.inl ⟨rfl, _, rfl, ROW8.out⟩⟩
      · go_wp2_with fail
        refine (must_bad w8 e8 h0).mono ?_
        rintro e w9 ⟨rfl, rfl⟩
        exact ⟨rfl, Q6, ⟨QQ.out, H8.out, M8.out⟩, Or.inr ⟨h0, rfl⟩⟩
    · have ES3 := Lib.hid (ES2.out.trans (if_pos (by simpa using h0)))
      go_wp2_with fail
      refine (must_bad w7 e7 h0).mono ?_
      rintro e w8 ⟨rfl, rfl⟩
      rw [ES3.out]
      exact ⟨rfl, Q6, ⟨QQ.out, H7.out, M7.out⟩, Or.inr ⟨h0, rfl⟩⟩
  · have ES2 := Lib.hid (ES.out.trans (by rw [if_neg hend]))
    have hend' : ¬ (((ends L : Nat) : Int)) < b.length := by omega
    have ES3 := Lib.hid (ES2.out.trans (if_neg (by simp)))
    have M6' := Lib.hid (M6.out.mono (T := fun k => ¬ Q k) (fun _ _ h => h.elim))
    go_wp2_with fail
    refine (held_sync H6.out s HS.out).mono ?_
    rw [← ES3.out]
    rintro e w8 ⟨rfl, hH, hm⟩
    have H8 := Lib.hid hH
    have M8 := Lib.hid (M6'.out.trans hm (fun k _ h hq => h (QQ.out k hq)))
    have ROW8 := Lib.hid (ROW6.out.mod hm (fun k hk h => h hk))
    clear hH hm
    obtain ⟨A8, e8⟩ := S
    by_cases h0 : e8 = 0
    · subst h0
      go_wp2_with fail
      refine (must_ok w8).mono ?_
      rintro e w9 ⟨rfl, rfl⟩
      go_wp2_with fail
      go_ret
      exact ⟨Q6, ⟨QQ.out, H8.out, M8.out⟩, Or.inl ⟨rfl, _, rfl, ROW8.out⟩⟩
    · go_wp2_with fail
      refine (must_bad w8 e8 h0).mono ?_
      rintro e w9 ⟨rfl, rfl⟩
      exact ⟨rfl, Q6, ⟨QQ.out, H8.out, M8.out⟩, Or.inr ⟨h0, rfl⟩⟩
end Go.Proofs.YtmpdmejlpicdlaaDoor

/- snap.Encode. -/
import Derived.Test.YtmpdmejlpicdlaaDoorFull
namespace Go.Proofs.YtmpdmejlpicdlaaDoor
open Go.RowKit Go.Bw Go.Maps
set_option linter.unusedVariables false
set_option linter.unusedSimpArgs false

/-- The first k words. -/
def words (a b : Int) : Nat → List Int
  | 0 => []
  | 1 => le4 a
  | _ => le4 a ++ le4 b

/-- Four bytes more. -/
theorem app_four (wr : World) (B : Nat) (v : Value) (cur : List Int) (hor : wr.ownsRow B 5 1 v cur.length (bcells cur)) (hB : B ≤ wr.heap.size) (x : Int) (hl : cur.length ≤ 100) :
    ∃ v' w3, (Builtin.append_ #[22, 22] 22 #[v, .slice (some ⟨wr.heap.size, 0, none⟩) 4 4]).run Tryd.prog (wr.alloc (.cells #[.int .u8 (x % 256), .int .u8 (x / 256 % 256), .int .u8 (x / 65536 % 256), .int .u8 (x / 16777216)] 5)) = .ok v' w3 ∧
      w3.ownsRow B 5 1 v' (cur ++ le4 x).length (bcells (cur ++ le4 x)) ∧ (∀ S : Nat → Prop, (∀ k, v.ownBlock = some k → S k) → Mod S wr w3) ∧ ∃ a c, v' = .slice a (cur.length + 4) c := by
  have h1 := ownsRow_kept (w' := wr.alloc (.cells #[.int .u8 (x % 256), .int .u8 (x / 256 % 256), .int .u8 (x / 65536 % 256), .int .u8 (x / 16777216)] 5)) hor (fun k hk => ((Mod.refl (fun _ => False) wr).alloc _).block k (hor.lt k hk).2 (fun h => h))
  obtain ⟨v', w3, R, O, M, N⟩ := app_run2 _ B v (.slice (some ⟨wr.heap.size, 0, none⟩) 4 4) cur (le4 x) h1 (by simp; omega) (reads_const wr (le4 x) (0, 0)) (by rw [le4_length]; omega)
  refine ⟨v', w3, R, O, fun S hS => ((Mod.refl S wr).alloc _).trans M (fun k _ h => hS k h), ?_⟩
  obtain ⟨a, c, h, _⟩ := ownsRow_slice O
  exact ⟨a, c, by rw [h, List.length_append, le4_length]⟩

set_option maxRecDepth 100000 in
set_option maxHeartbeats 4000000 in
theorem encode_any (w : World) (n : Int) (v : Value) (body : List Int) (hR : Reads w 1 v body.length (bcells body)) (hl : body.length ≤ 140737488351232) (hL : Laid w) :
    Calls Tryd.prog 17 #[.int .i64 n, v] w (BytesOut w (encode n body)) := by
  obtain ⟨a, c, rfl⟩ := reads_form hR
  have HR := Lib.hid hR
  have HL := Lib.hid hL
  clear hR hL
  obtain ⟨x0, hx0⟩ : ∃ x : Int, x = n % 4294967296 := ⟨_, rfl⟩
  obtain ⟨x1, hx1⟩ : ∃ x : Int, x = (body.length : Int) % 4294967296 := ⟨_, rfl⟩
  have i0 : ∀ w, (Instr.index 67 (.agg #[.int .u32 x0, .int .u32 x1]) (.int .i64 0)).run Tryd.prog w = .ok (.int .u32 x0) w := fun _ => by kernel_rfl
  have i1 : ∀ w, (Instr.index 67 (.agg #[.int .u32 x0, .int .u32 x1]) (.int .i64 1)).run Tryd.prog w = .ok (.int .u32 x1) w := fun _ => by kernel_rfl
  have HX0 := Lib.hid hx0
  have HX1 := Lib.hid hx1
  have HI := Lib.hid (And.intro i0 i1)
  have b0 : 0 ≤ x0 := by omega
  have b1 : x0 < 4294967296 := by omega
  have b2 : 0 ≤ x1 := by omega
  have b3 : x1 < 4294967296 := by omega
  have e0 : n % 4294967296 = x0 := hx0.symm
  have e1 : (body.length : Int) % 4294967296 = x1 := hx1.symm
  clear hx0 hx1 i0 i1
  go_enter Tryd.func17, Tryd.ntmps17
  go_wp2_with fail
  clear e0 e1
  go_loopw [5, 15] (fun b i wr => ∃ k : Nat, k ≤ 2 ∧ i = .int .i64 k ∧ wr.ownsRow w.heap.size 5 1 b (words x0 x1 k).length (bcells (words x0 x1 k)) ∧ Mod (fun k => w.heap.size ≤ k) w wr) (fun _ i _ => 2 - (intOf i).toNat)
  case atStart => exact ⟨0, by omega, rfl, World.ownsRow_nil _ _ _ _, Mod.refl _ _⟩
  case round =>
    obtain ⟨k, hk, rfl, ho, hm⟩ := hrel
    have O := Lib.hid ho
    have M := Lib.hid hm
    clear ho hm
    have hk3 : k = 0 ∨ k = 1 ∨ k = 2 := by omega
    rcases hk3 with rfl | rfl | rfl
    · obtain ⟨v', w3, R, O3, M3, _⟩ := app_four wr w.heap.size _ _ O.out M.out.size x0 (by simp [words, le4])
      have R3 := Lib.hid R
      have O3' := Lib.hid O3
      have M3' := Lib.hid (M.out.trans (M3 (fun k => w.heap.size ≤ k) (fun k hk => (O.out.lt k hk).1)) (fun _ _ h => h))
      have i0 := HI.out.1
      clear R O3 M3
      go_wp2_with (at_builtin; refine wpList_append_run rfl (.tmp 18) (.tmp 30) 22 rfl rfl rfl R3.out ?_)
      go_roundw
      case rel => exact ⟨1, by omega, rfl, O3'.out, M3'.out⟩
      case measure => simp [intOf]
    · obtain ⟨v', w3, R, O3, M3, _⟩ := app_four wr w.heap.size _ _ O.out M.out.size x1 (by simp [words, le4])
      have R3 := Lib.hid R
      have O3' := Lib.hid O3
      have M3' := Lib.hid (M.out.trans (M3 (fun k => w.heap.size ≤ k) (fun k hk => (O.out.lt k hk).1)) (fun _ _ h => h))
      have i1 := HI.out.2
      clear R O3 M3
      go_wp2_with (at_builtin; refine wpList_append_run rfl (.tmp 18) (.tmp 30) 22 rfl rfl rfl R3.out ?_)
      go_roundw
      case rel => exact ⟨2, by omega, rfl, O3'.out, M3'.out⟩
      case measure => simp [intOf]
    · have HD := Lib.hid (show head8 n body.length = le4 x0 ++ le4 x1 from by unfold head8; rw [HX0.out, HX1.out])
      have hl8 : (words x0 x1 2).length = 8 := rfl
      have HE := Lib.hid (show encode n body = words x0 x1 2 ++ le4 (crc (words x0 x1 2 ++ body)) ++ body from by unfold encode; rw [HD.out]; rfl)
      have o8 := O.out
      rw [hl8] at o8
      obtain ⟨g, c8, hv8, hc8⟩ : ∃ g c8, u5 = .slice (some ⟨g, 0, none⟩) 8 c8 ∧ 8 ≤ c8 := by
        rcases o8.2 with ⟨_, h0⟩ | ⟨g, cap, cur, hv, hb, _, hn, _⟩
        · omega
        · exact ⟨g, cap, hv, hn⟩
      subst hv8
      have RD8 := Lib.hid (show Reads wr 1 (.slice (some ⟨g, 0, none⟩) (words x0 x1 2).length (words x0 x1 2).length) (words x0 x1 2).length (bcells (words x0 x1 2)) from by
        obtain ⟨h1, h2⟩ := ownsRow_reads O.out
        refine ⟨h1, Or.inr ⟨⟨g, 0, none⟩, (words x0 x1 2).length, rfl, ?_⟩⟩
        rcases h2 with ⟨_, e, _⟩ | ⟨a', c', e, hc⟩
        · cases e
        · cases e; exact hc)
      have RDB := Lib.hid (reads_later HR.out M.out (fun k hk h => by omega))
      obtain ⟨v4, w4, R4, RD4, M4⟩ := app_full_run wr g 0 (.slice a body.length c) (words x0 x1 2) body RD8.out RDB.out (by rw [hl8]; omega)
      obtain ⟨zs, hzs⟩ : ∃ zs, zs = words x0 x1 2 ++ body := ⟨_, rfl⟩
      rw [← hzs] at RD4
      have hzl : zs.length ≤ 140737488355328 := by rw [hzs, List.length_append, hl8]; omega
      have HZ := Lib.hid hzs
      rw [hl8] at R4
      obtain ⟨a4, c4, hv4⟩ := reads_form RD4
      subst hv4
      have R4' := Lib.hid R4
      have RD4' := Lib.hid RD4
      have HL4 := Lib.hid (HL.out.grown (M.out.trans M4 (fun _ _ h => h.elim)))
      have O4 := Lib.hid (ownsRow_kept O.out (fun k hk => M4.block k (O.out.lt k hk).2 (fun h => h)))
      have M4w := Lib.hid (M.out.trans M4 (fun _ _ h => h.elim))
      clear R4 RD4 M4 o8 hl8 hzs
      go_wp2_with (at_builtin; refine wpList_append_run rfl (.tmp 38) (.tmp 39) 22 rfl rfl rfl R4'.out ?_)
      refine (crc_any w4 _ zs RD4'.out hzl HL4.out.halfAt).mono ?_
      rintro e w5 ⟨rfl, rfl⟩
      obtain ⟨cc, hcc⟩ : ∃ cc, cc = crc zs := ⟨_, rfl⟩
      rw [← hcc]
      have hc0 : 0 ≤ cc := by rw [hcc]; exact crc_lo zs
      have hc1 : cc < 4294967296 := by rw [hcc]; exact crc_hi zs
      have HCC := Lib.hid hcc
      clear hcc
      obtain ⟨v6, w6, R6, O6, M6, a6, c6, hv6⟩ := app_four w4 w.heap.size _ _ O4.out M4w.out.size cc (by simp [words, le4])
      subst hv6
      have R6' := Lib.hid R6
      have M6w := Lib.hid (M4w.out.trans (M6 (fun k => w.heap.size ≤ k) (fun k hk => (O4.out.lt k hk).1)) (fun _ _ h => h))
      obtain ⟨v7, w7, R7, O7, M7, N7⟩ := app_run2 w6 w.heap.size _ (.slice a body.length c) _ body O6 M6w.out.size (reads_later HR.out M6w.out (fun k hk h => by omega)) (by rw [List.length_append, le4_length, show (words x0 x1 2).length = 8 from rfl]; omega)
      have R7' := Lib.hid R7
      have O7' := Lib.hid O7
      have M7w := Lib.hid (show Below w.heap.size w w7 from ((M6w.out.trans M7 (fun k _ hk => (O6.lt k hk).1)).mono (T := fun _ => False) (fun k hk h => by omega)).toBelow)
      clear R6 O6 M6 R7 O7 M7 N7
      go_wp2_with (at_builtin; first | refine wpList_append_run rfl (.tmp 42) (.tmp 54) 22 rfl rfl rfl R6'.out ?_ | refine wpList_append_run rfl (.tmp 56) (.tmp 57) 22 rfl rfl rfl R7'.out ?_)
      go_ret
      refine ⟨_, rfl, ?_, M7w.out⟩
      rw [HE.out, ← HZ.out, ← HCC.out]
      exact O7'.out
end Go.Proofs.YtmpdmejlpicdlaaDoor

/- The document's Encode. -/
import Derived.Test.YtmpdmejlpicdlaaDoorSnapR
namespace Go.Proofs.YtmpdmejlpicdlaaDoor
open Go.RowKit Go.Bw Go.Maps
set_option linter.unusedVariables false
set_option linter.unusedSimpArgs false

/-- A row of one's own in a later world. -/
theorem row_later {w w' : World} {B : Nat} {v : Value} {xs : List Int} {T : Nat → Prop} (h : w.ownsRow B 5 1 v xs.length (bcells xs)) (hm : Mod T w w') (hT : ∀ k, v.ownBlock = some k → ¬ T k) : w'.ownsRow B 5 1 v xs.length (bcells xs) :=
  ownsRow_kept h (fun k hk => hm.block k (h.lt k hk).2 (hT k hk))

set_option maxRecDepth 100000 in
set_option maxHeartbeats 4000000 in
theorem rencode_any (w : World) (n : Int) (v : Value) (body : List Int) (h0 : -9223372036854775808 ≤ n) (h1 : n ≤ 9223372036854775807) (hR : Reads w 1 v body.length (bcells body)) (hl : body.length ≤ 140737488351232) :
    Calls Tryd.prog 18 #[.int .i64 n, v] w (BytesOut w (encode n body)) := by
  obtain ⟨a, c, rfl⟩ := reads_form hR
  have HR := Lib.hid hR
  clear hR
  obtain ⟨x0, hx0⟩ : ∃ x : Int, x = n % 4294967296 := ⟨_, rfl⟩
  obtain ⟨x1, hx1⟩ : ∃ x : Int, x = (body.length : Int) % 4294967296 := ⟨_, rfl⟩
  have HX0 := Lib.hid hx0
  have HX1 := Lib.hid hx1
  have b0 : 0 ≤ x0 := by omega
  have b1 : x0 < 4294967296 := by omega
  have b2 : 0 ≤ x1 := by omega
  have b3 : x1 < 4294967296 := by omega
  have HE := Lib.hid (show encode n body = le4 x0 ++ le4 x1 ++ le4 (crc (le4 x0 ++ le4 x1 ++ body)) ++ body from by
    unfold encode head8; rw [hx0, hx1])
  clear hx0 hx1
  go_enter Tryd.func18, Tryd.ntmps18
  go_wp2_with fail
  rw [← HX0.out]
  refine (four_any w x0 b0 b1).mono ?_
  rintro e w1 ⟨rfl, hw1⟩
  have O1 := Lib.hid (show w1.ownsRow w.heap.size 5 1 (.slice (some ⟨w.heap.size, 0, none⟩) 4 4) (le4 x0).length (bcells (le4 x0)) from by rw [hw1]; exact row_four w x0)
  have M1 := Lib.hid (show Mod (fun _ => False) w w1 from by rw [hw1]; exact (Mod.refl _ _).alloc _)
  clear hw1
  go_wp2_with fail
  rw [← HX1.out]
  refine (four_any w1 x1 b2 b3).mono ?_
  rintro e w2 ⟨rfl, hw2⟩
  have O2 := Lib.hid (show w2.ownsRow w1.heap.size 5 1 (.slice (some ⟨w1.heap.size, 0, none⟩) 4 4) (le4 x1).length (bcells (le4 x1)) from by rw [hw2]; exact row_four w1 x1)
  have M2 := Lib.hid (show Mod (fun _ => False) w1 w2 from by rw [hw2]; exact (Mod.refl _ _).alloc _)
  clear hw2
  have M12 := Lib.hid (M1.out.trans M2.out (fun _ _ h => h))
  have G2 := Lib.hid (M12.out.mono (T := fun k => w.heap.size ≤ k) (fun _ _ h => h.elim))
  obtain ⟨v3, w3, R, O, M, _⟩ := app_run2 w2 w.heap.size _ _ _ _ (row_later O1.out M2.out (fun _ _ h => h)) M12.out.size (ownsRow_reads O2.out) (by simp [le4])
  obtain ⟨zs, hzs⟩ : ∃ zs, zs = le4 x0 ++ le4 x1 := ⟨_, rfl⟩
  have hz8 : zs.length = 8 := by rw [hzs]; rfl
  rw [← hzs] at O HE
  have R3 := Lib.hid R
  have O3 := Lib.hid O
  have Z8 := Lib.hid hz8
  have G3 := Lib.hid (G2.out.trans M (fun k _ h => by cases h; exact Nat.le_refl _))
  clear R O M hzs hz8
  have EC := Lib.hid ((Mod.refl (fun k => w3.heap.size ≤ k) w3).alloc (.cells #[] 5))
  obtain ⟨v4, w4, R, O, M, N⟩ := app_run2 (w3.alloc (.cells #[] 5)) w3.heap.size _ _ _ _ (row_empty w3) (by simp) (ownsRow_reads (row_later O3.out EC.out (fun k hk h => by have := (O3.out.lt k hk).2; omega))) (by rw [Z8.out]; simp)
  rw [List.nil_append] at O
  have R4 := Lib.hid R
  have O4 := Lib.hid O
  have M4 := Lib.hid (EC.out.trans M (fun k _ h => by cases h; exact Nat.le_refl _))
  clear R O M N EC
  have G4 := Lib.hid (G3.out.trans M4.out (fun k hk h => Nat.le_trans G3.out.size h))
  obtain ⟨v5, w5, R, O, M, N⟩ := app_run2 w4 w3.heap.size _ _ _ _ O4.out M4.out.size (reads_later HR.out G4.out (fun k hk h => by omega)) (by rw [Z8.out]; omega)
  obtain ⟨ys, hys⟩ : ∃ ys, ys = zs ++ body := ⟨_, rfl⟩
  rw [← hys] at O HE
  have R5 := Lib.hid R
  have O5 := Lib.hid O
  have M5 := Lib.hid (M4.out.trans M (fun k _ h => (O4.out.lt k h).1))
  have G5 := Lib.hid (G3.out.trans M5.out (fun k hk h => Nat.le_trans G3.out.size h))
  have hyl : ys.length ≤ 140737488355328 := by rw [hys, List.length_append, Z8.out]; omega
  clear R O M N hys
  obtain ⟨a3, c3, hv3, hc3⟩ := ownsRow_slice O3.out
  obtain ⟨a4, c4, hv4, hc4⟩ := ownsRow_slice O4.out
  obtain ⟨a5, c5, hv5, hc5⟩ := ownsRow_slice O5.out
  subst hv3
  subst hv4
  subst hv5
  rw [Z8.out] at R3 R4 R5
  go_wp2_with (at_builtin; first | refine wpList_append_run rfl (.tmp 9) (.tmp 13) 22 rfl rfl rfl R3.out ?_ | refine wpList_append_run rfl (.tmp 15) (.tmp 16) 22 rfl rfl rfl R4.out ?_ | refine wpList_append_run rfl (.tmp 17) (.tmp 18) 22 rfl rfl rfl R5.out ?_)
  refine (rcrc_any w5 _ ys (ownsRow_reads O5.out) hyl).mono ?_
  rintro e w5' ⟨rfl, rfl⟩
  obtain ⟨cc, hcc⟩ : ∃ cc, cc = crc ys := ⟨_, rfl⟩
  rw [← hcc] at HE ⊢
  have hc0 : 0 ≤ cc := by rw [hcc]; exact crc_lo ys
  have hc1 : cc < 4294967296 := by rw [hcc]; exact crc_hi ys
  clear hcc
  go_wp2_with fail
  refine (four_any w5 cc hc0 hc1).mono ?_
  rintro e w6 ⟨rfl, hw6⟩
  have O6 := Lib.hid (show w6.ownsRow w5.heap.size 5 1 (.slice (some ⟨w5.heap.size, 0, none⟩) 4 4) (le4 cc).length (bcells (le4 cc)) from by rw [hw6]; exact row_four w5 cc)
  have M6 := Lib.hid (M5.out.trans (show Mod (fun _ => False) w5 w6 from by rw [hw6]; exact (Mod.refl _ _).alloc _) (fun _ _ h => h.elim))
  clear hw6
  have G6 := Lib.hid (G3.out.trans M6.out (fun k hk h => Nat.le_trans G3.out.size h))
  obtain ⟨v7, w7, R, O, M, N⟩ := app_run2 w6 w.heap.size _ _ zs _ (row_later O3.out M6.out (fun k hk h => by have := (O3.out.lt k hk).2; omega)) G6.out.size (ownsRow_reads O6.out) (by rw [Z8.out]; simp [le4])
  rw [Z8.out] at R
  have R7 := Lib.hid R
  have O7 := Lib.hid O
  have G7 := Lib.hid (G6.out.trans M (fun k _ h => (O3.out.lt k h).1))
  clear R O M N
  have e12 : (zs ++ le4 cc).length = 12 := by rw [List.length_append, Z8.out]; rfl
  obtain ⟨v8, w8, R, O, M, N⟩ := app_run2 w7 w.heap.size _ _ _ _ O7.out G7.out.size (reads_later HR.out G7.out (fun k hk h => by omega)) (by rw [e12]; omega)
  have R8 := Lib.hid R
  have O8 := Lib.hid O
  have G8 := Lib.hid (G7.out.trans M (fun k _ h => (O7.out.lt k h).1))
  clear R O M N e12
  obtain ⟨a7, c7, hv7, hc7⟩ := ownsRow_slice O7.out
  subst hv7
  rw [show (zs ++ le4 cc).length = 12 from by rw [List.length_append, Z8.out]; rfl] at R7 R8
  go_wp2_with (at_builtin; first | refine wpList_append_run rfl (.tmp 21) (.tmp 23) 22 rfl rfl rfl R7.out ?_ | refine wpList_append_run rfl (.tmp 24) (.tmp 25) 22 rfl rfl rfl R8.out ?_)
  go_ret
  refine ⟨_, rfl, ?_, (G8.out.mono (T := fun _ => False) (fun k hk h => by omega)).toBelow⟩
  rw [HE.out]
  exact O8.out
end Go.Proofs.YtmpdmejlpicdlaaDoor

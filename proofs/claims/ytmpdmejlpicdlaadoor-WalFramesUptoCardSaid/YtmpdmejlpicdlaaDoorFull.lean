/- append onto a slice without room (b[:n:n]): a new row, or the slice itself. -/
import Derived.Test.YtmpdmejlpicdlaaDoorDiskSa
import Derived.Test.YtmpdmejlpicdlaaDoorSnapN
namespace Go.Proofs.YtmpdmejlpicdlaaDoor
open Go.RowKit Go.Bw Go.Maps
set_option linter.unusedVariables false
set_option linter.unusedSimpArgs false

theorem app_full_run (wr : World) (b o : Nat) (x : Value) (cur new : List Int) (hR : Reads wr 1 (.slice (some ⟨b, o, none⟩) cur.length cur.length) cur.length (bcells cur))
    (hX : Reads wr 1 x new.length (bcells new)) (hl : cur.length + new.length ≤ 140737488355328) :
    ∃ v' w3, (Builtin.append_ #[22, 22] 22 #[.slice (some ⟨b, o, none⟩) cur.length cur.length, x]).run Tryd.prog wr = .ok v' w3 ∧ Reads w3 1 v' (cur ++ new).length (bcells (cur ++ new)) ∧ Mod (fun _ => False) wr w3 := by
  obtain ⟨i0, hi, h2, h3, h4⟩ := info_parts TByte.info
  have ht := Tryd.underlying22
  have eb : bcells (cur ++ new) = bcells cur ++ bcells new := by simp [bcells]
  obtain ⟨hln, hX'⟩ := hX
  have hmain : ∀ (a : Addr) (m c : Nat), x = .slice (some a) m c → m = new.length → (∀ j u, (bcells new)[j]? = some u → wr.cell? (a.add j) = some u) → 0 < new.length → ∃ v' w3, (Builtin.append_ #[22, 22] 22 #[.slice (some ⟨b, o, none⟩) cur.length cur.length, x]).run Tryd.prog wr = .ok v' w3 ∧ Reads w3 1 v' (cur ++ new).length (bcells (cur ++ new)) ∧ Mod (fun _ => False) wr w3 := by
    rintro a m c rfl rfl hnews hpos
    have holds : ∀ j u, (bcells cur)[j]? = some u → wr.cell? ((⟨b, o, none⟩ : Addr).add j) = some u := by
      rcases hR.2 with ⟨_, e, _⟩ | ⟨a', c', e, hc⟩
      · cases e
      · cases e; exact hc
    have hbl : (bcells cur).length = cur.length * i0.size := by rw [h3]; simp [bcells]
    have hr := run_append_grow (P := Tryd.prog) wr 22 22 5 i0 (.int .u8 0) ht hi h2 ⟨b, o, none⟩ cur.length cur.length (bcells cur) hbl holds a new.length c (bcells new) (by rw [h3]; simp [bcells]) hnews (by omega) (by omega) (growslice_fits (by omega) (by rw [h4]; omega))
    refine ⟨_, _, hr, ⟨by simp [bcells], Or.inr ⟨⟨wr.heap.size, 0, none⟩, _, by rw [List.length_append], fun j u hj => ?_⟩⟩, ((Mod.refl (fun _ => False) wr).drew).alloc _⟩
    rw [addr_add, Nat.zero_add]
    rw [show (⟨wr.heap.size, j, none⟩ : Addr) = ⟨wr.drew.heap.size, j, none⟩ from rfl, cell_of_heap (heap_alloc_new wr.drew _)]
    rw [eb] at hj
    have hjl := (List.getElem?_eq_some_iff.1 hj).1
    rw [← hj, ← Array.getElem?_toList]
    simp only [Array.toList_append]
    rw [List.getElem?_append_left (by simpa using hjl)]
  have hnil : new = [] → (∃ n c, x = .slice n 0 c) → ∃ v' w3, (Builtin.append_ #[22, 22] 22 #[.slice (some ⟨b, o, none⟩) cur.length cur.length, x]).run Tryd.prog wr = .ok v' w3 ∧ Reads w3 1 v' (cur ++ new).length (bcells (cur ++ new)) ∧ Mod (fun _ => False) wr w3 := by
    rintro rfl ⟨n, c, rfl⟩
    refine ⟨.slice (some ⟨b, o, none⟩) cur.length cur.length, wr, ?_, by simpa using hR, Mod.refl _ _⟩
    cases n <;> simp [Builtin.append_, run_underlying ht, sizeOf, typeInfo, hi, Builtin.lenOf, Builtin.firstCells, loadCells, loadCellsFrom, storeCells]
  rcases hX' with ⟨c, hx, h0⟩ | ⟨a, c, hx, hc⟩
  · exact hnil (List.eq_nil_of_length_eq_zero h0) ⟨none, c, hx⟩
  · by_cases hp : 0 < new.length
    · exact hmain a new.length c hx rfl hc hp
    · have : new = [] := List.eq_nil_of_length_eq_zero (by omega)
      exact hnil this ⟨some a, c, by rw [hx, this]; rfl⟩

/-- A number in four bytes. -/
def le4 (x : Int) : List Int := [x % 256, x / 256 % 256, x / 65536 % 256, x / 16777216]
theorem le4_length (x : Int) : (le4 x).length = 4 := rfl
/-- The two words ahead of a snapshot. -/
def head8 (n : Int) (len : Nat) : List Int := le4 (n % 4294967296) ++ le4 ((len : Int) % 4294967296)
theorem head8_length (n : Int) (len : Nat) : (head8 n len).length = 8 := rfl
def encode (n : Int) (body : List Int) : List Int := head8 n body.length ++ le4 (crc (head8 n body.length ++ body)) ++ body
theorem encode_length (n : Int) (body : List Int) : (encode n body).length = body.length + 12 := by
  unfold encode
  rw [List.length_append, List.length_append, head8_length, le4_length]; omega

/-- A new row of one's own is answered. -/
def BytesOut (w : World) (xs : List Int) (e : Ending) (w' : World) : Prop := ∃ v, e = .returned v ∧ w'.ownsRow w.heap.size 5 1 v xs.length (bcells xs) ∧ Below w.heap.size w w'
end Go.Proofs.YtmpdmejlpicdlaaDoor

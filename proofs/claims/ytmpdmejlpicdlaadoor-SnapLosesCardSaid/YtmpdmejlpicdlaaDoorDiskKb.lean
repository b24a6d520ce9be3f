/- DiskKeeps, walked. -/
import Derived.Test.YtmpdmejlpicdlaaDoorDiskKa
namespace Go.Proofs.YtmpdmejlpicdlaaDoor
open Go.RowKit Go.Bw Go.Maps
set_option linter.unusedVariables false
set_option linter.unusedSimpArgs false

theorem same_yes (w : World) (v1 v2 : Value) (xs : List Int) (h1 : Reads w 1 v1 xs.length (bcells xs)) (h2 : Reads w 1 v2 xs.length (bcells xs)) (hl : xs.length ≤ 140737488355328) :
    Calls Tryd.prog 16 #[v1, v2] w (SaysOut w true) := by
  have := same_any w v1 v2 xs xs h1 h2 hl hl
  rwa [show decide (xs = xs) = true from by simp] at this

theorem own_cell {w : World} {B : Nat} {e : TypeId} {g n c : Nat} {cs : List Value} (h : w.ownsRow B e 1 (.slice (some ⟨g, 0, none⟩) n c) n cs) {k : Nat} {u : Value} (hk : cs[k]? = some u) : w.cell? ⟨g, k, none⟩ = some u := by
  rcases (ownsRow_reads h).2 with ⟨c', e, h0⟩ | ⟨a', c', e, hc⟩
  · cases e
  · cases e
    have := hc k u hk
    rwa [addr_add, Nat.zero_add] at this

theorem bcells_set (zs : List Int) (k : Nat) (x : Int) : bcells (zs.set k x) = (bcells zs).set k (.int .u8 x) := by simp [bcells, List.map_set]
theorem bcells_len (zs : List Int) : (bcells zs).length = zs.length := by simp [bcells]

end Go.Proofs.YtmpdmejlpicdlaaDoor

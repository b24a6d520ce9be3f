/-
  NARROWER THAN 'FOR EVERY INPUT', by the rows' own cells (each row's printed sentence says how): LifeSplits: laid · LifePays: laid · LifeDays: laid.
  DERIVED. THE GIVEN ROWS OF THIS SEAT. 3 by the template 'for every input the law returns true; each argument reads behind the call as it read before'; 0 by the template 'total and deterministic' (their statements: YtcepekniflaoaaaGreatDoorTotals.lean).
  GIVEN WITH THE SEED: the statements are not yours to turn. If you find one false, say at which input.
  Laid BY PROGRAM, IN A SANDBOX (cutbox-rows.mjs): the forced cells as the released guide's own fill.sh prints them over the translation 115894f70994a1e0… (all of the seat's roots in one cut). By AI agents, Wed Nov 11 2026. No macro, syntax, notation, axiom, sorry.
-/
import Derived.Test.YtcepekniflaoaaaGreatDoorChecked
import GoSem.PinnedTables
import GoSem.Claim
import GoSem.ClaimJoined
import GoSem.ClaimMapViews
import Derived.JoinedTies
import Derived.KernelRfl
namespace Go.Proofs.YtcepekniflaoaaaGreatDoor
/- THE CELL 'sum', in the pinned program and in every row, IS THE sha256 OF THE DUMP (.gsa) THAT YtcepekniflaoaaaGreatDoorProg.lean LOADS. Nothing in Lean hashes anything: it is a label: what it is worth is what the hold of that sum in a sandbox is worth. -/
noncomputable def Tryz.pinned : Pinned := { name := "ytcepekniflaoaaagreatdoor", sum := "115894f70994a1e0ff079666ef356b6adeaa9e7edd9fb9b342e57bc388f9890f", checked := Tryz.checked }
namespace Rows
def none {H : Type} : Left H := { results := [], args := [] }

/- WHAT THE LISTED PACKAGE-LEVEL VARIABLES READ AS WHEN THE CALL BEGINS. Each datum BY PROGRAM (the guide's laid-datum.mjs) off the statement by which the dump's own 'gosem.cut.vars' lays the variable. In a bare row this is a premise. The card (YtcepekniflaoaaaGreatDoorCards.lean) ties it to the program's text. -/
def laid_unicode_utf8_acceptRanges {H : Type} : DataW H := .agg [.agg [.lit (.int .u8 128), .lit (.int .u8 191)], .agg [.lit (.int .u8 160), .lit (.int .u8 191)], .agg [.lit (.int .u8 128), .lit (.int .u8 159)], .agg [.lit (.int .u8 144), .lit (.int .u8 191)], .agg [.lit (.int .u8 128), .lit (.int .u8 143)], .agg [.lit (.int .u8 0), .lit (.int .u8 0)], .agg [.lit (.int .u8 0), .lit (.int .u8 0)], .agg [.lit (.int .u8 0), .lit (.int .u8 0)], .agg [.lit (.int .u8 0), .lit (.int .u8 0)], .agg [.lit (.int .u8 0), .lit (.int .u8 0)], .agg [.lit (.int .u8 0), .lit (.int .u8 0)], .agg [.lit (.int .u8 0), .lit (.int .u8 0)], .agg [.lit (.int .u8 0), .lit (.int .u8 0)], .agg [.lit (.int .u8 0), .lit (.int .u8 0)], .agg [.lit (.int .u8 0), .lit (.int .u8 0)], .agg [.lit (.int .u8 0), .lit (.int .u8 0)]]
def laid_bulwark_grid_shifts {H : Type} : DataW H := .agg [.lit (.int .i64 (-2000)), .lit (.int .i64 (-1000)), .lit (.int .i64 (-500)), .lit (.int .i64 0), .lit (.int .i64 500), .lit (.int .i64 1000), .lit (.int .i64 2000)]
def laid_bulwark_grid_vols {H : Type} : DataW H := .agg [.lit (.int .i64 (-2500)), .lit (.int .i64 0), .lit (.int .i64 2500)]
/-- One of Go's own tables, pinned by name: the form's constant. -/
def laid_unicode_utf8_first : DataW Unit := Go.Pinned.utf8First

/-- 'bulwarklaw19.LifeSplits': WHATEVER THE INPUT: true; the input reads as it did. -/
def lifeSplitsSpec : ChangeSpec := { name := "lifeSplits", fn := fun _ => fun
  | [d1, d2, d3] => { results := [.lit (.bool true)], args := [d1, d2, d3] }
  | _ => none }
def lifeSplitsRow : OpenClaim := { program := "ytcepekniflaoaaagreatdoor", sum := "115894f70994a1e0ff079666ef356b6adeaa9e7edd9fb9b342e57bc388f9890f", func := "bulwark/bulwarklaw19.LifeSplits", spec := "lifeSplits", inPlace := ["math/bits.Add64", "internal/bytealg.IndexByteString", "internal/bytealg.IndexString"], unfollowed := true, recurses := true, named := ["math/bits.divideError", "math/bits.overflowError", "unicode/utf8.first", "unicode/utf8.acceptRanges", "bulwark/grid.shifts", "bulwark/grid.vols", "internal/bytealg.MaxLen"], apart := false, laid := [("unicode/utf8.acceptRanges", laid_unicode_utf8_acceptRanges), ("bulwark/grid.shifts", laid_bulwark_grid_shifts), ("bulwark/grid.vols", laid_bulwark_grid_vols), ("unicode/utf8.first", laid_unicode_utf8_first)] }
def LifeSplitsSaid : Prop := lifeSplitsRow.holds Tryz.pinned (OpenSpec.ofChange lifeSplitsSpec)

/-- ITS FALSE NEIGHBOUR: 'it returns false'. Refute it at one input. -/
def lifeSplitsWrong : ChangeSpec := { name := "lifeSplits", fn := fun _ => fun
  | [d1, d2, d3] => { results := [.lit (.bool false)], args := [d1, d2, d3] }
  | _ => none }
def LifeSplitsWrongFalsely : Prop := lifeSplitsRow.holds Tryz.pinned (OpenSpec.ofChange lifeSplitsWrong)

/-- 'bulwarklaw19.LifePays': WHATEVER THE INPUT: true; the input reads as it did. -/
def lifePaysSpec : ChangeSpec := { name := "lifePays", fn := fun _ => fun
  | [d1, d2] => { results := [.lit (.bool true)], args := [d1, d2] }
  | _ => none }
def lifePaysRow : OpenClaim := { program := "ytcepekniflaoaaagreatdoor", sum := "115894f70994a1e0ff079666ef356b6adeaa9e7edd9fb9b342e57bc388f9890f", func := "bulwark/bulwarklaw19.LifePays", spec := "lifePays", inPlace := ["math/bits.Add64", "internal/bytealg.IndexByteString", "internal/bytealg.IndexString"], unfollowed := true, recurses := true, named := ["math/bits.divideError", "math/bits.overflowError", "unicode/utf8.first", "unicode/utf8.acceptRanges", "bulwark/grid.shifts", "bulwark/grid.vols", "internal/bytealg.MaxLen"], apart := false, laid := [("unicode/utf8.acceptRanges", laid_unicode_utf8_acceptRanges), ("bulwark/grid.shifts", laid_bulwark_grid_shifts), ("bulwark/grid.vols", laid_bulwark_grid_vols), ("unicode/utf8.first", laid_unicode_utf8_first)] }
def LifePaysSaid : Prop := lifePaysRow.holds Tryz.pinned (OpenSpec.ofChange lifePaysSpec)

/-- ITS FALSE NEIGHBOUR: 'it returns false'. Refute it at one input. -/
def lifePaysWrong : ChangeSpec := { name := "lifePays", fn := fun _ => fun
  | [d1, d2] => { results := [.lit (.bool false)], args := [d1, d2] }
  | _ => none }
def LifePaysWrongFalsely : Prop := lifePaysRow.holds Tryz.pinned (OpenSpec.ofChange lifePaysWrong)

/-- 'bulwarklaw19.LifeDays': WHATEVER THE INPUT: true; the input reads as it did. -/
def lifeDaysSpec : ChangeSpec := { name := "lifeDays", fn := fun _ => fun
  | [d] => { results := [.lit (.bool true)], args := [d] }
  | _ => none }
def lifeDaysRow : OpenClaim := { program := "ytcepekniflaoaaagreatdoor", sum := "115894f70994a1e0ff079666ef356b6adeaa9e7edd9fb9b342e57bc388f9890f", func := "bulwark/bulwarklaw19.LifeDays", spec := "lifeDays", inPlace := ["math/bits.Add64", "internal/bytealg.IndexByteString", "internal/bytealg.IndexString"], unfollowed := true, recurses := true, named := ["math/bits.divideError", "math/bits.overflowError", "unicode/utf8.first", "unicode/utf8.acceptRanges", "bulwark/grid.shifts", "bulwark/grid.vols", "internal/bytealg.MaxLen"], apart := false, laid := [("unicode/utf8.acceptRanges", laid_unicode_utf8_acceptRanges), ("bulwark/grid.shifts", laid_bulwark_grid_shifts), ("bulwark/grid.vols", laid_bulwark_grid_vols), ("unicode/utf8.first", laid_unicode_utf8_first)] }
def LifeDaysSaid : Prop := lifeDaysRow.holds Tryz.pinned (OpenSpec.ofChange lifeDaysSpec)

/-- ITS FALSE NEIGHBOUR: 'it returns false'. Refute it at one input. -/
def lifeDaysWrong : ChangeSpec := { name := "lifeDays", fn := fun _ => fun
  | [d] => { results := [.lit (.bool false)], args := [d] }
  | _ => none }
def LifeDaysWrongFalsely : Prop := lifeDaysRow.holds Tryz.pinned (OpenSpec.ofChange lifeDaysWrong)

/- THE SECOND FORM. 'bulk': how many values and letters a reading holds, each counted each time it is reached (what is shared counts as often as it is met; a slice's spare places count too). A statement '..UptoSaid' is the law's where the arguments, and the package variables that the reading takes, are together of bulk at most 1048576: NARROWER than '..Said'. Prove '..Said' where nothing that the law and all that it calls make is longer than what came in: it says more and counts as full. Else prove '..UptoSaid'. A law counts once. -/
mutual
def uptoBulk {H : Type} : DataW H → Nat
  | .lit (.string bytes) => bytes.length + 1
  | .lit _ => 1
  | .nil => 1
  | .ptr d => uptoBulk d + 1
  | .slice elems spare => uptoBulkAll elems + uptoBulkAll spare + 1
  | .agg parts => uptoBulkAll parts + 1
  | .iface _ d => uptoBulk d + 1
  | .map entries => uptoBulkEntries entries + 1
  | .held _ => 1
def uptoBulkAll {H : Type} : List (DataW H) → Nat
  | [] => 0
  | d :: r => uptoBulk d + uptoBulkAll r
def uptoBulkEntries {H : Type} : List (Lit × DataW H) → Nat
  | [] => 0
  | x :: r => uptoBulkEntry x + uptoBulkEntries r
def uptoBulkEntry {H : Type} : Lit × DataW H → Nat
  | (.string bytes, d) => bytes.length + uptoBulk d + 1
  | (_, d) => uptoBulk d + 1
 end
def uptoSmall : (H : Type) → List (DataW H) → Bool := fun _ ds => decide (uptoBulkAll ds ≤ 1048576)
def OpenSpec.upto (s : _root_.Go.ChangeSpec) : _root_.Go.OpenSpec := { _root_.Go.OpenSpec.ofChange s with cond := some uptoSmall }

/-- 'bulwarklaw19.LifeSplits', WHERE WHAT IT READS IS OF BULK AT MOST 1048576: true; the input reads as it did. -/
def lifeSplitsUptoRow : OpenClaim := { program := "ytcepekniflaoaaagreatdoor", sum := "115894f70994a1e0ff079666ef356b6adeaa9e7edd9fb9b342e57bc388f9890f", func := "bulwark/bulwarklaw19.LifeSplits", spec := "lifeSplits", inPlace := ["math/bits.Add64", "internal/bytealg.IndexByteString", "internal/bytealg.IndexString"], unfollowed := true, recurses := true, named := ["math/bits.divideError", "math/bits.overflowError", "unicode/utf8.first", "unicode/utf8.acceptRanges", "bulwark/grid.shifts", "bulwark/grid.vols", "internal/bytealg.MaxLen"], apart := false, laid := [("unicode/utf8.acceptRanges", laid_unicode_utf8_acceptRanges), ("bulwark/grid.shifts", laid_bulwark_grid_shifts), ("bulwark/grid.vols", laid_bulwark_grid_vols), ("unicode/utf8.first", laid_unicode_utf8_first)], narrowed := true }
def LifeSplitsUptoSaid : Prop := lifeSplitsUptoRow.holds Tryz.pinned (OpenSpec.upto lifeSplitsSpec)

/-- 'bulwarklaw19.LifePays', WHERE WHAT IT READS IS OF BULK AT MOST 1048576: true; the input reads as it did. -/
def lifePaysUptoRow : OpenClaim := { program := "ytcepekniflaoaaagreatdoor", sum := "115894f70994a1e0ff079666ef356b6adeaa9e7edd9fb9b342e57bc388f9890f", func := "bulwark/bulwarklaw19.LifePays", spec := "lifePays", inPlace := ["math/bits.Add64", "internal/bytealg.IndexByteString", "internal/bytealg.IndexString"], unfollowed := true, recurses := true, named := ["math/bits.divideError", "math/bits.overflowError", "unicode/utf8.first", "unicode/utf8.acceptRanges", "bulwark/grid.shifts", "bulwark/grid.vols", "internal/bytealg.MaxLen"], apart := false, laid := [("unicode/utf8.acceptRanges", laid_unicode_utf8_acceptRanges), ("bulwark/grid.shifts", laid_bulwark_grid_shifts), ("bulwark/grid.vols", laid_bulwark_grid_vols), ("unicode/utf8.first", laid_unicode_utf8_first)], narrowed := true }
def LifePaysUptoSaid : Prop := lifePaysUptoRow.holds Tryz.pinned (OpenSpec.upto lifePaysSpec)

/-- 'bulwarklaw19.LifeDays', WHERE WHAT IT READS IS OF BULK AT MOST 1048576: true; the input reads as it did. -/
def lifeDaysUptoRow : OpenClaim := { program := "ytcepekniflaoaaagreatdoor", sum := "115894f70994a1e0ff079666ef356b6adeaa9e7edd9fb9b342e57bc388f9890f", func := "bulwark/bulwarklaw19.LifeDays", spec := "lifeDays", inPlace := ["math/bits.Add64", "internal/bytealg.IndexByteString", "internal/bytealg.IndexString"], unfollowed := true, recurses := true, named := ["math/bits.divideError", "math/bits.overflowError", "unicode/utf8.first", "unicode/utf8.acceptRanges", "bulwark/grid.shifts", "bulwark/grid.vols", "internal/bytealg.MaxLen"], apart := false, laid := [("unicode/utf8.acceptRanges", laid_unicode_utf8_acceptRanges), ("bulwark/grid.shifts", laid_bulwark_grid_shifts), ("bulwark/grid.vols", laid_bulwark_grid_vols), ("unicode/utf8.first", laid_unicode_utf8_first)], narrowed := true }
def LifeDaysUptoSaid : Prop := lifeDaysUptoRow.holds Tryz.pinned (OpenSpec.upto lifeDaysSpec)

end Rows
end Go.Proofs.YtcepekniflaoaaaGreatDoor

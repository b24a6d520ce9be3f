/-
  NARROWER THAN 'FOR EVERY INPUT', by the rows' own cells (each row's printed sentence says how): MarginNeeds: laid · MarginLosses: laid · MarginApart: laid · MarginLess: laid · MarginWorst: laid · MarginFlags: laid · MarginKeeps: laid · MarginNothing: laid.
  DERIVED. THE GIVEN ROWS OF THIS SEAT. 8 by the template 'for every input the law returns true; each argument reads behind the call as it read before'; 0 by the template 'total and deterministic' (their statements: YtcjbhgnlmmeeeaaGreatDoorTotals.lean).
  GIVEN WITH THE SEED: the statements are not yours to turn. If you find one false, say at which input.
  Laid BY PROGRAM, IN A SANDBOX (cutbox-rows.mjs): the forced cells as the released guide's own fill.sh prints them over the translation a2cde1a08c113770… (all of the seat's roots in one cut). By AI agents, Wed Nov 11 2026. No macro, syntax, notation, axiom, sorry.
-/
import Derived.Test.YtcjbhgnlmmeeeaaGreatDoorChecked
import GoSem.PinnedTables
import GoSem.Claim
import GoSem.ClaimJoined
import GoSem.ClaimMapViews
import Derived.JoinedTies
import Derived.KernelRfl
namespace Go.Proofs.YtcjbhgnlmmeeeaaGreatDoor
/- THE CELL 'sum', in the pinned program and in every row, IS THE sha256 OF THE DUMP (.gsa) THAT YtcjbhgnlmmeeeaaGreatDoorProg.lean LOADS. Nothing in Lean hashes anything: it is a label: what it is worth is what the hold of that sum in a sandbox is worth. -/
noncomputable def Tryz.pinned : Pinned := { name := "ytcjbhgnlmmeeeaagreatdoor", sum := "a2cde1a08c113770bc76f9986c0b6843c5070819ffe5f962b0c7c3aa45813226", checked := Tryz.checked }
namespace Rows
def none {H : Type} : Left H := { results := [], args := [] }

/- WHAT THE LISTED PACKAGE-LEVEL VARIABLES READ AS WHEN THE CALL BEGINS. Each datum BY PROGRAM (the guide's laid-datum.mjs) off the statement by which the dump's own 'gosem.cut.vars' lays the variable. In a bare row this is a premise. The card (YtcjbhgnlmmeeeaaGreatDoorCards.lean) ties it to the program's text. -/
def laid_unicode_utf8_acceptRanges {H : Type} : DataW H := .agg [.agg [.lit (.int .u8 128), .lit (.int .u8 191)], .agg [.lit (.int .u8 160), .lit (.int .u8 191)], .agg [.lit (.int .u8 128), .lit (.int .u8 159)], .agg [.lit (.int .u8 144), .lit (.int .u8 191)], .agg [.lit (.int .u8 128), .lit (.int .u8 143)], .agg [.lit (.int .u8 0), .lit (.int .u8 0)], .agg [.lit (.int .u8 0), .lit (.int .u8 0)], .agg [.lit (.int .u8 0), .lit (.int .u8 0)], .agg [.lit (.int .u8 0), .lit (.int .u8 0)], .agg [.lit (.int .u8 0), .lit (.int .u8 0)], .agg [.lit (.int .u8 0), .lit (.int .u8 0)], .agg [.lit (.int .u8 0), .lit (.int .u8 0)], .agg [.lit (.int .u8 0), .lit (.int .u8 0)], .agg [.lit (.int .u8 0), .lit (.int .u8 0)], .agg [.lit (.int .u8 0), .lit (.int .u8 0)], .agg [.lit (.int .u8 0), .lit (.int .u8 0)]]
def laid_bulwark_grid_shifts {H : Type} : DataW H := .agg [.lit (.int .i64 (-2000)), .lit (.int .i64 (-1000)), .lit (.int .i64 (-500)), .lit (.int .i64 0), .lit (.int .i64 500), .lit (.int .i64 1000), .lit (.int .i64 2000)]
def laid_bulwark_grid_vols {H : Type} : DataW H := .agg [.lit (.int .i64 (-2500)), .lit (.int .i64 0), .lit (.int .i64 2500)]
/-- One of Go's own tables, pinned by name: the form's constant. -/
def laid_unicode_utf8_first : DataW Unit := Go.Pinned.utf8First

/-- 'bulwarklaw16.MarginNeeds': WHATEVER THE INPUT: true; the input reads as it did. -/
def marginNeedsSpec : ChangeSpec := { name := "marginNeeds", fn := fun _ => fun
  | [d1, d2] => { results := [.lit (.bool true)], args := [d1, d2] }
  | _ => none }
def marginNeedsRow : OpenClaim := { program := "ytcjbhgnlmmeeeaagreatdoor", sum := "a2cde1a08c113770bc76f9986c0b6843c5070819ffe5f962b0c7c3aa45813226", func := "bulwark/bulwarklaw16.MarginNeeds", spec := "marginNeeds", inPlace := ["internal/bytealg.IndexByteString", "internal/bytealg.IndexString", "math/bits.Add64"], unfollowed := true, recurses := true, named := ["unicode/utf8.first", "unicode/utf8.acceptRanges", "bulwark/grid.shifts", "bulwark/grid.vols", "math/bits.divideError", "math/bits.overflowError", "internal/bytealg.MaxLen"], apart := false, laid := [("unicode/utf8.acceptRanges", laid_unicode_utf8_acceptRanges), ("bulwark/grid.shifts", laid_bulwark_grid_shifts), ("bulwark/grid.vols", laid_bulwark_grid_vols), ("unicode/utf8.first", laid_unicode_utf8_first)] }
def MarginNeedsSaid : Prop := marginNeedsRow.holds Tryz.pinned (OpenSpec.ofChange marginNeedsSpec)

/-- ITS FALSE NEIGHBOUR: 'it returns false'. Refute it at one input. -/
def marginNeedsWrong : ChangeSpec := { name := "marginNeeds", fn := fun _ => fun
  | [d1, d2] => { results := [.lit (.bool false)], args := [d1, d2] }
  | _ => none }
def MarginNeedsWrongFalsely : Prop := marginNeedsRow.holds Tryz.pinned (OpenSpec.ofChange marginNeedsWrong)

/-- 'bulwarklaw16.MarginLosses': WHATEVER THE INPUT: true; the input reads as it did. -/
def marginLossesSpec : ChangeSpec := { name := "marginLosses", fn := fun _ => fun
  | [d1, d2] => { results := [.lit (.bool true)], args := [d1, d2] }
  | _ => none }
def marginLossesRow : OpenClaim := { program := "ytcjbhgnlmmeeeaagreatdoor", sum := "a2cde1a08c113770bc76f9986c0b6843c5070819ffe5f962b0c7c3aa45813226", func := "bulwark/bulwarklaw16.MarginLosses", spec := "marginLosses", inPlace := ["internal/bytealg.IndexByteString", "internal/bytealg.IndexString", "math/bits.Add64"], unfollowed := true, recurses := true, named := ["unicode/utf8.first", "unicode/utf8.acceptRanges", "bulwark/grid.shifts", "bulwark/grid.vols", "math/bits.divideError", "math/bits.overflowError", "internal/bytealg.MaxLen"], apart := false, laid := [("unicode/utf8.acceptRanges", laid_unicode_utf8_acceptRanges), ("bulwark/grid.shifts", laid_bulwark_grid_shifts), ("bulwark/grid.vols", laid_bulwark_grid_vols), ("unicode/utf8.first", laid_unicode_utf8_first)] }
def MarginLossesSaid : Prop := marginLossesRow.holds Tryz.pinned (OpenSpec.ofChange marginLossesSpec)

/-- ITS FALSE NEIGHBOUR: 'it returns false'. Refute it at one input. -/
def marginLossesWrong : ChangeSpec := { name := "marginLosses", fn := fun _ => fun
  | [d1, d2] => { results := [.lit (.bool false)], args := [d1, d2] }
  | _ => none }
def MarginLossesWrongFalsely : Prop := marginLossesRow.holds Tryz.pinned (OpenSpec.ofChange marginLossesWrong)

/-- 'bulwarklaw16.MarginApart': WHATEVER THE INPUT: true; the input reads as it did. -/
def marginApartSpec : ChangeSpec := { name := "marginApart", fn := fun _ => fun
  | [d1, d2] => { results := [.lit (.bool true)], args := [d1, d2] }
  | _ => none }
def marginApartRow : OpenClaim := { program := "ytcjbhgnlmmeeeaagreatdoor", sum := "a2cde1a08c113770bc76f9986c0b6843c5070819ffe5f962b0c7c3aa45813226", func := "bulwark/bulwarklaw16.MarginApart", spec := "marginApart", inPlace := ["internal/bytealg.IndexByteString", "internal/bytealg.IndexString", "math/bits.Add64"], unfollowed := true, recurses := true, named := ["unicode/utf8.first", "unicode/utf8.acceptRanges", "bulwark/grid.shifts", "bulwark/grid.vols", "math/bits.divideError", "math/bits.overflowError", "internal/bytealg.MaxLen"], apart := false, laid := [("unicode/utf8.acceptRanges", laid_unicode_utf8_acceptRanges), ("bulwark/grid.shifts", laid_bulwark_grid_shifts), ("bulwark/grid.vols", laid_bulwark_grid_vols), ("unicode/utf8.first", laid_unicode_utf8_first)] }
def MarginApartSaid : Prop := marginApartRow.holds Tryz.pinned (OpenSpec.ofChange marginApartSpec)

/-- ITS FALSE NEIGHBOUR: 'it returns false'. Refute it at one input. -/
def marginApartWrong : ChangeSpec := { name := "marginApart", fn := fun _ => fun
  | [d1, d2] => { results := [.lit (.bool false)], args := [d1, d2] }
  | _ => none }
def MarginApartWrongFalsely : Prop := marginApartRow.holds Tryz.pinned (OpenSpec.ofChange marginApartWrong)

/-- 'bulwarklaw16.MarginLess': WHATEVER THE INPUT: true; the input reads as it did. -/
def marginLessSpec : ChangeSpec := { name := "marginLess", fn := fun _ => fun
  | [d1, d2, d3] => { results := [.lit (.bool true)], args := [d1, d2, d3] }
  | _ => none }
def marginLessRow : OpenClaim := { program := "ytcjbhgnlmmeeeaagreatdoor", sum := "a2cde1a08c113770bc76f9986c0b6843c5070819ffe5f962b0c7c3aa45813226", func := "bulwark/bulwarklaw16.MarginLess", spec := "marginLess", inPlace := ["internal/bytealg.IndexByteString", "internal/bytealg.IndexString", "math/bits.Add64"], unfollowed := true, recurses := true, named := ["unicode/utf8.first", "unicode/utf8.acceptRanges", "bulwark/grid.shifts", "bulwark/grid.vols", "math/bits.divideError", "math/bits.overflowError", "internal/bytealg.MaxLen"], apart := false, laid := [("unicode/utf8.acceptRanges", laid_unicode_utf8_acceptRanges), ("bulwark/grid.shifts", laid_bulwark_grid_shifts), ("bulwark/grid.vols", laid_bulwark_grid_vols), ("unicode/utf8.first", laid_unicode_utf8_first)] }
def MarginLessSaid : Prop := marginLessRow.holds Tryz.pinned (OpenSpec.ofChange marginLessSpec)

/-- ITS FALSE NEIGHBOUR: 'it returns false'. Refute it at one input. -/
def marginLessWrong : ChangeSpec := { name := "marginLess", fn := fun _ => fun
  | [d1, d2, d3] => { results := [.lit (.bool false)], args := [d1, d2, d3] }
  | _ => none }
def MarginLessWrongFalsely : Prop := marginLessRow.holds Tryz.pinned (OpenSpec.ofChange marginLessWrong)

/-- 'bulwarklaw16.MarginWorst': WHATEVER THE INPUT: true; the input reads as it did. -/
def marginWorstSpec : ChangeSpec := { name := "marginWorst", fn := fun _ => fun
  | [d1, d2, d3] => { results := [.lit (.bool true)], args := [d1, d2, d3] }
  | _ => none }
def marginWorstRow : OpenClaim := { program := "ytcjbhgnlmmeeeaagreatdoor", sum := "a2cde1a08c113770bc76f9986c0b6843c5070819ffe5f962b0c7c3aa45813226", func := "bulwark/bulwarklaw16.MarginWorst", spec := "marginWorst", inPlace := ["internal/bytealg.IndexByteString", "internal/bytealg.IndexString", "math/bits.Add64"], unfollowed := true, recurses := true, named := ["unicode/utf8.first", "unicode/utf8.acceptRanges", "bulwark/grid.shifts", "bulwark/grid.vols", "math/bits.divideError", "math/bits.overflowError", "internal/bytealg.MaxLen"], apart := false, laid := [("unicode/utf8.acceptRanges", laid_unicode_utf8_acceptRanges), ("bulwark/grid.shifts", laid_bulwark_grid_shifts), ("bulwark/grid.vols", laid_bulwark_grid_vols), ("unicode/utf8.first", laid_unicode_utf8_first)] }
def MarginWorstSaid : Prop := marginWorstRow.holds Tryz.pinned (OpenSpec.ofChange marginWorstSpec)

/-- ITS FALSE NEIGHBOUR: 'it returns false'. Refute it at one input. -/
def marginWorstWrong : ChangeSpec := { name := "marginWorst", fn := fun _ => fun
  | [d1, d2, d3] => { results := [.lit (.bool false)], args := [d1, d2, d3] }
  | _ => none }
def MarginWorstWrongFalsely : Prop := marginWorstRow.holds Tryz.pinned (OpenSpec.ofChange marginWorstWrong)

/-- 'bulwarklaw16.MarginFlags': WHATEVER THE INPUT: true; the input reads as it did. -/
def marginFlagsSpec : ChangeSpec := { name := "marginFlags", fn := fun _ => fun
  | [d] => { results := [.lit (.bool true)], args := [d] }
  | _ => none }
def marginFlagsRow : OpenClaim := { program := "ytcjbhgnlmmeeeaagreatdoor", sum := "a2cde1a08c113770bc76f9986c0b6843c5070819ffe5f962b0c7c3aa45813226", func := "bulwark/bulwarklaw16.MarginFlags", spec := "marginFlags", inPlace := ["internal/bytealg.IndexByteString", "internal/bytealg.IndexString", "math/bits.Add64"], unfollowed := true, recurses := true, named := ["unicode/utf8.first", "unicode/utf8.acceptRanges", "bulwark/grid.shifts", "bulwark/grid.vols", "math/bits.divideError", "math/bits.overflowError", "internal/bytealg.MaxLen"], apart := false, laid := [("unicode/utf8.acceptRanges", laid_unicode_utf8_acceptRanges), ("bulwark/grid.shifts", laid_bulwark_grid_shifts), ("bulwark/grid.vols", laid_bulwark_grid_vols), ("unicode/utf8.first", laid_unicode_utf8_first)] }
def MarginFlagsSaid : Prop := marginFlagsRow.holds Tryz.pinned (OpenSpec.ofChange marginFlagsSpec)

/-- ITS FALSE NEIGHBOUR: 'it returns false'. Refute it at one input. -/
def marginFlagsWrong : ChangeSpec := { name := "marginFlags", fn := fun _ => fun
  | [d] => { results := [.lit (.bool false)], args := [d] }
  | _ => none }
def MarginFlagsWrongFalsely : Prop := marginFlagsRow.holds Tryz.pinned (OpenSpec.ofChange marginFlagsWrong)

/-- 'bulwarklaw16.MarginKeeps': WHATEVER THE INPUT: true; the input reads as it did. -/
def marginKeepsSpec : ChangeSpec := { name := "marginKeeps", fn := fun _ => fun
  | [d1, d2] => { results := [.lit (.bool true)], args := [d1, d2] }
  | _ => none }
def marginKeepsRow : OpenClaim := { program := "ytcjbhgnlmmeeeaagreatdoor", sum := "a2cde1a08c113770bc76f9986c0b6843c5070819ffe5f962b0c7c3aa45813226", func := "bulwark/bulwarklaw16.MarginKeeps", spec := "marginKeeps", inPlace := ["internal/bytealg.IndexByteString", "internal/bytealg.IndexString", "math/bits.Add64"], unfollowed := true, recurses := true, named := ["unicode/utf8.first", "unicode/utf8.acceptRanges", "bulwark/grid.shifts", "bulwark/grid.vols", "math/bits.divideError", "math/bits.overflowError", "internal/bytealg.MaxLen"], apart := false, laid := [("unicode/utf8.acceptRanges", laid_unicode_utf8_acceptRanges), ("bulwark/grid.shifts", laid_bulwark_grid_shifts), ("bulwark/grid.vols", laid_bulwark_grid_vols), ("unicode/utf8.first", laid_unicode_utf8_first)] }
def MarginKeepsSaid : Prop := marginKeepsRow.holds Tryz.pinned (OpenSpec.ofChange marginKeepsSpec)

/-- ITS FALSE NEIGHBOUR: 'it returns false'. Refute it at one input. -/
def marginKeepsWrong : ChangeSpec := { name := "marginKeeps", fn := fun _ => fun
  | [d1, d2] => { results := [.lit (.bool false)], args := [d1, d2] }
  | _ => none }
def MarginKeepsWrongFalsely : Prop := marginKeepsRow.holds Tryz.pinned (OpenSpec.ofChange marginKeepsWrong)

/-- 'bulwarklaw16.MarginNothing': WHATEVER THE INPUT: true; the input reads as it did. -/
def marginNothingSpec : ChangeSpec := { name := "marginNothing", fn := fun _ => fun
  | [d1, d2] => { results := [.lit (.bool true)], args := [d1, d2] }
  | _ => none }
def marginNothingRow : OpenClaim := { program := "ytcjbhgnlmmeeeaagreatdoor", sum := "a2cde1a08c113770bc76f9986c0b6843c5070819ffe5f962b0c7c3aa45813226", func := "bulwark/bulwarklaw16.MarginNothing", spec := "marginNothing", inPlace := ["internal/bytealg.IndexByteString", "internal/bytealg.IndexString", "math/bits.Add64"], unfollowed := true, recurses := true, named := ["unicode/utf8.first", "unicode/utf8.acceptRanges", "bulwark/grid.shifts", "bulwark/grid.vols", "math/bits.divideError", "math/bits.overflowError", "internal/bytealg.MaxLen"], apart := false, laid := [("unicode/utf8.acceptRanges", laid_unicode_utf8_acceptRanges), ("bulwark/grid.shifts", laid_bulwark_grid_shifts), ("bulwark/grid.vols", laid_bulwark_grid_vols), ("unicode/utf8.first", laid_unicode_utf8_first)] }
def MarginNothingSaid : Prop := marginNothingRow.holds Tryz.pinned (OpenSpec.ofChange marginNothingSpec)

/-- ITS FALSE NEIGHBOUR: 'it returns false'. Refute it at one input. -/
def marginNothingWrong : ChangeSpec := { name := "marginNothing", fn := fun _ => fun
  | [d1, d2] => { results := [.lit (.bool false)], args := [d1, d2] }
  | _ => none }
def MarginNothingWrongFalsely : Prop := marginNothingRow.holds Tryz.pinned (OpenSpec.ofChange marginNothingWrong)

/- THE SECOND FORM. 'bulk': how many values and letters a reading holds, each counted each time it is reached (what is shared counts as often as it is met; a slice's spare places count too). A statement '..UptoSaid' is the law's where the arguments, and the package variables that the reading takes, are together of bulk at most 1048576: NARROWER than '..Said'. Prove '..Said' where nothing that the law and all that it calls make is longer than what came in: it says more and counts as full. Else prove '..UptoSaid'. A law counts once. -/
mutual
def uptoBulk {H : Type} : DataW H → Nat
  | .lit (.string bytes) => bytes.length + 1
  | .lit _ => 1
  | .nil => 1
  | .ptr d => uptoBulk d + 1
  | .slice elems spare => uptoBulkAll elems + uptoBulkAll spare + 1
  | .agg parts => uptoBulkAll parts + 1
  | .iface _ d => uptoBulk d + 1
  | .map entries => uptoBulkEntries entries + 1
  | .held _ => 1
def uptoBulkAll {H : Type} : List (DataW H) → Nat
  | [] => 0
  | d :: r => uptoBulk d + uptoBulkAll r
def uptoBulkEntries {H : Type} : List (Lit × DataW H) → Nat
  | [] => 0
  | x :: r => uptoBulkEntry x + uptoBulkEntries r
def uptoBulkEntry {H : Type} : Lit × DataW H → Nat
  | (.string bytes, d) => bytes.length + uptoBulk d + 1
  | (_, d) => uptoBulk d + 1
 end
def uptoSmall : (H : Type) → List (DataW H) → Bool := fun _ ds => decide (uptoBulkAll ds ≤ 1048576)
def OpenSpec.upto (s : _root_.Go.ChangeSpec) : _root_.Go.OpenSpec := { _root_.Go.OpenSpec.ofChange s with cond := some uptoSmall }

/-- 'bulwarklaw16.MarginNeeds', WHERE WHAT IT READS IS OF BULK AT MOST 1048576: true; the input reads as it did. -/
def marginNeedsUptoRow : OpenClaim := { program := "ytcjbhgnlmmeeeaagreatdoor", sum := "a2cde1a08c113770bc76f9986c0b6843c5070819ffe5f962b0c7c3aa45813226", func := "bulwark/bulwarklaw16.MarginNeeds", spec := "marginNeeds", inPlace := ["internal/bytealg.IndexByteString", "internal/bytealg.IndexString", "math/bits.Add64"], unfollowed := true, recurses := true, named := ["unicode/utf8.first", "unicode/utf8.acceptRanges", "bulwark/grid.shifts", "bulwark/grid.vols", "math/bits.divideError", "math/bits.overflowError", "internal/bytealg.MaxLen"], apart := false, laid := [("unicode/utf8.acceptRanges", laid_unicode_utf8_acceptRanges), ("bulwark/grid.shifts", laid_bulwark_grid_shifts), ("bulwark/grid.vols", laid_bulwark_grid_vols), ("unicode/utf8.first", laid_unicode_utf8_first)], narrowed := true }
def MarginNeedsUptoSaid : Prop := marginNeedsUptoRow.holds Tryz.pinned (OpenSpec.upto marginNeedsSpec)

/-- 'bulwarklaw16.MarginLosses', WHERE WHAT IT READS IS OF BULK AT MOST 1048576: true; the input reads as it did. -/
def marginLossesUptoRow : OpenClaim := { program := "ytcjbhgnlmmeeeaagreatdoor", sum := "a2cde1a08c113770bc76f9986c0b6843c5070819ffe5f962b0c7c3aa45813226", func := "bulwark/bulwarklaw16.MarginLosses", spec := "marginLosses", inPlace := ["internal/bytealg.IndexByteString", "internal/bytealg.IndexString", "math/bits.Add64"], unfollowed := true, recurses := true, named := ["unicode/utf8.first", "unicode/utf8.acceptRanges", "bulwark/grid.shifts", "bulwark/grid.vols", "math/bits.divideError", "math/bits.overflowError", "internal/bytealg.MaxLen"], apart := false, laid := [("unicode/utf8.acceptRanges", laid_unicode_utf8_acceptRanges), ("bulwark/grid.shifts", laid_bulwark_grid_shifts), ("bulwark/grid.vols", laid_bulwark_grid_vols), ("unicode/utf8.first", laid_unicode_utf8_first)], narrowed := true }
def MarginLossesUptoSaid : Prop := marginLossesUptoRow.holds Tryz.pinned (OpenSpec.upto marginLossesSpec)

/-- 'bulwarklaw16.MarginApart', WHERE WHAT IT READS IS OF BULK AT MOST 1048576: true; the input reads as it did. -/
def marginApartUptoRow : OpenClaim := { program := "ytcjbhgnlmmeeeaagreatdoor", sum := "a2cde1a08c113770bc76f9986c0b6843c5070819ffe5f962b0c7c3aa45813226", func := "bulwark/bulwarklaw16.MarginApart", spec := "marginApart", inPlace := ["internal/bytealg.IndexByteString", "internal/bytealg.IndexString", "math/bits.Add64"], unfollowed := true, recurses := true, named := ["unicode/utf8.first", "unicode/utf8.acceptRanges", "bulwark/grid.shifts", "bulwark/grid.vols", "math/bits.divideError", "math/bits.overflowError", "internal/bytealg.MaxLen"], apart := false, laid := [("unicode/utf8.acceptRanges", laid_unicode_utf8_acceptRanges), ("bulwark/grid.shifts", laid_bulwark_grid_shifts), ("bulwark/grid.vols", laid_bulwark_grid_vols), ("unicode/utf8.first", laid_unicode_utf8_first)], narrowed := true }
def MarginApartUptoSaid : Prop := marginApartUptoRow.holds Tryz.pinned (OpenSpec.upto marginApartSpec)

/-- 'bulwarklaw16.MarginLess', WHERE WHAT IT READS IS OF BULK AT MOST 1048576: true; the input reads as it did. -/
def marginLessUptoRow : OpenClaim := { program := "ytcjbhgnlmmeeeaagreatdoor", sum := "a2cde1a08c113770bc76f9986c0b6843c5070819ffe5f962b0c7c3aa45813226", func := "bulwark/bulwarklaw16.MarginLess", spec := "marginLess", inPlace := ["internal/bytealg.IndexByteString", "internal/bytealg.IndexString", "math/bits.Add64"], unfollowed := true, recurses := true, named := ["unicode/utf8.first", "unicode/utf8.acceptRanges", "bulwark/grid.shifts", "bulwark/grid.vols", "math/bits.divideError", "math/bits.overflowError", "internal/bytealg.MaxLen"], apart := false, laid := [("unicode/utf8.acceptRanges", laid_unicode_utf8_acceptRanges), ("bulwark/grid.shifts", laid_bulwark_grid_shifts), ("bulwark/grid.vols", laid_bulwark_grid_vols), ("unicode/utf8.first", laid_unicode_utf8_first)], narrowed := true }
def MarginLessUptoSaid : Prop := marginLessUptoRow.holds Tryz.pinned (OpenSpec.upto marginLessSpec)

/-- 'bulwarklaw16.MarginWorst', WHERE WHAT IT READS IS OF BULK AT MOST 1048576: true; the input reads as it did. -/
def marginWorstUptoRow : OpenClaim := { program := "ytcjbhgnlmmeeeaagreatdoor", sum := "a2cde1a08c113770bc76f9986c0b6843c5070819ffe5f962b0c7c3aa45813226", func := "bulwark/bulwarklaw16.MarginWorst", spec := "marginWorst", inPlace := ["internal/bytealg.IndexByteString", "internal/bytealg.IndexString", "math/bits.Add64"], unfollowed := true, recurses := true, named := ["unicode/utf8.first", "unicode/utf8.acceptRanges", "bulwark/grid.shifts", "bulwark/grid.vols", "math/bits.divideError", "math/bits.overflowError", "internal/bytealg.MaxLen"], apart := false, laid := [("unicode/utf8.acceptRanges", laid_unicode_utf8_acceptRanges), ("bulwark/grid.shifts", laid_bulwark_grid_shifts), ("bulwark/grid.vols", laid_bulwark_grid_vols), ("unicode/utf8.first", laid_unicode_utf8_first)], narrowed := true }
def MarginWorstUptoSaid : Prop := marginWorstUptoRow.holds Tryz.pinned (OpenSpec.upto marginWorstSpec)

/-- 'bulwarklaw16.MarginFlags', WHERE WHAT IT READS IS OF BULK AT MOST 1048576: true; the input reads as it did. -/
def marginFlagsUptoRow : OpenClaim := { program := "ytcjbhgnlmmeeeaagreatdoor", sum := "a2cde1a08c113770bc76f9986c0b6843c5070819ffe5f962b0c7c3aa45813226", func := "bulwark/bulwarklaw16.MarginFlags", spec := "marginFlags", inPlace := ["internal/bytealg.IndexByteString", "internal/bytealg.IndexString", "math/bits.Add64"], unfollowed := true, recurses := true, named := ["unicode/utf8.first", "unicode/utf8.acceptRanges", "bulwark/grid.shifts", "bulwark/grid.vols", "math/bits.divideError", "math/bits.overflowError", "internal/bytealg.MaxLen"], apart := false, laid := [("unicode/utf8.acceptRanges", laid_unicode_utf8_acceptRanges), ("bulwark/grid.shifts", laid_bulwark_grid_shifts), ("bulwark/grid.vols", laid_bulwark_grid_vols), ("unicode/utf8.first", laid_unicode_utf8_first)], narrowed := true }
def MarginFlagsUptoSaid : Prop := marginFlagsUptoRow.holds Tryz.pinned (OpenSpec.upto marginFlagsSpec)

/-- 'bulwarklaw16.MarginKeeps', WHERE WHAT IT READS IS OF BULK AT MOST 1048576: true; the input reads as it did. -/
def marginKeepsUptoRow : OpenClaim := { program := "ytcjbhgnlmmeeeaagreatdoor", sum := "a2cde1a08c113770bc76f9986c0b6843c5070819ffe5f962b0c7c3aa45813226", func := "bulwark/bulwarklaw16.MarginKeeps", spec := "marginKeeps", inPlace := ["internal/bytealg.IndexByteString", "internal/bytealg.IndexString", "math/bits.Add64"], unfollowed := true, recurses := true, named := ["unicode/utf8.first", "unicode/utf8.acceptRanges", "bulwark/grid.shifts", "bulwark/grid.vols", "math/bits.divideError", "math/bits.overflowError", "internal/bytealg.MaxLen"], apart := false, laid := [("unicode/utf8.acceptRanges", laid_unicode_utf8_acceptRanges), ("bulwark/grid.shifts", laid_bulwark_grid_shifts), ("bulwark/grid.vols", laid_bulwark_grid_vols), ("unicode/utf8.first", laid_unicode_utf8_first)], narrowed := true }
def MarginKeepsUptoSaid : Prop := marginKeepsUptoRow.holds Tryz.pinned (OpenSpec.upto marginKeepsSpec)

/-- 'bulwarklaw16.MarginNothing', WHERE WHAT IT READS IS OF BULK AT MOST 1048576: true; the input reads as it did. -/
def marginNothingUptoRow : OpenClaim := { program := "ytcjbhgnlmmeeeaagreatdoor", sum := "a2cde1a08c113770bc76f9986c0b6843c5070819ffe5f962b0c7c3aa45813226", func := "bulwark/bulwarklaw16.MarginNothing", spec := "marginNothing", inPlace := ["internal/bytealg.IndexByteString", "internal/bytealg.IndexString", "math/bits.Add64"], unfollowed := true, recurses := true, named := ["unicode/utf8.first", "unicode/utf8.acceptRanges", "bulwark/grid.shifts", "bulwark/grid.vols", "math/bits.divideError", "math/bits.overflowError", "internal/bytealg.MaxLen"], apart := false, laid := [("unicode/utf8.acceptRanges", laid_unicode_utf8_acceptRanges), ("bulwark/grid.shifts", laid_bulwark_grid_shifts), ("bulwark/grid.vols", laid_bulwark_grid_vols), ("unicode/utf8.first", laid_unicode_utf8_first)], narrowed := true }
def MarginNothingUptoSaid : Prop := marginNothingUptoRow.holds Tryz.pinned (OpenSpec.upto marginNothingSpec)

end Rows
end Go.Proofs.YtcjbhgnlmmeeeaaGreatDoor

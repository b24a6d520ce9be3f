/-
  NARROWER THAN 'FOR EVERY INPUT', by the rows' own cells (each row's printed sentence says how): AdminThings: laid · AdminAccounts: laid · AdminMarkets: laid · AdminLocates: laid · AdminFlags: laid · AdminKeeps: laid · AdminStays: laid · AdminAlone: laid.
  DERIVED. THE GIVEN ROWS OF THIS SEAT. 8 by the template 'for every input the law returns true; each argument reads behind the call as it read before'; 0 by the template 'total and deterministic' (their statements: YtnkpdfjnjmmleaaGreatDoorTotals.lean).
  GIVEN WITH THE SEED: the statements are not yours to turn. If you find one false, say at which input.
  Laid BY PROGRAM, IN A SANDBOX (cutbox-rows.mjs): the forced cells as the released guide's own fill.sh prints them over the translation bd826aee776bae05… (all of the seat's roots in one cut). By AI agents, Wed Nov 11 2026. No macro, syntax, notation, axiom, sorry.
-/
import Derived.Test.YtnkpdfjnjmmleaaGreatDoorChecked
import GoSem.PinnedTables
import GoSem.Claim
import GoSem.ClaimJoined
import GoSem.ClaimMapViews
import Derived.JoinedTies
import Derived.KernelRfl
namespace Go.Proofs.YtnkpdfjnjmmleaaGreatDoor
/- THE CELL 'sum', in the pinned program and in every row, IS THE sha256 OF THE DUMP (.gsa) THAT YtnkpdfjnjmmleaaGreatDoorProg.lean LOADS. Nothing in Lean hashes anything: it is a label: what it is worth is what the hold of that sum in a sandbox is worth. -/
noncomputable def Tryz.pinned : Pinned := { name := "ytnkpdfjnjmmleaagreatdoor", sum := "bd826aee776bae05b96f9031dcb88e168dfe465c442299f4acf1b48623a04395", checked := Tryz.checked }
namespace Rows
def none {H : Type} : Left H := { results := [], args := [] }

/- WHAT THE LISTED PACKAGE-LEVEL VARIABLES READ AS WHEN THE CALL BEGINS. Each datum BY PROGRAM (the guide's laid-datum.mjs) off the statement by which the dump's own 'gosem.cut.vars' lays the variable. In a bare row this is a premise. The card (YtnkpdfjnjmmleaaGreatDoorCards.lean) ties it to the program's text. -/
def laid_unicode_utf8_acceptRanges {H : Type} : DataW H := .agg [.agg [.lit (.int .u8 128), .lit (.int .u8 191)], .agg [.lit (.int .u8 160), .lit (.int .u8 191)], .agg [.lit (.int .u8 128), .lit (.int .u8 159)], .agg [.lit (.int .u8 144), .lit (.int .u8 191)], .agg [.lit (.int .u8 128), .lit (.int .u8 143)], .agg [.lit (.int .u8 0), .lit (.int .u8 0)], .agg [.lit (.int .u8 0), .lit (.int .u8 0)], .agg [.lit (.int .u8 0), .lit (.int .u8 0)], .agg [.lit (.int .u8 0), .lit (.int .u8 0)], .agg [.lit (.int .u8 0), .lit (.int .u8 0)], .agg [.lit (.int .u8 0), .lit (.int .u8 0)], .agg [.lit (.int .u8 0), .lit (.int .u8 0)], .agg [.lit (.int .u8 0), .lit (.int .u8 0)], .agg [.lit (.int .u8 0), .lit (.int .u8 0)], .agg [.lit (.int .u8 0), .lit (.int .u8 0)], .agg [.lit (.int .u8 0), .lit (.int .u8 0)]]
def laid_bulwark_grid_shifts {H : Type} : DataW H := .agg [.lit (.int .i64 (-2000)), .lit (.int .i64 (-1000)), .lit (.int .i64 (-500)), .lit (.int .i64 0), .lit (.int .i64 500), .lit (.int .i64 1000), .lit (.int .i64 2000)]
def laid_bulwark_grid_vols {H : Type} : DataW H := .agg [.lit (.int .i64 (-2500)), .lit (.int .i64 0), .lit (.int .i64 2500)]
/-- One of Go's own tables, pinned by name: the form's constant. -/
def laid_unicode_utf8_first : DataW Unit := Go.Pinned.utf8First

/-- 'bulwarklaw18.AdminThings': WHATEVER THE INPUT: true; the input reads as it did. -/
def adminThingsSpec : ChangeSpec := { name := "adminThings", fn := fun _ => fun
  | [d1, d2, d3] => { results := [.lit (.bool true)], args := [d1, d2, d3] }
  | _ => none }
def adminThingsRow : OpenClaim := { program := "ytnkpdfjnjmmleaagreatdoor", sum := "bd826aee776bae05b96f9031dcb88e168dfe465c442299f4acf1b48623a04395", func := "bulwark/bulwarklaw18.AdminThings", spec := "adminThings", inPlace := ["internal/bytealg.IndexByteString", "internal/bytealg.IndexString", "math/bits.Add64"], unfollowed := true, recurses := true, named := ["unicode/utf8.first", "unicode/utf8.acceptRanges", "math/bits.divideError", "math/bits.overflowError", "bulwark/grid.shifts", "bulwark/grid.vols", "internal/bytealg.MaxLen"], apart := false, laid := [("unicode/utf8.acceptRanges", laid_unicode_utf8_acceptRanges), ("bulwark/grid.shifts", laid_bulwark_grid_shifts), ("bulwark/grid.vols", laid_bulwark_grid_vols), ("unicode/utf8.first", laid_unicode_utf8_first)] }
def AdminThingsSaid : Prop := adminThingsRow.holds Tryz.pinned (OpenSpec.ofChange adminThingsSpec)

/-- ITS FALSE NEIGHBOUR: 'it returns false'. Refute it at one input. -/
def adminThingsWrong : ChangeSpec := { name := "adminThings", fn := fun _ => fun
  | [d1, d2, d3] => { results := [.lit (.bool false)], args := [d1, d2, d3] }
  | _ => none }
def AdminThingsWrongFalsely : Prop := adminThingsRow.holds Tryz.pinned (OpenSpec.ofChange adminThingsWrong)

/-- 'bulwarklaw18.AdminAccounts': WHATEVER THE INPUT: true; the input reads as it did. -/
def adminAccountsSpec : ChangeSpec := { name := "adminAccounts", fn := fun _ => fun
  | [d1, d2, d3] => { results := [.lit (.bool true)], args := [d1, d2, d3] }
  | _ => none }
def adminAccountsRow : OpenClaim := { program := "ytnkpdfjnjmmleaagreatdoor", sum := "bd826aee776bae05b96f9031dcb88e168dfe465c442299f4acf1b48623a04395", func := "bulwark/bulwarklaw18.AdminAccounts", spec := "adminAccounts", inPlace := ["internal/bytealg.IndexByteString", "internal/bytealg.IndexString", "math/bits.Add64"], unfollowed := true, recurses := true, named := ["unicode/utf8.first", "unicode/utf8.acceptRanges", "math/bits.divideError", "math/bits.overflowError", "bulwark/grid.shifts", "bulwark/grid.vols", "internal/bytealg.MaxLen"], apart := false, laid := [("unicode/utf8.acceptRanges", laid_unicode_utf8_acceptRanges), ("bulwark/grid.shifts", laid_bulwark_grid_shifts), ("bulwark/grid.vols", laid_bulwark_grid_vols), ("unicode/utf8.first", laid_unicode_utf8_first)] }
def AdminAccountsSaid : Prop := adminAccountsRow.holds Tryz.pinned (OpenSpec.ofChange adminAccountsSpec)

/-- ITS FALSE NEIGHBOUR: 'it returns false'. Refute it at one input. -/
def adminAccountsWrong : ChangeSpec := { name := "adminAccounts", fn := fun _ => fun
  | [d1, d2, d3] => { results := [.lit (.bool false)], args := [d1, d2, d3] }
  | _ => none }
def AdminAccountsWrongFalsely : Prop := adminAccountsRow.holds Tryz.pinned (OpenSpec.ofChange adminAccountsWrong)

/-- 'bulwarklaw18.AdminMarkets': WHATEVER THE INPUT: true; the input reads as it did. -/
def adminMarketsSpec : ChangeSpec := { name := "adminMarkets", fn := fun _ => fun
  | [d1, d2, d3] => { results := [.lit (.bool true)], args := [d1, d2, d3] }
  | _ => none }
def adminMarketsRow : OpenClaim := { program := "ytnkpdfjnjmmleaagreatdoor", sum := "bd826aee776bae05b96f9031dcb88e168dfe465c442299f4acf1b48623a04395", func := "bulwark/bulwarklaw18.AdminMarkets", spec := "adminMarkets", inPlace := ["internal/bytealg.IndexByteString", "internal/bytealg.IndexString", "math/bits.Add64"], unfollowed := true, recurses := true, named := ["unicode/utf8.first", "unicode/utf8.acceptRanges", "math/bits.divideError", "math/bits.overflowError", "bulwark/grid.shifts", "bulwark/grid.vols", "internal/bytealg.MaxLen"], apart := false, laid := [("unicode/utf8.acceptRanges", laid_unicode_utf8_acceptRanges), ("bulwark/grid.shifts", laid_bulwark_grid_shifts), ("bulwark/grid.vols", laid_bulwark_grid_vols), ("unicode/utf8.first", laid_unicode_utf8_first)] }
def AdminMarketsSaid : Prop := adminMarketsRow.holds Tryz.pinned (OpenSpec.ofChange adminMarketsSpec)

/-- ITS FALSE NEIGHBOUR: 'it returns false'. Refute it at one input. -/
def adminMarketsWrong : ChangeSpec := { name := "adminMarkets", fn := fun _ => fun
  | [d1, d2, d3] => { results := [.lit (.bool false)], args := [d1, d2, d3] }
  | _ => none }
def AdminMarketsWrongFalsely : Prop := adminMarketsRow.holds Tryz.pinned (OpenSpec.ofChange adminMarketsWrong)

/-- 'bulwarklaw18.AdminLocates': WHATEVER THE INPUT: true; the input reads as it did. -/
def adminLocatesSpec : ChangeSpec := { name := "adminLocates", fn := fun _ => fun
  | [d1, d2, d3] => { results := [.lit (.bool true)], args := [d1, d2, d3] }
  | _ => none }
def adminLocatesRow : OpenClaim := { program := "ytnkpdfjnjmmleaagreatdoor", sum := "bd826aee776bae05b96f9031dcb88e168dfe465c442299f4acf1b48623a04395", func := "bulwark/bulwarklaw18.AdminLocates", spec := "adminLocates", inPlace := ["internal/bytealg.IndexByteString", "internal/bytealg.IndexString", "math/bits.Add64", "slices.overlaps[bulwark/api.Loc]"], unfollowed := true, recurses := true, named := ["unicode/utf8.first", "unicode/utf8.acceptRanges", "math/bits.divideError", "math/bits.overflowError", "bulwark/grid.shifts", "bulwark/grid.vols", "internal/bytealg.MaxLen"], apart := false, laid := [("unicode/utf8.acceptRanges", laid_unicode_utf8_acceptRanges), ("bulwark/grid.shifts", laid_bulwark_grid_shifts), ("bulwark/grid.vols", laid_bulwark_grid_vols), ("unicode/utf8.first", laid_unicode_utf8_first)] }
def AdminLocatesSaid : Prop := adminLocatesRow.holds Tryz.pinned (OpenSpec.ofChange adminLocatesSpec)

/-- ITS FALSE NEIGHBOUR: 'it returns false'. Refute it at one input. -/
def adminLocatesWrong : ChangeSpec := { name := "adminLocates", fn := fun _ => fun
  | [d1, d2, d3] => { results := [.lit (.bool false)], args := [d1, d2, d3] }
  | _ => none }
def AdminLocatesWrongFalsely : Prop := adminLocatesRow.holds Tryz.pinned (OpenSpec.ofChange adminLocatesWrong)

/-- 'bulwarklaw18.AdminFlags': WHATEVER THE INPUT: true; the input reads as it did. -/
def adminFlagsSpec : ChangeSpec := { name := "adminFlags", fn := fun _ => fun
  | [d1, d2] => { results := [.lit (.bool true)], args := [d1, d2] }
  | _ => none }
def adminFlagsRow : OpenClaim := { program := "ytnkpdfjnjmmleaagreatdoor", sum := "bd826aee776bae05b96f9031dcb88e168dfe465c442299f4acf1b48623a04395", func := "bulwark/bulwarklaw18.AdminFlags", spec := "adminFlags", inPlace := ["internal/bytealg.IndexByteString", "internal/bytealg.IndexString", "math/bits.Add64", "slices.overlaps[bulwark/api.Loc]"], unfollowed := true, recurses := true, named := ["unicode/utf8.first", "unicode/utf8.acceptRanges", "math/bits.divideError", "math/bits.overflowError", "bulwark/grid.shifts", "bulwark/grid.vols", "internal/bytealg.MaxLen"], apart := false, laid := [("unicode/utf8.acceptRanges", laid_unicode_utf8_acceptRanges), ("bulwark/grid.shifts", laid_bulwark_grid_shifts), ("bulwark/grid.vols", laid_bulwark_grid_vols), ("unicode/utf8.first", laid_unicode_utf8_first)] }
def AdminFlagsSaid : Prop := adminFlagsRow.holds Tryz.pinned (OpenSpec.ofChange adminFlagsSpec)

/-- ITS FALSE NEIGHBOUR: 'it returns false'. Refute it at one input. -/
def adminFlagsWrong : ChangeSpec := { name := "adminFlags", fn := fun _ => fun
  | [d1, d2] => { results := [.lit (.bool false)], args := [d1, d2] }
  | _ => none }
def AdminFlagsWrongFalsely : Prop := adminFlagsRow.holds Tryz.pinned (OpenSpec.ofChange adminFlagsWrong)

/-- 'bulwarklaw18.AdminKeeps': WHATEVER THE INPUT: true; the input reads as it did. -/
def adminKeepsSpec : ChangeSpec := { name := "adminKeeps", fn := fun _ => fun
  | [d1, d2] => { results := [.lit (.bool true)], args := [d1, d2] }
  | _ => none }
def adminKeepsRow : OpenClaim := { program := "ytnkpdfjnjmmleaagreatdoor", sum := "bd826aee776bae05b96f9031dcb88e168dfe465c442299f4acf1b48623a04395", func := "bulwark/bulwarklaw18.AdminKeeps", spec := "adminKeeps", inPlace := ["internal/bytealg.IndexByteString", "internal/bytealg.IndexString", "math/bits.Add64", "slices.overlaps[bulwark/api.Loc]"], unfollowed := true, recurses := true, named := ["unicode/utf8.first", "unicode/utf8.acceptRanges", "math/bits.divideError", "math/bits.overflowError", "bulwark/grid.shifts", "bulwark/grid.vols", "internal/bytealg.MaxLen"], apart := false, laid := [("unicode/utf8.acceptRanges", laid_unicode_utf8_acceptRanges), ("bulwark/grid.shifts", laid_bulwark_grid_shifts), ("bulwark/grid.vols", laid_bulwark_grid_vols), ("unicode/utf8.first", laid_unicode_utf8_first)] }
def AdminKeepsSaid : Prop := adminKeepsRow.holds Tryz.pinned (OpenSpec.ofChange adminKeepsSpec)

/-- ITS FALSE NEIGHBOUR: 'it returns false'. Refute it at one input. -/
def adminKeepsWrong : ChangeSpec := { name := "adminKeeps", fn := fun _ => fun
  | [d1, d2] => { results := [.lit (.bool false)], args := [d1, d2] }
  | _ => none }
def AdminKeepsWrongFalsely : Prop := adminKeepsRow.holds Tryz.pinned (OpenSpec.ofChange adminKeepsWrong)

/-- 'bulwarklaw18.AdminStays': WHATEVER THE INPUT: true; the input reads as it did. -/
def adminStaysSpec : ChangeSpec := { name := "adminStays", fn := fun _ => fun
  | [d1, d2] => { results := [.lit (.bool true)], args := [d1, d2] }
  | _ => none }
def adminStaysRow : OpenClaim := { program := "ytnkpdfjnjmmleaagreatdoor", sum := "bd826aee776bae05b96f9031dcb88e168dfe465c442299f4acf1b48623a04395", func := "bulwark/bulwarklaw18.AdminStays", spec := "adminStays", inPlace := ["internal/bytealg.IndexByteString", "internal/bytealg.IndexString", "math/bits.Add64", "slices.overlaps[bulwark/api.Loc]"], unfollowed := true, recurses := true, named := ["unicode/utf8.first", "unicode/utf8.acceptRanges", "math/bits.divideError", "math/bits.overflowError", "bulwark/grid.shifts", "bulwark/grid.vols", "internal/bytealg.MaxLen"], apart := false, laid := [("unicode/utf8.acceptRanges", laid_unicode_utf8_acceptRanges), ("bulwark/grid.shifts", laid_bulwark_grid_shifts), ("bulwark/grid.vols", laid_bulwark_grid_vols), ("unicode/utf8.first", laid_unicode_utf8_first)] }
def AdminStaysSaid : Prop := adminStaysRow.holds Tryz.pinned (OpenSpec.ofChange adminStaysSpec)

/-- ITS FALSE NEIGHBOUR: 'it returns false'. Refute it at one input. -/
def adminStaysWrong : ChangeSpec := { name := "adminStays", fn := fun _ => fun
  | [d1, d2] => { results := [.lit (.bool false)], args := [d1, d2] }
  | _ => none }
def AdminStaysWrongFalsely : Prop := adminStaysRow.holds Tryz.pinned (OpenSpec.ofChange adminStaysWrong)

/-- 'bulwarklaw18.AdminAlone': WHATEVER THE INPUT: true; the input reads as it did. -/
def adminAloneSpec : ChangeSpec := { name := "adminAlone", fn := fun _ => fun
  | [d1, d2] => { results := [.lit (.bool true)], args := [d1, d2] }
  | _ => none }
def adminAloneRow : OpenClaim := { program := "ytnkpdfjnjmmleaagreatdoor", sum := "bd826aee776bae05b96f9031dcb88e168dfe465c442299f4acf1b48623a04395", func := "bulwark/bulwarklaw18.AdminAlone", spec := "adminAlone", inPlace := ["internal/bytealg.IndexByteString", "internal/bytealg.IndexString", "math/bits.Add64", "slices.overlaps[bulwark/api.Loc]"], unfollowed := true, recurses := true, named := ["unicode/utf8.first", "unicode/utf8.acceptRanges", "math/bits.divideError", "math/bits.overflowError", "bulwark/grid.shifts", "bulwark/grid.vols", "internal/bytealg.MaxLen"], apart := false, laid := [("unicode/utf8.acceptRanges", laid_unicode_utf8_acceptRanges), ("bulwark/grid.shifts", laid_bulwark_grid_shifts), ("bulwark/grid.vols", laid_bulwark_grid_vols), ("unicode/utf8.first", laid_unicode_utf8_first)] }
def AdminAloneSaid : Prop := adminAloneRow.holds Tryz.pinned (OpenSpec.ofChange adminAloneSpec)

/-- ITS FALSE NEIGHBOUR: 'it returns false'. Refute it at one input. -/
def adminAloneWrong : ChangeSpec := { name := "adminAlone", fn := fun _ => fun
  | [d1, d2] => { results := [.lit (.bool false)], args := [d1, d2] }
  | _ => none }
def AdminAloneWrongFalsely : Prop := adminAloneRow.holds Tryz.pinned (OpenSpec.ofChange adminAloneWrong)

/- THE SECOND FORM. 'bulk': how many values and letters a reading holds, each counted each time it is reached (what is shared counts as often as it is met; a slice's spare places count too). A statement '..UptoSaid' is the law's where the arguments, and the package variables that the reading takes, are together of bulk at most 1048576: NARROWER than '..Said'. Prove '..Said' where nothing that the law and all that it calls make is longer than what came in: it says more and counts as full. Else prove '..UptoSaid'. A law counts once. -/
mutual
def uptoBulk {H : Type} : DataW H → Nat
  | .lit (.string bytes) => bytes.length + 1
  | .lit _ => 1
  | .nil => 1
  | .ptr d => uptoBulk d + 1
  | .slice elems spare => uptoBulkAll elems + uptoBulkAll spare + 1
  | .agg parts => uptoBulkAll parts + 1
  | .iface _ d => uptoBulk d + 1
  | .map entries => uptoBulkEntries entries + 1
  | .held _ => 1
def uptoBulkAll {H : Type} : List (DataW H) → Nat
  | [] => 0
  | d :: r => uptoBulk d + uptoBulkAll r
def uptoBulkEntries {H : Type} : List (Lit × DataW H) → Nat
  | [] => 0
  | x :: r => uptoBulkEntry x + uptoBulkEntries r
def uptoBulkEntry {H : Type} : Lit × DataW H → Nat
  | (.string bytes, d) => bytes.length + uptoBulk d + 1
  | (_, d) => uptoBulk d + 1
 end
def uptoSmall : (H : Type) → List (DataW H) → Bool := fun _ ds => decide (uptoBulkAll ds ≤ 1048576)
def OpenSpec.upto (s : _root_.Go.ChangeSpec) : _root_.Go.OpenSpec := { _root_.Go.OpenSpec.ofChange s with cond := some uptoSmall }

/-- 'bulwarklaw18.AdminThings', WHERE WHAT IT READS IS OF BULK AT MOST 1048576: true; the input reads as it did. -/
def adminThingsUptoRow : OpenClaim := { program := "ytnkpdfjnjmmleaagreatdoor", sum := "bd826aee776bae05b96f9031dcb88e168dfe465c442299f4acf1b48623a04395", func := "bulwark/bulwarklaw18.AdminThings", spec := "adminThings", inPlace := ["internal/bytealg.IndexByteString", "internal/bytealg.IndexString", "math/bits.Add64"], unfollowed := true, recurses := true, named := ["unicode/utf8.first", "unicode/utf8.acceptRanges", "math/bits.divideError", "math/bits.overflowError", "bulwark/grid.shifts", "bulwark/grid.vols", "internal/bytealg.MaxLen"], apart := false, laid := [("unicode/utf8.acceptRanges", laid_unicode_utf8_acceptRanges), ("bulwark/grid.shifts", laid_bulwark_grid_shifts), ("bulwark/grid.vols", laid_bulwark_grid_vols), ("unicode/utf8.first", laid_unicode_utf8_first)], narrowed := true }
def AdminThingsUptoSaid : Prop := adminThingsUptoRow.holds Tryz.pinned (OpenSpec.upto adminThingsSpec)

/-- 'bulwarklaw18.AdminAccounts', WHERE WHAT IT READS IS OF BULK AT MOST 1048576: true; the input reads as it did. -/
def adminAccountsUptoRow : OpenClaim := { program := "ytnkpdfjnjmmleaagreatdoor", sum := "bd826aee776bae05b96f9031dcb88e168dfe465c442299f4acf1b48623a04395", func := "bulwark/bulwarklaw18.AdminAccounts", spec := "adminAccounts", inPlace := ["internal/bytealg.IndexByteString", "internal/bytealg.IndexString", "math/bits.Add64"], unfollowed := true, recurses := true, named := ["unicode/utf8.first", "unicode/utf8.acceptRanges", "math/bits.divideError", "math/bits.overflowError", "bulwark/grid.shifts", "bulwark/grid.vols", "internal/bytealg.MaxLen"], apart := false, laid := [("unicode/utf8.acceptRanges", laid_unicode_utf8_acceptRanges), ("bulwark/grid.shifts", laid_bulwark_grid_shifts), ("bulwark/grid.vols", laid_bulwark_grid_vols), ("unicode/utf8.first", laid_unicode_utf8_first)], narrowed := true }
def AdminAccountsUptoSaid : Prop := adminAccountsUptoRow.holds Tryz.pinned (OpenSpec.upto adminAccountsSpec)

/-- 'bulwarklaw18.AdminMarkets', WHERE WHAT IT READS IS OF BULK AT MOST 1048576: true; the input reads as it did. -/
def adminMarketsUptoRow : OpenClaim := { program := "ytnkpdfjnjmmleaagreatdoor", sum := "bd826aee776bae05b96f9031dcb88e168dfe465c442299f4acf1b48623a04395", func := "bulwark/bulwarklaw18.AdminMarkets", spec := "adminMarkets", inPlace := ["internal/bytealg.IndexByteString", "internal/bytealg.IndexString", "math/bits.Add64"], unfollowed := true, recurses := true, named := ["unicode/utf8.first", "unicode/utf8.acceptRanges", "math/bits.divideError", "math/bits.overflowError", "bulwark/grid.shifts", "bulwark/grid.vols", "internal/bytealg.MaxLen"], apart := false, laid := [("unicode/utf8.acceptRanges", laid_unicode_utf8_acceptRanges), ("bulwark/grid.shifts", laid_bulwark_grid_shifts), ("bulwark/grid.vols", laid_bulwark_grid_vols), ("unicode/utf8.first", laid_unicode_utf8_first)], narrowed := true }
def AdminMarketsUptoSaid : Prop := adminMarketsUptoRow.holds Tryz.pinned (OpenSpec.upto adminMarketsSpec)

/-- 'bulwarklaw18.AdminLocates', WHERE WHAT IT READS IS OF BULK AT MOST 1048576: true; the input reads as it did. -/
def adminLocatesUptoRow : OpenClaim := { program := "ytnkpdfjnjmmleaagreatdoor", sum := "bd826aee776bae05b96f9031dcb88e168dfe465c442299f4acf1b48623a04395", func := "bulwark/bulwarklaw18.AdminLocates", spec := "adminLocates", inPlace := ["internal/bytealg.IndexByteString", "internal/bytealg.IndexString", "math/bits.Add64", "slices.overlaps[bulwark/api.Loc]"], unfollowed := true, recurses := true, named := ["unicode/utf8.first", "unicode/utf8.acceptRanges", "math/bits.divideError", "math/bits.overflowError", "bulwark/grid.shifts", "bulwark/grid.vols", "internal/bytealg.MaxLen"], apart := false, laid := [("unicode/utf8.acceptRanges", laid_unicode_utf8_acceptRanges), ("bulwark/grid.shifts", laid_bulwark_grid_shifts), ("bulwark/grid.vols", laid_bulwark_grid_vols), ("unicode/utf8.first", laid_unicode_utf8_first)], narrowed := true }
def AdminLocatesUptoSaid : Prop := adminLocatesUptoRow.holds Tryz.pinned (OpenSpec.upto adminLocatesSpec)

/-- 'bulwarklaw18.AdminFlags', WHERE WHAT IT READS IS OF BULK AT MOST 1048576: true; the input reads as it did. -/
def adminFlagsUptoRow : OpenClaim := { program := "ytnkpdfjnjmmleaagreatdoor", sum := "bd826aee776bae05b96f9031dcb88e168dfe465c442299f4acf1b48623a04395", func := "bulwark/bulwarklaw18.AdminFlags", spec := "adminFlags", inPlace := ["internal/bytealg.IndexByteString", "internal/bytealg.IndexString", "math/bits.Add64", "slices.overlaps[bulwark/api.Loc]"], unfollowed := true, recurses := true, named := ["unicode/utf8.first", "unicode/utf8.acceptRanges", "math/bits.divideError", "math/bits.overflowError", "bulwark/grid.shifts", "bulwark/grid.vols", "internal/bytealg.MaxLen"], apart := false, laid := [("unicode/utf8.acceptRanges", laid_unicode_utf8_acceptRanges), ("bulwark/grid.shifts", laid_bulwark_grid_shifts), ("bulwark/grid.vols", laid_bulwark_grid_vols), ("unicode/utf8.first", laid_unicode_utf8_first)], narrowed := true }
def AdminFlagsUptoSaid : Prop := adminFlagsUptoRow.holds Tryz.pinned (OpenSpec.upto adminFlagsSpec)

/-- 'bulwarklaw18.AdminKeeps', WHERE WHAT IT READS IS OF BULK AT MOST 1048576: true; the input reads as it did. -/
def adminKeepsUptoRow : OpenClaim := { program := "ytnkpdfjnjmmleaagreatdoor", sum := "bd826aee776bae05b96f9031dcb88e168dfe465c442299f4acf1b48623a04395", func := "bulwark/bulwarklaw18.AdminKeeps", spec := "adminKeeps", inPlace := ["internal/bytealg.IndexByteString", "internal/bytealg.IndexString", "math/bits.Add64", "slices.overlaps[bulwark/api.Loc]"], unfollowed := true, recurses := true, named := ["unicode/utf8.first", "unicode/utf8.acceptRanges", "math/bits.divideError", "math/bits.overflowError", "bulwark/grid.shifts", "bulwark/grid.vols", "internal/bytealg.MaxLen"], apart := false, laid := [("unicode/utf8.acceptRanges", laid_unicode_utf8_acceptRanges), ("bulwark/grid.shifts", laid_bulwark_grid_shifts), ("bulwark/grid.vols", laid_bulwark_grid_vols), ("unicode/utf8.first", laid_unicode_utf8_first)], narrowed := true }
def AdminKeepsUptoSaid : Prop := adminKeepsUptoRow.holds Tryz.pinned (OpenSpec.upto adminKeepsSpec)

/-- 'bulwarklaw18.AdminStays', WHERE WHAT IT READS IS OF BULK AT MOST 1048576: true; the input reads as it did. -/
def adminStaysUptoRow : OpenClaim := { program := "ytnkpdfjnjmmleaagreatdoor", sum := "bd826aee776bae05b96f9031dcb88e168dfe465c442299f4acf1b48623a04395", func := "bulwark/bulwarklaw18.AdminStays", spec := "adminStays", inPlace := ["internal/bytealg.IndexByteString", "internal/bytealg.IndexString", "math/bits.Add64", "slices.overlaps[bulwark/api.Loc]"], unfollowed := true, recurses := true, named := ["unicode/utf8.first", "unicode/utf8.acceptRanges", "math/bits.divideError", "math/bits.overflowError", "bulwark/grid.shifts", "bulwark/grid.vols", "internal/bytealg.MaxLen"], apart := false, laid := [("unicode/utf8.acceptRanges", laid_unicode_utf8_acceptRanges), ("bulwark/grid.shifts", laid_bulwark_grid_shifts), ("bulwark/grid.vols", laid_bulwark_grid_vols), ("unicode/utf8.first", laid_unicode_utf8_first)], narrowed := true }
def AdminStaysUptoSaid : Prop := adminStaysUptoRow.holds Tryz.pinned (OpenSpec.upto adminStaysSpec)

/-- 'bulwarklaw18.AdminAlone', WHERE WHAT IT READS IS OF BULK AT MOST 1048576: true; the input reads as it did. -/
def adminAloneUptoRow : OpenClaim := { program := "ytnkpdfjnjmmleaagreatdoor", sum := "bd826aee776bae05b96f9031dcb88e168dfe465c442299f4acf1b48623a04395", func := "bulwark/bulwarklaw18.AdminAlone", spec := "adminAlone", inPlace := ["internal/bytealg.IndexByteString", "internal/bytealg.IndexString", "math/bits.Add64", "slices.overlaps[bulwark/api.Loc]"], unfollowed := true, recurses := true, named := ["unicode/utf8.first", "unicode/utf8.acceptRanges", "math/bits.divideError", "math/bits.overflowError", "bulwark/grid.shifts", "bulwark/grid.vols", "internal/bytealg.MaxLen"], apart := false, laid := [("unicode/utf8.acceptRanges", laid_unicode_utf8_acceptRanges), ("bulwark/grid.shifts", laid_bulwark_grid_shifts), ("bulwark/grid.vols", laid_bulwark_grid_vols), ("unicode/utf8.first", laid_unicode_utf8_first)], narrowed := true }
def AdminAloneUptoSaid : Prop := adminAloneUptoRow.holds Tryz.pinned (OpenSpec.upto adminAloneSpec)

end Rows
end Go.Proofs.YtnkpdfjnjmmleaaGreatDoor

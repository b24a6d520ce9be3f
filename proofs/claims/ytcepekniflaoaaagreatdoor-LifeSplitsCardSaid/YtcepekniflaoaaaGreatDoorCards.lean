/-
  DERIVED. GIVEN WITH THE SEED: THE CARDS: each row of YtcepekniflaoaaaGreatDoorRows.lean that lists a variable, with what it lists TIED to the program's text (the seventh form; the later family's looks); each row that meets fmt, with fmt's text TOLD by the authors' own Lean function (tested against real Go, not proved from fmt's source: count such statements apart). THE CARD IS WHAT COUNTS. Prove the row's statement (the work); the ties are given (YtcepekniflaoaaaGreatDoorTie.lean); close each card by the builder's one call (the guide's Derived/Test/ToyasCard.lean, 'card_holds'). Laid BY PROGRAM, IN A SANDBOX (cutbox-door.mjs). By AI agents, Wed Nov 11 2026. No macro, syntax, notation, axiom, sorry.
-/
import Derived.Test.YtcepekniflaoaaaGreatDoorRows
import GoSem.ClaimSeven
namespace Go.Proofs.YtcepekniflaoaaaGreatDoor
namespace Rows

/-- THE TIED CARD OF 'bulwarklaw19.LifeSplits'. -/
def lifeSplitsCard : Claim7 := { stood := { row := lifeSplitsRow, standIns := [], harness := (true, "d565cabe828fc3de06b15d644910dab2c590c354b8714e5b0d75319347ce7ccf"), looks := true }, kinds := [], alts := [], laidByText := true, laidKinds := [.data, .data, .data, .pinned], laidTests := true, laidLooks := .later }
def LifeSplitsCardSaid : Prop := Claim7.holds Tryz.pinned (.plain (OpenSpec.ofChange lifeSplitsSpec)) lifeSplitsCard

/-- THE TIED CARD OF 'bulwarklaw19.LifePays'. -/
def lifePaysCard : Claim7 := { stood := { row := lifePaysRow, standIns := [], harness := (true, "d565cabe828fc3de06b15d644910dab2c590c354b8714e5b0d75319347ce7ccf"), looks := true }, kinds := [], alts := [], laidByText := true, laidKinds := [.data, .data, .data, .pinned], laidTests := true, laidLooks := .later }
def LifePaysCardSaid : Prop := Claim7.holds Tryz.pinned (.plain (OpenSpec.ofChange lifePaysSpec)) lifePaysCard

/-- THE TIED CARD OF 'bulwarklaw19.LifeDays'. -/
def lifeDaysCard : Claim7 := { stood := { row := lifeDaysRow, standIns := [], harness := (true, "d565cabe828fc3de06b15d644910dab2c590c354b8714e5b0d75319347ce7ccf"), looks := true }, kinds := [], alts := [], laidByText := true, laidKinds := [.data, .data, .data, .pinned], laidTests := true, laidLooks := .later }
def LifeDaysCardSaid : Prop := Claim7.holds Tryz.pinned (.plain (OpenSpec.ofChange lifeDaysSpec)) lifeDaysCard

/-- THE SECOND FORM's CARD OF 'bulwarklaw19.LifeSplits'. -/
def lifeSplitsUptoCard : Claim7 := { stood := { row := lifeSplitsUptoRow, standIns := [], harness := (true, "d565cabe828fc3de06b15d644910dab2c590c354b8714e5b0d75319347ce7ccf"), looks := true }, kinds := [], alts := [], laidByText := true, laidKinds := [.data, .data, .data, .pinned], laidTests := true, laidLooks := .later }
def LifeSplitsUptoCardSaid : Prop := Claim7.holds Tryz.pinned (.plain (OpenSpec.upto lifeSplitsSpec)) lifeSplitsUptoCard

/-- THE SECOND FORM's CARD OF 'bulwarklaw19.LifePays'. -/
def lifePaysUptoCard : Claim7 := { stood := { row := lifePaysUptoRow, standIns := [], harness := (true, "d565cabe828fc3de06b15d644910dab2c590c354b8714e5b0d75319347ce7ccf"), looks := true }, kinds := [], alts := [], laidByText := true, laidKinds := [.data, .data, .data, .pinned], laidTests := true, laidLooks := .later }
def LifePaysUptoCardSaid : Prop := Claim7.holds Tryz.pinned (.plain (OpenSpec.upto lifePaysSpec)) lifePaysUptoCard

/-- THE SECOND FORM's CARD OF 'bulwarklaw19.LifeDays'. -/
def lifeDaysUptoCard : Claim7 := { stood := { row := lifeDaysUptoRow, standIns := [], harness := (true, "d565cabe828fc3de06b15d644910dab2c590c354b8714e5b0d75319347ce7ccf"), looks := true }, kinds := [], alts := [], laidByText := true, laidKinds := [.data, .data, .data, .pinned], laidTests := true, laidLooks := .later }
def LifeDaysUptoCardSaid : Prop := Claim7.holds Tryz.pinned (.plain (OpenSpec.upto lifeDaysSpec)) lifeDaysUptoCard
end Rows
end Go.Proofs.YtcepekniflaoaaaGreatDoor

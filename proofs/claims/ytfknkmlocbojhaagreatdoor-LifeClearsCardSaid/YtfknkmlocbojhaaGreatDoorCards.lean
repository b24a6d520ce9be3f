/-
  DERIVED. GIVEN WITH THE SEED: THE CARDS: each row of YtfknkmlocbojhaaGreatDoorRows.lean that lists a variable, with what it lists TIED to the program's text (the seventh form; the later family's looks); each row that meets fmt, with fmt's text TOLD by the authors' own Lean function (tested against real Go, not proved from fmt's source: count such statements apart). THE CARD IS WHAT COUNTS. Prove the row's statement (the work); the ties are given (YtfknkmlocbojhaaGreatDoorTie.lean); close each card by the builder's one call (the guide's Derived/Test/ToyasCard.lean, 'card_holds'). Laid BY PROGRAM, IN A SANDBOX (cutbox-door.mjs). By AI agents, Wed Nov 11 2026. No macro, syntax, notation, axiom, sorry.
-/
import Derived.Test.YtfknkmlocbojhaaGreatDoorRows
import GoSem.ClaimSeven
namespace Go.Proofs.YtfknkmlocbojhaaGreatDoor
namespace Rows

/-- THE TIED CARD OF 'bulwarklaw19.LifeSplits'. -/
def lifeSplitsCard : Claim7 := { stood := { row := lifeSplitsRow, standIns := [], harness := (true, "079708686a1b01352eac051e7bc0cf1b6b89dff515b538c8fd97d5f74f565661"), looks := true }, kinds := [], alts := [], laidByText := true, laidKinds := [.data, .data, .data, .pinned], laidTests := true, laidLooks := .later }
def LifeSplitsCardSaid : Prop := Claim7.holds Tryz.pinned (.plain (OpenSpec.ofChange lifeSplitsSpec)) lifeSplitsCard

/-- THE TIED CARD OF 'bulwarklaw19.LifePays'. -/
def lifePaysCard : Claim7 := { stood := { row := lifePaysRow, standIns := [], harness := (true, "079708686a1b01352eac051e7bc0cf1b6b89dff515b538c8fd97d5f74f565661"), looks := true }, kinds := [], alts := [], laidByText := true, laidKinds := [.data, .data, .data, .pinned], laidTests := true, laidLooks := .later }
def LifePaysCardSaid : Prop := Claim7.holds Tryz.pinned (.plain (OpenSpec.ofChange lifePaysSpec)) lifePaysCard

/-- THE TIED CARD OF 'bulwarklaw19.LifeDays'. -/
def lifeDaysCard : Claim7 := { stood := { row := lifeDaysRow, standIns := [], harness := (true, "079708686a1b01352eac051e7bc0cf1b6b89dff515b538c8fd97d5f74f565661"), looks := true }, kinds := [], alts := [], laidByText := true, laidKinds := [.data, .data, .data, .pinned], laidTests := true, laidLooks := .later }
def LifeDaysCardSaid : Prop := Claim7.holds Tryz.pinned (.plain (OpenSpec.ofChange lifeDaysSpec)) lifeDaysCard

/-- THE TIED CARD OF 'bulwarklaw19.LifeConserves'. -/
def lifeConservesCard : Claim7 := { stood := { row := lifeConservesRow, standIns := [], harness := (true, "079708686a1b01352eac051e7bc0cf1b6b89dff515b538c8fd97d5f74f565661"), looks := true }, kinds := [], alts := [], laidByText := true, laidKinds := [.data, .data, .data, .pinned], laidTests := true, laidLooks := .later }
def LifeConservesCardSaid : Prop := Claim7.holds Tryz.pinned (.plain (OpenSpec.ofChange lifeConservesSpec)) lifeConservesCard

/-- THE TIED CARD OF 'bulwarklaw19.LifeExact'. -/
def lifeExactCard : Claim7 := { stood := { row := lifeExactRow, standIns := [], harness := (true, "079708686a1b01352eac051e7bc0cf1b6b89dff515b538c8fd97d5f74f565661"), looks := true }, kinds := [], alts := [], laidByText := true, laidKinds := [.data, .data, .data, .pinned], laidTests := true, laidLooks := .later }
def LifeExactCardSaid : Prop := Claim7.holds Tryz.pinned (.plain (OpenSpec.ofChange lifeExactSpec)) lifeExactCard

/-- THE TIED CARD OF 'bulwarklaw19.LifeKeeps'. -/
def lifeKeepsCard : Claim7 := { stood := { row := lifeKeepsRow, standIns := [], harness := (true, "079708686a1b01352eac051e7bc0cf1b6b89dff515b538c8fd97d5f74f565661"), looks := true }, kinds := [], alts := [], laidByText := true, laidKinds := [.data, .data, .data, .pinned], laidTests := true, laidLooks := .later }
def LifeKeepsCardSaid : Prop := Claim7.holds Tryz.pinned (.plain (OpenSpec.ofChange lifeKeepsSpec)) lifeKeepsCard

/-- THE TIED CARD OF 'bulwarklaw19.LifeStays'. -/
def lifeStaysCard : Claim7 := { stood := { row := lifeStaysRow, standIns := [], harness := (true, "079708686a1b01352eac051e7bc0cf1b6b89dff515b538c8fd97d5f74f565661"), looks := true }, kinds := [], alts := [], laidByText := true, laidKinds := [.data, .data, .data, .pinned], laidTests := true, laidLooks := .later }
def LifeStaysCardSaid : Prop := Claim7.holds Tryz.pinned (.plain (OpenSpec.ofChange lifeStaysSpec)) lifeStaysCard

/-- THE TIED CARD OF 'bulwarklaw19.LifeClears'. -/
def lifeClearsCard : Claim7 := { stood := { row := lifeClearsRow, standIns := [], harness := (true, "079708686a1b01352eac051e7bc0cf1b6b89dff515b538c8fd97d5f74f565661"), looks := true }, kinds := [], alts := [], laidByText := true, laidKinds := [.data, .data, .data, .pinned], laidTests := true, laidLooks := .later }
def LifeClearsCardSaid : Prop := Claim7.holds Tryz.pinned (.plain (OpenSpec.ofChange lifeClearsSpec)) lifeClearsCard

/-- THE SECOND FORM's CARD OF 'bulwarklaw19.LifeSplits'. -/
def lifeSplitsUptoCard : Claim7 := { stood := { row := lifeSplitsUptoRow, standIns := [], harness := (true, "079708686a1b01352eac051e7bc0cf1b6b89dff515b538c8fd97d5f74f565661"), looks := true }, kinds := [], alts := [], laidByText := true, laidKinds := [.data, .data, .data, .pinned], laidTests := true, laidLooks := .later }
def LifeSplitsUptoCardSaid : Prop := Claim7.holds Tryz.pinned (.plain (OpenSpec.upto lifeSplitsSpec)) lifeSplitsUptoCard

/-- THE SECOND FORM's CARD OF 'bulwarklaw19.LifePays'. -/
def lifePaysUptoCard : Claim7 := { stood := { row := lifePaysUptoRow, standIns := [], harness := (true, "079708686a1b01352eac051e7bc0cf1b6b89dff515b538c8fd97d5f74f565661"), looks := true }, kinds := [], alts := [], laidByText := true, laidKinds := [.data, .data, .data, .pinned], laidTests := true, laidLooks := .later }
def LifePaysUptoCardSaid : Prop := Claim7.holds Tryz.pinned (.plain (OpenSpec.upto lifePaysSpec)) lifePaysUptoCard

/-- THE SECOND FORM's CARD OF 'bulwarklaw19.LifeDays'. -/
def lifeDaysUptoCard : Claim7 := { stood := { row := lifeDaysUptoRow, standIns := [], harness := (true, "079708686a1b01352eac051e7bc0cf1b6b89dff515b538c8fd97d5f74f565661"), looks := true }, kinds := [], alts := [], laidByText := true, laidKinds := [.data, .data, .data, .pinned], laidTests := true, laidLooks := .later }
def LifeDaysUptoCardSaid : Prop := Claim7.holds Tryz.pinned (.plain (OpenSpec.upto lifeDaysSpec)) lifeDaysUptoCard

/-- THE SECOND FORM's CARD OF 'bulwarklaw19.LifeConserves'. -/
def lifeConservesUptoCard : Claim7 := { stood := { row := lifeConservesUptoRow, standIns := [], harness := (true, "079708686a1b01352eac051e7bc0cf1b6b89dff515b538c8fd97d5f74f565661"), looks := true }, kinds := [], alts := [], laidByText := true, laidKinds := [.data, .data, .data, .pinned], laidTests := true, laidLooks := .later }
def LifeConservesUptoCardSaid : Prop := Claim7.holds Tryz.pinned (.plain (OpenSpec.upto lifeConservesSpec)) lifeConservesUptoCard

/-- THE SECOND FORM's CARD OF 'bulwarklaw19.LifeExact'. -/
def lifeExactUptoCard : Claim7 := { stood := { row := lifeExactUptoRow, standIns := [], harness := (true, "079708686a1b01352eac051e7bc0cf1b6b89dff515b538c8fd97d5f74f565661"), looks := true }, kinds := [], alts := [], laidByText := true, laidKinds := [.data, .data, .data, .pinned], laidTests := true, laidLooks := .later }
def LifeExactUptoCardSaid : Prop := Claim7.holds Tryz.pinned (.plain (OpenSpec.upto lifeExactSpec)) lifeExactUptoCard

/-- THE SECOND FORM's CARD OF 'bulwarklaw19.LifeKeeps'. -/
def lifeKeepsUptoCard : Claim7 := { stood := { row := lifeKeepsUptoRow, standIns := [], harness := (true, "079708686a1b01352eac051e7bc0cf1b6b89dff515b538c8fd97d5f74f565661"), looks := true }, kinds := [], alts := [], laidByText := true, laidKinds := [.data, .data, .data, .pinned], laidTests := true, laidLooks := .later }
def LifeKeepsUptoCardSaid : Prop := Claim7.holds Tryz.pinned (.plain (OpenSpec.upto lifeKeepsSpec)) lifeKeepsUptoCard

/-- THE SECOND FORM's CARD OF 'bulwarklaw19.LifeStays'. -/
def lifeStaysUptoCard : Claim7 := { stood := { row := lifeStaysUptoRow, standIns := [], harness := (true, "079708686a1b01352eac051e7bc0cf1b6b89dff515b538c8fd97d5f74f565661"), looks := true }, kinds := [], alts := [], laidByText := true, laidKinds := [.data, .data, .data, .pinned], laidTests := true, laidLooks := .later }
def LifeStaysUptoCardSaid : Prop := Claim7.holds Tryz.pinned (.plain (OpenSpec.upto lifeStaysSpec)) lifeStaysUptoCard

/-- THE SECOND FORM's CARD OF 'bulwarklaw19.LifeClears'. -/
def lifeClearsUptoCard : Claim7 := { stood := { row := lifeClearsUptoRow, standIns := [], harness := (true, "079708686a1b01352eac051e7bc0cf1b6b89dff515b538c8fd97d5f74f565661"), looks := true }, kinds := [], alts := [], laidByText := true, laidKinds := [.data, .data, .data, .pinned], laidTests := true, laidLooks := .later }
def LifeClearsUptoCardSaid : Prop := Claim7.holds Tryz.pinned (.plain (OpenSpec.upto lifeClearsSpec)) lifeClearsUptoCard
end Rows
end Go.Proofs.YtfknkmlocbojhaaGreatDoor

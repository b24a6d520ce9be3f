/-
  DERIVED. GIVEN WITH THE SEED: THE CARDS: each row of YtcjbhgnlmmeeeaaGreatDoorRows.lean that lists a variable, with what it lists TIED to the program's text (the seventh form; the later family's looks); each row that meets fmt, with fmt's text TOLD by the authors' own Lean function (tested against real Go, not proved from fmt's source: count such statements apart). THE CARD IS WHAT COUNTS. Prove the row's statement (the work); the ties are given (YtcjbhgnlmmeeeaaGreatDoorTie.lean); close each card by the builder's one call (the guide's Derived/Test/ToyasCard.lean, 'card_holds'). Laid BY PROGRAM, IN A SANDBOX (cutbox-door.mjs). By AI agents, Wed Nov 11 2026. No macro, syntax, notation, axiom, sorry.
-/
import Derived.Test.YtcjbhgnlmmeeeaaGreatDoorRows
import GoSem.ClaimSeven
namespace Go.Proofs.YtcjbhgnlmmeeeaaGreatDoor
namespace Rows

/-- THE TIED CARD OF 'bulwarklaw16.MarginNeeds'. -/
def marginNeedsCard : Claim7 := { stood := { row := marginNeedsRow, standIns := [], harness := (true, "5a1fb5f2d88af7d8ce9c092e9eb1d022a0574f21f740ac321e97532ec85cab28"), looks := true }, kinds := [], alts := [], laidByText := true, laidKinds := [.data, .data, .data, .pinned], laidTests := true, laidLooks := .later }
def MarginNeedsCardSaid : Prop := Claim7.holds Tryz.pinned (.plain (OpenSpec.ofChange marginNeedsSpec)) marginNeedsCard

/-- THE TIED CARD OF 'bulwarklaw16.MarginLosses'. -/
def marginLossesCard : Claim7 := { stood := { row := marginLossesRow, standIns := [], harness := (true, "5a1fb5f2d88af7d8ce9c092e9eb1d022a0574f21f740ac321e97532ec85cab28"), looks := true }, kinds := [], alts := [], laidByText := true, laidKinds := [.data, .data, .data, .pinned], laidTests := true, laidLooks := .later }
def MarginLossesCardSaid : Prop := Claim7.holds Tryz.pinned (.plain (OpenSpec.ofChange marginLossesSpec)) marginLossesCard

/-- THE TIED CARD OF 'bulwarklaw16.MarginApart'. -/
def marginApartCard : Claim7 := { stood := { row := marginApartRow, standIns := [], harness := (true, "5a1fb5f2d88af7d8ce9c092e9eb1d022a0574f21f740ac321e97532ec85cab28"), looks := true }, kinds := [], alts := [], laidByText := true, laidKinds := [.data, .data, .data, .pinned], laidTests := true, laidLooks := .later }
def MarginApartCardSaid : Prop := Claim7.holds Tryz.pinned (.plain (OpenSpec.ofChange marginApartSpec)) marginApartCard

/-- THE TIED CARD OF 'bulwarklaw16.MarginLess'. -/
def marginLessCard : Claim7 := { stood := { row := marginLessRow, standIns := [], harness := (true, "5a1fb5f2d88af7d8ce9c092e9eb1d022a0574f21f740ac321e97532ec85cab28"), looks := true }, kinds := [], alts := [], laidByText := true, laidKinds := [.data, .data, .data, .pinned], laidTests := true, laidLooks := .later }
def MarginLessCardSaid : Prop := Claim7.holds Tryz.pinned (.plain (OpenSpec.ofChange marginLessSpec)) marginLessCard

/-- THE TIED CARD OF 'bulwarklaw16.MarginWorst'. -/
def marginWorstCard : Claim7 := { stood := { row := marginWorstRow, standIns := [], harness := (true, "5a1fb5f2d88af7d8ce9c092e9eb1d022a0574f21f740ac321e97532ec85cab28"), looks := true }, kinds := [], alts := [], laidByText := true, laidKinds := [.data, .data, .data, .pinned], laidTests := true, laidLooks := .later }
def MarginWorstCardSaid : Prop := Claim7.holds Tryz.pinned (.plain (OpenSpec.ofChange marginWorstSpec)) marginWorstCard

/-- THE TIED CARD OF 'bulwarklaw16.MarginFlags'. -/
def marginFlagsCard : Claim7 := { stood := { row := marginFlagsRow, standIns := [], harness := (true, "5a1fb5f2d88af7d8ce9c092e9eb1d022a0574f21f740ac321e97532ec85cab28"), looks := true }, kinds := [], alts := [], laidByText := true, laidKinds := [.data, .data, .data, .pinned], laidTests := true, laidLooks := .later }
def MarginFlagsCardSaid : Prop := Claim7.holds Tryz.pinned (.plain (OpenSpec.ofChange marginFlagsSpec)) marginFlagsCard

/-- THE TIED CARD OF 'bulwarklaw16.MarginKeeps'. -/
def marginKeepsCard : Claim7 := { stood := { row := marginKeepsRow, standIns := [], harness := (true, "5a1fb5f2d88af7d8ce9c092e9eb1d022a0574f21f740ac321e97532ec85cab28"), looks := true }, kinds := [], alts := [], laidByText := true, laidKinds := [.data, .data, .data, .pinned], laidTests := true, laidLooks := .later }
def MarginKeepsCardSaid : Prop := Claim7.holds Tryz.pinned (.plain (OpenSpec.ofChange marginKeepsSpec)) marginKeepsCard

/-- THE TIED CARD OF 'bulwarklaw16.MarginNothing'. -/
def marginNothingCard : Claim7 := { stood := { row := marginNothingRow, standIns := [], harness := (true, "5a1fb5f2d88af7d8ce9c092e9eb1d022a0574f21f740ac321e97532ec85cab28"), looks := true }, kinds := [], alts := [], laidByText := true, laidKinds := [.data, .data, .data, .pinned], laidTests := true, laidLooks := .later }
def MarginNothingCardSaid : Prop := Claim7.holds Tryz.pinned (.plain (OpenSpec.ofChange marginNothingSpec)) marginNothingCard

/-- THE SECOND FORM's CARD OF 'bulwarklaw16.MarginNeeds'. -/
def marginNeedsUptoCard : Claim7 := { stood := { row := marginNeedsUptoRow, standIns := [], harness := (true, "5a1fb5f2d88af7d8ce9c092e9eb1d022a0574f21f740ac321e97532ec85cab28"), looks := true }, kinds := [], alts := [], laidByText := true, laidKinds := [.data, .data, .data, .pinned], laidTests := true, laidLooks := .later }
def MarginNeedsUptoCardSaid : Prop := Claim7.holds Tryz.pinned (.plain (OpenSpec.upto marginNeedsSpec)) marginNeedsUptoCard

/-- THE SECOND FORM's CARD OF 'bulwarklaw16.MarginLosses'. -/
def marginLossesUptoCard : Claim7 := { stood := { row := marginLossesUptoRow, standIns := [], harness := (true, "5a1fb5f2d88af7d8ce9c092e9eb1d022a0574f21f740ac321e97532ec85cab28"), looks := true }, kinds := [], alts := [], laidByText := true, laidKinds := [.data, .data, .data, .pinned], laidTests := true, laidLooks := .later }
def MarginLossesUptoCardSaid : Prop := Claim7.holds Tryz.pinned (.plain (OpenSpec.upto marginLossesSpec)) marginLossesUptoCard

/-- THE SECOND FORM's CARD OF 'bulwarklaw16.MarginApart'. -/
def marginApartUptoCard : Claim7 := { stood := { row := marginApartUptoRow, standIns := [], harness := (true, "5a1fb5f2d88af7d8ce9c092e9eb1d022a0574f21f740ac321e97532ec85cab28"), looks := true }, kinds := [], alts := [], laidByText := true, laidKinds := [.data, .data, .data, .pinned], laidTests := true, laidLooks := .later }
def MarginApartUptoCardSaid : Prop := Claim7.holds Tryz.pinned (.plain (OpenSpec.upto marginApartSpec)) marginApartUptoCard

/-- THE SECOND FORM's CARD OF 'bulwarklaw16.MarginLess'. -/
def marginLessUptoCard : Claim7 := { stood := { row := marginLessUptoRow, standIns := [], harness := (true, "5a1fb5f2d88af7d8ce9c092e9eb1d022a0574f21f740ac321e97532ec85cab28"), looks := true }, kinds := [], alts := [], laidByText := true, laidKinds := [.data, .data, .data, .pinned], laidTests := true, laidLooks := .later }
def MarginLessUptoCardSaid : Prop := Claim7.holds Tryz.pinned (.plain (OpenSpec.upto marginLessSpec)) marginLessUptoCard

/-- THE SECOND FORM's CARD OF 'bulwarklaw16.MarginWorst'. -/
def marginWorstUptoCard : Claim7 := { stood := { row := marginWorstUptoRow, standIns := [], harness := (true, "5a1fb5f2d88af7d8ce9c092e9eb1d022a0574f21f740ac321e97532ec85cab28"), looks := true }, kinds := [], alts := [], laidByText := true, laidKinds := [.data, .data, .data, .pinned], laidTests := true, laidLooks := .later }
def MarginWorstUptoCardSaid : Prop := Claim7.holds Tryz.pinned (.plain (OpenSpec.upto marginWorstSpec)) marginWorstUptoCard

/-- THE SECOND FORM's CARD OF 'bulwarklaw16.MarginFlags'. -/
def marginFlagsUptoCard : Claim7 := { stood := { row := marginFlagsUptoRow, standIns := [], harness := (true, "5a1fb5f2d88af7d8ce9c092e9eb1d022a0574f21f740ac321e97532ec85cab28"), looks := true }, kinds := [], alts := [], laidByText := true, laidKinds := [.data, .data, .data, .pinned], laidTests := true, laidLooks := .later }
def MarginFlagsUptoCardSaid : Prop := Claim7.holds Tryz.pinned (.plain (OpenSpec.upto marginFlagsSpec)) marginFlagsUptoCard

/-- THE SECOND FORM's CARD OF 'bulwarklaw16.MarginKeeps'. -/
def marginKeepsUptoCard : Claim7 := { stood := { row := marginKeepsUptoRow, standIns := [], harness := (true, "5a1fb5f2d88af7d8ce9c092e9eb1d022a0574f21f740ac321e97532ec85cab28"), looks := true }, kinds := [], alts := [], laidByText := true, laidKinds := [.data, .data, .data, .pinned], laidTests := true, laidLooks := .later }
def MarginKeepsUptoCardSaid : Prop := Claim7.holds Tryz.pinned (.plain (OpenSpec.upto marginKeepsSpec)) marginKeepsUptoCard

/-- THE SECOND FORM's CARD OF 'bulwarklaw16.MarginNothing'. -/
def marginNothingUptoCard : Claim7 := { stood := { row := marginNothingUptoRow, standIns := [], harness := (true, "5a1fb5f2d88af7d8ce9c092e9eb1d022a0574f21f740ac321e97532ec85cab28"), looks := true }, kinds := [], alts := [], laidByText := true, laidKinds := [.data, .data, .data, .pinned], laidTests := true, laidLooks := .later }
def MarginNothingUptoCardSaid : Prop := Claim7.holds Tryz.pinned (.plain (OpenSpec.upto marginNothingSpec)) marginNothingUptoCard
end Rows
end Go.Proofs.YtcjbhgnlmmeeeaaGreatDoor

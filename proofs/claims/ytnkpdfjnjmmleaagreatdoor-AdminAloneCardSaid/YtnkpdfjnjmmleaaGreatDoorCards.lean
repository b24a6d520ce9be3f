/-
  DERIVED. GIVEN WITH THE SEED: THE CARDS: each row of YtnkpdfjnjmmleaaGreatDoorRows.lean that lists a variable, with what it lists TIED to the program's text (the seventh form; the later family's looks); each row that meets fmt, with fmt's text TOLD by the authors' own Lean function (tested against real Go, not proved from fmt's source: count such statements apart). THE CARD IS WHAT COUNTS. Prove the row's statement (the work); the ties are given (YtnkpdfjnjmmleaaGreatDoorTie.lean); close each card by the builder's one call (the guide's Derived/Test/ToyasCard.lean, 'card_holds'). Laid BY PROGRAM, IN A SANDBOX (cutbox-door.mjs). By AI agents, Wed Nov 11 2026. No macro, syntax, notation, axiom, sorry.
-/
import Derived.Test.YtnkpdfjnjmmleaaGreatDoorRows
import GoSem.ClaimSeven
namespace Go.Proofs.YtnkpdfjnjmmleaaGreatDoor
namespace Rows

/-- THE TIED CARD OF 'bulwarklaw18.AdminThings'. -/
def adminThingsCard : Claim7 := { stood := { row := adminThingsRow, standIns := [], harness := (true, "c1cd98f5eba3477c32a9fb1ce7955a5b80211116adb026d8835ab2e64ce8c82c"), looks := true }, kinds := [], alts := [], laidByText := true, laidKinds := [.data, .data, .data, .pinned], laidTests := true, laidLooks := .later }
def AdminThingsCardSaid : Prop := Claim7.holds Tryz.pinned (.plain (OpenSpec.ofChange adminThingsSpec)) adminThingsCard

/-- THE TIED CARD OF 'bulwarklaw18.AdminAccounts'. -/
def adminAccountsCard : Claim7 := { stood := { row := adminAccountsRow, standIns := [], harness := (true, "c1cd98f5eba3477c32a9fb1ce7955a5b80211116adb026d8835ab2e64ce8c82c"), looks := true }, kinds := [], alts := [], laidByText := true, laidKinds := [.data, .data, .data, .pinned], laidTests := true, laidLooks := .later }
def AdminAccountsCardSaid : Prop := Claim7.holds Tryz.pinned (.plain (OpenSpec.ofChange adminAccountsSpec)) adminAccountsCard

/-- THE TIED CARD OF 'bulwarklaw18.AdminMarkets'. -/
def adminMarketsCard : Claim7 := { stood := { row := adminMarketsRow, standIns := [], harness := (true, "c1cd98f5eba3477c32a9fb1ce7955a5b80211116adb026d8835ab2e64ce8c82c"), looks := true }, kinds := [], alts := [], laidByText := true, laidKinds := [.data, .data, .data, .pinned], laidTests := true, laidLooks := .later }
def AdminMarketsCardSaid : Prop := Claim7.holds Tryz.pinned (.plain (OpenSpec.ofChange adminMarketsSpec)) adminMarketsCard

/-- THE TIED CARD OF 'bulwarklaw18.AdminLocates'. -/
def adminLocatesCard : Claim7 := { stood := { row := adminLocatesRow, standIns := [], harness := (true, "c1cd98f5eba3477c32a9fb1ce7955a5b80211116adb026d8835ab2e64ce8c82c"), looks := true }, kinds := [], alts := [], laidByText := true, laidKinds := [.data, .data, .data, .pinned], laidTests := true, laidLooks := .later }
def AdminLocatesCardSaid : Prop := Claim7.holds Tryz.pinned (.plain (OpenSpec.ofChange adminLocatesSpec)) adminLocatesCard

/-- THE TIED CARD OF 'bulwarklaw18.AdminFlags'. -/
def adminFlagsCard : Claim7 := { stood := { row := adminFlagsRow, standIns := [], harness := (true, "c1cd98f5eba3477c32a9fb1ce7955a5b80211116adb026d8835ab2e64ce8c82c"), looks := true }, kinds := [], alts := [], laidByText := true, laidKinds := [.data, .data, .data, .pinned], laidTests := true, laidLooks := .later }
def AdminFlagsCardSaid : Prop := Claim7.holds Tryz.pinned (.plain (OpenSpec.ofChange adminFlagsSpec)) adminFlagsCard

/-- THE TIED CARD OF 'bulwarklaw18.AdminKeeps'. -/
def adminKeepsCard : Claim7 := { stood := { row := adminKeepsRow, standIns := [], harness := (true, "c1cd98f5eba3477c32a9fb1ce7955a5b80211116adb026d8835ab2e64ce8c82c"), looks := true }, kinds := [], alts := [], laidByText := true, laidKinds := [.data, .data, .data, .pinned], laidTests := true, laidLooks := .later }
def AdminKeepsCardSaid : Prop := Claim7.holds Tryz.pinned (.plain (OpenSpec.ofChange adminKeepsSpec)) adminKeepsCard

/-- THE TIED CARD OF 'bulwarklaw18.AdminStays'. -/
def adminStaysCard : Claim7 := { stood := { row := adminStaysRow, standIns := [], harness := (true, "c1cd98f5eba3477c32a9fb1ce7955a5b80211116adb026d8835ab2e64ce8c82c"), looks := true }, kinds := [], alts := [], laidByText := true, laidKinds := [.data, .data, .data, .pinned], laidTests := true, laidLooks := .later }
def AdminStaysCardSaid : Prop := Claim7.holds Tryz.pinned (.plain (OpenSpec.ofChange adminStaysSpec)) adminStaysCard

/-- THE TIED CARD OF 'bulwarklaw18.AdminAlone'. -/
def adminAloneCard : Claim7 := { stood := { row := adminAloneRow, standIns := [], harness := (true, "c1cd98f5eba3477c32a9fb1ce7955a5b80211116adb026d8835ab2e64ce8c82c"), looks := true }, kinds := [], alts := [], laidByText := true, laidKinds := [.data, .data, .data, .pinned], laidTests := true, laidLooks := .later }
def AdminAloneCardSaid : Prop := Claim7.holds Tryz.pinned (.plain (OpenSpec.ofChange adminAloneSpec)) adminAloneCard

/-- THE SECOND FORM's CARD OF 'bulwarklaw18.AdminThings'. -/
def adminThingsUptoCard : Claim7 := { stood := { row := adminThingsUptoRow, standIns := [], harness := (true, "c1cd98f5eba3477c32a9fb1ce7955a5b80211116adb026d8835ab2e64ce8c82c"), looks := true }, kinds := [], alts := [], laidByText := true, laidKinds := [.data, .data, .data, .pinned], laidTests := true, laidLooks := .later }
def AdminThingsUptoCardSaid : Prop := Claim7.holds Tryz.pinned (.plain (OpenSpec.upto adminThingsSpec)) adminThingsUptoCard

/-- THE SECOND FORM's CARD OF 'bulwarklaw18.AdminAccounts'. -/
def adminAccountsUptoCard : Claim7 := { stood := { row := adminAccountsUptoRow, standIns := [], harness := (true, "c1cd98f5eba3477c32a9fb1ce7955a5b80211116adb026d8835ab2e64ce8c82c"), looks := true }, kinds := [], alts := [], laidByText := true, laidKinds := [.data, .data, .data, .pinned], laidTests := true, laidLooks := .later }
def AdminAccountsUptoCardSaid : Prop := Claim7.holds Tryz.pinned (.plain (OpenSpec.upto adminAccountsSpec)) adminAccountsUptoCard

/-- THE SECOND FORM's CARD OF 'bulwarklaw18.AdminMarkets'. -/
def adminMarketsUptoCard : Claim7 := { stood := { row := adminMarketsUptoRow, standIns := [], harness := (true, "c1cd98f5eba3477c32a9fb1ce7955a5b80211116adb026d8835ab2e64ce8c82c"), looks := true }, kinds := [], alts := [], laidByText := true, laidKinds := [.data, .data, .data, .pinned], laidTests := true, laidLooks := .later }
def AdminMarketsUptoCardSaid : Prop := Claim7.holds Tryz.pinned (.plain (OpenSpec.upto adminMarketsSpec)) adminMarketsUptoCard

/-- THE SECOND FORM's CARD OF 'bulwarklaw18.AdminLocates'. -/
def adminLocatesUptoCard : Claim7 := { stood := { row := adminLocatesUptoRow, standIns := [], harness := (true, "c1cd98f5eba3477c32a9fb1ce7955a5b80211116adb026d8835ab2e64ce8c82c"), looks := true }, kinds := [], alts := [], laidByText := true, laidKinds := [.data, .data, .data, .pinned], laidTests := true, laidLooks := .later }
def AdminLocatesUptoCardSaid : Prop := Claim7.holds Tryz.pinned (.plain (OpenSpec.upto adminLocatesSpec)) adminLocatesUptoCard

/-- THE SECOND FORM's CARD OF 'bulwarklaw18.AdminFlags'. -/
def adminFlagsUptoCard : Claim7 := { stood := { row := adminFlagsUptoRow, standIns := [], harness := (true, "c1cd98f5eba3477c32a9fb1ce7955a5b80211116adb026d8835ab2e64ce8c82c"), looks := true }, kinds := [], alts := [], laidByText := true, laidKinds := [.data, .data, .data, .pinned], laidTests := true, laidLooks := .later }
def AdminFlagsUptoCardSaid : Prop := Claim7.holds Tryz.pinned (.plain (OpenSpec.upto adminFlagsSpec)) adminFlagsUptoCard

/-- THE SECOND FORM's CARD OF 'bulwarklaw18.AdminKeeps'. -/
def adminKeepsUptoCard : Claim7 := { stood := { row := adminKeepsUptoRow, standIns := [], harness := (true, "c1cd98f5eba3477c32a9fb1ce7955a5b80211116adb026d8835ab2e64ce8c82c"), looks := true }, kinds := [], alts := [], laidByText := true, laidKinds := [.data, .data, .data, .pinned], laidTests := true, laidLooks := .later }
def AdminKeepsUptoCardSaid : Prop := Claim7.holds Tryz.pinned (.plain (OpenSpec.upto adminKeepsSpec)) adminKeepsUptoCard

/-- THE SECOND FORM's CARD OF 'bulwarklaw18.AdminStays'. -/
def adminStaysUptoCard : Claim7 := { stood := { row := adminStaysUptoRow, standIns := [], harness := (true, "c1cd98f5eba3477c32a9fb1ce7955a5b80211116adb026d8835ab2e64ce8c82c"), looks := true }, kinds := [], alts := [], laidByText := true, laidKinds := [.data, .data, .data, .pinned], laidTests := true, laidLooks := .later }
def AdminStaysUptoCardSaid : Prop := Claim7.holds Tryz.pinned (.plain (OpenSpec.upto adminStaysSpec)) adminStaysUptoCard

/-- THE SECOND FORM's CARD OF 'bulwarklaw18.AdminAlone'. -/
def adminAloneUptoCard : Claim7 := { stood := { row := adminAloneUptoRow, standIns := [], harness := (true, "c1cd98f5eba3477c32a9fb1ce7955a5b80211116adb026d8835ab2e64ce8c82c"), looks := true }, kinds := [], alts := [], laidByText := true, laidKinds := [.data, .data, .data, .pinned], laidTests := true, laidLooks := .later }
def AdminAloneUptoCardSaid : Prop := Claim7.holds Tryz.pinned (.plain (OpenSpec.upto adminAloneSpec)) adminAloneUptoCard
end Rows
end Go.Proofs.YtnkpdfjnjmmleaaGreatDoor

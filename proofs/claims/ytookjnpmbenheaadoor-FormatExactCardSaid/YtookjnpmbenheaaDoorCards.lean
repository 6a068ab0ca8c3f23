/-
  DERIVED. GIVEN WITH THE SEED: THE CARDS: each row of YtookjnpmbenheaaDoorRows.lean that lists a variable, with what it lists TIED to the program's text (the seventh form; the later family's looks); each row that meets fmt, with fmt's text TOLD by the authors' own Lean function (tested against real Go, not proved from fmt's source: count such statements apart). THE CARD IS WHAT COUNTS. Prove the row's statement (the work); the ties are given (YtookjnpmbenheaaDoorTie.lean); close each card by the builder's one call (the guide's Derived/Test/ToyasCard.lean, 'card_holds'). Laid BY PROGRAM, IN A SANDBOX (cutbox-door.mjs). By AI agents, Wed Nov 11 2026. No macro, syntax, notation, axiom, sorry.
-/
import Derived.Test.YtookjnpmbenheaaDoorRows
import GoSem.ClaimSeven
namespace Go.Proofs.YtookjnpmbenheaaDoor
namespace Rows

/-- THE TIED CARD OF 'solsticelaw12.FormatExact'. -/
def formatExactCard : Claim7 := { stood := { row := formatExactRow, standIns := [], harness := (true, "6599e9e41a6420d308c3c653934e4aa3fc6fa141946703b181a046eedda17b3c"), looks := false }, kinds := [], alts := [], laidByText := true, laidKinds := [.data, .data, .data, .data, .pinned], laidTests := true, laidLooks := .later }
def FormatExactCardSaid : Prop := Claim7.holds Tryd.pinned (.plain (OpenSpec.ofChange formatExactSpec)) formatExactCard

/-- THE TIED CARD OF 'solsticelaw12.FormatParts'. -/
def formatPartsCard : Claim7 := { stood := { row := formatPartsRow, standIns := [], harness := (true, "6599e9e41a6420d308c3c653934e4aa3fc6fa141946703b181a046eedda17b3c"), looks := false }, kinds := [], alts := [], laidByText := true, laidKinds := [.data, .data, .data, .data, .pinned], laidTests := true, laidLooks := .later }
def FormatPartsCardSaid : Prop := Claim7.holds Tryd.pinned (.plain (OpenSpec.ofChange formatPartsSpec)) formatPartsCard

/-- THE TIED CARD OF 'solsticelaw12.FormatShort'. -/
def formatShortCard : Claim7 := { stood := { row := formatShortRow, standIns := [], harness := (true, "6599e9e41a6420d308c3c653934e4aa3fc6fa141946703b181a046eedda17b3c"), looks := false }, kinds := [], alts := [], laidByText := true, laidKinds := [.data, .data, .data, .data, .pinned], laidTests := true, laidLooks := .later }
def FormatShortCardSaid : Prop := Claim7.holds Tryd.pinned (.plain (OpenSpec.ofChange formatShortSpec)) formatShortCard

/-- THE TIED CARD OF 'solsticelaw12.FormatBad'. -/
def formatBadCard : Claim7 := { stood := { row := formatBadRow, standIns := [], harness := (true, "6599e9e41a6420d308c3c653934e4aa3fc6fa141946703b181a046eedda17b3c"), looks := false }, kinds := [], alts := [], laidByText := true, laidKinds := [.data, .data, .data, .data, .pinned], laidTests := true, laidLooks := .later }
def FormatBadCardSaid : Prop := Claim7.holds Tryd.pinned (.plain (OpenSpec.ofChange formatBadSpec)) formatBadCard

/-- THE SECOND FORM's CARD OF 'solsticelaw12.FormatExact'. -/
def formatExactUptoCard : Claim7 := { stood := { row := formatExactUptoRow, standIns := [], harness := (true, "6599e9e41a6420d308c3c653934e4aa3fc6fa141946703b181a046eedda17b3c"), looks := false }, kinds := [], alts := [], laidByText := true, laidKinds := [.data, .data, .data, .data, .pinned], laidTests := true, laidLooks := .later }
def FormatExactUptoCardSaid : Prop := Claim7.holds Tryd.pinned (.plain (OpenSpec.upto formatExactSpec)) formatExactUptoCard

/-- THE SECOND FORM's CARD OF 'solsticelaw12.FormatParts'. -/
def formatPartsUptoCard : Claim7 := { stood := { row := formatPartsUptoRow, standIns := [], harness := (true, "6599e9e41a6420d308c3c653934e4aa3fc6fa141946703b181a046eedda17b3c"), looks := false }, kinds := [], alts := [], laidByText := true, laidKinds := [.data, .data, .data, .data, .pinned], laidTests := true, laidLooks := .later }
def FormatPartsUptoCardSaid : Prop := Claim7.holds Tryd.pinned (.plain (OpenSpec.upto formatPartsSpec)) formatPartsUptoCard

/-- THE SECOND FORM's CARD OF 'solsticelaw12.FormatShort'. -/
def formatShortUptoCard : Claim7 := { stood := { row := formatShortUptoRow, standIns := [], harness := (true, "6599e9e41a6420d308c3c653934e4aa3fc6fa141946703b181a046eedda17b3c"), looks := false }, kinds := [], alts := [], laidByText := true, laidKinds := [.data, .data, .data, .data, .pinned], laidTests := true, laidLooks := .later }
def FormatShortUptoCardSaid : Prop := Claim7.holds Tryd.pinned (.plain (OpenSpec.upto formatShortSpec)) formatShortUptoCard

/-- THE SECOND FORM's CARD OF 'solsticelaw12.FormatBad'. -/
def formatBadUptoCard : Claim7 := { stood := { row := formatBadUptoRow, standIns := [], harness := (true, "6599e9e41a6420d308c3c653934e4aa3fc6fa141946703b181a046eedda17b3c"), looks := false }, kinds := [], alts := [], laidByText := true, laidKinds := [.data, .data, .data, .data, .pinned], laidTests := true, laidLooks := .later }
def FormatBadUptoCardSaid : Prop := Claim7.holds Tryd.pinned (.plain (OpenSpec.upto formatBadSpec)) formatBadUptoCard
end Rows
end Go.Proofs.YtookjnpmbenheaaDoor

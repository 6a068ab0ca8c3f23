/-
  DERIVED. GIVEN WITH THE SEED: THE CARDS: each row of YtjanombhdnoemaaGreatDoorRows.lean that lists a variable, with what it lists TIED to the program's text (the seventh form; the later family's looks); each row that meets fmt, with fmt's text TOLD by the authors' own Lean function (tested against real Go, not proved from fmt's source: count such statements apart). THE CARD IS WHAT COUNTS. Prove the row's statement (the work); the ties are given (YtjanombhdnoemaaGreatDoorTie.lean); close each card by the builder's one call (the guide's Derived/Test/ToyasCard.lean, 'card_holds'). Laid BY PROGRAM, IN A SANDBOX (cutbox-door.mjs). By AI agents, Wed Nov 11 2026. No macro, syntax, notation, axiom, sorry.
-/
import Derived.Test.YtjanombhdnoemaaGreatDoorRows
import GoSem.ClaimSeven
namespace Go.Proofs.YtjanombhdnoemaaGreatDoor
namespace Rows

/-- THE TIED CARD OF 'solsticelaw21.RecurCase'. -/
def recurCaseCard : Claim7 := { stood := { row := recurCaseRow, standIns := [], harness := (true, "cbdf0e57292c50df36f7383d2aef35c37b4479cff7a2606023581abebdaab4ac"), looks := false }, kinds := [], alts := [], laidByText := true, laidKinds := [.data, .data, .data, .data, .pinned], laidTests := true, laidLooks := .later }
def RecurCaseCardSaid : Prop := Claim7.holds Tryz.pinned (.plain (OpenSpec.ofChange recurCaseSpec)) recurCaseCard

/-- THE TIED CARD OF 'solsticelaw21.RecurBad'. -/
def recurBadCard : Claim7 := { stood := { row := recurBadRow, standIns := [], harness := (true, "cbdf0e57292c50df36f7383d2aef35c37b4479cff7a2606023581abebdaab4ac"), looks := false }, kinds := [], alts := [], laidByText := true, laidKinds := [.data, .data, .data, .data, .pinned], laidTests := true, laidLooks := .later }
def RecurBadCardSaid : Prop := Claim7.holds Tryz.pinned (.plain (OpenSpec.ofChange recurBadSpec)) recurBadCard

/-- THE TIED CARD OF 'solsticelaw21.RecurExact'. -/
def recurExactCard : Claim7 := { stood := { row := recurExactRow, standIns := [], harness := (true, "cbdf0e57292c50df36f7383d2aef35c37b4479cff7a2606023581abebdaab4ac"), looks := false }, kinds := [], alts := [], laidByText := true, laidKinds := [.data, .data, .data, .data, .pinned], laidTests := true, laidLooks := .later }
def RecurExactCardSaid : Prop := Claim7.holds Tryz.pinned (.plain (OpenSpec.ofChange recurExactSpec)) recurExactCard

/-- THE TIED CARD OF 'solsticelaw21.RecurBack'. -/
def recurBackCard : Claim7 := { stood := { row := recurBackRow, standIns := [], harness := (true, "cbdf0e57292c50df36f7383d2aef35c37b4479cff7a2606023581abebdaab4ac"), looks := false }, kinds := [], alts := [], laidByText := true, laidKinds := [.data, .data, .data, .data, .pinned], laidTests := true, laidLooks := .later }
def RecurBackCardSaid : Prop := Claim7.holds Tryz.pinned (.plain (OpenSpec.ofChange recurBackSpec)) recurBackCard

/-- THE TIED CARD OF 'solsticelaw21.RecurBent'. -/
def recurBentCard : Claim7 := { stood := { row := recurBentRow, standIns := [], harness := (true, "cbdf0e57292c50df36f7383d2aef35c37b4479cff7a2606023581abebdaab4ac"), looks := false }, kinds := [], alts := [], laidByText := true, laidKinds := [.data, .data, .data, .data, .pinned], laidTests := true, laidLooks := .later }
def RecurBentCardSaid : Prop := Claim7.holds Tryz.pinned (.plain (OpenSpec.ofChange recurBentSpec)) recurBentCard

/-- THE TIED CARD OF 'solsticelaw21.RecurKinds'. -/
def recurKindsCard : Claim7 := { stood := { row := recurKindsRow, standIns := [], harness := (true, "cbdf0e57292c50df36f7383d2aef35c37b4479cff7a2606023581abebdaab4ac"), looks := false }, kinds := [], alts := [], laidByText := true, laidKinds := [.data, .data, .data, .data, .pinned], laidTests := true, laidLooks := .later }
def RecurKindsCardSaid : Prop := Claim7.holds Tryz.pinned (.plain (OpenSpec.ofChange recurKindsSpec)) recurKindsCard

/-- THE SECOND FORM's CARD OF 'solsticelaw21.RecurCase'. -/
def recurCaseUptoCard : Claim7 := { stood := { row := recurCaseUptoRow, standIns := [], harness := (true, "cbdf0e57292c50df36f7383d2aef35c37b4479cff7a2606023581abebdaab4ac"), looks := false }, kinds := [], alts := [], laidByText := true, laidKinds := [.data, .data, .data, .data, .pinned], laidTests := true, laidLooks := .later }
def RecurCaseUptoCardSaid : Prop := Claim7.holds Tryz.pinned (.plain (OpenSpec.upto recurCaseSpec)) recurCaseUptoCard

/-- THE SECOND FORM's CARD OF 'solsticelaw21.RecurBad'. -/
def recurBadUptoCard : Claim7 := { stood := { row := recurBadUptoRow, standIns := [], harness := (true, "cbdf0e57292c50df36f7383d2aef35c37b4479cff7a2606023581abebdaab4ac"), looks := false }, kinds := [], alts := [], laidByText := true, laidKinds := [.data, .data, .data, .data, .pinned], laidTests := true, laidLooks := .later }
def RecurBadUptoCardSaid : Prop := Claim7.holds Tryz.pinned (.plain (OpenSpec.upto recurBadSpec)) recurBadUptoCard

/-- THE SECOND FORM's CARD OF 'solsticelaw21.RecurExact'. -/
def recurExactUptoCard : Claim7 := { stood := { row := recurExactUptoRow, standIns := [], harness := (true, "cbdf0e57292c50df36f7383d2aef35c37b4479cff7a2606023581abebdaab4ac"), looks := false }, kinds := [], alts := [], laidByText := true, laidKinds := [.data, .data, .data, .data, .pinned], laidTests := true, laidLooks := .later }
def RecurExactUptoCardSaid : Prop := Claim7.holds Tryz.pinned (.plain (OpenSpec.upto recurExactSpec)) recurExactUptoCard

/-- THE SECOND FORM's CARD OF 'solsticelaw21.RecurBack'. -/
def recurBackUptoCard : Claim7 := { stood := { row := recurBackUptoRow, standIns := [], harness := (true, "cbdf0e57292c50df36f7383d2aef35c37b4479cff7a2606023581abebdaab4ac"), looks := false }, kinds := [], alts := [], laidByText := true, laidKinds := [.data, .data, .data, .data, .pinned], laidTests := true, laidLooks := .later }
def RecurBackUptoCardSaid : Prop := Claim7.holds Tryz.pinned (.plain (OpenSpec.upto recurBackSpec)) recurBackUptoCard

/-- THE SECOND FORM's CARD OF 'solsticelaw21.RecurBent'. -/
def recurBentUptoCard : Claim7 := { stood := { row := recurBentUptoRow, standIns := [], harness := (true, "cbdf0e57292c50df36f7383d2aef35c37b4479cff7a2606023581abebdaab4ac"), looks := false }, kinds := [], alts := [], laidByText := true, laidKinds := [.data, .data, .data, .data, .pinned], laidTests := true, laidLooks := .later }
def RecurBentUptoCardSaid : Prop := Claim7.holds Tryz.pinned (.plain (OpenSpec.upto recurBentSpec)) recurBentUptoCard

/-- THE SECOND FORM's CARD OF 'solsticelaw21.RecurKinds'. -/
def recurKindsUptoCard : Claim7 := { stood := { row := recurKindsUptoRow, standIns := [], harness := (true, "cbdf0e57292c50df36f7383d2aef35c37b4479cff7a2606023581abebdaab4ac"), looks := false }, kinds := [], alts := [], laidByText := true, laidKinds := [.data, .data, .data, .data, .pinned], laidTests := true, laidLooks := .later }
def RecurKindsUptoCardSaid : Prop := Claim7.holds Tryz.pinned (.plain (OpenSpec.upto recurKindsSpec)) recurKindsUptoCard
end Rows
end Go.Proofs.YtjanombhdnoemaaGreatDoor

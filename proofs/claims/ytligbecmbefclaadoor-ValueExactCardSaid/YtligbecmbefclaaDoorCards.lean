/-
  DERIVED. GIVEN WITH THE SEED: THE CARDS: each row of YtligbecmbefclaaDoorRows.lean that lists a variable, with what it lists TIED to the program's text (the seventh form; the later family's looks); each row that meets fmt, with fmt's text TOLD by the authors' own Lean function (tested against real Go, not proved from fmt's source: count such statements apart). THE CARD IS WHAT COUNTS. Prove the row's statement (the work); the ties are given (YtligbecmbefclaaDoorTie.lean); close each card by the builder's one call (the guide's Derived/Test/ToyasCard.lean, 'card_holds'). Laid BY PROGRAM, IN A SANDBOX (cutbox-door.mjs). By AI agents, Wed Nov 11 2026. No macro, syntax, notation, axiom, sorry.
-/
import Derived.Test.YtligbecmbefclaaDoorRows
import GoSem.ClaimSeven
namespace Go.Proofs.YtligbecmbefclaaDoor
namespace Rows

/-- THE TIED CARD OF 'solsticelaw20.ValueExact'. -/
def valueExactCard : Claim7 := { stood := { row := valueExactRow, standIns := [], harness := (true, "fee620d5c89acd1954ccf898e378d18c0fb2999af9786ba8c6fcae0b1a507cf8"), looks := false }, kinds := [], alts := [], laidByText := true, laidKinds := [.data, .data, .data, .data, .pinned], laidTests := true, laidLooks := .later }
def ValueExactCardSaid : Prop := Claim7.holds Tryd.pinned (.plain (OpenSpec.ofChange valueExactSpec)) valueExactCard

/-- THE TIED CARD OF 'solsticelaw20.ValueBack'. -/
def valueBackCard : Claim7 := { stood := { row := valueBackRow, standIns := [], harness := (true, "fee620d5c89acd1954ccf898e378d18c0fb2999af9786ba8c6fcae0b1a507cf8"), looks := false }, kinds := [], alts := [], laidByText := true, laidKinds := [.data, .data, .data, .data, .pinned], laidTests := true, laidLooks := .later }
def ValueBackCardSaid : Prop := Claim7.holds Tryd.pinned (.plain (OpenSpec.ofChange valueBackSpec)) valueBackCard

/-- THE TIED CARD OF 'solsticelaw20.ValueLists'. -/
def valueListsCard : Claim7 := { stood := { row := valueListsRow, standIns := [], harness := (true, "fee620d5c89acd1954ccf898e378d18c0fb2999af9786ba8c6fcae0b1a507cf8"), looks := false }, kinds := [], alts := [], laidByText := true, laidKinds := [.data, .data, .data, .data, .pinned], laidTests := true, laidLooks := .later }
def ValueListsCardSaid : Prop := Claim7.holds Tryd.pinned (.plain (OpenSpec.ofChange valueListsSpec)) valueListsCard

/-- THE TIED CARD OF 'solsticelaw20.ValueBad'. -/
def valueBadCard : Claim7 := { stood := { row := valueBadRow, standIns := [], harness := (true, "fee620d5c89acd1954ccf898e378d18c0fb2999af9786ba8c6fcae0b1a507cf8"), looks := false }, kinds := [], alts := [], laidByText := true, laidKinds := [.data, .data, .data, .data, .pinned], laidTests := true, laidLooks := .later }
def ValueBadCardSaid : Prop := Claim7.holds Tryd.pinned (.plain (OpenSpec.ofChange valueBadSpec)) valueBadCard

/-- THE SECOND FORM's CARD OF 'solsticelaw20.ValueExact'. -/
def valueExactUptoCard : Claim7 := { stood := { row := valueExactUptoRow, standIns := [], harness := (true, "fee620d5c89acd1954ccf898e378d18c0fb2999af9786ba8c6fcae0b1a507cf8"), looks := false }, kinds := [], alts := [], laidByText := true, laidKinds := [.data, .data, .data, .data, .pinned], laidTests := true, laidLooks := .later }
def ValueExactUptoCardSaid : Prop := Claim7.holds Tryd.pinned (.plain (OpenSpec.upto valueExactSpec)) valueExactUptoCard

/-- THE SECOND FORM's CARD OF 'solsticelaw20.ValueBack'. -/
def valueBackUptoCard : Claim7 := { stood := { row := valueBackUptoRow, standIns := [], harness := (true, "fee620d5c89acd1954ccf898e378d18c0fb2999af9786ba8c6fcae0b1a507cf8"), looks := false }, kinds := [], alts := [], laidByText := true, laidKinds := [.data, .data, .data, .data, .pinned], laidTests := true, laidLooks := .later }
def ValueBackUptoCardSaid : Prop := Claim7.holds Tryd.pinned (.plain (OpenSpec.upto valueBackSpec)) valueBackUptoCard

/-- THE SECOND FORM's CARD OF 'solsticelaw20.ValueLists'. -/
def valueListsUptoCard : Claim7 := { stood := { row := valueListsUptoRow, standIns := [], harness := (true, "fee620d5c89acd1954ccf898e378d18c0fb2999af9786ba8c6fcae0b1a507cf8"), looks := false }, kinds := [], alts := [], laidByText := true, laidKinds := [.data, .data, .data, .data, .pinned], laidTests := true, laidLooks := .later }
def ValueListsUptoCardSaid : Prop := Claim7.holds Tryd.pinned (.plain (OpenSpec.upto valueListsSpec)) valueListsUptoCard

/-- THE SECOND FORM's CARD OF 'solsticelaw20.ValueBad'. -/
def valueBadUptoCard : Claim7 := { stood := { row := valueBadUptoRow, standIns := [], harness := (true, "fee620d5c89acd1954ccf898e378d18c0fb2999af9786ba8c6fcae0b1a507cf8"), looks := false }, kinds := [], alts := [], laidByText := true, laidKinds := [.data, .data, .data, .data, .pinned], laidTests := true, laidLooks := .later }
def ValueBadUptoCardSaid : Prop := Claim7.holds Tryd.pinned (.plain (OpenSpec.upto valueBadSpec)) valueBadUptoCard
end Rows
end Go.Proofs.YtligbecmbefclaaDoor

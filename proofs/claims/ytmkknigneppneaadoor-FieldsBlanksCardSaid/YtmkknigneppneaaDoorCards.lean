/-
  DERIVED. GIVEN WITH THE SEED: THE CARDS: each row of YtmkknigneppneaaDoorRows.lean that lists a variable, with what it lists TIED to the program's text (the seventh form; the later family's looks); each row that meets fmt, with fmt's text TOLD by the authors' own Lean function (tested against real Go, not proved from fmt's source: count such statements apart). THE CARD IS WHAT COUNTS. Prove the row's statement (the work); the ties are given (YtmkknigneppneaaDoorTie.lean); close each card by the builder's one call (the guide's Derived/Test/ToyasCard.lean, 'card_holds'). Laid BY PROGRAM, IN A SANDBOX (cutbox-door.mjs). By AI agents, Wed Nov 11 2026. No macro, syntax, notation, axiom, sorry.
-/
import Derived.Test.YtmkknigneppneaaDoorRows
import GoSem.ClaimSeven
namespace Go.Proofs.YtmkknigneppneaaDoor
namespace Rows

/-- THE TIED CARD OF 'solsticelaw05.FieldsBack'. -/
def fieldsBackCard : Claim7 := { stood := { row := fieldsBackRow, standIns := [], harness := (true, "fe4f7b739e7a10546c60214186f3ab185d4358ebafcc352579cebfa325c5dec1"), looks := false }, kinds := [], alts := [], laidByText := true, laidKinds := [.data, .pinned], laidTests := true, laidLooks := .later }
def FieldsBackCardSaid : Prop := Claim7.holds Tryd.pinned (.plain (OpenSpec.ofChange fieldsBackSpec)) fieldsBackCard

/-- THE TIED CARD OF 'solsticelaw05.FieldsBlanks'. -/
def fieldsBlanksCard : Claim7 := { stood := { row := fieldsBlanksRow, standIns := [], harness := (true, "fe4f7b739e7a10546c60214186f3ab185d4358ebafcc352579cebfa325c5dec1"), looks := false }, kinds := [], alts := [], laidByText := true, laidKinds := [.data, .pinned], laidTests := true, laidLooks := .later }
def FieldsBlanksCardSaid : Prop := Claim7.holds Tryd.pinned (.plain (OpenSpec.ofChange fieldsBlanksSpec)) fieldsBlanksCard

/-- THE SECOND FORM's CARD OF 'solsticelaw05.FieldsBack'. -/
def fieldsBackUptoCard : Claim7 := { stood := { row := fieldsBackUptoRow, standIns := [], harness := (true, "fe4f7b739e7a10546c60214186f3ab185d4358ebafcc352579cebfa325c5dec1"), looks := false }, kinds := [], alts := [], laidByText := true, laidKinds := [.data, .pinned], laidTests := true, laidLooks := .later }
def FieldsBackUptoCardSaid : Prop := Claim7.holds Tryd.pinned (.plain (OpenSpec.upto fieldsBackSpec)) fieldsBackUptoCard

/-- THE SECOND FORM's CARD OF 'solsticelaw05.FieldsBlanks'. -/
def fieldsBlanksUptoCard : Claim7 := { stood := { row := fieldsBlanksUptoRow, standIns := [], harness := (true, "fe4f7b739e7a10546c60214186f3ab185d4358ebafcc352579cebfa325c5dec1"), looks := false }, kinds := [], alts := [], laidByText := true, laidKinds := [.data, .pinned], laidTests := true, laidLooks := .later }
def FieldsBlanksUptoCardSaid : Prop := Claim7.holds Tryd.pinned (.plain (OpenSpec.upto fieldsBlanksSpec)) fieldsBlanksUptoCard
end Rows
end Go.Proofs.YtmkknigneppneaaDoor

/-
  DERIVED. GIVEN WITH THE SEED: THE CARDS: each row of YtlfohcjajmebjaaDoorRows.lean that lists a variable, with what it lists TIED to the program's text (the seventh form; the later family's looks); each row that meets fmt, with fmt's text TOLD by the authors' own Lean function (tested against real Go, not proved from fmt's source: count such statements apart). THE CARD IS WHAT COUNTS. Prove the row's statement (the work); the ties are given (YtlfohcjajmebjaaDoorTie.lean); close each card by the builder's one call (the guide's Derived/Test/ToyasCard.lean, 'card_holds'). Laid BY PROGRAM, IN A SANDBOX (cutbox-door.mjs). By AI agents, Wed Nov 11 2026. No macro, syntax, notation, axiom, sorry.
-/
import Derived.Test.YtlfohcjajmebjaaDoorRows
import GoSem.ClaimSeven
namespace Go.Proofs.YtlfohcjajmebjaaDoor
namespace Rows

/-- THE TIED CARD OF 'solsticelaw01.NumTexts'. -/
def numTextsCard : Claim7 := { stood := { row := numTextsRow, standIns := [], harness := (true, "83d2bf6caca900c11c77965d7bf2868dd3986e9a78415db9a7042bac7e25bad7"), looks := false }, kinds := [], alts := [], laidByText := true, laidKinds := [.data, .data, .data], laidTests := true, laidLooks := .later }
def NumTextsCardSaid : Prop := Claim7.holds Tryd.pinned (.plain (OpenSpec.ofChange numTextsSpec)) numTextsCard

/-- THE TIED CARD OF 'solsticelaw05.FieldsBack'. -/
def fieldsBackCard : Claim7 := { stood := { row := fieldsBackRow, standIns := [], harness := (true, "83d2bf6caca900c11c77965d7bf2868dd3986e9a78415db9a7042bac7e25bad7"), looks := false }, kinds := [], alts := [], laidByText := true, laidKinds := [.data, .pinned], laidTests := true, laidLooks := .later }
def FieldsBackCardSaid : Prop := Claim7.holds Tryd.pinned (.plain (OpenSpec.ofChange fieldsBackSpec)) fieldsBackCard

/-- THE TIED CARD OF 'solsticelaw05.FieldsBlanks'. -/
def fieldsBlanksCard : Claim7 := { stood := { row := fieldsBlanksRow, standIns := [], harness := (true, "83d2bf6caca900c11c77965d7bf2868dd3986e9a78415db9a7042bac7e25bad7"), looks := false }, kinds := [], alts := [], laidByText := true, laidKinds := [.data, .pinned], laidTests := true, laidLooks := .later }
def FieldsBlanksCardSaid : Prop := Claim7.holds Tryd.pinned (.plain (OpenSpec.ofChange fieldsBlanksSpec)) fieldsBlanksCard

/-- THE TIED CARD OF 'solsticelaw01.NumExact'. -/
def numExactCard : Claim7 := { stood := { row := numExactRow, standIns := [], harness := (true, "83d2bf6caca900c11c77965d7bf2868dd3986e9a78415db9a7042bac7e25bad7"), looks := false }, kinds := [], alts := [], laidByText := true, laidKinds := [.data, .data, .data], laidTests := true, laidLooks := .later }
def NumExactCardSaid : Prop := Claim7.holds Tryd.pinned (.plain (OpenSpec.ofChange numExactSpec)) numExactCard

/-- THE TIED CARD OF 'solsticelaw01.NumBack'. -/
def numBackCard : Claim7 := { stood := { row := numBackRow, standIns := [], harness := (true, "83d2bf6caca900c11c77965d7bf2868dd3986e9a78415db9a7042bac7e25bad7"), looks := false }, kinds := [], alts := [], laidByText := true, laidKinds := [.data, .data, .data], laidTests := true, laidLooks := .later }
def NumBackCardSaid : Prop := Claim7.holds Tryd.pinned (.plain (OpenSpec.ofChange numBackSpec)) numBackCard

/-- THE TIED CARD OF 'solsticelaw01.NumEdges'. -/
def numEdgesCard : Claim7 := { stood := { row := numEdgesRow, standIns := [], harness := (true, "83d2bf6caca900c11c77965d7bf2868dd3986e9a78415db9a7042bac7e25bad7"), looks := false }, kinds := [], alts := [], laidByText := true, laidKinds := [.data, .data, .data], laidTests := true, laidLooks := .later }
def NumEdgesCardSaid : Prop := Claim7.holds Tryd.pinned (.plain (OpenSpec.ofChange numEdgesSpec)) numEdgesCard

/-- THE TIED CARD OF 'solsticelaw04.ClockExact'. -/
def clockExactCard : Claim7 := { stood := { row := clockExactRow, standIns := [], harness := (true, "83d2bf6caca900c11c77965d7bf2868dd3986e9a78415db9a7042bac7e25bad7"), looks := false }, kinds := [], alts := [], laidByText := true, laidKinds := [.data, .data, .data, .data, .pinned], laidTests := true, laidLooks := .later }
def ClockExactCardSaid : Prop := Claim7.holds Tryd.pinned (.plain (OpenSpec.ofChange clockExactSpec)) clockExactCard

/-- THE TIED CARD OF 'solsticelaw04.ClockBack'. -/
def clockBackCard : Claim7 := { stood := { row := clockBackRow, standIns := [], harness := (true, "83d2bf6caca900c11c77965d7bf2868dd3986e9a78415db9a7042bac7e25bad7"), looks := false }, kinds := [], alts := [], laidByText := true, laidKinds := [.data, .data, .data, .data, .pinned], laidTests := true, laidLooks := .later }
def ClockBackCardSaid : Prop := Claim7.holds Tryd.pinned (.plain (OpenSpec.ofChange clockBackSpec)) clockBackCard

/-- THE TIED CARD OF 'solsticelaw04.ClockForms'. -/
def clockFormsCard : Claim7 := { stood := { row := clockFormsRow, standIns := [], harness := (true, "83d2bf6caca900c11c77965d7bf2868dd3986e9a78415db9a7042bac7e25bad7"), looks := false }, kinds := [], alts := [], laidByText := true, laidKinds := [.data, .data, .data, .data, .pinned], laidTests := true, laidLooks := .later }
def ClockFormsCardSaid : Prop := Claim7.holds Tryd.pinned (.plain (OpenSpec.ofChange clockFormsSpec)) clockFormsCard

/-- THE TIED CARD OF 'solsticelaw08.AtExact'. -/
def atExactCard : Claim7 := { stood := { row := atExactRow, standIns := [], harness := (true, "83d2bf6caca900c11c77965d7bf2868dd3986e9a78415db9a7042bac7e25bad7"), looks := false }, kinds := [], alts := [], laidByText := true, laidKinds := [.data, .data, .data, .data, .pinned], laidTests := true, laidLooks := .later }
def AtExactCardSaid : Prop := Claim7.holds Tryd.pinned (.plain (OpenSpec.ofChange atExactSpec)) atExactCard

/-- THE TIED CARD OF 'solsticelaw08.AtBack'. -/
def atBackCard : Claim7 := { stood := { row := atBackRow, standIns := [], harness := (true, "83d2bf6caca900c11c77965d7bf2868dd3986e9a78415db9a7042bac7e25bad7"), looks := false }, kinds := [], alts := [], laidByText := true, laidKinds := [.data, .data, .data, .data, .pinned], laidTests := true, laidLooks := .later }
def AtBackCardSaid : Prop := Claim7.holds Tryd.pinned (.plain (OpenSpec.ofChange atBackSpec)) atBackCard

/-- THE TIED CARD OF 'solsticelaw08.AtUtcs'. -/
def atUtcsCard : Claim7 := { stood := { row := atUtcsRow, standIns := [], harness := (true, "83d2bf6caca900c11c77965d7bf2868dd3986e9a78415db9a7042bac7e25bad7"), looks := false }, kinds := [], alts := [], laidByText := true, laidKinds := [.data, .data, .data, .data, .pinned], laidTests := true, laidLooks := .later }
def AtUtcsCardSaid : Prop := Claim7.holds Tryd.pinned (.plain (OpenSpec.ofChange atUtcsSpec)) atUtcsCard

/-- THE SECOND FORM's CARD OF 'solsticelaw01.NumTexts'. -/
def numTextsUptoCard : Claim7 := { stood := { row := numTextsUptoRow, standIns := [], harness := (true, "83d2bf6caca900c11c77965d7bf2868dd3986e9a78415db9a7042bac7e25bad7"), looks := false }, kinds := [], alts := [], laidByText := true, laidKinds := [.data, .data, .data], laidTests := true, laidLooks := .later }
def NumTextsUptoCardSaid : Prop := Claim7.holds Tryd.pinned (.plain (OpenSpec.upto numTextsSpec)) numTextsUptoCard

/-- THE SECOND FORM's CARD OF 'solsticelaw05.FieldsBack'. -/
def fieldsBackUptoCard : Claim7 := { stood := { row := fieldsBackUptoRow, standIns := [], harness := (true, "83d2bf6caca900c11c77965d7bf2868dd3986e9a78415db9a7042bac7e25bad7"), looks := false }, kinds := [], alts := [], laidByText := true, laidKinds := [.data, .pinned], laidTests := true, laidLooks := .later }
def FieldsBackUptoCardSaid : Prop := Claim7.holds Tryd.pinned (.plain (OpenSpec.upto fieldsBackSpec)) fieldsBackUptoCard

/-- THE SECOND FORM's CARD OF 'solsticelaw05.FieldsBlanks'. -/
def fieldsBlanksUptoCard : Claim7 := { stood := { row := fieldsBlanksUptoRow, standIns := [], harness := (true, "83d2bf6caca900c11c77965d7bf2868dd3986e9a78415db9a7042bac7e25bad7"), looks := false }, kinds := [], alts := [], laidByText := true, laidKinds := [.data, .pinned], laidTests := true, laidLooks := .later }
def FieldsBlanksUptoCardSaid : Prop := Claim7.holds Tryd.pinned (.plain (OpenSpec.upto fieldsBlanksSpec)) fieldsBlanksUptoCard

/-- THE SECOND FORM's CARD OF 'solsticelaw01.NumExact'. -/
def numExactUptoCard : Claim7 := { stood := { row := numExactUptoRow, standIns := [], harness := (true, "83d2bf6caca900c11c77965d7bf2868dd3986e9a78415db9a7042bac7e25bad7"), looks := false }, kinds := [], alts := [], laidByText := true, laidKinds := [.data, .data, .data], laidTests := true, laidLooks := .later }
def NumExactUptoCardSaid : Prop := Claim7.holds Tryd.pinned (.plain (OpenSpec.upto numExactSpec)) numExactUptoCard

/-- THE SECOND FORM's CARD OF 'solsticelaw01.NumBack'. -/
def numBackUptoCard : Claim7 := { stood := { row := numBackUptoRow, standIns := [], harness := (true, "83d2bf6caca900c11c77965d7bf2868dd3986e9a78415db9a7042bac7e25bad7"), looks := false }, kinds := [], alts := [], laidByText := true, laidKinds := [.data, .data, .data], laidTests := true, laidLooks := .later }
def NumBackUptoCardSaid : Prop := Claim7.holds Tryd.pinned (.plain (OpenSpec.upto numBackSpec)) numBackUptoCard

/-- THE SECOND FORM's CARD OF 'solsticelaw01.NumEdges'. -/
def numEdgesUptoCard : Claim7 := { stood := { row := numEdgesUptoRow, standIns := [], harness := (true, "83d2bf6caca900c11c77965d7bf2868dd3986e9a78415db9a7042bac7e25bad7"), looks := false }, kinds := [], alts := [], laidByText := true, laidKinds := [.data, .data, .data], laidTests := true, laidLooks := .later }
def NumEdgesUptoCardSaid : Prop := Claim7.holds Tryd.pinned (.plain (OpenSpec.upto numEdgesSpec)) numEdgesUptoCard

/-- THE SECOND FORM's CARD OF 'solsticelaw04.ClockExact'. -/
def clockExactUptoCard : Claim7 := { stood := { row := clockExactUptoRow, standIns := [], harness := (true, "83d2bf6caca900c11c77965d7bf2868dd3986e9a78415db9a7042bac7e25bad7"), looks := false }, kinds := [], alts := [], laidByText := true, laidKinds := [.data, .data, .data, .data, .pinned], laidTests := true, laidLooks := .later }
def ClockExactUptoCardSaid : Prop := Claim7.holds Tryd.pinned (.plain (OpenSpec.upto clockExactSpec)) clockExactUptoCard

/-- THE SECOND FORM's CARD OF 'solsticelaw04.ClockBack'. -/
def clockBackUptoCard : Claim7 := { stood := { row := clockBackUptoRow, standIns := [], harness := (true, "83d2bf6caca900c11c77965d7bf2868dd3986e9a78415db9a7042bac7e25bad7"), looks := false }, kinds := [], alts := [], laidByText := true, laidKinds := [.data, .data, .data, .data, .pinned], laidTests := true, laidLooks := .later }
def ClockBackUptoCardSaid : Prop := Claim7.holds Tryd.pinned (.plain (OpenSpec.upto clockBackSpec)) clockBackUptoCard

/-- THE SECOND FORM's CARD OF 'solsticelaw04.ClockForms'. -/
def clockFormsUptoCard : Claim7 := { stood := { row := clockFormsUptoRow, standIns := [], harness := (true, "83d2bf6caca900c11c77965d7bf2868dd3986e9a78415db9a7042bac7e25bad7"), looks := false }, kinds := [], alts := [], laidByText := true, laidKinds := [.data, .data, .data, .data, .pinned], laidTests := true, laidLooks := .later }
def ClockFormsUptoCardSaid : Prop := Claim7.holds Tryd.pinned (.plain (OpenSpec.upto clockFormsSpec)) clockFormsUptoCard

/-- THE SECOND FORM's CARD OF 'solsticelaw08.AtExact'. -/
def atExactUptoCard : Claim7 := { stood := { row := atExactUptoRow, standIns := [], harness := (true, "83d2bf6caca900c11c77965d7bf2868dd3986e9a78415db9a7042bac7e25bad7"), looks := false }, kinds := [], alts := [], laidByText := true, laidKinds := [.data, .data, .data, .data, .pinned], laidTests := true, laidLooks := .later }
def AtExactUptoCardSaid : Prop := Claim7.holds Tryd.pinned (.plain (OpenSpec.upto atExactSpec)) atExactUptoCard

/-- THE SECOND FORM's CARD OF 'solsticelaw08.AtBack'. -/
def atBackUptoCard : Claim7 := { stood := { row := atBackUptoRow, standIns := [], harness := (true, "83d2bf6caca900c11c77965d7bf2868dd3986e9a78415db9a7042bac7e25bad7"), looks := false }, kinds := [], alts := [], laidByText := true, laidKinds := [.data, .data, .data, .data, .pinned], laidTests := true, laidLooks := .later }
def AtBackUptoCardSaid : Prop := Claim7.holds Tryd.pinned (.plain (OpenSpec.upto atBackSpec)) atBackUptoCard

/-- THE SECOND FORM's CARD OF 'solsticelaw08.AtUtcs'. -/
def atUtcsUptoCard : Claim7 := { stood := { row := atUtcsUptoRow, standIns := [], harness := (true, "83d2bf6caca900c11c77965d7bf2868dd3986e9a78415db9a7042bac7e25bad7"), looks := false }, kinds := [], alts := [], laidByText := true, laidKinds := [.data, .data, .data, .data, .pinned], laidTests := true, laidLooks := .later }
def AtUtcsUptoCardSaid : Prop := Claim7.holds Tryd.pinned (.plain (OpenSpec.upto atUtcsSpec)) atUtcsUptoCard
end Rows
end Go.Proofs.YtlfohcjajmebjaaDoor

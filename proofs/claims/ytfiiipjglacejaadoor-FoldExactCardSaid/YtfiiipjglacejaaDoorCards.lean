/-
  DERIVED. GIVEN WITH THE SEED: THE CARDS: each row of YtfiiipjglacejaaDoorRows.lean that lists a variable, with what it lists TIED to the program's text (the seventh form; the later family's looks); each row that meets fmt, with fmt's text TOLD by the authors' own Lean function (tested against real Go, not proved from fmt's source: count such statements apart). THE CARD IS WHAT COUNTS. Prove the row's statement (the work); the ties are given (YtfiiipjglacejaaDoorTie.lean); close each card by the builder's one call (the guide's Derived/Test/ToyasCard.lean, 'card_holds'). Laid BY PROGRAM, IN A SANDBOX (cutbox-door.mjs). By AI agents, Wed Nov 11 2026. No macro, syntax, notation, axiom, sorry.
-/
import Derived.Test.YtfiiipjglacejaaDoorRows
import GoSem.ClaimSeven
namespace Go.Proofs.YtfiiipjglacejaaDoor
namespace Rows

/-- THE TIED CARD OF 'solsticelaw16.FoldExact'. -/
def foldExactCard : Claim7 := { stood := { row := foldExactRow, standIns := [], harness := (true, "bd4059b0c7e0df3c7793b7ce7e3cccde5416ac98a13fdf2156ec174374f92de6"), looks := false }, kinds := [], alts := [], laidByText := true, laidKinds := [.data, .pinned], laidTests := true, laidLooks := .later }
def FoldExactCardSaid : Prop := Claim7.holds Tryd.pinned (.plain (OpenSpec.ofChange foldExactSpec)) foldExactCard

/-- THE TIED CARD OF 'solsticelaw16.FoldBack'. -/
def foldBackCard : Claim7 := { stood := { row := foldBackRow, standIns := [], harness := (true, "bd4059b0c7e0df3c7793b7ce7e3cccde5416ac98a13fdf2156ec174374f92de6"), looks := false }, kinds := [], alts := [], laidByText := true, laidKinds := [.data, .pinned], laidTests := true, laidLooks := .later }
def FoldBackCardSaid : Prop := Claim7.holds Tryd.pinned (.plain (OpenSpec.ofChange foldBackSpec)) foldBackCard

/-- THE TIED CARD OF 'solsticelaw16.FoldShort'. -/
def foldShortCard : Claim7 := { stood := { row := foldShortRow, standIns := [], harness := (true, "bd4059b0c7e0df3c7793b7ce7e3cccde5416ac98a13fdf2156ec174374f92de6"), looks := false }, kinds := [], alts := [], laidByText := true, laidKinds := [.data, .pinned], laidTests := true, laidLooks := .later }
def FoldShortCardSaid : Prop := Claim7.holds Tryd.pinned (.plain (OpenSpec.ofChange foldShortSpec)) foldShortCard

/-- THE TIED CARD OF 'solsticelaw16.FoldAnywhere'. -/
def foldAnywhereCard : Claim7 := { stood := { row := foldAnywhereRow, standIns := [], harness := (true, "bd4059b0c7e0df3c7793b7ce7e3cccde5416ac98a13fdf2156ec174374f92de6"), looks := false }, kinds := [], alts := [], laidByText := true, laidKinds := [.data, .pinned], laidTests := true, laidLooks := .later }
def FoldAnywhereCardSaid : Prop := Claim7.holds Tryd.pinned (.plain (OpenSpec.ofChange foldAnywhereSpec)) foldAnywhereCard

/-- THE TIED CARD OF 'solsticelaw19.TreeExact'. -/
def treeExactCard : Claim7 := { stood := { row := treeExactRow, standIns := [], harness := (true, "bd4059b0c7e0df3c7793b7ce7e3cccde5416ac98a13fdf2156ec174374f92de6"), looks := false }, kinds := [], alts := [], laidByText := true, laidKinds := [.data, .pinned], laidTests := true, laidLooks := .later }
def TreeExactCardSaid : Prop := Claim7.holds Tryd.pinned (.plain (OpenSpec.ofChange treeExactSpec)) treeExactCard

/-- THE TIED CARD OF 'solsticelaw19.TreeBack'. -/
def treeBackCard : Claim7 := { stood := { row := treeBackRow, standIns := [], harness := (true, "bd4059b0c7e0df3c7793b7ce7e3cccde5416ac98a13fdf2156ec174374f92de6"), looks := false }, kinds := [], alts := [], laidByText := true, laidKinds := [.data, .pinned], laidTests := true, laidLooks := .later }
def TreeBackCardSaid : Prop := Claim7.holds Tryd.pinned (.plain (OpenSpec.ofChange treeBackSpec)) treeBackCard

/-- THE TIED CARD OF 'solsticelaw19.TreeReads'. -/
def treeReadsCard : Claim7 := { stood := { row := treeReadsRow, standIns := [], harness := (true, "bd4059b0c7e0df3c7793b7ce7e3cccde5416ac98a13fdf2156ec174374f92de6"), looks := false }, kinds := [], alts := [], laidByText := true, laidKinds := [.data, .pinned], laidTests := true, laidLooks := .later }
def TreeReadsCardSaid : Prop := Claim7.holds Tryd.pinned (.plain (OpenSpec.ofChange treeReadsSpec)) treeReadsCard

/-- THE TIED CARD OF 'solsticelaw19.TreeKids'. -/
def treeKidsCard : Claim7 := { stood := { row := treeKidsRow, standIns := [], harness := (true, "bd4059b0c7e0df3c7793b7ce7e3cccde5416ac98a13fdf2156ec174374f92de6"), looks := false }, kinds := [], alts := [], laidByText := true, laidKinds := [.data, .pinned], laidTests := true, laidLooks := .later }
def TreeKidsCardSaid : Prop := Claim7.holds Tryd.pinned (.plain (OpenSpec.ofChange treeKidsSpec)) treeKidsCard

/-- THE TIED CARD OF 'solsticelaw19.TreeDeep'. -/
def treeDeepCard : Claim7 := { stood := { row := treeDeepRow, standIns := [], harness := (true, "bd4059b0c7e0df3c7793b7ce7e3cccde5416ac98a13fdf2156ec174374f92de6"), looks := false }, kinds := [], alts := [], laidByText := true, laidKinds := [.data, .pinned], laidTests := true, laidLooks := .later }
def TreeDeepCardSaid : Prop := Claim7.holds Tryd.pinned (.plain (OpenSpec.ofChange treeDeepSpec)) treeDeepCard

/-- THE SECOND FORM's CARD OF 'solsticelaw16.FoldExact'. -/
def foldExactUptoCard : Claim7 := { stood := { row := foldExactUptoRow, standIns := [], harness := (true, "bd4059b0c7e0df3c7793b7ce7e3cccde5416ac98a13fdf2156ec174374f92de6"), looks := false }, kinds := [], alts := [], laidByText := true, laidKinds := [.data, .pinned], laidTests := true, laidLooks := .later }
def FoldExactUptoCardSaid : Prop := Claim7.holds Tryd.pinned (.plain (OpenSpec.upto foldExactSpec)) foldExactUptoCard

/-- THE SECOND FORM's CARD OF 'solsticelaw16.FoldBack'. -/
def foldBackUptoCard : Claim7 := { stood := { row := foldBackUptoRow, standIns := [], harness := (true, "bd4059b0c7e0df3c7793b7ce7e3cccde5416ac98a13fdf2156ec174374f92de6"), looks := false }, kinds := [], alts := [], laidByText := true, laidKinds := [.data, .pinned], laidTests := true, laidLooks := .later }
def FoldBackUptoCardSaid : Prop := Claim7.holds Tryd.pinned (.plain (OpenSpec.upto foldBackSpec)) foldBackUptoCard

/-- THE SECOND FORM's CARD OF 'solsticelaw16.FoldShort'. -/
def foldShortUptoCard : Claim7 := { stood := { row := foldShortUptoRow, standIns := [], harness := (true, "bd4059b0c7e0df3c7793b7ce7e3cccde5416ac98a13fdf2156ec174374f92de6"), looks := false }, kinds := [], alts := [], laidByText := true, laidKinds := [.data, .pinned], laidTests := true, laidLooks := .later }
def FoldShortUptoCardSaid : Prop := Claim7.holds Tryd.pinned (.plain (OpenSpec.upto foldShortSpec)) foldShortUptoCard

/-- THE SECOND FORM's CARD OF 'solsticelaw16.FoldAnywhere'. -/
def foldAnywhereUptoCard : Claim7 := { stood := { row := foldAnywhereUptoRow, standIns := [], harness := (true, "bd4059b0c7e0df3c7793b7ce7e3cccde5416ac98a13fdf2156ec174374f92de6"), looks := false }, kinds := [], alts := [], laidByText := true, laidKinds := [.data, .pinned], laidTests := true, laidLooks := .later }
def FoldAnywhereUptoCardSaid : Prop := Claim7.holds Tryd.pinned (.plain (OpenSpec.upto foldAnywhereSpec)) foldAnywhereUptoCard

/-- THE SECOND FORM's CARD OF 'solsticelaw19.TreeExact'. -/
def treeExactUptoCard : Claim7 := { stood := { row := treeExactUptoRow, standIns := [], harness := (true, "bd4059b0c7e0df3c7793b7ce7e3cccde5416ac98a13fdf2156ec174374f92de6"), looks := false }, kinds := [], alts := [], laidByText := true, laidKinds := [.data, .pinned], laidTests := true, laidLooks := .later }
def TreeExactUptoCardSaid : Prop := Claim7.holds Tryd.pinned (.plain (OpenSpec.upto treeExactSpec)) treeExactUptoCard

/-- THE SECOND FORM's CARD OF 'solsticelaw19.TreeBack'. -/
def treeBackUptoCard : Claim7 := { stood := { row := treeBackUptoRow, standIns := [], harness := (true, "bd4059b0c7e0df3c7793b7ce7e3cccde5416ac98a13fdf2156ec174374f92de6"), looks := false }, kinds := [], alts := [], laidByText := true, laidKinds := [.data, .pinned], laidTests := true, laidLooks := .later }
def TreeBackUptoCardSaid : Prop := Claim7.holds Tryd.pinned (.plain (OpenSpec.upto treeBackSpec)) treeBackUptoCard

/-- THE SECOND FORM's CARD OF 'solsticelaw19.TreeReads'. -/
def treeReadsUptoCard : Claim7 := { stood := { row := treeReadsUptoRow, standIns := [], harness := (true, "bd4059b0c7e0df3c7793b7ce7e3cccde5416ac98a13fdf2156ec174374f92de6"), looks := false }, kinds := [], alts := [], laidByText := true, laidKinds := [.data, .pinned], laidTests := true, laidLooks := .later }
def TreeReadsUptoCardSaid : Prop := Claim7.holds Tryd.pinned (.plain (OpenSpec.upto treeReadsSpec)) treeReadsUptoCard

/-- THE SECOND FORM's CARD OF 'solsticelaw19.TreeKids'. -/
def treeKidsUptoCard : Claim7 := { stood := { row := treeKidsUptoRow, standIns := [], harness := (true, "bd4059b0c7e0df3c7793b7ce7e3cccde5416ac98a13fdf2156ec174374f92de6"), looks := false }, kinds := [], alts := [], laidByText := true, laidKinds := [.data, .pinned], laidTests := true, laidLooks := .later }
def TreeKidsUptoCardSaid : Prop := Claim7.holds Tryd.pinned (.plain (OpenSpec.upto treeKidsSpec)) treeKidsUptoCard

/-- THE SECOND FORM's CARD OF 'solsticelaw19.TreeDeep'. -/
def treeDeepUptoCard : Claim7 := { stood := { row := treeDeepUptoRow, standIns := [], harness := (true, "bd4059b0c7e0df3c7793b7ce7e3cccde5416ac98a13fdf2156ec174374f92de6"), looks := false }, kinds := [], alts := [], laidByText := true, laidKinds := [.data, .pinned], laidTests := true, laidLooks := .later }
def TreeDeepUptoCardSaid : Prop := Claim7.holds Tryd.pinned (.plain (OpenSpec.upto treeDeepSpec)) treeDeepUptoCard
end Rows
end Go.Proofs.YtfiiipjglacejaaDoor

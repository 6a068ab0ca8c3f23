/-
  No cell of these rows narrows 'for every input' (looked for: loops, veiled, ifaces, maps, wideKeys, modest, calm, conditions, laid).
  DERIVED. THE GIVEN ROWS OF THIS SEAT. 8 by the template 'for every input the law returns true; each argument reads behind the call as it read before'; 0 by the template 'total and deterministic' (their statements: YtookjnpmbenheaaTotals.lean).
  GIVEN WITH THE SEED: the statements are not yours to turn. If you find one false, say at which input.
  Laid BY PROGRAM, IN A SANDBOX (cutbox-rows.mjs): the forced cells as the released guide's own fill.sh prints them over the translation d24889e4fdbaef68… (all of the seat's roots in one cut). By AI agents, Wed Nov 11 2026. No macro, syntax, notation, axiom, sorry.
-/
import Derived.Test.YtookjnpmbenheaaChecked
import GoSem.Claim
import GoSem.ClaimJoined
import GoSem.ClaimMapViews
import Derived.JoinedTies
import Derived.KernelRfl
namespace Go.Proofs.Ytookjnpmbenheaa
/- THE CELL 'sum', in the pinned program and in every row, IS THE sha256 OF THE DUMP (.gsa) THAT YtookjnpmbenheaaProg.lean LOADS. Nothing in Lean hashes anything: it is a label: what it is worth is what the hold of that sum in a sandbox is worth. -/
noncomputable def Try.pinned : Pinned := { name := "ytookjnpmbenheaa", sum := "d24889e4fdbaef68296e4055576cd86338ea336591c7a5a7865205e264bf5534", checked := Try.checked }
namespace Rows
def none {H : Type} : Left H := { results := [], args := [] }

/-- 'solsticelaw17.EscapeExact': WHATEVER THE INPUT: true; the input reads as it did. -/
def escapeExactSpec : ChangeSpec := { name := "escapeExact", fn := fun _ => fun
  | [d1, d2] => { results := [.lit (.bool true)], args := [d1, d2] }
  | _ => none }
def escapeExactRow : OpenClaim := { program := "ytookjnpmbenheaa", sum := "d24889e4fdbaef68296e4055576cd86338ea336591c7a5a7865205e264bf5534", func := "solstice/solsticelaw17.EscapeExact", spec := "escapeExact", inPlace := ["internal/bytealg.IndexByteString", "internal/abi.NoEscape", "internal/bytealg.MakeNoZero"], apart := false }
def EscapeExactSaid : Prop := escapeExactRow.holds Try.pinned (OpenSpec.ofChange escapeExactSpec)

/-- ITS FALSE NEIGHBOUR: 'it returns false'. Refute it at one input. -/
def escapeExactWrong : ChangeSpec := { name := "escapeExact", fn := fun _ => fun
  | [d1, d2] => { results := [.lit (.bool false)], args := [d1, d2] }
  | _ => none }
def EscapeExactWrongFalsely : Prop := escapeExactRow.holds Try.pinned (OpenSpec.ofChange escapeExactWrong)

/-- 'solsticelaw17.EscapeBack': WHATEVER THE INPUT: true; the input reads as it did. -/
def escapeBackSpec : ChangeSpec := { name := "escapeBack", fn := fun _ => fun
  | [d1, d2] => { results := [.lit (.bool true)], args := [d1, d2] }
  | _ => none }
def escapeBackRow : OpenClaim := { program := "ytookjnpmbenheaa", sum := "d24889e4fdbaef68296e4055576cd86338ea336591c7a5a7865205e264bf5534", func := "solstice/solsticelaw17.EscapeBack", spec := "escapeBack", inPlace := ["internal/bytealg.IndexByteString", "internal/abi.NoEscape", "internal/bytealg.MakeNoZero"], apart := false }
def EscapeBackSaid : Prop := escapeBackRow.holds Try.pinned (OpenSpec.ofChange escapeBackSpec)

/-- ITS FALSE NEIGHBOUR: 'it returns false'. Refute it at one input. -/
def escapeBackWrong : ChangeSpec := { name := "escapeBack", fn := fun _ => fun
  | [d1, d2] => { results := [.lit (.bool false)], args := [d1, d2] }
  | _ => none }
def EscapeBackWrongFalsely : Prop := escapeBackRow.holds Try.pinned (OpenSpec.ofChange escapeBackWrong)

/-- 'solsticelaw17.EscapeParts': WHATEVER THE INPUT: true; the input reads as it did. -/
def escapePartsSpec : ChangeSpec := { name := "escapeParts", fn := fun _ => fun
  | [d1, d2] => { results := [.lit (.bool true)], args := [d1, d2] }
  | _ => none }
def escapePartsRow : OpenClaim := { program := "ytookjnpmbenheaa", sum := "d24889e4fdbaef68296e4055576cd86338ea336591c7a5a7865205e264bf5534", func := "solstice/solsticelaw17.EscapeParts", spec := "escapeParts", inPlace := ["internal/bytealg.IndexByteString", "internal/abi.NoEscape", "internal/bytealg.MakeNoZero"], apart := false }
def EscapePartsSaid : Prop := escapePartsRow.holds Try.pinned (OpenSpec.ofChange escapePartsSpec)

/-- ITS FALSE NEIGHBOUR: 'it returns false'. Refute it at one input. -/
def escapePartsWrong : ChangeSpec := { name := "escapeParts", fn := fun _ => fun
  | [d1, d2] => { results := [.lit (.bool false)], args := [d1, d2] }
  | _ => none }
def EscapePartsWrongFalsely : Prop := escapePartsRow.holds Try.pinned (OpenSpec.ofChange escapePartsWrong)

/-- 'solsticelaw18.LineExact': WHATEVER THE INPUT: true; the input reads as it did. -/
def lineExactSpec : ChangeSpec := { name := "lineExact", fn := fun _ => fun
  | [d1, d2, d3] => { results := [.lit (.bool true)], args := [d1, d2, d3] }
  | _ => none }
def lineExactRow : OpenClaim := { program := "ytookjnpmbenheaa", sum := "d24889e4fdbaef68296e4055576cd86338ea336591c7a5a7865205e264bf5534", func := "solstice/solsticelaw18.LineExact", spec := "lineExact", inPlace := ["internal/bytealg.IndexByteString", "internal/abi.NoEscape", "internal/bytealg.MakeNoZero", "internal/bytealg.IndexString"], unfollowed := true, recurses := true, named := ["internal/bytealg.MaxLen"], apart := false }
def LineExactSaid : Prop := lineExactRow.holds Try.pinned (OpenSpec.ofChange lineExactSpec)

/-- ITS FALSE NEIGHBOUR: 'it returns false'. Refute it at one input. -/
def lineExactWrong : ChangeSpec := { name := "lineExact", fn := fun _ => fun
  | [d1, d2, d3] => { results := [.lit (.bool false)], args := [d1, d2, d3] }
  | _ => none }
def LineExactWrongFalsely : Prop := lineExactRow.holds Try.pinned (OpenSpec.ofChange lineExactWrong)

/-- 'solsticelaw18.LineBack': WHATEVER THE INPUT: true; the input reads as it did. -/
def lineBackSpec : ChangeSpec := { name := "lineBack", fn := fun _ => fun
  | [d1, d2] => { results := [.lit (.bool true)], args := [d1, d2] }
  | _ => none }
def lineBackRow : OpenClaim := { program := "ytookjnpmbenheaa", sum := "d24889e4fdbaef68296e4055576cd86338ea336591c7a5a7865205e264bf5534", func := "solstice/solsticelaw18.LineBack", spec := "lineBack", inPlace := ["internal/bytealg.IndexByteString", "internal/abi.NoEscape", "internal/bytealg.MakeNoZero", "internal/bytealg.IndexString"], unfollowed := true, recurses := true, named := ["internal/bytealg.MaxLen"], apart := false }
def LineBackSaid : Prop := lineBackRow.holds Try.pinned (OpenSpec.ofChange lineBackSpec)

/-- ITS FALSE NEIGHBOUR: 'it returns false'. Refute it at one input. -/
def lineBackWrong : ChangeSpec := { name := "lineBack", fn := fun _ => fun
  | [d1, d2] => { results := [.lit (.bool false)], args := [d1, d2] }
  | _ => none }
def LineBackWrongFalsely : Prop := lineBackRow.holds Try.pinned (OpenSpec.ofChange lineBackWrong)

/-- 'solsticelaw18.LineQuotes': WHATEVER THE INPUT: true; the input reads as it did. -/
def lineQuotesSpec : ChangeSpec := { name := "lineQuotes", fn := fun _ => fun
  | [d1, d2, d3] => { results := [.lit (.bool true)], args := [d1, d2, d3] }
  | _ => none }
def lineQuotesRow : OpenClaim := { program := "ytookjnpmbenheaa", sum := "d24889e4fdbaef68296e4055576cd86338ea336591c7a5a7865205e264bf5534", func := "solstice/solsticelaw18.LineQuotes", spec := "lineQuotes", inPlace := ["internal/bytealg.IndexByteString", "internal/bytealg.IndexString", "internal/abi.NoEscape", "internal/bytealg.MakeNoZero"], unfollowed := true, recurses := true, named := ["internal/bytealg.MaxLen"], apart := false }
def LineQuotesSaid : Prop := lineQuotesRow.holds Try.pinned (OpenSpec.ofChange lineQuotesSpec)

/-- ITS FALSE NEIGHBOUR: 'it returns false'. Refute it at one input. -/
def lineQuotesWrong : ChangeSpec := { name := "lineQuotes", fn := fun _ => fun
  | [d1, d2, d3] => { results := [.lit (.bool false)], args := [d1, d2, d3] }
  | _ => none }
def LineQuotesWrongFalsely : Prop := lineQuotesRow.holds Try.pinned (OpenSpec.ofChange lineQuotesWrong)

/-- 'solsticelaw18.LineBad': WHATEVER THE INPUT: true; the input reads as it did. -/
def lineBadSpec : ChangeSpec := { name := "lineBad", fn := fun _ => fun
  | [d] => { results := [.lit (.bool true)], args := [d] }
  | _ => none }
def lineBadRow : OpenClaim := { program := "ytookjnpmbenheaa", sum := "d24889e4fdbaef68296e4055576cd86338ea336591c7a5a7865205e264bf5534", func := "solstice/solsticelaw18.LineBad", spec := "lineBad", inPlace := ["internal/bytealg.IndexByteString", "internal/bytealg.IndexString", "internal/abi.NoEscape", "internal/bytealg.MakeNoZero"], unfollowed := true, recurses := true, named := ["internal/bytealg.MaxLen"], apart := false }
def LineBadSaid : Prop := lineBadRow.holds Try.pinned (OpenSpec.ofChange lineBadSpec)

/-- ITS FALSE NEIGHBOUR: 'it returns false'. Refute it at one input. -/
def lineBadWrong : ChangeSpec := { name := "lineBad", fn := fun _ => fun
  | [d] => { results := [.lit (.bool false)], args := [d] }
  | _ => none }
def LineBadWrongFalsely : Prop := lineBadRow.holds Try.pinned (OpenSpec.ofChange lineBadWrong)

/-- 'solsticelaw18.LineValues': WHATEVER THE INPUT: true; the input reads as it did. -/
def lineValuesSpec : ChangeSpec := { name := "lineValues", fn := fun _ => fun
  | [d1, d2] => { results := [.lit (.bool true)], args := [d1, d2] }
  | _ => none }
def lineValuesRow : OpenClaim := { program := "ytookjnpmbenheaa", sum := "d24889e4fdbaef68296e4055576cd86338ea336591c7a5a7865205e264bf5534", func := "solstice/solsticelaw18.LineValues", spec := "lineValues", inPlace := ["internal/bytealg.IndexByteString", "internal/bytealg.IndexString", "internal/abi.NoEscape", "internal/bytealg.MakeNoZero"], unfollowed := true, recurses := true, named := ["internal/bytealg.MaxLen"], apart := false }
def LineValuesSaid : Prop := lineValuesRow.holds Try.pinned (OpenSpec.ofChange lineValuesSpec)

/-- ITS FALSE NEIGHBOUR: 'it returns false'. Refute it at one input. -/
def lineValuesWrong : ChangeSpec := { name := "lineValues", fn := fun _ => fun
  | [d1, d2] => { results := [.lit (.bool false)], args := [d1, d2] }
  | _ => none }
def LineValuesWrongFalsely : Prop := lineValuesRow.holds Try.pinned (OpenSpec.ofChange lineValuesWrong)

/- THE SECOND FORM. 'bulk': how many values and letters a reading holds, each counted each time it is reached (what is shared counts as often as it is met; a slice's spare places count too). A statement '..UptoSaid' is the law's where the arguments, and the package variables that the reading takes, are together of bulk at most 1048576: NARROWER than '..Said'. Prove '..Said' where nothing that the law and all that it calls make is longer than what came in: it says more and counts as full. Else prove '..UptoSaid'. A law counts once. -/
mutual
def uptoBulk {H : Type} : DataW H → Nat
  | .lit (.string bytes) => bytes.length + 1
  | .lit _ => 1
  | .nil => 1
  | .ptr d => uptoBulk d + 1
  | .slice elems spare => uptoBulkAll elems + uptoBulkAll spare + 1
  | .agg parts => uptoBulkAll parts + 1
  | .iface _ d => uptoBulk d + 1
  | .map entries => uptoBulkEntries entries + 1
  | .held _ => 1
def uptoBulkAll {H : Type} : List (DataW H) → Nat
  | [] => 0
  | d :: r => uptoBulk d + uptoBulkAll r
def uptoBulkEntries {H : Type} : List (Lit × DataW H) → Nat
  | [] => 0
  | x :: r => uptoBulkEntry x + uptoBulkEntries r
def uptoBulkEntry {H : Type} : Lit × DataW H → Nat
  | (.string bytes, d) => bytes.length + uptoBulk d + 1
  | (_, d) => uptoBulk d + 1
 end
def uptoSmall : (H : Type) → List (DataW H) → Bool := fun _ ds => decide (uptoBulkAll ds ≤ 1048576)
def OpenSpec.upto (s : _root_.Go.ChangeSpec) : _root_.Go.OpenSpec := { _root_.Go.OpenSpec.ofChange s with cond := some uptoSmall }

/-- 'solsticelaw17.EscapeExact', WHERE WHAT IT READS IS OF BULK AT MOST 1048576: true; the input reads as it did. -/
def escapeExactUptoRow : OpenClaim := { program := "ytookjnpmbenheaa", sum := "d24889e4fdbaef68296e4055576cd86338ea336591c7a5a7865205e264bf5534", func := "solstice/solsticelaw17.EscapeExact", spec := "escapeExact", inPlace := ["internal/bytealg.IndexByteString", "internal/abi.NoEscape", "internal/bytealg.MakeNoZero"], apart := false, narrowed := true }
def EscapeExactUptoSaid : Prop := escapeExactUptoRow.holds Try.pinned (OpenSpec.upto escapeExactSpec)

/-- 'solsticelaw17.EscapeBack', WHERE WHAT IT READS IS OF BULK AT MOST 1048576: true; the input reads as it did. -/
def escapeBackUptoRow : OpenClaim := { program := "ytookjnpmbenheaa", sum := "d24889e4fdbaef68296e4055576cd86338ea336591c7a5a7865205e264bf5534", func := "solstice/solsticelaw17.EscapeBack", spec := "escapeBack", inPlace := ["internal/bytealg.IndexByteString", "internal/abi.NoEscape", "internal/bytealg.MakeNoZero"], apart := false, narrowed := true }
def EscapeBackUptoSaid : Prop := escapeBackUptoRow.holds Try.pinned (OpenSpec.upto escapeBackSpec)

/-- 'solsticelaw17.EscapeParts', WHERE WHAT IT READS IS OF BULK AT MOST 1048576: true; the input reads as it did. -/
def escapePartsUptoRow : OpenClaim := { program := "ytookjnpmbenheaa", sum := "d24889e4fdbaef68296e4055576cd86338ea336591c7a5a7865205e264bf5534", func := "solstice/solsticelaw17.EscapeParts", spec := "escapeParts", inPlace := ["internal/bytealg.IndexByteString", "internal/abi.NoEscape", "internal/bytealg.MakeNoZero"], apart := false, narrowed := true }
def EscapePartsUptoSaid : Prop := escapePartsUptoRow.holds Try.pinned (OpenSpec.upto escapePartsSpec)

/-- 'solsticelaw18.LineExact', WHERE WHAT IT READS IS OF BULK AT MOST 1048576: true; the input reads as it did. -/
def lineExactUptoRow : OpenClaim := { program := "ytookjnpmbenheaa", sum := "d24889e4fdbaef68296e4055576cd86338ea336591c7a5a7865205e264bf5534", func := "solstice/solsticelaw18.LineExact", spec := "lineExact", inPlace := ["internal/bytealg.IndexByteString", "internal/abi.NoEscape", "internal/bytealg.MakeNoZero", "internal/bytealg.IndexString"], unfollowed := true, recurses := true, named := ["internal/bytealg.MaxLen"], apart := false, narrowed := true }
def LineExactUptoSaid : Prop := lineExactUptoRow.holds Try.pinned (OpenSpec.upto lineExactSpec)

/-- 'solsticelaw18.LineBack', WHERE WHAT IT READS IS OF BULK AT MOST 1048576: true; the input reads as it did. -/
def lineBackUptoRow : OpenClaim := { program := "ytookjnpmbenheaa", sum := "d24889e4fdbaef68296e4055576cd86338ea336591c7a5a7865205e264bf5534", func := "solstice/solsticelaw18.LineBack", spec := "lineBack", inPlace := ["internal/bytealg.IndexByteString", "internal/abi.NoEscape", "internal/bytealg.MakeNoZero", "internal/bytealg.IndexString"], unfollowed := true, recurses := true, named := ["internal/bytealg.MaxLen"], apart := false, narrowed := true }
def LineBackUptoSaid : Prop := lineBackUptoRow.holds Try.pinned (OpenSpec.upto lineBackSpec)

/-- 'solsticelaw18.LineQuotes', WHERE WHAT IT READS IS OF BULK AT MOST 1048576: true; the input reads as it did. -/
def lineQuotesUptoRow : OpenClaim := { program := "ytookjnpmbenheaa", sum := "d24889e4fdbaef68296e4055576cd86338ea336591c7a5a7865205e264bf5534", func := "solstice/solsticelaw18.LineQuotes", spec := "lineQuotes", inPlace := ["internal/bytealg.IndexByteString", "internal/bytealg.IndexString", "internal/abi.NoEscape", "internal/bytealg.MakeNoZero"], unfollowed := true, recurses := true, named := ["internal/bytealg.MaxLen"], apart := false, narrowed := true }
def LineQuotesUptoSaid : Prop := lineQuotesUptoRow.holds Try.pinned (OpenSpec.upto lineQuotesSpec)

/-- 'solsticelaw18.LineBad', WHERE WHAT IT READS IS OF BULK AT MOST 1048576: true; the input reads as it did. -/
def lineBadUptoRow : OpenClaim := { program := "ytookjnpmbenheaa", sum := "d24889e4fdbaef68296e4055576cd86338ea336591c7a5a7865205e264bf5534", func := "solstice/solsticelaw18.LineBad", spec := "lineBad", inPlace := ["internal/bytealg.IndexByteString", "internal/bytealg.IndexString", "internal/abi.NoEscape", "internal/bytealg.MakeNoZero"], unfollowed := true, recurses := true, named := ["internal/bytealg.MaxLen"], apart := false, narrowed := true }
def LineBadUptoSaid : Prop := lineBadUptoRow.holds Try.pinned (OpenSpec.upto lineBadSpec)

/-- 'solsticelaw18.LineValues', WHERE WHAT IT READS IS OF BULK AT MOST 1048576: true; the input reads as it did. -/
def lineValuesUptoRow : OpenClaim := { program := "ytookjnpmbenheaa", sum := "d24889e4fdbaef68296e4055576cd86338ea336591c7a5a7865205e264bf5534", func := "solstice/solsticelaw18.LineValues", spec := "lineValues", inPlace := ["internal/bytealg.IndexByteString", "internal/bytealg.IndexString", "internal/abi.NoEscape", "internal/bytealg.MakeNoZero"], unfollowed := true, recurses := true, named := ["internal/bytealg.MaxLen"], apart := false, narrowed := true }
def LineValuesUptoSaid : Prop := lineValuesUptoRow.holds Try.pinned (OpenSpec.upto lineValuesSpec)

end Rows
end Go.Proofs.Ytookjnpmbenheaa

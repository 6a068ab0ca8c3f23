-- Printed by a program of this session's over the kit's printer; library functions by contracts off the shelf.
import Derived.Test.YtookjnpmbenheaaDoorGP
import Derived.Test.YtookjnpmbenheaaDoorProg
import Derived.Test.YtookjnpmbenheaaDoorShelf
import Derived.Below
import Derived.Deep.Draws
import Derived.Deep.AppendLies
import Derived.Maps.AppendAt
import Derived.OwnWalk
import Derived.Laws.BytesArg
import Derived.Laws.MakeOwn
import Derived.Laws.OwnMore
import Derived.Deep.OwnRows
import Derived.Tactics
import Derived.Lib.ConvBytes
import Derived.Laws.Slices
import Derived.WalkKit
import Derived.KernelRfl
import Derived.RowKit3
import Derived.Deep.LoopGhost
import Derived.Deep.QuietTactic
import Derived.BigQuiet
import Derived.WideLaws
import Derived.Deep.DeepCutAuto
import Derived.Deep.CutBlock
import Derived.Deep.RegionHeld3
import Derived.Laws.Rows
import Derived.Lib.AppendStr
import Derived.ArgAppend
import Derived.Laws.IdiomCopy
import Derived.OrdersHeld
import Derived.Laws.BitsLemmas
import Derived.RowKit
import Derived.Test.YtookjnpmbenheaaDoorWWords
import Derived.Test.YtookjnpmbenheaaDoorWLast
import Derived.Test.YtookjnpmbenheaaDoorWTab
import Derived.Test.YtookjnpmbenheaaDoorWFour
import Derived.Test.YtookjnpmbenheaaDoorWQPut
import Derived.Test.YtookjnpmbenheaaDoorWApart
import Derived.Test.YtookjnpmbenheaaDoorWArr
import Derived.Test.YtookjnpmbenheaaDoorWZeros
import Derived.Test.YtookjnpmbenheaaDoorWFoot
import Derived.Test.YtookjnpmbenheaaDoorWKept
import Derived.Test.YtookjnpmbenheaaDoorWShare
import Derived.Test.YtookjnpmbenheaaDoorWN
import Derived.Test.YtookjnpmbenheaaDoorWFootNe
import Derived.Test.YtookjnpmbenheaaDoorWAt
import Derived.Test.YtookjnpmbenheaaDoorWEqStruct
import Derived.Test.YtookjnpmbenheaaDoorWRepsOne
import Derived.Test.YtookjnpmbenheaaDoorWInv
import Derived.Test.YtookjnpmbenheaaDoorWInvWords
import Derived.Test.YtookjnpmbenheaaDoorWGuard
import Derived.Test.YtookjnpmbenheaaDoorWNEv
import Derived.Test.YtookjnpmbenheaaDoorWMore
namespace Go.Proofs.YtookjnpmbenheaaDoor.PFmt
open Go.RowKit Go.Proofs.YtookjnpmbenheaaDoorW.PrintWords Go.Proofs.YtookjnpmbenheaaDoorW.PrintLast Go.Proofs.YtookjnpmbenheaaDoorW.PrintMore Go.Proofs.YtookjnpmbenheaaDoor.Base
attribute [local go_sem] max2_int min2_int max_two min_two max_three min_three max_four min_four   -- for this text's walks alone
set_option linter.unusedVariables false
set_option linter.unusedSimpArgs false



def errW : Option Int → Value
  | none => .nilIface
  | some c => .iface 0 (.int .i64 c)
theorem errW_none : errW none = .nilIface := rfl
theorem errW_some (c : Int) : errW (some c) = .iface 0 (.int .i64 c) := rfl

theorem info5 : (Tryd.prog.info? 5).map (fun i => (i.zero, i.size, i.bytes)) = some (some (.int .u8 0), 1, 1) := by kernel_rfl
theorem info9 : (Tryd.prog.info? 9).map (fun i => (i.zero, i.size, i.bytes)) = some (some (.string ⟨#[]⟩), 1, 16) := by kernel_rfl
-- the values' own types

end Go.Proofs.YtookjnpmbenheaaDoor.PFmt

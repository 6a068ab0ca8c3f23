-- Printed by a program of this session's over the kit's printer; library functions by contracts off the shelf.
import Derived.Test.YtlfohcjajmebjaaDoorGP
import Derived.Test.YtlfohcjajmebjaaDoorProg
import Derived.Test.YtlfohcjajmebjaaDoorShelf
import Derived.Below
import Derived.Deep.Draws
import Derived.Deep.AppendLies
import Derived.Maps.AppendAt
import Derived.OwnWalk
import Derived.Laws.BytesArg
import Derived.Laws.MakeOwn
import Derived.Laws.OwnMore
import Derived.Deep.OwnRows
import Derived.Tactics
import Derived.Lib.ConvBytes
import Derived.Laws.Slices
import Derived.WalkKit
import Derived.KernelRfl
import Derived.RowKit3
import Derived.Deep.LoopGhost
import Derived.Deep.QuietTactic
import Derived.BigQuiet
import Derived.WideLaws
import Derived.Deep.DeepCutAuto
import Derived.Deep.CutBlock
import Derived.Deep.RegionHeld3
import Derived.Laws.Rows
import Derived.Lib.AppendStr
import Derived.ArgAppend
import Derived.Laws.IdiomCopy
import Derived.OrdersHeld
import Derived.Laws.BitsLemmas
import Derived.RowKit
import Derived.Test.YtlfohcjajmebjaaDoorWWords
import Derived.Test.YtlfohcjajmebjaaDoorWLast
import Derived.Test.YtlfohcjajmebjaaDoorWTab
import Derived.Test.YtlfohcjajmebjaaDoorWFour
import Derived.Test.YtlfohcjajmebjaaDoorWQPut
import Derived.Test.YtlfohcjajmebjaaDoorWApart
import Derived.Test.YtlfohcjajmebjaaDoorWArr
import Derived.Test.YtlfohcjajmebjaaDoorWZeros
import Derived.Test.YtlfohcjajmebjaaDoorWFoot
import Derived.Test.YtlfohcjajmebjaaDoorWKept
import Derived.Test.YtlfohcjajmebjaaDoorWShare
import Derived.Test.YtlfohcjajmebjaaDoorWN
import Derived.Test.YtlfohcjajmebjaaDoorWFootNe
import Derived.Test.YtlfohcjajmebjaaDoorWAt
import Derived.Test.YtlfohcjajmebjaaDoorWEqStruct
import Derived.Test.YtlfohcjajmebjaaDoorWRepsOne
import Derived.Test.YtlfohcjajmebjaaDoorWInv
import Derived.Test.YtlfohcjajmebjaaDoorWInvWords
import Derived.Test.YtlfohcjajmebjaaDoorWGuard
import Derived.Test.YtlfohcjajmebjaaDoorWNEv
import Derived.Test.YtlfohcjajmebjaaDoorWMore
namespace Go.Proofs.YtlfohcjajmebjaaDoor.PClk
open Go.RowKit Go.Proofs.YtlfohcjajmebjaaDoorW.PrintWords Go.Proofs.YtlfohcjajmebjaaDoorW.PrintLast Go.Proofs.YtlfohcjajmebjaaDoorW.PrintMore Go.Proofs.YtlfohcjajmebjaaDoor.Base
attribute [local go_sem] max2_int min2_int max_two min_two max_three min_three max_four min_four   -- for this text's walks alone
set_option linter.unusedVariables false
set_option linter.unusedSimpArgs false



def errW : Option Int → Value
  | none => .nilIface
  | some c => .iface 0 (.int .i64 c)
theorem errW_none : errW none = .nilIface := rfl
theorem errW_some (c : Int) : errW (some c) = .iface 0 (.int .i64 c) := rfl

theorem info5 : (Tryd.prog.info? 5).map (fun i => (i.zero, i.size, i.bytes)) = some (some (.int .u8 0), 1, 1) := by kernel_rfl
theorem info9 : (Tryd.prog.info? 9).map (fun i => (i.zero, i.size, i.bytes)) = some (some (.string ⟨#[]⟩), 1, 16) := by kernel_rfl
-- the values' own types

end Go.Proofs.YtlfohcjajmebjaaDoor.PClk

-- Printed by a program of this session's over the kit's printer; library functions by contracts off the shelf.
import Derived.Test.YtmkknigneppneaaDoorGP
import Derived.Test.YtmkknigneppneaaDoorProg
import Derived.Test.YtmkknigneppneaaDoorShelf
import Derived.Below
import Derived.Deep.Draws
import Derived.Deep.AppendLies
import Derived.Maps.AppendAt
import Derived.OwnWalk
import Derived.Laws.BytesArg
import Derived.Laws.MakeOwn
import Derived.Laws.OwnMore
import Derived.Deep.OwnRows
import Derived.Tactics
import Derived.Lib.ConvBytes
import Derived.Laws.Slices
import Derived.WalkKit
import Derived.KernelRfl
import Derived.RowKit3
import Derived.Deep.LoopGhost
import Derived.Deep.QuietTactic
import Derived.BigQuiet
import Derived.WideLaws
import Derived.Deep.DeepCutAuto
import Derived.Deep.CutBlock
import Derived.Deep.RegionHeld3
import Derived.Laws.Rows
import Derived.Lib.AppendStr
import Derived.ArgAppend
import Derived.Laws.IdiomCopy
import Derived.OrdersHeld
import Derived.Laws.BitsLemmas
import Derived.RowKit
import Derived.Test.YtmkknigneppneaaDoorWWords
import Derived.Test.YtmkknigneppneaaDoorWLast
import Derived.Test.YtmkknigneppneaaDoorWTab
import Derived.Test.YtmkknigneppneaaDoorWFour
import Derived.Test.YtmkknigneppneaaDoorWQPut
import Derived.Test.YtmkknigneppneaaDoorWApart
import Derived.Test.YtmkknigneppneaaDoorWArr
import Derived.Test.YtmkknigneppneaaDoorWZeros
import Derived.Test.YtmkknigneppneaaDoorWFoot
import Derived.Test.YtmkknigneppneaaDoorWKept
import Derived.Test.YtmkknigneppneaaDoorWShare
import Derived.Test.YtmkknigneppneaaDoorWN
import Derived.Test.YtmkknigneppneaaDoorWFootNe
import Derived.Test.YtmkknigneppneaaDoorWAt
import Derived.Test.YtmkknigneppneaaDoorWEqStruct
import Derived.Test.YtmkknigneppneaaDoorWRepsOne
import Derived.Test.YtmkknigneppneaaDoorWInv
import Derived.Test.YtmkknigneppneaaDoorWInvWords
import Derived.Test.YtmkknigneppneaaDoorWGuard
import Derived.Test.YtmkknigneppneaaDoorWNEv
import Derived.Test.YtmkknigneppneaaDoorWMore
namespace Go.Proofs.YtmkknigneppneaaDoor.PFld
open Go.RowKit Go.Proofs.YtmkknigneppneaaDoorW.PrintWords Go.Proofs.YtmkknigneppneaaDoorW.PrintLast Go.Proofs.YtmkknigneppneaaDoorW.PrintMore Go.Proofs.YtmkknigneppneaaDoor.Base
attribute [local go_sem] max2_int min2_int max_two min_two max_three min_three max_four min_four   -- for this text's walks alone
set_option linter.unusedVariables false
set_option linter.unusedSimpArgs false



def errW : Option Int → Value
  | none => .nilIface
  | some c => .iface 0 (.int .i64 c)
theorem errW_none : errW none = .nilIface := rfl
theorem errW_some (c : Int) : errW (some c) = .iface 0 (.int .i64 c) := rfl

theorem info9 : (Tryd.prog.info? 9).map (fun i => (i.zero, i.size, i.bytes)) = some (some (.string ⟨#[]⟩), 1, 16) := by kernel_rfl
-- the values' own types

end Go.Proofs.YtmkknigneppneaaDoor.PFld

/- Printed functions of the family Tre without a bound on their rounds, and the equation that each meets. No condition. -/
import Derived.Test.YtdgeokpbedllaaaDoorBase
import Derived.Test.YtdgeokpbedllaaaDoorPTrex20
import Derived.Test.YtdgeokpbedllaaaDoorETrex9
import Derived.Test.YtdgeokpbedllaaaDoorETrex12
import Derived.Test.YtdgeokpbedllaaaDoorETrex15
import Derived.Test.YtdgeokpbedllaaaDoorETrex17
import Derived.Test.YtdgeokpbedllaaaDoorETrex18
namespace Go.Proofs.YtdgeokpbedllaaaDoor.PTre
open Go.RowKit Go.Proofs.YtdgeokpbedllaaaDoorW.PrintWords Go.Proofs.YtdgeokpbedllaaaDoorW.PrintLast Go.Proofs.YtdgeokpbedllaaaDoor.Base
set_option linter.unusedVariables false
noncomputable def solsticelaw19_TreeReads.F (a0 : ByteArray) : Option (Bool) := lim fun k => solsticelaw19_TreeReads.f k a0
theorem solsticelaw19_TreeReads.F_eq (a0 : ByteArray) : solsticelaw19_TreeReads.F a0 = if (a0.size : Int) > 3000 then (some true) else ((tree_Parse.F a0).bind fun bt364 => (if bt364.2 = 0 then ((tree_Text.F bt364.1).bind fun bt369 => ((tree_Parse.F bt369.1).bind fun bt371 => ((tree_Check.F bt364.1).bind fun t375 => (if t375 = 0 then (if bt369.2 = 0 then (if bt371.2 = 0 then ((solsticekeep_Comps.F bt371.1 bt364.1).bind fun t376 => (if t376 = true then ((solsticelaw19_wakes.F).bind fun t377 => (some t377)) else (some false))) else (some false)) else (some false)) else (some false))))) else (if (bt364.1.length : Int) = 0 then ((solsticelaw19_wakes.F).bind fun t368 => (some t368)) else (some false)))) := by
  apply IsLim.via
  case hf =>
    repeat'
      try intro _
      first
      | (with_reducible exact solsticekeep_Comps.isF _ _)
      | (with_reducible exact solsticelaw19_wakes.isF)
      | (with_reducible exact tree_Check.isF _)
      | (with_reducible exact tree_Parse.isF _)
      | (with_reducible exact tree_Text.isF _)
      | (with_reducible apply IsLim.ite)
      | (with_reducible apply IsLim.bind)
      | (apply IsLim.cst; intro _; exact rfl)
  case h => exact fun _ => rfl
end Go.Proofs.YtdgeokpbedllaaaDoor.PTre

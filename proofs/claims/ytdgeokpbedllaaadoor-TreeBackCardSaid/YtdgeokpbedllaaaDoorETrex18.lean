/- Printed functions of the family Tre without a bound on their rounds, and the equation that each meets. No condition. -/
import Derived.Test.YtdgeokpbedllaaaDoorBase
import Derived.Test.YtdgeokpbedllaaaDoorPTrex18
namespace Go.Proofs.YtdgeokpbedllaaaDoor.PTre
open Go.RowKit Go.Proofs.YtdgeokpbedllaaaDoorW.PrintWords Go.Proofs.YtdgeokpbedllaaaDoorW.PrintLast Go.Proofs.YtdgeokpbedllaaaDoor.Base
set_option linter.unusedVariables false
noncomputable def solsticelaw19_wakes.F  : Option (Bool) := lim fun k => solsticelaw19_wakes.f k
theorem solsticelaw19_wakes.isF  : IsLim (fun k => solsticelaw19_wakes.f k) (solsticelaw19_wakes.F ) := ⟨fun k => solsticelaw19_wakes.mono k, rfl⟩
end Go.Proofs.YtdgeokpbedllaaaDoor.PTre

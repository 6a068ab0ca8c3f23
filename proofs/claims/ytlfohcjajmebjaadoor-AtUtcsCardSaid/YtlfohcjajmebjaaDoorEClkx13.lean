/- Printed functions of the family Clk without a bound on their rounds, and the equation that each meets. No condition. -/
import Derived.Test.YtlfohcjajmebjaaDoorBase
import Derived.Test.YtlfohcjajmebjaaDoorPClkx13
import Derived.Test.YtlfohcjajmebjaaDoorEClkx9
import Derived.Test.YtlfohcjajmebjaaDoorEClkx10
namespace Go.Proofs.YtlfohcjajmebjaaDoor.PClk
open Go.RowKit Go.Proofs.YtlfohcjajmebjaaDoorW.PrintWords Go.Proofs.YtlfohcjajmebjaaDoorW.PrintLast Go.Proofs.YtlfohcjajmebjaaDoor.Base
set_option linter.unusedVariables false
noncomputable def solsticelaw08_AtUtcs.F (a0 : Int) (a1 : Int) (a2 : Int) : Option (Bool) := lim fun k => solsticelaw08_AtUtcs.f k a0 a1 a2
theorem solsticelaw08_AtUtcs.isF (a0 : Int) (a1 : Int) (a2 : Int) : IsLim (fun k => solsticelaw08_AtUtcs.f k a0 a1 a2) (solsticelaw08_AtUtcs.F a0 a1 a2) := ⟨fun k => solsticelaw08_AtUtcs.mono a0 a1 a2 k, rfl⟩
theorem solsticelaw08_AtUtcs.F_eq (a0 : Int) (a1 : Int) (a2 : Int) : solsticelaw08_AtUtcs.F a0 a1 a2 = (atform_Utc.F (Int.tmod a0 1099511627776) 3 (Int.tmod a1 345601) (Int.tmod a2 345601)).bind fun bt288 => ((atform_Utc.F (Int.tmod a0 1099511627776) 2 (Int.tmod a1 345601) (Int.tmod a2 345601)).bind fun bt290 => ((atform_Utc.F (Int.tmod a0 1099511627776) 1 (Int.tmod a1 345601) (Int.tmod a2 345601)).bind fun bt292 => ((atform_Utc.F (Int.tmod a0 1099511627776) 0 (Int.tmod a1 345601) (Int.tmod a2 345601)).bind fun bt294 => ((atform_Utc.F (Int.tmod a0 1099511627776) 3 345601 (Int.tmod a2 345601)).bind fun bt296 => (if bt288.2 = true then (if bt290.2 = true then (if bt292.2 = true then (if bt294.2 = true then (some false) else (if bt296.2 = true then (some false) else (if bt288.1 = (Int.tmod a0 1099511627776) then (if (wrap64 (bt290.1 + (Int.tmod a1 345601))) = (Int.tmod a0 1099511627776) then (if (wrap64 ((wrap64 (bt292.1 + (Int.tmod a1 345601))) + (Int.tmod a2 345601))) = (Int.tmod a0 1099511627776) then ((solsticelaw08_wakes.F).bind fun t298 => (some t298)) else (some false)) else (some false)) else (some false)))) else (some false)) else (some false)) else (some false)))))) := by
  refine IsLim.eq (g := fun k => (atform_Utc.f k (Int.tmod a0 1099511627776) 3 (Int.tmod a1 345601) (Int.tmod a2 345601)).bind fun bt288 => ((atform_Utc.f k (Int.tmod a0 1099511627776) 2 (Int.tmod a1 345601) (Int.tmod a2 345601)).bind fun bt290 => ((atform_Utc.f k (Int.tmod a0 1099511627776) 1 (Int.tmod a1 345601) (Int.tmod a2 345601)).bind fun bt292 => ((atform_Utc.f k (Int.tmod a0 1099511627776) 0 (Int.tmod a1 345601) (Int.tmod a2 345601)).bind fun bt294 => ((atform_Utc.f k (Int.tmod a0 1099511627776) 3 345601 (Int.tmod a2 345601)).bind fun bt296 => (if bt288.2 = true then (if bt290.2 = true then (if bt292.2 = true then (if bt294.2 = true then (some false) else (if bt296.2 = true then (some false) else (if bt288.1 = (Int.tmod a0 1099511627776) then (if (wrap64 (bt290.1 + (Int.tmod a1 345601))) = (Int.tmod a0 1099511627776) then (if (wrap64 ((wrap64 (bt292.1 + (Int.tmod a1 345601))) + (Int.tmod a2 345601))) = (Int.tmod a0 1099511627776) then ((solsticelaw08_wakes.f k).bind fun t298 => (some t298)) else (some false)) else (some false)) else (some false)))) else (some false)) else (some false)) else (some false))))))) ?_
  · repeat' first
    | (with_reducible exact IsLim.const _)
    | (with_reducible exact atform_Utc.isF _ _ _ _)
    | (with_reducible exact solsticelaw08_wakes.isF)
    | (with_reducible refine IsLim.ite ?_ ?_)
    | (with_reducible refine IsLim.bind ?_ (fun _ => ?_))
end Go.Proofs.YtlfohcjajmebjaaDoor.PClk

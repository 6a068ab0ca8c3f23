/- Printed functions of the family Clk without a bound on their rounds, and the equation that each meets. No condition. -/
import Derived.Test.YtlfohcjajmebjaaDoorBase
import Derived.Test.YtlfohcjajmebjaaDoorPClkx7
import Derived.Test.YtlfohcjajmebjaaDoorEClkx2
import Derived.Test.YtlfohcjajmebjaaDoorEClkx3
import Derived.Test.YtlfohcjajmebjaaDoorEClkx5
namespace Go.Proofs.YtlfohcjajmebjaaDoor.PClk
open Go.RowKit Go.Proofs.YtlfohcjajmebjaaDoorW.PrintWords Go.Proofs.YtlfohcjajmebjaaDoorW.PrintLast Go.Proofs.YtlfohcjajmebjaaDoor.Base
set_option linter.unusedVariables false
noncomputable def solsticelaw04_ClockBack.J0 (x2 : ByteArray) (x79 : Bool) : Option (Bool) := lim fun k => solsticelaw04_ClockBack.j0 k x2 x79
noncomputable def solsticelaw04_ClockBack.F (a0 : Int) (a1 : Int) (a2 : ByteArray) : Option (Bool) := lim fun k => solsticelaw04_ClockBack.f k a0 a1 a2
theorem solsticelaw04_ClockBack.isJ0 (x2 : ByteArray) (x79 : Bool) : IsLim (fun k => solsticelaw04_ClockBack.j0 k x2 x79) (solsticelaw04_ClockBack.J0 x2 x79) := ⟨fun k => (solsticelaw04_ClockBack.mono_l k) x2 x79, rfl⟩
theorem solsticelaw04_ClockBack.isF (a0 : Int) (a1 : Int) (a2 : ByteArray) : IsLim (fun k => solsticelaw04_ClockBack.f k a0 a1 a2) (solsticelaw04_ClockBack.F a0 a1 a2) := ⟨fun k => solsticelaw04_ClockBack.mono a0 a1 a2 k, rfl⟩
theorem solsticelaw04_ClockBack.J0_eq (x2 : ByteArray) (x79 : Bool) : solsticelaw04_ClockBack.J0 x2 x79 = if x79 = true then (some false) else ((clock_Parse.F x2).bind fun bt188 => (if bt188.2 = 0 then ((clock_Text.F bt188.1).bind fun bt190 => ((clock_Parse.F bt190.1).bind fun bt192 => (if bt190.2 = 0 then (if bt192.2 = 0 then (if bt192.1 = bt188.1 then ((solsticelaw04_wakes.F).bind fun t194 => (some t194)) else (some false)) else (some false)) else (some false)))) else (if bt188.1 = 0 then ((solsticelaw04_wakes.F).bind fun t195 => (some t195)) else (some false)))) := by
  refine IsLim.step (solsticelaw04_ClockBack.isJ0 x2 x79).mono (f := fun k => if x79 = true then (some false) else ((clock_Parse.f k x2).bind fun bt188 => (if bt188.2 = 0 then ((clock_Text.f k bt188.1).bind fun bt190 => ((clock_Parse.f k bt190.1).bind fun bt192 => (if bt190.2 = 0 then (if bt192.2 = 0 then (if bt192.1 = bt188.1 then ((solsticelaw04_wakes.f k).bind fun t194 => (some t194)) else (some false)) else (some false)) else (some false)))) else (if bt188.1 = 0 then ((solsticelaw04_wakes.f k).bind fun t195 => (some t195)) else (some false))))) (fun k => by rw [solsticelaw04_ClockBack.j0]) ?_
  · repeat' first
    | (with_reducible exact IsLim.const _)
    | (with_reducible exact clock_Parse.isF _)
    | (with_reducible exact clock_Text.isF _)
    | (with_reducible exact solsticelaw04_wakes.isF)
    | (with_reducible refine IsLim.ite ?_ ?_)
    | (with_reducible refine IsLim.bind ?_ (fun _ => ?_))
theorem solsticelaw04_ClockBack.F_eq (a0 : Int) (a1 : Int) (a2 : ByteArray) : solsticelaw04_ClockBack.F a0 a1 a2 = if (a2.size : Int) > 100 then (some true) else ((clock_Text.F (Int.tmod a0 345601)).bind fun bt179 => ((clock_Parse.F bt179.1).bind fun bt181 => ((clock_Split.f a1).bind fun bt183 => ((clock_Join.F bt183.1 bt183.2).bind fun bt185 => (if bt179.2 = 0 then (if bt181.2 = 0 then (if bt181.1 = (Int.tmod a0 345601) then (if bt183.2 < 0 then (solsticelaw04_ClockBack.J0 a2 true) else (if bt183.2 ≥ 86400 then (solsticelaw04_ClockBack.J0 a2 true) else ((solsticeref01_Bound.f a1).bind fun t187 => (if (t187 != bt185.2) = true then (solsticelaw04_ClockBack.J0 a2 true) else (if bt185.2 = true then (solsticelaw04_ClockBack.J0 a2 (bt185.1 != a1)) else (solsticelaw04_ClockBack.J0 a2 false)))))) else (solsticelaw04_ClockBack.J0 a2 true)) else (solsticelaw04_ClockBack.J0 a2 true)) else (solsticelaw04_ClockBack.J0 a2 true)))))) := by
  refine IsLim.eq (g := fun k => if (a2.size : Int) > 100 then (some true) else ((clock_Text.f k (Int.tmod a0 345601)).bind fun bt179 => ((clock_Parse.f k bt179.1).bind fun bt181 => ((clock_Split.f a1).bind fun bt183 => ((clock_Join.f k bt183.1 bt183.2).bind fun bt185 => (if bt179.2 = 0 then (if bt181.2 = 0 then (if bt181.1 = (Int.tmod a0 345601) then (if bt183.2 < 0 then (solsticelaw04_ClockBack.j0 k a2 true) else (if bt183.2 ≥ 86400 then (solsticelaw04_ClockBack.j0 k a2 true) else ((solsticeref01_Bound.f a1).bind fun t187 => (if (t187 != bt185.2) = true then (solsticelaw04_ClockBack.j0 k a2 true) else (if bt185.2 = true then (solsticelaw04_ClockBack.j0 k a2 (bt185.1 != a1)) else (solsticelaw04_ClockBack.j0 k a2 false)))))) else (solsticelaw04_ClockBack.j0 k a2 true)) else (solsticelaw04_ClockBack.j0 k a2 true)) else (solsticelaw04_ClockBack.j0 k a2 true))))))) ?_
  · repeat' first
    | (with_reducible exact IsLim.const _)
    | (with_reducible exact clock_Join.isF _ _)
    | (with_reducible exact clock_Parse.isF _)
    | (with_reducible exact clock_Text.isF _)
    | (with_reducible exact solsticelaw04_ClockBack.isJ0 _ _)
    | (with_reducible refine IsLim.ite ?_ ?_)
    | (with_reducible refine IsLim.bind ?_ (fun _ => ?_))
end Go.Proofs.YtlfohcjajmebjaaDoor.PClk

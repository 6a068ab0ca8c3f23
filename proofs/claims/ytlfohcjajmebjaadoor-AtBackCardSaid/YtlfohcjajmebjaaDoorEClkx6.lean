/- Printed functions of the family Clk without a bound on their rounds, and the equation that each meets. No condition. -/
import Derived.Test.YtlfohcjajmebjaaDoorBase
import Derived.Test.YtlfohcjajmebjaaDoorPClkx6
namespace Go.Proofs.YtlfohcjajmebjaaDoor.PClk
open Go.RowKit Go.Proofs.YtlfohcjajmebjaaDoorW.PrintWords Go.Proofs.YtlfohcjajmebjaaDoorW.PrintLast Go.Proofs.YtlfohcjajmebjaaDoor.Base
set_option linter.unusedVariables false
noncomputable def solsticeref01_Value.L0 (x0 : ByteArray) (x3 : Int) (x4 : Int) : Option (Int) := lim fun k => solsticeref01_Value.l0 k x0 x3 x4
noncomputable def solsticeref01_Value.F (a0 : ByteArray) : Option (Int) := lim fun k => solsticeref01_Value.f k a0
theorem solsticeref01_Value.isL0 (x0 : ByteArray) (x3 : Int) (x4 : Int) : IsLim (fun k => solsticeref01_Value.l0 k x0 x3 x4) (solsticeref01_Value.L0 x0 x3 x4) := ⟨fun k => (solsticeref01_Value.mono_l k) x0 x3 x4, rfl⟩
theorem solsticeref01_Value.isF (a0 : ByteArray) : IsLim (fun k => solsticeref01_Value.f k a0) (solsticeref01_Value.F a0) := ⟨fun k => solsticeref01_Value.mono a0 k, rfl⟩
theorem solsticeref01_Value.L0_eq (x0 : ByteArray) (x3 : Int) (x4 : Int) : solsticeref01_Value.L0 x0 x3 x4 = if x4 < (x0.size : Int) then (if 0 ≤ x4 then (solsticeref01_Value.L0 x0 (wrap64 ((wrap64 ((wrap64 (10 * x3)) + (wrap64 (bt x0 x4)))) - 48)) (wrap64 (x4 + 1))) else (none)) else (some x3) := by
  refine IsLim.step (solsticeref01_Value.isL0 x0 x3 x4).mono (f := fun k => if x4 < (x0.size : Int) then (if 0 ≤ x4 then (solsticeref01_Value.l0 k x0 (wrap64 ((wrap64 ((wrap64 (10 * x3)) + (wrap64 (bt x0 x4)))) - 48)) (wrap64 (x4 + 1))) else (none)) else (some x3)) (fun k => by rw [solsticeref01_Value.l0]) ?_
  · repeat' first
    | (with_reducible exact IsLim.const _)
    | (with_reducible exact solsticeref01_Value.isL0 _ _ _)
    | (with_reducible refine IsLim.ite ?_ ?_)
    | (with_reducible refine IsLim.bind ?_ (fun _ => ?_))
theorem solsticeref01_Value.F_eq (a0 : ByteArray) : solsticeref01_Value.F a0 = solsticeref01_Value.L0 a0 0 0 := by
  refine IsLim.eq (g := fun k => solsticeref01_Value.l0 k a0 0 0) ?_
  · repeat' first
    | (with_reducible exact IsLim.const _)
    | (with_reducible exact solsticeref01_Value.isL0 _ _ _)
    | (with_reducible refine IsLim.ite ?_ ?_)
    | (with_reducible refine IsLim.bind ?_ (fun _ => ?_))
end Go.Proofs.YtlfohcjajmebjaaDoor.PClk

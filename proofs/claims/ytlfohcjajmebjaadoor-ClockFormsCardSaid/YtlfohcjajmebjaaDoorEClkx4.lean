/- Printed functions of the family Clk without a bound on their rounds, and the equation that each meets. No condition. -/
import Derived.Test.YtlfohcjajmebjaaDoorBase
import Derived.Test.YtlfohcjajmebjaaDoorPClkx4
namespace Go.Proofs.YtlfohcjajmebjaaDoor.PClk
open Go.RowKit Go.Proofs.YtlfohcjajmebjaaDoorW.PrintWords Go.Proofs.YtlfohcjajmebjaaDoorW.PrintLast Go.Proofs.YtlfohcjajmebjaaDoor.Base
set_option linter.unusedVariables false
noncomputable def solsticeref01_Digits.J0 (x0 : ByteArray) (x17 : Bool) : Option (Bool) := lim fun k => solsticeref01_Digits.j0 k x0 x17
noncomputable def solsticeref01_Digits.L0 (x0 : ByteArray) (x7 : Int) : Option (Bool) := lim fun k => solsticeref01_Digits.l0 k x0 x7
noncomputable def solsticeref01_Digits.F (a0 : ByteArray) (a1 : Int) (a2 : Int) : Option (Bool) := lim fun k => solsticeref01_Digits.f k a0 a1 a2
theorem solsticeref01_Digits.isJ0 (x0 : ByteArray) (x17 : Bool) : IsLim (fun k => solsticeref01_Digits.j0 k x0 x17) (solsticeref01_Digits.J0 x0 x17) := ⟨fun k => (solsticeref01_Digits.mono_l k).1 x0 x17, rfl⟩
theorem solsticeref01_Digits.isL0 (x0 : ByteArray) (x7 : Int) : IsLim (fun k => solsticeref01_Digits.l0 k x0 x7) (solsticeref01_Digits.L0 x0 x7) := ⟨fun k => (solsticeref01_Digits.mono_l k).2 x0 x7, rfl⟩
theorem solsticeref01_Digits.isF (a0 : ByteArray) (a1 : Int) (a2 : Int) : IsLim (fun k => solsticeref01_Digits.f k a0 a1 a2) (solsticeref01_Digits.F a0 a1 a2) := ⟨fun k => solsticeref01_Digits.mono a0 a1 a2 k, rfl⟩
theorem solsticeref01_Digits.J0_eq (x0 : ByteArray) (x17 : Bool) : solsticeref01_Digits.J0 x0 x17 = if x17 = true then (some false) else (solsticeref01_Digits.L0 x0 0) := by
  refine IsLim.step (solsticeref01_Digits.isJ0 x0 x17).mono (f := fun k => if x17 = true then (some false) else (solsticeref01_Digits.l0 k x0 0)) (fun k => by rw [solsticeref01_Digits.j0]) ?_
  · repeat' first
    | (with_reducible exact IsLim.const _)
    | (with_reducible exact solsticeref01_Digits.isL0 _ _)
    | (with_reducible refine IsLim.ite ?_ ?_)
    | (with_reducible refine IsLim.bind ?_ (fun _ => ?_))
theorem solsticeref01_Digits.L0_eq (x0 : ByteArray) (x7 : Int) : solsticeref01_Digits.L0 x0 x7 = if x7 < (x0.size : Int) then (if 0 ≤ x7 then ((solsticeref01_digit.f (bt x0 x7)).bind fun t131 => (if t131 = true then (solsticeref01_Digits.L0 x0 (wrap64 (x7 + 1))) else (some false))) else (none)) else (some true) := by
  refine IsLim.step (solsticeref01_Digits.isL0 x0 x7).mono (f := fun k => if x7 < (x0.size : Int) then (if 0 ≤ x7 then ((solsticeref01_digit.f (bt x0 x7)).bind fun t131 => (if t131 = true then (solsticeref01_Digits.l0 k x0 (wrap64 (x7 + 1))) else (some false))) else (none)) else (some true)) (fun k => by rw [solsticeref01_Digits.l0]) ?_
  · repeat' first
    | (with_reducible exact IsLim.const _)
    | (with_reducible exact solsticeref01_Digits.isL0 _ _)
    | (with_reducible refine IsLim.ite ?_ ?_)
    | (with_reducible refine IsLim.bind ?_ (fun _ => ?_))
theorem solsticeref01_Digits.F_eq (a0 : ByteArray) (a1 : Int) (a2 : Int) : solsticeref01_Digits.F a0 a1 a2 = if (a0.size : Int) < a1 then (solsticeref01_Digits.J0 a0 true) else (solsticeref01_Digits.J0 a0 (decide ((a0.size : Int) > a2))) := by
  refine IsLim.eq (g := fun k => if (a0.size : Int) < a1 then (solsticeref01_Digits.j0 k a0 true) else (solsticeref01_Digits.j0 k a0 (decide ((a0.size : Int) > a2)))) ?_
  · repeat' first
    | (with_reducible exact IsLim.const _)
    | (with_reducible exact solsticeref01_Digits.isJ0 _ _)
    | (with_reducible refine IsLim.ite ?_ ?_)
    | (with_reducible refine IsLim.bind ?_ (fun _ => ?_))
noncomputable def solsticeref01_Value.L0 (x0 : ByteArray) (x3 : Int) (x4 : Int) : Option (Int) := lim fun k => solsticeref01_Value.l0 k x0 x3 x4
noncomputable def solsticeref01_Value.F (a0 : ByteArray) : Option (Int) := lim fun k => solsticeref01_Value.f k a0
theorem solsticeref01_Value.isL0 (x0 : ByteArray) (x3 : Int) (x4 : Int) : IsLim (fun k => solsticeref01_Value.l0 k x0 x3 x4) (solsticeref01_Value.L0 x0 x3 x4) := ⟨fun k => (solsticeref01_Value.mono_l k) x0 x3 x4, rfl⟩
theorem solsticeref01_Value.isF (a0 : ByteArray) : IsLim (fun k => solsticeref01_Value.f k a0) (solsticeref01_Value.F a0) := ⟨fun k => solsticeref01_Value.mono a0 k, rfl⟩
theorem solsticeref01_Value.L0_eq (x0 : ByteArray) (x3 : Int) (x4 : Int) : solsticeref01_Value.L0 x0 x3 x4 = if x4 < (x0.size : Int) then (if 0 ≤ x4 then (solsticeref01_Value.L0 x0 (wrap64 ((wrap64 ((wrap64 (10 * x3)) + (wrap64 (bt x0 x4)))) - 48)) (wrap64 (x4 + 1))) else (none)) else (some x3) := by
  refine IsLim.step (solsticeref01_Value.isL0 x0 x3 x4).mono (f := fun k => if x4 < (x0.size : Int) then (if 0 ≤ x4 then (solsticeref01_Value.l0 k x0 (wrap64 ((wrap64 ((wrap64 (10 * x3)) + (wrap64 (bt x0 x4)))) - 48)) (wrap64 (x4 + 1))) else (none)) else (some x3)) (fun k => by rw [solsticeref01_Value.l0]) ?_
  · repeat' first
    | (with_reducible exact IsLim.const _)
    | (with_reducible exact solsticeref01_Value.isL0 _ _ _)
    | (with_reducible refine IsLim.ite ?_ ?_)
    | (with_reducible refine IsLim.bind ?_ (fun _ => ?_))
theorem solsticeref01_Value.F_eq (a0 : ByteArray) : solsticeref01_Value.F a0 = solsticeref01_Value.L0 a0 0 0 := by
  refine IsLim.eq (g := fun k => solsticeref01_Value.l0 k a0 0 0) ?_
  · repeat' first
    | (with_reducible exact IsLim.const _)
    | (with_reducible exact solsticeref01_Value.isL0 _ _ _)
    | (with_reducible refine IsLim.ite ?_ ?_)
    | (with_reducible refine IsLim.bind ?_ (fun _ => ?_))
end Go.Proofs.YtlfohcjajmebjaaDoor.PClk

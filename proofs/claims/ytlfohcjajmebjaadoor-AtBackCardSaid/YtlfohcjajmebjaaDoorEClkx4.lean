/- Printed functions of the family Clk without a bound on their rounds, and the equation that each meets. No condition. -/
import Derived.Test.YtlfohcjajmebjaaDoorBase
import Derived.Test.YtlfohcjajmebjaaDoorPClkx4
import Derived.Test.YtlfohcjajmebjaaDoorEClkx3
namespace Go.Proofs.YtlfohcjajmebjaaDoor.PClk
open Go.RowKit Go.Proofs.YtlfohcjajmebjaaDoorW.PrintWords Go.Proofs.YtlfohcjajmebjaaDoorW.PrintLast Go.Proofs.YtlfohcjajmebjaaDoor.Base
set_option linter.unusedVariables false
noncomputable def atform_Utc.J0 (x0 : Int) (x1 : Int) (x2 : Int) (x3 : Int) (x27 : Bool) : Option (Int × Bool) := lim fun k => atform_Utc.j0 k x0 x1 x2 x3 x27
noncomputable def atform_Utc.F (a0 : Int) (a1 : Int) (a2 : Int) (a3 : Int) : Option (Int × Bool) := lim fun k => atform_Utc.f k a0 a1 a2 a3
theorem atform_Utc.isJ0 (x0 : Int) (x1 : Int) (x2 : Int) (x3 : Int) (x27 : Bool) : IsLim (fun k => atform_Utc.j0 k x0 x1 x2 x3 x27) (atform_Utc.J0 x0 x1 x2 x3 x27) := ⟨fun k => (atform_Utc.mono_l k) x0 x1 x2 x3 x27, rfl⟩
theorem atform_Utc.isF (a0 : Int) (a1 : Int) (a2 : Int) (a3 : Int) : IsLim (fun k => atform_Utc.f k a0 a1 a2 a3) (atform_Utc.F a0 a1 a2 a3) := ⟨fun k => atform_Utc.mono a0 a1 a2 a3 k, rfl⟩
theorem atform_Utc.J0_eq (x0 : Int) (x1 : Int) (x2 : Int) (x3 : Int) (x27 : Bool) : atform_Utc.J0 x0 x1 x2 x3 x27 = if x27 = true then (some (0, false)) else (if x1 = 1 then (some (wrap64 ((wrap64 (x0 - x2)) - x3), true)) else (if x1 = 2 then (some (wrap64 (x0 - x2), true)) else (some (x0, true)))) := by
  refine IsLim.step (atform_Utc.isJ0 x0 x1 x2 x3 x27).mono (f := fun k => if x27 = true then (some (0, false)) else (if x1 = 1 then (some (wrap64 ((wrap64 (x0 - x2)) - x3), true)) else (if x1 = 2 then (some (wrap64 (x0 - x2), true)) else (some (x0, true))))) (fun k => by rw [atform_Utc.j0]) ?_
  · repeat' first
    | (with_reducible exact IsLim.const _)
    | (with_reducible refine IsLim.ite ?_ ?_)
    | (with_reducible refine IsLim.bind ?_ (fun _ => ?_))
theorem atform_Utc.F_eq (a0 : Int) (a1 : Int) (a2 : Int) (a3 : Int) : atform_Utc.F a0 a1 a2 a3 = (atform_right.f a1).bind fun t131 => (if t131 = true then ((atform_in.f a0 4611686018427387904).bind fun t132 => (if t132 = true then ((atform_in.f a2 345600).bind fun t133 => (if t133 = true then ((atform_in.f a3 345600).bind fun t134 => (atform_Utc.J0 a0 a1 a2 a3 (!t134))) else (atform_Utc.J0 a0 a1 a2 a3 true))) else (atform_Utc.J0 a0 a1 a2 a3 true))) else (atform_Utc.J0 a0 a1 a2 a3 true)) := by
  refine IsLim.eq (g := fun k => (atform_right.f a1).bind fun t131 => (if t131 = true then ((atform_in.f a0 4611686018427387904).bind fun t132 => (if t132 = true then ((atform_in.f a2 345600).bind fun t133 => (if t133 = true then ((atform_in.f a3 345600).bind fun t134 => (atform_Utc.j0 k a0 a1 a2 a3 (!t134))) else (atform_Utc.j0 k a0 a1 a2 a3 true))) else (atform_Utc.j0 k a0 a1 a2 a3 true))) else (atform_Utc.j0 k a0 a1 a2 a3 true))) ?_
  · repeat' first
    | (with_reducible exact IsLim.const _)
    | (with_reducible exact atform_Utc.isJ0 _ _ _ _ _)
    | (with_reducible refine IsLim.ite ?_ ?_)
    | (with_reducible refine IsLim.bind ?_ (fun _ => ?_))
noncomputable def solsticelaw08_wakes.F  : Option (Bool) := lim fun k => solsticelaw08_wakes.f k
theorem solsticelaw08_wakes.isF  : IsLim (fun k => solsticelaw08_wakes.f k) (solsticelaw08_wakes.F ) := ⟨fun k => solsticelaw08_wakes.mono k, rfl⟩
theorem solsticelaw08_wakes.F_eq  : solsticelaw08_wakes.F  = (atform_Parse.F (⟨#[49, 58, 48, 48, 117]⟩ : ByteArray)).bind fun bt135 => ((atform_Text.F 7200 2).bind fun bt139 => ((atform_Utc.F 10000 1 3600 1800).bind fun bt141 => (if bt135.2.2 = 0 then (if bt135.1 = 3600 then (if bt135.2.1 = 3 then (if bt139.2 = 0 then (if bt139.1.toList = ([50, 115] : List UInt8) then (if bt141.2 = true then (if bt141.1 = 4600 then ((atform_Check.f 0 0).bind fun t143 => (some (t143 == 9))) else (some false)) else (some false)) else (some false)) else (some false)) else (some false)) else (some false)) else (some false)))) := by
  refine IsLim.eq (g := fun k => (atform_Parse.f k (⟨#[49, 58, 48, 48, 117]⟩ : ByteArray)).bind fun bt135 => ((atform_Text.f k 7200 2).bind fun bt139 => ((atform_Utc.f k 10000 1 3600 1800).bind fun bt141 => (if bt135.2.2 = 0 then (if bt135.1 = 3600 then (if bt135.2.1 = 3 then (if bt139.2 = 0 then (if bt139.1.toList = ([50, 115] : List UInt8) then (if bt141.2 = true then (if bt141.1 = 4600 then ((atform_Check.f 0 0).bind fun t143 => (some (t143 == 9))) else (some false)) else (some false)) else (some false)) else (some false)) else (some false)) else (some false)) else (some false))))) ?_
  · repeat' first
    | (with_reducible exact IsLim.const _)
    | (with_reducible exact atform_Parse.isF _)
    | (with_reducible exact atform_Text.isF _ _)
    | (with_reducible exact atform_Utc.isF _ _ _ _)
    | (with_reducible refine IsLim.ite ?_ ?_)
    | (with_reducible refine IsLim.bind ?_ (fun _ => ?_))
end Go.Proofs.YtlfohcjajmebjaaDoor.PClk

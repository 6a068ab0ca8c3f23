/- Printed functions of the family Num without a bound on their rounds, and the equation that each meets. No condition. -/
import Derived.Test.YtlfohcjajmebjaaDoorBase
import Derived.Test.YtlfohcjajmebjaaDoorPNumx5
import Derived.Test.YtlfohcjajmebjaaDoorENumx1
import Derived.Test.YtlfohcjajmebjaaDoorENumx3
import Derived.Test.YtlfohcjajmebjaaDoorENumx4
namespace Go.Proofs.YtlfohcjajmebjaaDoor.PNum
open Go.RowKit Go.Proofs.YtlfohcjajmebjaaDoorW.PrintWords Go.Proofs.YtlfohcjajmebjaaDoorW.PrintLast Go.Proofs.YtlfohcjajmebjaaDoor.Base
set_option linter.unusedVariables false
noncomputable def solsticelaw01_NumExact.J0 (x0 : Int) (x1 : Int) (x2 : ByteArray) (x13 : Int) (x14 : Int) (x15 : Bool) (x16 : Int) (x17 : Bool) (x90 : Bool) : Option (Bool) := lim fun k => solsticelaw01_NumExact.j0 k x0 x1 x2 x13 x14 x15 x16 x17 x90
noncomputable def solsticelaw01_NumExact.J1 (x0 : Int) (x1 : Int) (x2 : ByteArray) (x13 : Int) (x14 : Int) (x15 : Bool) (x16 : Int) (x17 : Bool) (x22 : Bool) : Option (Bool) := lim fun k => solsticelaw01_NumExact.j1 k x0 x1 x2 x13 x14 x15 x16 x17 x22
noncomputable def solsticelaw01_NumExact.J2 (x0 : Int) (x1 : Int) (x2 : ByteArray) (x13 : Int) (x14 : Int) (x16 : Int) (x17 : Bool) (x22 : Bool) (x115 : Bool) : Option (Bool) := lim fun k => solsticelaw01_NumExact.j2 k x0 x1 x2 x13 x14 x16 x17 x22 x115
noncomputable def solsticelaw01_NumExact.J3 (x2 : ByteArray) (x16 : Int) (x17 : Bool) : Option (Bool) := lim fun k => solsticelaw01_NumExact.j3 k x2 x16 x17
noncomputable def solsticelaw01_NumExact.F (a0 : Int) (a1 : Int) (a2 : ByteArray) (a3 : Int) : Option (Bool) := lim fun k => solsticelaw01_NumExact.f k a0 a1 a2 a3
theorem solsticelaw01_NumExact.isJ0 (x0 : Int) (x1 : Int) (x2 : ByteArray) (x13 : Int) (x14 : Int) (x15 : Bool) (x16 : Int) (x17 : Bool) (x90 : Bool) : IsLim (fun k => solsticelaw01_NumExact.j0 k x0 x1 x2 x13 x14 x15 x16 x17 x90) (solsticelaw01_NumExact.J0 x0 x1 x2 x13 x14 x15 x16 x17 x90) := ⟨fun k => (solsticelaw01_NumExact.mono_l k).1 x0 x1 x2 x13 x14 x15 x16 x17 x90, rfl⟩
theorem solsticelaw01_NumExact.isJ1 (x0 : Int) (x1 : Int) (x2 : ByteArray) (x13 : Int) (x14 : Int) (x15 : Bool) (x16 : Int) (x17 : Bool) (x22 : Bool) : IsLim (fun k => solsticelaw01_NumExact.j1 k x0 x1 x2 x13 x14 x15 x16 x17 x22) (solsticelaw01_NumExact.J1 x0 x1 x2 x13 x14 x15 x16 x17 x22) := ⟨fun k => (solsticelaw01_NumExact.mono_l k).2.1 x0 x1 x2 x13 x14 x15 x16 x17 x22, rfl⟩
theorem solsticelaw01_NumExact.isJ2 (x0 : Int) (x1 : Int) (x2 : ByteArray) (x13 : Int) (x14 : Int) (x16 : Int) (x17 : Bool) (x22 : Bool) (x115 : Bool) : IsLim (fun k => solsticelaw01_NumExact.j2 k x0 x1 x2 x13 x14 x16 x17 x22 x115) (solsticelaw01_NumExact.J2 x0 x1 x2 x13 x14 x16 x17 x22 x115) := ⟨fun k => (solsticelaw01_NumExact.mono_l k).2.2.1 x0 x1 x2 x13 x14 x16 x17 x22 x115, rfl⟩
theorem solsticelaw01_NumExact.isJ3 (x2 : ByteArray) (x16 : Int) (x17 : Bool) : IsLim (fun k => solsticelaw01_NumExact.j3 k x2 x16 x17) (solsticelaw01_NumExact.J3 x2 x16 x17) := ⟨fun k => (solsticelaw01_NumExact.mono_l k).2.2.2 x2 x16 x17, rfl⟩
theorem solsticelaw01_NumExact.isF (a0 : Int) (a1 : Int) (a2 : ByteArray) (a3 : Int) : IsLim (fun k => solsticelaw01_NumExact.f k a0 a1 a2 a3) (solsticelaw01_NumExact.F a0 a1 a2 a3) := ⟨fun k => solsticelaw01_NumExact.mono a0 a1 a2 a3 k, rfl⟩
theorem solsticelaw01_NumExact.J0_eq (x0 : Int) (x1 : Int) (x2 : ByteArray) (x13 : Int) (x14 : Int) (x15 : Bool) (x16 : Int) (x17 : Bool) (x90 : Bool) : solsticelaw01_NumExact.J0 x0 x1 x2 x13 x14 x15 x16 x17 x90 = if x90 = true then (some false) else (if x1 ≥ 1 then ((solsticeref01_Bound.f x0).bind fun t166 => (if t166 = true then ((solsticeref01_Bound.f x1).bind fun t167 => (solsticelaw01_NumExact.J1 x0 x1 x2 x13 x14 x15 x16 x17 t167)) else (solsticelaw01_NumExact.J1 x0 x1 x2 x13 x14 x15 x16 x17 false))) else (solsticelaw01_NumExact.J1 x0 x1 x2 x13 x14 x15 x16 x17 false)) := by
  refine IsLim.step (solsticelaw01_NumExact.isJ0 x0 x1 x2 x13 x14 x15 x16 x17 x90).mono (f := fun k => if x90 = true then (some false) else (if x1 ≥ 1 then ((solsticeref01_Bound.f x0).bind fun t166 => (if t166 = true then ((solsticeref01_Bound.f x1).bind fun t167 => (solsticelaw01_NumExact.j1 k x0 x1 x2 x13 x14 x15 x16 x17 t167)) else (solsticelaw01_NumExact.j1 k x0 x1 x2 x13 x14 x15 x16 x17 false))) else (solsticelaw01_NumExact.j1 k x0 x1 x2 x13 x14 x15 x16 x17 false))) (fun k => by rw [solsticelaw01_NumExact.j0]) ?_
  · repeat' first
    | (with_reducible exact IsLim.const _)
    | (with_reducible exact solsticelaw01_NumExact.isJ1 _ _ _ _ _ _ _ _ _)
    | (with_reducible refine IsLim.ite ?_ ?_)
    | (with_reducible refine IsLim.bind ?_ (fun _ => ?_))
theorem solsticelaw01_NumExact.J1_eq (x0 : Int) (x1 : Int) (x2 : ByteArray) (x13 : Int) (x14 : Int) (x15 : Bool) (x16 : Int) (x17 : Bool) (x22 : Bool) : solsticelaw01_NumExact.J1 x0 x1 x2 x13 x14 x15 x16 x17 x22 = if (x15 != x22) = true then (solsticelaw01_NumExact.J2 x0 x1 x2 x13 x14 x16 x17 x22 true) else (if x22 = true then (solsticelaw01_NumExact.J2 x0 x1 x2 x13 x14 x16 x17 x22 false) else (if x13 = 0 then (solsticelaw01_NumExact.J2 x0 x1 x2 x13 x14 x16 x17 x22 (x14 != 0)) else (solsticelaw01_NumExact.J2 x0 x1 x2 x13 x14 x16 x17 x22 true))) := by
  refine IsLim.step (solsticelaw01_NumExact.isJ1 x0 x1 x2 x13 x14 x15 x16 x17 x22).mono (f := fun k => if (x15 != x22) = true then (solsticelaw01_NumExact.j2 k x0 x1 x2 x13 x14 x16 x17 x22 true) else (if x22 = true then (solsticelaw01_NumExact.j2 k x0 x1 x2 x13 x14 x16 x17 x22 false) else (if x13 = 0 then (solsticelaw01_NumExact.j2 k x0 x1 x2 x13 x14 x16 x17 x22 (x14 != 0)) else (solsticelaw01_NumExact.j2 k x0 x1 x2 x13 x14 x16 x17 x22 true)))) (fun k => by rw [solsticelaw01_NumExact.j1]) ?_
  · repeat' first
    | (with_reducible exact IsLim.const _)
    | (with_reducible exact solsticelaw01_NumExact.isJ2 _ _ _ _ _ _ _ _ _)
    | (with_reducible refine IsLim.ite ?_ ?_)
    | (with_reducible refine IsLim.bind ?_ (fun _ => ?_))
theorem solsticelaw01_NumExact.J2_eq (x0 : Int) (x1 : Int) (x2 : ByteArray) (x13 : Int) (x14 : Int) (x16 : Int) (x17 : Bool) (x22 : Bool) (x115 : Bool) : solsticelaw01_NumExact.J2 x0 x1 x2 x13 x14 x16 x17 x22 x115 = if x115 = true then (some false) else (if x22 = true then ((solsticeref01_Div.f x0 x1).bind fun bt168 => (if bt168.1 = x13 then (if bt168.2 = x14 then (solsticelaw01_NumExact.J3 x2 x16 x17) else (some false)) else (some false))) else (solsticelaw01_NumExact.J3 x2 x16 x17)) := by
  refine IsLim.step (solsticelaw01_NumExact.isJ2 x0 x1 x2 x13 x14 x16 x17 x22 x115).mono (f := fun k => if x115 = true then (some false) else (if x22 = true then ((solsticeref01_Div.f x0 x1).bind fun bt168 => (if bt168.1 = x13 then (if bt168.2 = x14 then (solsticelaw01_NumExact.j3 k x2 x16 x17) else (some false)) else (some false))) else (solsticelaw01_NumExact.j3 k x2 x16 x17))) (fun k => by rw [solsticelaw01_NumExact.j2]) ?_
  · repeat' first
    | (with_reducible exact IsLim.const _)
    | (with_reducible exact solsticelaw01_NumExact.isJ3 _ _ _)
    | (with_reducible refine IsLim.ite ?_ ?_)
    | (with_reducible refine IsLim.bind ?_ (fun _ => ?_))
theorem solsticelaw01_NumExact.J3_eq (x2 : ByteArray) (x16 : Int) (x17 : Bool) : solsticelaw01_NumExact.J3 x2 x16 x17 = (solsticeref01_Digits.F x2 1 18).bind fun t170 => (if t170 = true then (if x17 = true then ((solsticeref01_Value.F x2).bind fun t171 => (if x16 = t171 then ((solsticelaw01_wakes.F).bind fun t172 => (some t172)) else (some false))) else (some false)) else (if x17 = true then (some false) else (if x16 = 0 then ((solsticelaw01_wakes.F).bind fun t173 => (some t173)) else (some false)))) := by
  refine IsLim.step (solsticelaw01_NumExact.isJ3 x2 x16 x17).mono (f := fun k => (solsticeref01_Digits.f k x2 1 18).bind fun t170 => (if t170 = true then (if x17 = true then ((solsticeref01_Value.f k x2).bind fun t171 => (if x16 = t171 then ((solsticelaw01_wakes.f k).bind fun t172 => (some t172)) else (some false))) else (some false)) else (if x17 = true then (some false) else (if x16 = 0 then ((solsticelaw01_wakes.f k).bind fun t173 => (some t173)) else (some false))))) (fun k => by rw [solsticelaw01_NumExact.j3]) ?_
  · repeat' first
    | (with_reducible exact IsLim.const _)
    | (with_reducible exact solsticelaw01_wakes.isF)
    | (with_reducible exact solsticeref01_Digits.isF _ _ _)
    | (with_reducible exact solsticeref01_Value.isF _)
    | (with_reducible refine IsLim.ite ?_ ?_)
    | (with_reducible refine IsLim.bind ?_ (fun _ => ?_))
theorem solsticelaw01_NumExact.F_eq (a0 : Int) (a1 : Int) (a2 : ByteArray) (a3 : Int) : solsticelaw01_NumExact.F a0 a1 a2 a3 = if (a2.size : Int) > 100 then (some true) else ((num_Add.f a0 a1).bind fun bt151 => ((num_Mul.F a0 a1).bind fun bt153 => ((num_Div.F a0 a1).bind fun bt155 => ((num_Parse.F a2).bind fun bt158 => ((solsticeref01_Add.F a0 a1).bind fun bt160 => ((solsticeref01_Mul.F a0 a1).bind fun bt162 => (if bt151.1 = bt160.1 then (if (bt151.2 != bt160.2) = true then (solsticelaw01_NumExact.J0 a0 a1 a2 bt155.1 bt155.2.1 bt155.2.2 bt158.1 bt158.2 true) else (if bt153.1 = bt162.1 then (if (bt153.2 != bt162.2) = true then (solsticelaw01_NumExact.J0 a0 a1 a2 bt155.1 bt155.2.1 bt155.2.2 bt158.1 bt158.2 true) else ((num_Text.f a0 a3).bind fun t164 => ((solsticeref01_Text.F a0 a3).bind fun t165 => (solsticelaw01_NumExact.J0 a0 a1 a2 bt155.1 bt155.2.1 bt155.2.2 bt158.1 bt158.2 (t164.toList != t165.toList))))) else (solsticelaw01_NumExact.J0 a0 a1 a2 bt155.1 bt155.2.1 bt155.2.2 bt158.1 bt158.2 true))) else (solsticelaw01_NumExact.J0 a0 a1 a2 bt155.1 bt155.2.1 bt155.2.2 bt158.1 bt158.2 true)))))))) := by
  refine IsLim.eq (g := fun k => if (a2.size : Int) > 100 then (some true) else ((num_Add.f a0 a1).bind fun bt151 => ((num_Mul.f k a0 a1).bind fun bt153 => ((num_Div.f k a0 a1).bind fun bt155 => ((num_Parse.f k a2).bind fun bt158 => ((solsticeref01_Add.f k a0 a1).bind fun bt160 => ((solsticeref01_Mul.f k a0 a1).bind fun bt162 => (if bt151.1 = bt160.1 then (if (bt151.2 != bt160.2) = true then (solsticelaw01_NumExact.j0 k a0 a1 a2 bt155.1 bt155.2.1 bt155.2.2 bt158.1 bt158.2 true) else (if bt153.1 = bt162.1 then (if (bt153.2 != bt162.2) = true then (solsticelaw01_NumExact.j0 k a0 a1 a2 bt155.1 bt155.2.1 bt155.2.2 bt158.1 bt158.2 true) else ((num_Text.f a0 a3).bind fun t164 => ((solsticeref01_Text.f k a0 a3).bind fun t165 => (solsticelaw01_NumExact.j0 k a0 a1 a2 bt155.1 bt155.2.1 bt155.2.2 bt158.1 bt158.2 (t164.toList != t165.toList))))) else (solsticelaw01_NumExact.j0 k a0 a1 a2 bt155.1 bt155.2.1 bt155.2.2 bt158.1 bt158.2 true))) else (solsticelaw01_NumExact.j0 k a0 a1 a2 bt155.1 bt155.2.1 bt155.2.2 bt158.1 bt158.2 true))))))))) ?_
  · repeat' first
    | (with_reducible exact IsLim.const _)
    | (with_reducible exact num_Div.isF _ _)
    | (with_reducible exact num_Mul.isF _ _)
    | (with_reducible exact num_Parse.isF _)
    | (with_reducible exact solsticelaw01_NumExact.isJ0 _ _ _ _ _ _ _ _ _)
    | (with_reducible exact solsticeref01_Add.isF _ _)
    | (with_reducible exact solsticeref01_Mul.isF _ _)
    | (with_reducible exact solsticeref01_Text.isF _ _)
    | (with_reducible refine IsLim.ite ?_ ?_)
    | (with_reducible refine IsLim.bind ?_ (fun _ => ?_))
end Go.Proofs.YtlfohcjajmebjaaDoor.PNum

/- Printed functions of the family Num without a bound on their rounds, and the equation that each meets. No condition. -/
import Derived.Test.YtlfohcjajmebjaaDoorBase
import Derived.Test.YtlfohcjajmebjaaDoorPNumx1
namespace Go.Proofs.YtlfohcjajmebjaaDoor.PNum
open Go.RowKit Go.Proofs.YtlfohcjajmebjaaDoorW.PrintWords Go.Proofs.YtlfohcjajmebjaaDoorW.PrintLast Go.Proofs.YtlfohcjajmebjaaDoor.Base
set_option linter.unusedVariables false
noncomputable def num_Parse.J0 (x0 : ByteArray) (x13 : Bool) : Option (Int × Bool) := lim fun k => num_Parse.j0 k x0 x13
noncomputable def num_Parse.L0 (x0 : ByteArray) (x4 : Int) (x15 : Int) (x16 : Int) : Option (Int × Bool) := lim fun k => num_Parse.l0 k x0 x4 x15 x16
noncomputable def num_Parse.F (a0 : ByteArray) : Option (Int × Bool) := lim fun k => num_Parse.f k a0
theorem num_Parse.isJ0 (x0 : ByteArray) (x13 : Bool) : IsLim (fun k => num_Parse.j0 k x0 x13) (num_Parse.J0 x0 x13) := ⟨fun k => (num_Parse.mono_l k).1 x0 x13, rfl⟩
theorem num_Parse.isL0 (x0 : ByteArray) (x4 : Int) (x15 : Int) (x16 : Int) : IsLim (fun k => num_Parse.l0 k x0 x4 x15 x16) (num_Parse.L0 x0 x4 x15 x16) := ⟨fun k => (num_Parse.mono_l k).2 x0 x4 x15 x16, rfl⟩
theorem num_Parse.isF (a0 : ByteArray) : IsLim (fun k => num_Parse.f k a0) (num_Parse.F a0) := ⟨fun k => num_Parse.mono a0 k, rfl⟩
theorem num_Parse.J0_eq (x0 : ByteArray) (x13 : Bool) : num_Parse.J0 x0 x13 = if x13 = true then (some (0, false)) else (num_Parse.L0 x0 0 (x0.size : Int) 0) := by
  refine IsLim.step (num_Parse.isJ0 x0 x13).mono (f := fun k => if x13 = true then (some (0, false)) else (num_Parse.l0 k x0 0 (x0.size : Int) 0)) (fun k => by rw [num_Parse.j0]) ?_
  · repeat' first
    | (with_reducible exact IsLim.const _)
    | (with_reducible exact num_Parse.isL0 _ _ _ _)
    | (with_reducible refine IsLim.ite ?_ ?_)
    | (with_reducible refine IsLim.bind ?_ (fun _ => ?_))
theorem num_Parse.L0_eq (x0 : ByteArray) (x4 : Int) (x15 : Int) (x16 : Int) : num_Parse.L0 x0 x4 x15 x16 = if x16 < x15 then (if 0 ≤ x16 then (if x16 < (x0.size : Int) then (if (bt x0 x16) < 48 then (some (0, false)) else (if (bt x0 x16) > 57 then (some (0, false)) else (num_Parse.L0 x0 (wrap64 ((wrap64 (10 * x4)) + (((bt x0 x16) - 48) % 256))) x15 (wrap64 (x16 + 1))))) else (none)) else (none)) else (some (x4, true)) := by
  refine IsLim.step (num_Parse.isL0 x0 x4 x15 x16).mono (f := fun k => if x16 < x15 then (if 0 ≤ x16 then (if x16 < (x0.size : Int) then (if (bt x0 x16) < 48 then (some (0, false)) else (if (bt x0 x16) > 57 then (some (0, false)) else (num_Parse.l0 k x0 (wrap64 ((wrap64 (10 * x4)) + (((bt x0 x16) - 48) % 256))) x15 (wrap64 (x16 + 1))))) else (none)) else (none)) else (some (x4, true))) (fun k => by rw [num_Parse.l0]) ?_
  · repeat' first
    | (with_reducible exact IsLim.const _)
    | (with_reducible exact num_Parse.isL0 _ _ _ _)
    | (with_reducible refine IsLim.ite ?_ ?_)
    | (with_reducible refine IsLim.bind ?_ (fun _ => ?_))
theorem num_Parse.F_eq (a0 : ByteArray) : num_Parse.F a0 = if (a0.size : Int) < 1 then (num_Parse.J0 a0 true) else (num_Parse.J0 a0 (decide ((a0.size : Int) > 18))) := by
  refine IsLim.eq (g := fun k => if (a0.size : Int) < 1 then (num_Parse.j0 k a0 true) else (num_Parse.j0 k a0 (decide ((a0.size : Int) > 18)))) ?_
  · repeat' first
    | (with_reducible exact IsLim.const _)
    | (with_reducible exact num_Parse.isJ0 _ _)
    | (with_reducible refine IsLim.ite ?_ ?_)
    | (with_reducible refine IsLim.bind ?_ (fun _ => ?_))
noncomputable def num_Div.J0 (x0 : Int) (x1 : Int) (x18 : Bool) : Option (Int × Int × Bool) := lim fun k => num_Div.j0 k x0 x1 x18
noncomputable def num_Div.F (a0 : Int) (a1 : Int) : Option (Int × Int × Bool) := lim fun k => num_Div.f k a0 a1
theorem num_Div.isJ0 (x0 : Int) (x1 : Int) (x18 : Bool) : IsLim (fun k => num_Div.j0 k x0 x1 x18) (num_Div.J0 x0 x1 x18) := ⟨fun k => (num_Div.mono_l k) x0 x1 x18, rfl⟩
theorem num_Div.isF (a0 : Int) (a1 : Int) : IsLim (fun k => num_Div.f k a0 a1) (num_Div.F a0 a1) := ⟨fun k => num_Div.mono a0 a1 k, rfl⟩
theorem num_Div.J0_eq (x0 : Int) (x1 : Int) (x18 : Bool) : num_Div.J0 x0 x1 x18 = if x18 = true then (some (0, 0, false)) else (if x1 = 0 then (none) else (if (Int.tmod x0 x1) < 0 then (some (wrap64 ((wrap64 (Int.tdiv x0 x1)) - 1), wrap64 ((Int.tmod x0 x1) + x1), true)) else (some (wrap64 (Int.tdiv x0 x1), Int.tmod x0 x1, true)))) := by
  refine IsLim.step (num_Div.isJ0 x0 x1 x18).mono (f := fun k => if x18 = true then (some (0, 0, false)) else (if x1 = 0 then (none) else (if (Int.tmod x0 x1) < 0 then (some (wrap64 ((wrap64 (Int.tdiv x0 x1)) - 1), wrap64 ((Int.tmod x0 x1) + x1), true)) else (some (wrap64 (Int.tdiv x0 x1), Int.tmod x0 x1, true))))) (fun k => by rw [num_Div.j0]) ?_
  · repeat' first
    | (with_reducible exact IsLim.const _)
    | (with_reducible refine IsLim.ite ?_ ?_)
    | (with_reducible refine IsLim.bind ?_ (fun _ => ?_))
theorem num_Div.F_eq (a0 : Int) (a1 : Int) : num_Div.F a0 a1 = (num_in.f a0).bind fun t105 => (if t105 = true then ((num_in.f a1).bind fun t106 => (if t106 = true then (num_Div.J0 a0 a1 (decide (a1 < 1))) else (num_Div.J0 a0 a1 true))) else (num_Div.J0 a0 a1 true)) := by
  refine IsLim.eq (g := fun k => (num_in.f a0).bind fun t105 => (if t105 = true then ((num_in.f a1).bind fun t106 => (if t106 = true then (num_Div.j0 k a0 a1 (decide (a1 < 1))) else (num_Div.j0 k a0 a1 true))) else (num_Div.j0 k a0 a1 true))) ?_
  · repeat' first
    | (with_reducible exact IsLim.const _)
    | (with_reducible exact num_Div.isJ0 _ _ _)
    | (with_reducible refine IsLim.ite ?_ ?_)
    | (with_reducible refine IsLim.bind ?_ (fun _ => ?_))
noncomputable def solsticelaw01_wakes.F  : Option (Bool) := lim fun k => solsticelaw01_wakes.f k
theorem solsticelaw01_wakes.isF  : IsLim (fun k => solsticelaw01_wakes.f k) (solsticelaw01_wakes.F ) := ⟨fun k => solsticelaw01_wakes.mono k, rfl⟩
theorem solsticelaw01_wakes.F_eq  : solsticelaw01_wakes.F  = (num_Div.F (-1) 7).bind fun bt107 => ((num_Add.f 2 3).bind fun bt110 => ((num_Add.f 4611686018427387904 1).bind fun bt112 => ((num_Parse.F (⟨#[48, 52, 50]⟩ : ByteArray)).bind fun bt114 => (if bt107.2.2 = true then (if bt107.1 = (-1) then (if bt107.2.1 = 6 then (if bt110.2 = true then (if bt110.1 = 5 then (if bt112.2 = true then (some false) else (if bt114.2 = true then (if bt114.1 = 42 then ((num_Text.f 7 3).bind fun t116 => (some (t116.toList == ([48, 48, 55] : List UInt8)))) else (some false)) else (some false))) else (some false)) else (some false)) else (some false)) else (some false)) else (some false))))) := by
  refine IsLim.eq (g := fun k => (num_Div.f k (-1) 7).bind fun bt107 => ((num_Add.f 2 3).bind fun bt110 => ((num_Add.f 4611686018427387904 1).bind fun bt112 => ((num_Parse.f k (⟨#[48, 52, 50]⟩ : ByteArray)).bind fun bt114 => (if bt107.2.2 = true then (if bt107.1 = (-1) then (if bt107.2.1 = 6 then (if bt110.2 = true then (if bt110.1 = 5 then (if bt112.2 = true then (some false) else (if bt114.2 = true then (if bt114.1 = 42 then ((num_Text.f 7 3).bind fun t116 => (some (t116.toList == ([48, 48, 55] : List UInt8)))) else (some false)) else (some false))) else (some false)) else (some false)) else (some false)) else (some false)) else (some false)))))) ?_
  · repeat' first
    | (with_reducible exact IsLim.const _)
    | (with_reducible exact num_Div.isF _ _)
    | (with_reducible exact num_Parse.isF _)
    | (with_reducible refine IsLim.ite ?_ ?_)
    | (with_reducible refine IsLim.bind ?_ (fun _ => ?_))
end Go.Proofs.YtlfohcjajmebjaaDoor.PNum

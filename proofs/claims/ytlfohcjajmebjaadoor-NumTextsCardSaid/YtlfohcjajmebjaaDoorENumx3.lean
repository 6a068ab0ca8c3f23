/- Printed functions of the family Num without a bound on their rounds, and the equation that each meets. No condition. -/
import Derived.Test.YtlfohcjajmebjaaDoorBase
import Derived.Test.YtlfohcjajmebjaaDoorPNumx3
namespace Go.Proofs.YtlfohcjajmebjaaDoor.PNum
open Go.RowKit Go.Proofs.YtlfohcjajmebjaaDoorW.PrintWords Go.Proofs.YtlfohcjajmebjaaDoorW.PrintLast Go.Proofs.YtlfohcjajmebjaaDoor.Base
set_option linter.unusedVariables false
noncomputable def num_Mul.J0 (x0 : Int) (x1 : Int) (x15 : Bool) : Option (Int × Bool) := lim fun k => num_Mul.j0 k x0 x1 x15
noncomputable def num_Mul.J1 (x0 : Int) (x1 : Int) (x7 : Int) (x29 : Bool) : Option (Int × Bool) := lim fun k => num_Mul.j1 k x0 x1 x7 x29
noncomputable def num_Mul.F (a0 : Int) (a1 : Int) : Option (Int × Bool) := lim fun k => num_Mul.f k a0 a1
theorem num_Mul.isJ0 (x0 : Int) (x1 : Int) (x15 : Bool) : IsLim (fun k => num_Mul.j0 k x0 x1 x15) (num_Mul.J0 x0 x1 x15) := ⟨fun k => (num_Mul.mono_l k).1 x0 x1 x15, rfl⟩
theorem num_Mul.isJ1 (x0 : Int) (x1 : Int) (x7 : Int) (x29 : Bool) : IsLim (fun k => num_Mul.j1 k x0 x1 x7 x29) (num_Mul.J1 x0 x1 x7 x29) := ⟨fun k => (num_Mul.mono_l k).2 x0 x1 x7 x29, rfl⟩
theorem num_Mul.isF (a0 : Int) (a1 : Int) : IsLim (fun k => num_Mul.f k a0 a1) (num_Mul.F a0 a1) := ⟨fun k => num_Mul.mono a0 a1 k, rfl⟩
theorem num_Mul.J0_eq (x0 : Int) (x1 : Int) (x15 : Bool) : num_Mul.J0 x0 x1 x15 = if x15 = true then (some (0, false)) else ((num_size.f x0).bind fun t135 => ((num_size.f x1).bind fun t136 => ((bits_Mul64.f t135 t136).bind fun bt137 => (if bt137.1 > 0 then (num_Mul.J1 x0 x1 bt137.2 true) else (num_Mul.J1 x0 x1 bt137.2 (decide (bt137.2 > 4611686018427387904))))))) := by
  refine IsLim.step (num_Mul.isJ0 x0 x1 x15).mono (f := fun k => if x15 = true then (some (0, false)) else ((num_size.f x0).bind fun t135 => ((num_size.f x1).bind fun t136 => ((bits_Mul64.f t135 t136).bind fun bt137 => (if bt137.1 > 0 then (num_Mul.j1 k x0 x1 bt137.2 true) else (num_Mul.j1 k x0 x1 bt137.2 (decide (bt137.2 > 4611686018427387904)))))))) (fun k => by rw [num_Mul.j0]) ?_
  · repeat' first
    | (with_reducible exact IsLim.const _)
    | (with_reducible exact num_Mul.isJ1 _ _ _ _)
    | (with_reducible refine IsLim.ite ?_ ?_)
    | (with_reducible refine IsLim.bind ?_ (fun _ => ?_))
theorem num_Mul.J1_eq (x0 : Int) (x1 : Int) (x7 : Int) (x29 : Bool) : num_Mul.J1 x0 x1 x7 x29 = if x29 = true then (some (0, false)) else (if ((decide (x0 < 0)) != (decide (x1 < 0))) = true then (some (wrap64 (-(wrap64 (x7))), true)) else (some (wrap64 (x7), true))) := by
  refine IsLim.step (num_Mul.isJ1 x0 x1 x7 x29).mono (f := fun k => if x29 = true then (some (0, false)) else (if ((decide (x0 < 0)) != (decide (x1 < 0))) = true then (some (wrap64 (-(wrap64 (x7))), true)) else (some (wrap64 (x7), true)))) (fun k => by rw [num_Mul.j1]) ?_
  · repeat' first
    | (with_reducible exact IsLim.const _)
    | (with_reducible refine IsLim.ite ?_ ?_)
    | (with_reducible refine IsLim.bind ?_ (fun _ => ?_))
theorem num_Mul.F_eq (a0 : Int) (a1 : Int) : num_Mul.F a0 a1 = (num_in.f a0).bind fun t133 => (if t133 = true then ((num_in.f a1).bind fun t134 => (num_Mul.J0 a0 a1 (!t134))) else (num_Mul.J0 a0 a1 true)) := by
  refine IsLim.eq (g := fun k => (num_in.f a0).bind fun t133 => (if t133 = true then ((num_in.f a1).bind fun t134 => (num_Mul.j0 k a0 a1 (!t134))) else (num_Mul.j0 k a0 a1 true))) ?_
  · repeat' first
    | (with_reducible exact IsLim.const _)
    | (with_reducible exact num_Mul.isJ0 _ _ _)
    | (with_reducible refine IsLim.ite ?_ ?_)
    | (with_reducible refine IsLim.bind ?_ (fun _ => ?_))
noncomputable def solsticeref01_Add.J0 (x0 : Int) (x1 : Int) (x13 : Bool) : Option (Int × Bool) := lim fun k => solsticeref01_Add.j0 k x0 x1 x13
noncomputable def solsticeref01_Add.F (a0 : Int) (a1 : Int) : Option (Int × Bool) := lim fun k => solsticeref01_Add.f k a0 a1
theorem solsticeref01_Add.isJ0 (x0 : Int) (x1 : Int) (x13 : Bool) : IsLim (fun k => solsticeref01_Add.j0 k x0 x1 x13) (solsticeref01_Add.J0 x0 x1 x13) := ⟨fun k => (solsticeref01_Add.mono_l k) x0 x1 x13, rfl⟩
theorem solsticeref01_Add.isF (a0 : Int) (a1 : Int) : IsLim (fun k => solsticeref01_Add.f k a0 a1) (solsticeref01_Add.F a0 a1) := ⟨fun k => solsticeref01_Add.mono a0 a1 k, rfl⟩
theorem solsticeref01_Add.J0_eq (x0 : Int) (x1 : Int) (x13 : Bool) : solsticeref01_Add.J0 x0 x1 x13 = if x13 = true then (some (0, false)) else (if x1 > 0 then (if x0 > (wrap64 (4611686018427387904 - x1)) then (some (0, false)) else (if x1 < 0 then (if x0 < (wrap64 ((-4611686018427387904) - x1)) then (some (0, false)) else (some (wrap64 (x0 + x1), true))) else (some (wrap64 (x0 + x1), true)))) else (if x1 < 0 then (if x0 < (wrap64 ((-4611686018427387904) - x1)) then (some (0, false)) else (some (wrap64 (x0 + x1), true))) else (some (wrap64 (x0 + x1), true)))) := by
  refine IsLim.step (solsticeref01_Add.isJ0 x0 x1 x13).mono (f := fun k => if x13 = true then (some (0, false)) else (if x1 > 0 then (if x0 > (wrap64 (4611686018427387904 - x1)) then (some (0, false)) else (if x1 < 0 then (if x0 < (wrap64 ((-4611686018427387904) - x1)) then (some (0, false)) else (some (wrap64 (x0 + x1), true))) else (some (wrap64 (x0 + x1), true)))) else (if x1 < 0 then (if x0 < (wrap64 ((-4611686018427387904) - x1)) then (some (0, false)) else (some (wrap64 (x0 + x1), true))) else (some (wrap64 (x0 + x1), true))))) (fun k => by rw [solsticeref01_Add.j0]) ?_
  · repeat' first
    | (with_reducible exact IsLim.const _)
    | (with_reducible refine IsLim.ite ?_ ?_)
    | (with_reducible refine IsLim.bind ?_ (fun _ => ?_))
theorem solsticeref01_Add.F_eq (a0 : Int) (a1 : Int) : solsticeref01_Add.F a0 a1 = (solsticeref01_Bound.f a0).bind fun t140 => (if t140 = true then ((solsticeref01_Bound.f a1).bind fun t141 => (solsticeref01_Add.J0 a0 a1 (!t141))) else (solsticeref01_Add.J0 a0 a1 true)) := by
  refine IsLim.eq (g := fun k => (solsticeref01_Bound.f a0).bind fun t140 => (if t140 = true then ((solsticeref01_Bound.f a1).bind fun t141 => (solsticeref01_Add.j0 k a0 a1 (!t141))) else (solsticeref01_Add.j0 k a0 a1 true))) ?_
  · repeat' first
    | (with_reducible exact IsLim.const _)
    | (with_reducible exact solsticeref01_Add.isJ0 _ _ _)
    | (with_reducible refine IsLim.ite ?_ ?_)
    | (with_reducible refine IsLim.bind ?_ (fun _ => ?_))
noncomputable def solsticeref01_Mul.J0 (x0 : Int) (x1 : Int) (x15 : Bool) : Option (Int × Bool) := lim fun k => solsticeref01_Mul.j0 k x0 x1 x15
noncomputable def solsticeref01_Mul.J1 (x0 : Int) (x1 : Int) (x21 : Bool) : Option (Int × Bool) := lim fun k => solsticeref01_Mul.j1 k x0 x1 x21
noncomputable def solsticeref01_Mul.F (a0 : Int) (a1 : Int) : Option (Int × Bool) := lim fun k => solsticeref01_Mul.f k a0 a1
theorem solsticeref01_Mul.isJ0 (x0 : Int) (x1 : Int) (x15 : Bool) : IsLim (fun k => solsticeref01_Mul.j0 k x0 x1 x15) (solsticeref01_Mul.J0 x0 x1 x15) := ⟨fun k => (solsticeref01_Mul.mono_l k).1 x0 x1 x15, rfl⟩
theorem solsticeref01_Mul.isJ1 (x0 : Int) (x1 : Int) (x21 : Bool) : IsLim (fun k => solsticeref01_Mul.j1 k x0 x1 x21) (solsticeref01_Mul.J1 x0 x1 x21) := ⟨fun k => (solsticeref01_Mul.mono_l k).2 x0 x1 x21, rfl⟩
theorem solsticeref01_Mul.isF (a0 : Int) (a1 : Int) : IsLim (fun k => solsticeref01_Mul.f k a0 a1) (solsticeref01_Mul.F a0 a1) := ⟨fun k => solsticeref01_Mul.mono a0 a1 k, rfl⟩
theorem solsticeref01_Mul.J0_eq (x0 : Int) (x1 : Int) (x15 : Bool) : solsticeref01_Mul.J0 x0 x1 x15 = if x15 = true then (some (0, false)) else (if x0 = 0 then (solsticeref01_Mul.J1 x0 x1 true) else (solsticeref01_Mul.J1 x0 x1 (x1 == 0))) := by
  refine IsLim.step (solsticeref01_Mul.isJ0 x0 x1 x15).mono (f := fun k => if x15 = true then (some (0, false)) else (if x0 = 0 then (solsticeref01_Mul.j1 k x0 x1 true) else (solsticeref01_Mul.j1 k x0 x1 (x1 == 0)))) (fun k => by rw [solsticeref01_Mul.j0]) ?_
  · repeat' first
    | (with_reducible exact IsLim.const _)
    | (with_reducible exact solsticeref01_Mul.isJ1 _ _ _)
    | (with_reducible refine IsLim.ite ?_ ?_)
    | (with_reducible refine IsLim.bind ?_ (fun _ => ?_))
theorem solsticeref01_Mul.J1_eq (x0 : Int) (x1 : Int) (x21 : Bool) : solsticeref01_Mul.J1 x0 x1 x21 = if x21 = true then (some (0, true)) else (if (mx x1 (wrap64 (-x1))) = 0 then (none) else (if (mx x0 (wrap64 (-x0))) > (wrap64 (Int.tdiv (4611686018427387904 : Int) (mx x1 (wrap64 (-x1))))) then (some (0, false)) else (some (wrap64 (x0 * x1), true)))) := by
  refine IsLim.step (solsticeref01_Mul.isJ1 x0 x1 x21).mono (f := fun k => if x21 = true then (some (0, true)) else (if (mx x1 (wrap64 (-x1))) = 0 then (none) else (if (mx x0 (wrap64 (-x0))) > (wrap64 (Int.tdiv (4611686018427387904 : Int) (mx x1 (wrap64 (-x1))))) then (some (0, false)) else (some (wrap64 (x0 * x1), true))))) (fun k => by rw [solsticeref01_Mul.j1]) ?_
  · repeat' first
    | (with_reducible exact IsLim.const _)
    | (with_reducible refine IsLim.ite ?_ ?_)
    | (with_reducible refine IsLim.bind ?_ (fun _ => ?_))
theorem solsticeref01_Mul.F_eq (a0 : Int) (a1 : Int) : solsticeref01_Mul.F a0 a1 = (solsticeref01_Bound.f a0).bind fun t142 => (if t142 = true then ((solsticeref01_Bound.f a1).bind fun t143 => (solsticeref01_Mul.J0 a0 a1 (!t143))) else (solsticeref01_Mul.J0 a0 a1 true)) := by
  refine IsLim.eq (g := fun k => (solsticeref01_Bound.f a0).bind fun t142 => (if t142 = true then ((solsticeref01_Bound.f a1).bind fun t143 => (solsticeref01_Mul.j0 k a0 a1 (!t143))) else (solsticeref01_Mul.j0 k a0 a1 true))) ?_
  · repeat' first
    | (with_reducible exact IsLim.const _)
    | (with_reducible exact solsticeref01_Mul.isJ0 _ _ _)
    | (with_reducible refine IsLim.ite ?_ ?_)
    | (with_reducible refine IsLim.bind ?_ (fun _ => ?_))
end Go.Proofs.YtlfohcjajmebjaaDoor.PNum

/- Printed functions of the family Vex without a bound on their rounds, and the equation that each meets. No condition. -/
import Derived.Test.YtligbecmbefclaaDoorBase
import Derived.Test.YtligbecmbefclaaDoorPVexx8
import Derived.Test.YtligbecmbefclaaDoorEVexx3
namespace Go.Proofs.YtligbecmbefclaaDoor.PVex
open Go.RowKit Go.Proofs.YtligbecmbefclaaDoorW.PrintWords Go.Proofs.YtligbecmbefclaaDoorW.PrintLast Go.Proofs.YtligbecmbefclaaDoor.Base
set_option linter.unusedVariables false
noncomputable def value_ParseOffset.J0 (x0 : ByteArray) (x18 : Bool) : Option (Int × Int) := lim fun k => value_ParseOffset.j0 k x0 x18
noncomputable def value_ParseOffset.J1 (x0 : ByteArray) (x4 : List Int) (x5 : Bool) : Option (Int × Int) := lim fun k => value_ParseOffset.j1 k x0 x4 x5
noncomputable def value_ParseOffset.J2 (x0 : ByteArray) (x6 : Int) (x75 : Bool) : Option (Int × Int) := lim fun k => value_ParseOffset.j2 k x0 x6 x75
noncomputable def value_ParseOffset.F (a0 : ByteArray) : Option (Int × Int) := lim fun k => value_ParseOffset.f k a0
theorem value_ParseOffset.isJ0 (x0 : ByteArray) (x18 : Bool) : IsLim (fun k => value_ParseOffset.j0 k x0 x18) (value_ParseOffset.J0 x0 x18) := ⟨fun k => (value_ParseOffset.mono_l k).1 x0 x18, rfl⟩
theorem value_ParseOffset.isJ1 (x0 : ByteArray) (x4 : List Int) (x5 : Bool) : IsLim (fun k => value_ParseOffset.j1 k x0 x4 x5) (value_ParseOffset.J1 x0 x4 x5) := ⟨fun k => (value_ParseOffset.mono_l k).2.1 x0 x4 x5, rfl⟩
theorem value_ParseOffset.isJ2 (x0 : ByteArray) (x6 : Int) (x75 : Bool) : IsLim (fun k => value_ParseOffset.j2 k x0 x6 x75) (value_ParseOffset.J2 x0 x6 x75) := ⟨fun k => (value_ParseOffset.mono_l k).2.2 x0 x6 x75, rfl⟩
theorem value_ParseOffset.isF (a0 : ByteArray) : IsLim (fun k => value_ParseOffset.f k a0) (value_ParseOffset.F a0) := ⟨fun k => value_ParseOffset.mono a0 k, rfl⟩
theorem value_ParseOffset.J0_eq (x0 : ByteArray) (x18 : Bool) : value_ParseOffset.J0 x0 x18 = if x18 = true then (some (0, 19)) else (if 1 ≤ (x0.size : Int) then ((value_numbers.F (x0.extract 1 x0.size) (([2, 2] : List Int))).bind fun bt173 => (if bt173.2 = true then (value_ParseOffset.J1 x0 bt173.1 bt173.2) else ((value_numbers.F (x0.extract 1 x0.size) (([2, 2, 2] : List Int))).bind fun bt180 => (value_ParseOffset.J1 x0 bt180.1 bt180.2)))) else (none)) := by
  apply IsLim.step (value_ParseOffset.isJ0 x0 x18).mono
  case hf =>
    repeat'
      try intro _
      first
      | (with_reducible exact value_ParseOffset.isJ1 _ _ _)
      | (with_reducible exact value_numbers.isF _ _)
      | (with_reducible apply IsLim.ite)
      | (with_reducible apply IsLim.bind)
      | (apply IsLim.cst; intro _; exact rfl)
  case h => intro k; rw [value_ParseOffset.j0]
theorem value_ParseOffset.J1_eq (x0 : ByteArray) (x4 : List Int) (x5 : Bool) : value_ParseOffset.J1 x0 x4 x5 = if x5 = true then (if x4.length < 17592186044416 then ((some (x4 ++ [0] : List Int)).bind fun y184 => (if 0 < (y184.length : Int) then (if 1 < (y184.length : Int) then (if 2 < (y184.length : Int) then (if (rd y184 1) ≥ 60 then (value_ParseOffset.J2 x0 (wrap64 ((wrap64 ((wrap64 ((rd y184 0) * 3600)) + (wrap64 ((rd y184 1) * 60)))) + (rd y184 2))) true) else (if (rd y184 2) ≥ 60 then (value_ParseOffset.J2 x0 (wrap64 ((wrap64 ((wrap64 ((rd y184 0) * 3600)) + (wrap64 ((rd y184 1) * 60)))) + (rd y184 2))) true) else (if (wrap64 ((wrap64 ((wrap64 ((rd y184 0) * 3600)) + (wrap64 ((rd y184 1) * 60)))) + (rd y184 2))) ≥ 86400 then (value_ParseOffset.J2 x0 (wrap64 ((wrap64 ((wrap64 ((rd y184 0) * 3600)) + (wrap64 ((rd y184 1) * 60)))) + (rd y184 2))) true) else (if (wrap64 ((wrap64 ((wrap64 ((rd y184 0) * 3600)) + (wrap64 ((rd y184 1) * 60)))) + (rd y184 2))) = 0 then (if 0 < (x0.size : Int) then (value_ParseOffset.J2 x0 (wrap64 ((wrap64 ((wrap64 ((rd y184 0) * 3600)) + (wrap64 ((rd y184 1) * 60)))) + (rd y184 2))) ((bt x0 0) == 45)) else (none)) else (value_ParseOffset.J2 x0 (wrap64 ((wrap64 ((wrap64 ((rd y184 0) * 3600)) + (wrap64 ((rd y184 1) * 60)))) + (rd y184 2))) false))))) else (none)) else (none)) else (none))) else (none)) else (some (0, 19)) := by
  apply IsLim.step (value_ParseOffset.isJ1 x0 x4 x5).mono
  case hf =>
    repeat'
      try intro _
      first
      | (with_reducible exact value_ParseOffset.isJ2 _ _ _)
      | (with_reducible apply IsLim.ite)
      | (with_reducible apply IsLim.bind)
      | (apply IsLim.cst; intro _; exact rfl)
  case h => intro k; rw [value_ParseOffset.j1]
theorem value_ParseOffset.J2_eq (x0 : ByteArray) (x6 : Int) (x75 : Bool) : value_ParseOffset.J2 x0 x6 x75 = if x75 = true then (some (0, 19)) else (if 0 < (x0.size : Int) then (if (bt x0 0) = 45 then (some (wrap64 (-x6), 0)) else (some (x6, 0))) else (none)) := by
  apply IsLim.step (value_ParseOffset.isJ2 x0 x6 x75).mono
  case hf =>
    repeat'
      try intro _
      first
      | (with_reducible apply IsLim.ite)
      | (with_reducible apply IsLim.bind)
      | (apply IsLim.cst; intro _; exact rfl)
  case h => intro k; rw [value_ParseOffset.j2]
theorem value_ParseOffset.F_eq (a0 : ByteArray) : value_ParseOffset.F a0 = if a0.toList = ([] : List UInt8) then (value_ParseOffset.J0 a0 true) else (if 0 < (a0.size : Int) then (if (bt a0 0) = 43 then (value_ParseOffset.J0 a0 false) else (value_ParseOffset.J0 a0 ((bt a0 0) != 45))) else (none)) := by
  apply IsLim.via
  case hf =>
    repeat'
      try intro _
      first
      | (with_reducible exact value_ParseOffset.isJ0 _ _)
      | (with_reducible apply IsLim.ite)
      | (with_reducible apply IsLim.bind)
      | (apply IsLim.cst; intro _; exact rfl)
  case h => exact fun _ => rfl
end Go.Proofs.YtligbecmbefclaaDoor.PVex

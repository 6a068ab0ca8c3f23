/- Printed functions of the family Vex without a bound on their rounds, and the equation that each meets. No condition. -/
import Derived.Test.YtligbecmbefclaaDoorBase
import Derived.Test.YtligbecmbefclaaDoorPVexx12
import Derived.Test.YtligbecmbefclaaDoorEVexx9
namespace Go.Proofs.YtligbecmbefclaaDoor.PVex
open Go.RowKit Go.Proofs.YtligbecmbefclaaDoorW.PrintWords Go.Proofs.YtligbecmbefclaaDoorW.PrintLast Go.Proofs.YtligbecmbefclaaDoor.Base
set_option linter.unusedVariables false
noncomputable def solsticeref16_ParseOffset.J0 (x0 : ByteArray) (x31 : Bool) : Option (Int × Bool) := lim fun k => solsticeref16_ParseOffset.j0 k x0 x31
noncomputable def solsticeref16_ParseOffset.J1 (x0 : ByteArray) (x4 : Int) (x5 : Int) (x6 : Int) : Option (Int × Bool) := lim fun k => solsticeref16_ParseOffset.j1 k x0 x4 x5 x6
noncomputable def solsticeref16_ParseOffset.J2 (x0 : ByteArray) (x7 : Int) (x69 : Bool) : Option (Int × Bool) := lim fun k => solsticeref16_ParseOffset.j2 k x0 x7 x69
noncomputable def solsticeref16_ParseOffset.F (a0 : ByteArray) : Option (Int × Bool) := lim fun k => solsticeref16_ParseOffset.f k a0
theorem solsticeref16_ParseOffset.isJ0 (x0 : ByteArray) (x31 : Bool) : IsLim (fun k => solsticeref16_ParseOffset.j0 k x0 x31) (solsticeref16_ParseOffset.J0 x0 x31) := ⟨fun k => (solsticeref16_ParseOffset.mono_l k).1 x0 x31, rfl⟩
theorem solsticeref16_ParseOffset.isJ1 (x0 : ByteArray) (x4 : Int) (x5 : Int) (x6 : Int) : IsLim (fun k => solsticeref16_ParseOffset.j1 k x0 x4 x5 x6) (solsticeref16_ParseOffset.J1 x0 x4 x5 x6) := ⟨fun k => (solsticeref16_ParseOffset.mono_l k).2.1 x0 x4 x5 x6, rfl⟩
theorem solsticeref16_ParseOffset.isJ2 (x0 : ByteArray) (x7 : Int) (x69 : Bool) : IsLim (fun k => solsticeref16_ParseOffset.j2 k x0 x7 x69) (solsticeref16_ParseOffset.J2 x0 x7 x69) := ⟨fun k => (solsticeref16_ParseOffset.mono_l k).2.2 x0 x7 x69, rfl⟩
theorem solsticeref16_ParseOffset.isF (a0 : ByteArray) : IsLim (fun k => solsticeref16_ParseOffset.f k a0) (solsticeref16_ParseOffset.F a0) := ⟨fun k => solsticeref16_ParseOffset.mono a0 k, rfl⟩
theorem solsticeref16_ParseOffset.J0_eq (x0 : ByteArray) (x31 : Bool) : solsticeref16_ParseOffset.J0 x0 x31 = if x31 = true then (some (0, false)) else (if 1 ≤ 3 then (if 3 ≤ (x0.size : Int) then ((solsticeref01_Value.F (x0.extract 1 3)).bind fun t236 => (if 3 ≤ 5 then (if 5 ≤ (x0.size : Int) then ((solsticeref01_Value.F (x0.extract 3 5)).bind fun t237 => (if (x0.size : Int) = 7 then (if 5 ≤ 7 then (if 7 ≤ (x0.size : Int) then ((solsticeref01_Value.F (x0.extract 5 7)).bind fun t238 => (solsticeref16_ParseOffset.J1 x0 t236 t237 t238)) else (none)) else (none)) else (solsticeref16_ParseOffset.J1 x0 t236 t237 0))) else (none)) else (none))) else (none)) else (none)) := by
  apply IsLim.step (solsticeref16_ParseOffset.isJ0 x0 x31).mono
  case hf =>
    repeat'
      try intro _
      first
      | (with_reducible exact solsticeref01_Value.isF _)
      | (with_reducible exact solsticeref16_ParseOffset.isJ1 _ _ _ _)
      | (with_reducible apply IsLim.ite)
      | (with_reducible apply IsLim.bind)
      | (apply IsLim.cst; intro _; exact rfl)
  case h => intro k; rw [solsticeref16_ParseOffset.j0]
theorem solsticeref16_ParseOffset.J1_eq (x0 : ByteArray) (x4 : Int) (x5 : Int) (x6 : Int) : solsticeref16_ParseOffset.J1 x0 x4 x5 x6 = if x4 > 23 then (solsticeref16_ParseOffset.J2 x0 (wrap64 ((wrap64 ((wrap64 (3600 * x4)) + (wrap64 (60 * x5)))) + x6)) true) else (if x5 > 59 then (solsticeref16_ParseOffset.J2 x0 (wrap64 ((wrap64 ((wrap64 (3600 * x4)) + (wrap64 (60 * x5)))) + x6)) true) else (if x6 > 59 then (solsticeref16_ParseOffset.J2 x0 (wrap64 ((wrap64 ((wrap64 (3600 * x4)) + (wrap64 (60 * x5)))) + x6)) true) else (if 0 < (x0.size : Int) then (if (bt x0 0) = 45 then (solsticeref16_ParseOffset.J2 x0 (wrap64 ((wrap64 ((wrap64 (3600 * x4)) + (wrap64 (60 * x5)))) + x6)) ((wrap64 ((wrap64 ((wrap64 (3600 * x4)) + (wrap64 (60 * x5)))) + x6)) == 0)) else (solsticeref16_ParseOffset.J2 x0 (wrap64 ((wrap64 ((wrap64 (3600 * x4)) + (wrap64 (60 * x5)))) + x6)) false)) else (none)))) := by
  apply IsLim.step (solsticeref16_ParseOffset.isJ1 x0 x4 x5 x6).mono
  case hf =>
    repeat'
      try intro _
      first
      | (with_reducible exact solsticeref16_ParseOffset.isJ2 _ _ _)
      | (with_reducible apply IsLim.ite)
      | (with_reducible apply IsLim.bind)
      | (apply IsLim.cst; intro _; exact rfl)
  case h => intro k; rw [solsticeref16_ParseOffset.j1]
theorem solsticeref16_ParseOffset.J2_eq (x0 : ByteArray) (x7 : Int) (x69 : Bool) : solsticeref16_ParseOffset.J2 x0 x7 x69 = if x69 = true then (some (0, false)) else (if 0 < (x0.size : Int) then (if (bt x0 0) = 45 then (some (wrap64 (-x7), true)) else (some (x7, true))) else (none)) := by
  apply IsLim.step (solsticeref16_ParseOffset.isJ2 x0 x7 x69).mono
  case hf =>
    repeat'
      try intro _
      first
      | (with_reducible apply IsLim.ite)
      | (with_reducible apply IsLim.bind)
      | (apply IsLim.cst; intro _; exact rfl)
  case h => intro k; rw [solsticeref16_ParseOffset.j2]
theorem solsticeref16_ParseOffset.F_eq (a0 : ByteArray) : solsticeref16_ParseOffset.F a0 = if (a0.size : Int) = 5 then (if 0 < (a0.size : Int) then (if (bt a0 0) = 43 then (if 1 ≤ (a0.size : Int) then ((solsticeref01_Digits.F (a0.extract 1 a0.size) 4 6).bind fun t232 => (solsticeref16_ParseOffset.J0 a0 (!t232))) else (none)) else (if (bt a0 0) = 45 then (if 1 ≤ (a0.size : Int) then ((solsticeref01_Digits.F (a0.extract 1 a0.size) 4 6).bind fun t233 => (solsticeref16_ParseOffset.J0 a0 (!t233))) else (none)) else (solsticeref16_ParseOffset.J0 a0 true))) else (none)) else (if (a0.size : Int) = 7 then (if 0 < (a0.size : Int) then (if (bt a0 0) = 43 then (if 1 ≤ (a0.size : Int) then ((solsticeref01_Digits.F (a0.extract 1 a0.size) 4 6).bind fun t234 => (solsticeref16_ParseOffset.J0 a0 (!t234))) else (none)) else (if (bt a0 0) = 45 then (if 1 ≤ (a0.size : Int) then ((solsticeref01_Digits.F (a0.extract 1 a0.size) 4 6).bind fun t235 => (solsticeref16_ParseOffset.J0 a0 (!t235))) else (none)) else (solsticeref16_ParseOffset.J0 a0 true))) else (none)) else (solsticeref16_ParseOffset.J0 a0 true)) := by
  apply IsLim.via
  case hf =>
    repeat'
      try intro _
      first
      | (with_reducible exact solsticeref01_Digits.isF _ _ _)
      | (with_reducible exact solsticeref16_ParseOffset.isJ0 _ _)
      | (with_reducible apply IsLim.ite)
      | (with_reducible apply IsLim.bind)
      | (apply IsLim.cst; intro _; exact rfl)
  case h => exact fun _ => rfl
end Go.Proofs.YtligbecmbefclaaDoor.PVex

/- Printed functions of the family Vex without a bound on their rounds, and the equation that each meets. No condition. -/
import Derived.Test.YtligbecmbefclaaDoorBase
import Derived.Test.YtligbecmbefclaaDoorPVexx11
import Derived.Test.YtligbecmbefclaaDoorEVexx9
import Derived.Test.YtligbecmbefclaaDoorEVexx10
namespace Go.Proofs.YtligbecmbefclaaDoor.PVex
open Go.RowKit Go.Proofs.YtligbecmbefclaaDoorW.PrintWords Go.Proofs.YtligbecmbefclaaDoorW.PrintLast Go.Proofs.YtligbecmbefclaaDoor.Base
set_option linter.unusedVariables false
noncomputable def solsticeref16_ParseTime.J0 (x0 : ByteArray) (x5 : Bool) : Option (Int × Bool × Bool) := lim fun k => solsticeref16_ParseTime.j0 k x0 x5
noncomputable def solsticeref16_ParseTime.J1 (x0 : ByteArray) (x5 : Bool) : Option (Int × Bool × Bool) := lim fun k => solsticeref16_ParseTime.j1 k x0 x5
noncomputable def solsticeref16_ParseTime.J2 (x0 : ByteArray) (x5 : Bool) (x40 : Bool) : Option (Int × Bool × Bool) := lim fun k => solsticeref16_ParseTime.j2 k x0 x5 x40
noncomputable def solsticeref16_ParseTime.F (a0 : ByteArray) : Option (Int × Bool × Bool) := lim fun k => solsticeref16_ParseTime.f k a0
theorem solsticeref16_ParseTime.isJ0 (x0 : ByteArray) (x5 : Bool) : IsLim (fun k => solsticeref16_ParseTime.j0 k x0 x5) (solsticeref16_ParseTime.J0 x0 x5) := ⟨fun k => (solsticeref16_ParseTime.mono_l k).1 x0 x5, rfl⟩
theorem solsticeref16_ParseTime.isJ1 (x0 : ByteArray) (x5 : Bool) : IsLim (fun k => solsticeref16_ParseTime.j1 k x0 x5) (solsticeref16_ParseTime.J1 x0 x5) := ⟨fun k => (solsticeref16_ParseTime.mono_l k).2.1 x0 x5, rfl⟩
theorem solsticeref16_ParseTime.isJ2 (x0 : ByteArray) (x5 : Bool) (x40 : Bool) : IsLim (fun k => solsticeref16_ParseTime.j2 k x0 x5 x40) (solsticeref16_ParseTime.J2 x0 x5 x40) := ⟨fun k => (solsticeref16_ParseTime.mono_l k).2.2 x0 x5 x40, rfl⟩
theorem solsticeref16_ParseTime.isF (a0 : ByteArray) : IsLim (fun k => solsticeref16_ParseTime.f k a0) (solsticeref16_ParseTime.F a0) := ⟨fun k => solsticeref16_ParseTime.mono a0 k, rfl⟩
theorem solsticeref16_ParseTime.J0_eq (x0 : ByteArray) (x5 : Bool) : solsticeref16_ParseTime.J0 x0 x5 = if x5 = true then (if 0 ≤ 15 then (if 15 ≤ (x0.size : Int) then (solsticeref16_ParseTime.J1 (x0.extract 0 15) x5) else (none)) else (none)) else (solsticeref16_ParseTime.J1 x0 x5) := by
  apply IsLim.step (solsticeref16_ParseTime.isJ0 x0 x5).mono
  case hf =>
    repeat'
      try intro _
      first
      | (with_reducible exact solsticeref16_ParseTime.isJ1 _ _)
      | (with_reducible apply IsLim.ite)
      | (with_reducible apply IsLim.bind)
      | (apply IsLim.cst; intro _; exact rfl)
  case h => intro k; rw [solsticeref16_ParseTime.j0]
theorem solsticeref16_ParseTime.J1_eq (x0 : ByteArray) (x5 : Bool) : solsticeref16_ParseTime.J1 x0 x5 = if (x0.size : Int) = 15 then (if 8 < (x0.size : Int) then (if (bt x0 8) = 84 then (if 0 ≤ 8 then (if 8 ≤ (x0.size : Int) then ((solsticeref01_Digits.F (x0.extract 0 8) 8 8).bind fun t221 => (if t221 = true then (if 9 ≤ (x0.size : Int) then ((solsticeref01_Digits.F (x0.extract 9 x0.size) 6 6).bind fun t222 => (solsticeref16_ParseTime.J2 x0 x5 (!t222))) else (none)) else (solsticeref16_ParseTime.J2 x0 x5 true))) else (none)) else (none)) else (solsticeref16_ParseTime.J2 x0 x5 true)) else (none)) else (solsticeref16_ParseTime.J2 x0 x5 true) := by
  apply IsLim.step (solsticeref16_ParseTime.isJ1 x0 x5).mono
  case hf =>
    repeat'
      try intro _
      first
      | (with_reducible exact solsticeref01_Digits.isF _ _ _)
      | (with_reducible exact solsticeref16_ParseTime.isJ2 _ _ _)
      | (with_reducible apply IsLim.ite)
      | (with_reducible apply IsLim.bind)
      | (apply IsLim.cst; intro _; exact rfl)
  case h => intro k; rw [solsticeref16_ParseTime.j1]
theorem solsticeref16_ParseTime.J2_eq (x0 : ByteArray) (x5 : Bool) (x40 : Bool) : solsticeref16_ParseTime.J2 x0 x5 x40 = if x40 = true then (some (0, false, false)) else (if 0 ≤ 4 then (if 4 ≤ (x0.size : Int) then ((solsticeref01_Value.F (x0.extract 0 4)).bind fun t223 => (if 4 ≤ 6 then (if 6 ≤ (x0.size : Int) then ((solsticeref01_Value.F (x0.extract 4 6)).bind fun t224 => (if 6 ≤ 8 then (if 8 ≤ (x0.size : Int) then ((solsticeref01_Value.F (x0.extract 6 8)).bind fun t225 => (if 9 ≤ 11 then (if 11 ≤ (x0.size : Int) then ((solsticeref01_Value.F (x0.extract 9 11)).bind fun t227 => (if 11 ≤ 13 then (if 13 ≤ (x0.size : Int) then ((solsticeref01_Value.F (x0.extract 11 13)).bind fun t228 => (if 13 ≤ 15 then (if 15 ≤ (x0.size : Int) then ((solsticeref01_Value.F (x0.extract 13 15)).bind fun t229 => (if t223 < 1 then (some (0, false, false)) else ((solsticeref01_Right.F t223 t224 t225).bind fun t230 => (if t230 = true then (if t227 > 23 then (some (0, false, false)) else (if t228 > 59 then (some (0, false, false)) else (if t229 > 59 then (some (0, false, false)) else ((solsticeref01_Number.F t223 t224 t225).bind fun t231 => (some (wrap64 ((wrap64 ((wrap64 ((wrap64 (t231 * 86400)) + (wrap64 (3600 * t227)))) + (wrap64 (60 * t228)))) + t229), x5, true)))))) else (some (0, false, false)))))) else (none)) else (none))) else (none)) else (none))) else (none)) else (none))) else (none)) else (none))) else (none)) else (none))) else (none)) else (none)) := by
  apply IsLim.step (solsticeref16_ParseTime.isJ2 x0 x5 x40).mono
  case hf =>
    repeat'
      try intro _
      first
      | (with_reducible exact solsticeref01_Number.isF _ _ _)
      | (with_reducible exact solsticeref01_Right.isF _ _ _)
      | (with_reducible exact solsticeref01_Value.isF _)
      | (with_reducible apply IsLim.ite)
      | (with_reducible apply IsLim.bind)
      | (apply IsLim.cst; intro _; exact rfl)
  case h => intro k; rw [solsticeref16_ParseTime.j2]
theorem solsticeref16_ParseTime.F_eq (a0 : ByteArray) : solsticeref16_ParseTime.F a0 = if (a0.size : Int) = 16 then (if 15 < (a0.size : Int) then (solsticeref16_ParseTime.J0 a0 ((bt a0 15) == 90)) else (none)) else (solsticeref16_ParseTime.J0 a0 false) := by
  apply IsLim.via
  case hf =>
    repeat'
      try intro _
      first
      | (with_reducible exact solsticeref16_ParseTime.isJ0 _ _)
      | (with_reducible apply IsLim.ite)
      | (with_reducible apply IsLim.bind)
      | (apply IsLim.cst; intro _; exact rfl)
  case h => exact fun _ => rfl
end Go.Proofs.YtligbecmbefclaaDoor.PVex

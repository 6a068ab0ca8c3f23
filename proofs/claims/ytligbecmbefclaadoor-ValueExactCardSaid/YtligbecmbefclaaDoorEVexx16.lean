/- Printed functions of the family Vex without a bound on their rounds, and the equation that each meets. No condition. -/
import Derived.Test.YtligbecmbefclaaDoorBase
import Derived.Test.YtligbecmbefclaaDoorPVexx16
import Derived.Test.YtligbecmbefclaaDoorEVexx2
import Derived.Test.YtligbecmbefclaaDoorEVexx6
import Derived.Test.YtligbecmbefclaaDoorEVexx7
import Derived.Test.YtligbecmbefclaaDoorEVexx8
import Derived.Test.YtligbecmbefclaaDoorEVexx9
import Derived.Test.YtligbecmbefclaaDoorEVexx11
import Derived.Test.YtligbecmbefclaaDoorEVexx12
import Derived.Test.YtligbecmbefclaaDoorEVexx13
import Derived.Test.YtligbecmbefclaaDoorEVexx14
import Derived.Test.YtligbecmbefclaaDoorEVexx15
namespace Go.Proofs.YtligbecmbefclaaDoor.PVex
open Go.RowKit Go.Proofs.YtligbecmbefclaaDoorW.PrintWords Go.Proofs.YtligbecmbefclaaDoorW.PrintLast Go.Proofs.YtligbecmbefclaaDoor.Base
set_option linter.unusedVariables false
noncomputable def solsticelaw20_ValueExact.J0 (x0 : Int) (x1 : Int) (x2 : Bool) (x3 : ByteArray) (x9 : ByteArray) (x10 : Int) (x14 : ByteArray) (x15 : Int) (x16 : Int) (x17 : Int) (x18 : List Int) (x19 : Bool) (x20 : Int) (x92 : Bool) : Option (Bool) := lim fun k => solsticelaw20_ValueExact.j0 k x0 x1 x2 x3 x9 x10 x14 x15 x16 x17 x18 x19 x20 x92
noncomputable def solsticelaw20_ValueExact.J1 (x0 : Int) (x1 : Int) (x2 : Bool) (x3 : ByteArray) (x9 : ByteArray) (x10 : Int) (x14 : ByteArray) (x15 : Int) (x18 : List Int) (x19 : Bool) (x20 : Int) (x114 : Bool) : Option (Bool) := lim fun k => solsticelaw20_ValueExact.j1 k x0 x1 x2 x3 x9 x10 x14 x15 x18 x19 x20 x114
noncomputable def solsticelaw20_ValueExact.J2 (x0 : Int) (x1 : Int) (x2 : Bool) (x9 : ByteArray) (x10 : Int) (x14 : ByteArray) (x15 : Int) (x143 : Bool) : Option (Bool) := lim fun k => solsticelaw20_ValueExact.j2 k x0 x1 x2 x9 x10 x14 x15 x143
noncomputable def solsticelaw20_ValueExact.J3 (x0 : Int) (x1 : Int) (x2 : Bool) (x9 : ByteArray) (x10 : Int) (x14 : ByteArray) (x15 : Int) (x149 : Bool) : Option (Bool) := lim fun k => solsticelaw20_ValueExact.j3 k x0 x1 x2 x9 x10 x14 x15 x149
noncomputable def solsticelaw20_ValueExact.J4 (x0 : Int) (x2 : Bool) (x9 : ByteArray) (x10 : Int) : Option (Bool) := lim fun k => solsticelaw20_ValueExact.j4 k x0 x2 x9 x10
noncomputable def solsticelaw20_ValueExact.F (a0 : Int) (a1 : Int) (a2 : Bool) (a3 : ByteArray) : Option (Bool) := lim fun k => solsticelaw20_ValueExact.f k a0 a1 a2 a3
theorem solsticelaw20_ValueExact.isJ0 (x0 : Int) (x1 : Int) (x2 : Bool) (x3 : ByteArray) (x9 : ByteArray) (x10 : Int) (x14 : ByteArray) (x15 : Int) (x16 : Int) (x17 : Int) (x18 : List Int) (x19 : Bool) (x20 : Int) (x92 : Bool) : IsLim (fun k => solsticelaw20_ValueExact.j0 k x0 x1 x2 x3 x9 x10 x14 x15 x16 x17 x18 x19 x20 x92) (solsticelaw20_ValueExact.J0 x0 x1 x2 x3 x9 x10 x14 x15 x16 x17 x18 x19 x20 x92) := ⟨fun k => (solsticelaw20_ValueExact.mono_l k).1 x0 x1 x2 x3 x9 x10 x14 x15 x16 x17 x18 x19 x20 x92, rfl⟩
theorem solsticelaw20_ValueExact.isJ1 (x0 : Int) (x1 : Int) (x2 : Bool) (x3 : ByteArray) (x9 : ByteArray) (x10 : Int) (x14 : ByteArray) (x15 : Int) (x18 : List Int) (x19 : Bool) (x20 : Int) (x114 : Bool) : IsLim (fun k => solsticelaw20_ValueExact.j1 k x0 x1 x2 x3 x9 x10 x14 x15 x18 x19 x20 x114) (solsticelaw20_ValueExact.J1 x0 x1 x2 x3 x9 x10 x14 x15 x18 x19 x20 x114) := ⟨fun k => (solsticelaw20_ValueExact.mono_l k).2.1 x0 x1 x2 x3 x9 x10 x14 x15 x18 x19 x20 x114, rfl⟩
theorem solsticelaw20_ValueExact.isJ2 (x0 : Int) (x1 : Int) (x2 : Bool) (x9 : ByteArray) (x10 : Int) (x14 : ByteArray) (x15 : Int) (x143 : Bool) : IsLim (fun k => solsticelaw20_ValueExact.j2 k x0 x1 x2 x9 x10 x14 x15 x143) (solsticelaw20_ValueExact.J2 x0 x1 x2 x9 x10 x14 x15 x143) := ⟨fun k => (solsticelaw20_ValueExact.mono_l k).2.2.1 x0 x1 x2 x9 x10 x14 x15 x143, rfl⟩
theorem solsticelaw20_ValueExact.isJ3 (x0 : Int) (x1 : Int) (x2 : Bool) (x9 : ByteArray) (x10 : Int) (x14 : ByteArray) (x15 : Int) (x149 : Bool) : IsLim (fun k => solsticelaw20_ValueExact.j3 k x0 x1 x2 x9 x10 x14 x15 x149) (solsticelaw20_ValueExact.J3 x0 x1 x2 x9 x10 x14 x15 x149) := ⟨fun k => (solsticelaw20_ValueExact.mono_l k).2.2.2.1 x0 x1 x2 x9 x10 x14 x15 x149, rfl⟩
theorem solsticelaw20_ValueExact.isJ4 (x0 : Int) (x2 : Bool) (x9 : ByteArray) (x10 : Int) : IsLim (fun k => solsticelaw20_ValueExact.j4 k x0 x2 x9 x10) (solsticelaw20_ValueExact.J4 x0 x2 x9 x10) := ⟨fun k => (solsticelaw20_ValueExact.mono_l k).2.2.2.2 x0 x2 x9 x10, rfl⟩
theorem solsticelaw20_ValueExact.isF (a0 : Int) (a1 : Int) (a2 : Bool) (a3 : ByteArray) : IsLim (fun k => solsticelaw20_ValueExact.f k a0 a1 a2 a3) (solsticelaw20_ValueExact.F a0 a1 a2 a3) := ⟨fun k => solsticelaw20_ValueExact.mono a0 a1 a2 a3 k, rfl⟩
theorem solsticelaw20_ValueExact.J0_eq (x0 : Int) (x1 : Int) (x2 : Bool) (x3 : ByteArray) (x9 : ByteArray) (x10 : Int) (x14 : ByteArray) (x15 : Int) (x16 : Int) (x17 : Int) (x18 : List Int) (x19 : Bool) (x20 : Int) (x92 : Bool) : solsticelaw20_ValueExact.J0 x0 x1 x2 x3 x9 x10 x14 x15 x16 x17 x18 x19 x20 x92 = if x92 = true then (some false) else ((solsticeref16_ParseOffset.F x3).bind fun bt328 => (if (bt328.2 != (x17 == 0)) = true then (solsticelaw20_ValueExact.J1 x0 x1 x2 x3 x9 x10 x14 x15 x18 x19 x20 true) else (if bt328.2 = true then (solsticelaw20_ValueExact.J1 x0 x1 x2 x3 x9 x10 x14 x15 x18 x19 x20 (x16 != bt328.1)) else (if x17 = 19 then (solsticelaw20_ValueExact.J1 x0 x1 x2 x3 x9 x10 x14 x15 x18 x19 x20 (x16 != bt328.1)) else (solsticelaw20_ValueExact.J1 x0 x1 x2 x3 x9 x10 x14 x15 x18 x19 x20 true))))) := by
  apply IsLim.step (solsticelaw20_ValueExact.isJ0 x0 x1 x2 x3 x9 x10 x14 x15 x16 x17 x18 x19 x20 x92).mono
  case hf =>
    repeat'
      try intro _
      first
      | (with_reducible exact solsticelaw20_ValueExact.isJ1 _ _ _ _ _ _ _ _ _ _ _ _)
      | (with_reducible exact solsticeref16_ParseOffset.isF _)
      | (with_reducible apply IsLim.ite)
      | (with_reducible apply IsLim.bind)
      | (apply IsLim.cst; intro _; exact rfl)
  case h => intro k; rw [solsticelaw20_ValueExact.j0]
theorem solsticelaw20_ValueExact.J1_eq (x0 : Int) (x1 : Int) (x2 : Bool) (x3 : ByteArray) (x9 : ByteArray) (x10 : Int) (x14 : ByteArray) (x15 : Int) (x18 : List Int) (x19 : Bool) (x20 : Int) (x114 : Bool) : solsticelaw20_ValueExact.J1 x0 x1 x2 x3 x9 x10 x14 x15 x18 x19 x20 x114 = if x114 = true then (some false) else ((solsticeref16_Times.F x3).bind fun bt330 => (if (bt330.2.2 != (x20 == 0)) = true then (solsticelaw20_ValueExact.J2 x0 x1 x2 x9 x10 x14 x15 true) else (if bt330.2.2 = true then ((solsticekeep_Ints.F x18 bt330.1).bind fun t335 => (if t335 = true then (solsticelaw20_ValueExact.J2 x0 x1 x2 x9 x10 x14 x15 (x19 != bt330.2.1)) else (solsticelaw20_ValueExact.J2 x0 x1 x2 x9 x10 x14 x15 true))) else (if x20 = 19 then ((solsticekeep_Ints.F x18 bt330.1).bind fun t336 => (if t336 = true then (solsticelaw20_ValueExact.J2 x0 x1 x2 x9 x10 x14 x15 (x19 != bt330.2.1)) else (solsticelaw20_ValueExact.J2 x0 x1 x2 x9 x10 x14 x15 true))) else (solsticelaw20_ValueExact.J2 x0 x1 x2 x9 x10 x14 x15 true))))) := by
  apply IsLim.step (solsticelaw20_ValueExact.isJ1 x0 x1 x2 x3 x9 x10 x14 x15 x18 x19 x20 x114).mono
  case hf =>
    repeat'
      try intro _
      first
      | (with_reducible exact solsticekeep_Ints.isF _ _)
      | (with_reducible exact solsticelaw20_ValueExact.isJ2 _ _ _ _ _ _ _ _)
      | (with_reducible exact solsticeref16_Times.isF _)
      | (with_reducible apply IsLim.ite)
      | (with_reducible apply IsLim.bind)
      | (apply IsLim.cst; intro _; exact rfl)
  case h => intro k; rw [solsticelaw20_ValueExact.j1]
theorem solsticelaw20_ValueExact.J2_eq (x0 : Int) (x1 : Int) (x2 : Bool) (x9 : ByteArray) (x10 : Int) (x14 : ByteArray) (x15 : Int) (x143 : Bool) : solsticelaw20_ValueExact.J2 x0 x1 x2 x9 x10 x14 x15 x143 = if x143 = true then (some false) else (if x1 ≤ (-86400) then (solsticelaw20_ValueExact.J3 x0 x1 x2 x9 x10 x14 x15 true) else (solsticelaw20_ValueExact.J3 x0 x1 x2 x9 x10 x14 x15 (decide (x1 ≥ 86400)))) := by
  apply IsLim.step (solsticelaw20_ValueExact.isJ2 x0 x1 x2 x9 x10 x14 x15 x143).mono
  case hf =>
    repeat'
      try intro _
      first
      | (with_reducible exact solsticelaw20_ValueExact.isJ3 _ _ _ _ _ _ _ _)
      | (with_reducible apply IsLim.ite)
      | (with_reducible apply IsLim.bind)
      | (apply IsLim.cst; intro _; exact rfl)
  case h => intro k; rw [solsticelaw20_ValueExact.j2]
theorem solsticelaw20_ValueExact.J3_eq (x0 : Int) (x1 : Int) (x2 : Bool) (x9 : ByteArray) (x10 : Int) (x14 : ByteArray) (x15 : Int) (x149 : Bool) : solsticelaw20_ValueExact.J3 x0 x1 x2 x9 x10 x14 x15 x149 = if x149 = true then (if x15 = 19 then (if x14.toList = ([] : List UInt8) then (solsticelaw20_ValueExact.J4 x0 x2 x9 x10) else (some false)) else (some false)) else (if x15 = 0 then ((solsticeref16_Offset.F x1).bind fun t337 => (if x14.toList = t337.toList then (solsticelaw20_ValueExact.J4 x0 x2 x9 x10) else (some false))) else (some false)) := by
  apply IsLim.step (solsticelaw20_ValueExact.isJ3 x0 x1 x2 x9 x10 x14 x15 x149).mono
  case hf =>
    repeat'
      try intro _
      first
      | (with_reducible exact solsticelaw20_ValueExact.isJ4 _ _ _ _)
      | (with_reducible exact solsticeref16_Offset.isF _)
      | (with_reducible apply IsLim.ite)
      | (with_reducible apply IsLim.bind)
      | (apply IsLim.cst; intro _; exact rfl)
  case h => intro k; rw [solsticelaw20_ValueExact.j3]
theorem solsticelaw20_ValueExact.J4_eq (x0 : Int) (x2 : Bool) (x9 : ByteArray) (x10 : Int) : solsticelaw20_ValueExact.J4 x0 x2 x9 x10 = (solsticeref16_Years.F x0).bind fun bt338 => (if bt338.2.2.2 = true then (if x10 = 0 then ((solsticeref16_Time.F x0 x2).bind fun t343 => (if x9.toList = t343.toList then ((solsticelaw20_wakes.F).bind fun t344 => (some t344)) else (some false))) else (some false)) else (if x10 = 23 then (if x9.toList = ([] : List UInt8) then ((solsticelaw20_wakes.F).bind fun t345 => (some t345)) else (some false)) else (some false))) := by
  apply IsLim.step (solsticelaw20_ValueExact.isJ4 x0 x2 x9 x10).mono
  case hf =>
    repeat'
      try intro _
      first
      | (with_reducible exact solsticelaw20_wakes.isF)
      | (with_reducible exact solsticeref16_Time.isF _ _)
      | (with_reducible exact solsticeref16_Years.isF _)
      | (with_reducible apply IsLim.ite)
      | (with_reducible apply IsLim.bind)
      | (apply IsLim.cst; intro _; exact rfl)
  case h => intro k; rw [solsticelaw20_ValueExact.j4]
theorem solsticelaw20_ValueExact.F_eq (a0 : Int) (a1 : Int) (a2 : Bool) (a3 : ByteArray) : solsticelaw20_ValueExact.F a0 a1 a2 a3 = if (a3.size : Int) > 500 then (some true) else ((value_Time.F a0 a2).bind fun bt311 => ((value_ParseTime.F a3).bind fun bt313 => ((value_Offset.F a1).bind fun bt316 => ((value_ParseOffset.F a3).bind fun bt318 => ((value_Times.F a3).bind fun bt320 => ((solsticeref16_ParseTime.F a3).bind fun bt325 => (if (bt325.2.2 != (bt313.2.2 == 0)) = true then (solsticelaw20_ValueExact.J0 a0 a1 a2 a3 bt311.1 bt311.2 bt316.1 bt316.2 bt318.1 bt318.2 bt320.1 bt320.2.1 bt320.2.2 true) else (if bt325.2.2 = true then (if bt313.1 = bt325.1 then (if bt325.2.1 = true then (solsticelaw20_ValueExact.J0 a0 a1 a2 a3 bt311.1 bt311.2 bt316.1 bt316.2 bt318.1 bt318.2 bt320.1 bt320.2.1 bt320.2.2 (bt313.2.1 != bt325.2.2)) else (solsticelaw20_ValueExact.J0 a0 a1 a2 a3 bt311.1 bt311.2 bt316.1 bt316.2 bt318.1 bt318.2 bt320.1 bt320.2.1 bt320.2.2 (bt313.2.1 != false))) else (solsticelaw20_ValueExact.J0 a0 a1 a2 a3 bt311.1 bt311.2 bt316.1 bt316.2 bt318.1 bt318.2 bt320.1 bt320.2.1 bt320.2.2 true)) else (if bt313.2.2 = 19 then (if bt313.1 = bt325.1 then (if bt325.2.1 = true then (solsticelaw20_ValueExact.J0 a0 a1 a2 a3 bt311.1 bt311.2 bt316.1 bt316.2 bt318.1 bt318.2 bt320.1 bt320.2.1 bt320.2.2 (bt313.2.1 != bt325.2.2)) else (solsticelaw20_ValueExact.J0 a0 a1 a2 a3 bt311.1 bt311.2 bt316.1 bt316.2 bt318.1 bt318.2 bt320.1 bt320.2.1 bt320.2.2 (bt313.2.1 != false))) else (solsticelaw20_ValueExact.J0 a0 a1 a2 a3 bt311.1 bt311.2 bt316.1 bt316.2 bt318.1 bt318.2 bt320.1 bt320.2.1 bt320.2.2 true)) else (solsticelaw20_ValueExact.J0 a0 a1 a2 a3 bt311.1 bt311.2 bt316.1 bt316.2 bt318.1 bt318.2 bt320.1 bt320.2.1 bt320.2.2 true)))))))))) := by
  apply IsLim.via
  case hf =>
    repeat'
      try intro _
      first
      | (with_reducible exact solsticelaw20_ValueExact.isJ0 _ _ _ _ _ _ _ _ _ _ _ _ _ _)
      | (with_reducible exact solsticeref16_ParseTime.isF _)
      | (with_reducible exact value_Offset.isF _)
      | (with_reducible exact value_ParseOffset.isF _)
      | (with_reducible exact value_ParseTime.isF _)
      | (with_reducible exact value_Time.isF _ _)
      | (with_reducible exact value_Times.isF _)
      | (with_reducible apply IsLim.ite)
      | (with_reducible apply IsLim.bind)
      | (apply IsLim.cst; intro _; exact rfl)
  case h => exact fun _ => rfl
end Go.Proofs.YtligbecmbefclaaDoor.PVex

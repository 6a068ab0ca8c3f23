/- Printed functions of the family Vex without a bound on their rounds, and the equation that each meets. No condition. -/
import Derived.Test.YtligbecmbefclaaDoorBase
import Derived.Test.YtligbecmbefclaaDoorPVexx14
import Derived.Test.YtligbecmbefclaaDoorEVexx2
import Derived.Test.YtligbecmbefclaaDoorEVexx6
import Derived.Test.YtligbecmbefclaaDoorEVexx7
import Derived.Test.YtligbecmbefclaaDoorEVexx8
import Derived.Test.YtligbecmbefclaaDoorEVexx9
import Derived.Test.YtligbecmbefclaaDoorEVexx10
import Derived.Test.YtligbecmbefclaaDoorEVexx13
namespace Go.Proofs.YtligbecmbefclaaDoor.PVex
open Go.RowKit Go.Proofs.YtligbecmbefclaaDoorW.PrintWords Go.Proofs.YtligbecmbefclaaDoorW.PrintLast Go.Proofs.YtligbecmbefclaaDoor.Base
set_option linter.unusedVariables false
noncomputable def solsticeref16_Offset.J0 (x0 : Int) (x3 : ByteArray) : Option (ByteArray) := lim fun k => solsticeref16_Offset.j0 k x0 x3
noncomputable def solsticeref16_Offset.F (a0 : Int) : Option (ByteArray) := lim fun k => solsticeref16_Offset.f k a0
theorem solsticeref16_Offset.isJ0 (x0 : Int) (x3 : ByteArray) : IsLim (fun k => solsticeref16_Offset.j0 k x0 x3) (solsticeref16_Offset.J0 x0 x3) := ⟨fun k => (solsticeref16_Offset.mono_l k) x0 x3, rfl⟩
theorem solsticeref16_Offset.isF (a0 : Int) : IsLim (fun k => solsticeref16_Offset.f k a0) (solsticeref16_Offset.F a0) := ⟨fun k => solsticeref16_Offset.mono a0 k, rfl⟩
theorem solsticeref16_Offset.J0_eq (x0 : Int) (x3 : ByteArray) : solsticeref16_Offset.J0 x0 x3 = (solsticeref01_Text.F (wrap64 (Int.tdiv x0 3600)) 2).bind fun t256 => (if x3.size + t256.size ≤ 9223372036854775807 then ((solsticeref01_Text.F (Int.tmod (wrap64 (Int.tdiv x0 60)) 60) 2).bind fun t257 => (if (x3 ++ t256).size + t257.size ≤ 9223372036854775807 then (if (Int.tmod x0 60) = 0 then (some ((x3 ++ t256) ++ t257)) else ((solsticeref01_Text.F (Int.tmod x0 60) 2).bind fun t258 => (if ((x3 ++ t256) ++ t257).size + t258.size ≤ 9223372036854775807 then (some (((x3 ++ t256) ++ t257) ++ t258)) else (none)))) else (none))) else (none)) := by
  apply IsLim.step (solsticeref16_Offset.isJ0 x0 x3).mono
  case hf =>
    repeat'
      try intro _
      first
      | (with_reducible exact solsticeref01_Text.isF _ _)
      | (with_reducible apply IsLim.ite)
      | (with_reducible apply IsLim.bind)
      | (apply IsLim.cst; intro _; exact rfl)
  case h => intro k; rw [solsticeref16_Offset.j0]
theorem solsticeref16_Offset.F_eq (a0 : Int) : solsticeref16_Offset.F a0 = if a0 < 0 then (solsticeref16_Offset.J0 (wrap64 (-a0)) (⟨#[45]⟩ : ByteArray)) else (solsticeref16_Offset.J0 a0 (⟨#[43]⟩ : ByteArray)) := by
  apply IsLim.via
  case hf =>
    repeat'
      try intro _
      first
      | (with_reducible exact solsticeref16_Offset.isJ0 _ _)
      | (with_reducible apply IsLim.ite)
      | (with_reducible apply IsLim.bind)
      | (apply IsLim.cst; intro _; exact rfl)
  case h => exact fun _ => rfl
noncomputable def solsticeref01_Least.F  : Option (Int) := lim fun k => solsticeref01_Least.f k
theorem solsticeref01_Least.isF  : IsLim (fun k => solsticeref01_Least.f k) (solsticeref01_Least.F ) := ⟨fun k => solsticeref01_Least.mono k, rfl⟩
theorem solsticeref01_Least.F_eq  : solsticeref01_Least.F  = (solsticeref01_Number.F 0 1 1).bind fun t259 => (some t259) := by
  apply IsLim.via
  case hf =>
    repeat'
      try intro _
      first
      | (with_reducible exact solsticeref01_Number.isF _ _ _)
      | (with_reducible apply IsLim.ite)
      | (with_reducible apply IsLim.bind)
      | (apply IsLim.cst; intro _; exact rfl)
  case h => exact fun _ => rfl
noncomputable def solsticeref01_Most.F  : Option (Int) := lim fun k => solsticeref01_Most.f k
theorem solsticeref01_Most.isF  : IsLim (fun k => solsticeref01_Most.f k) (solsticeref01_Most.F ) := ⟨fun k => solsticeref01_Most.mono k, rfl⟩
theorem solsticeref01_Most.F_eq  : solsticeref01_Most.F  = (solsticeref01_Number.F 10000 12 31).bind fun t260 => (some t260) := by
  apply IsLim.via
  case hf =>
    repeat'
      try intro _
      first
      | (with_reducible exact solsticeref01_Number.isF _ _ _)
      | (with_reducible apply IsLim.ite)
      | (with_reducible apply IsLim.bind)
      | (apply IsLim.cst; intro _; exact rfl)
  case h => exact fun _ => rfl
noncomputable def solsticeref01_Date.J1 (x0 : Int) (x3 : Int) : Option (Int × Int × Int) := lim fun k => solsticeref01_Date.j1 k x0 x3
noncomputable def solsticeref01_Date.L1 (x3 : Int) (x5 : Int) (x264000 : Int) (x264001 : Int) (x264002 : Int) : Option (Int × Int × Int) := lim fun k => solsticeref01_Date.l1 k x3 x5 x264000 x264001 x264002
noncomputable def solsticeref01_Date.L0 (x0 : Int) (x3 : Int) : Option (Int × Int × Int) := lim fun k => solsticeref01_Date.l0 k x0 x3
noncomputable def solsticeref01_Date.F (a0 : Int) : Option (Int × Int × Int) := lim fun k => solsticeref01_Date.f k a0
theorem solsticeref01_Date.isJ1 (x0 : Int) (x3 : Int) : IsLim (fun k => solsticeref01_Date.j1 k x0 x3) (solsticeref01_Date.J1 x0 x3) := ⟨fun k => (solsticeref01_Date.mono_l k).1 x0 x3, rfl⟩
theorem solsticeref01_Date.isL1 (x3 : Int) (x5 : Int) (x264000 : Int) (x264001 : Int) (x264002 : Int) : IsLim (fun k => solsticeref01_Date.l1 k x3 x5 x264000 x264001 x264002) (solsticeref01_Date.L1 x3 x5 x264000 x264001 x264002) := ⟨fun k => (solsticeref01_Date.mono_l k).2.1 x3 x5 x264000 x264001 x264002, rfl⟩
theorem solsticeref01_Date.isL0 (x0 : Int) (x3 : Int) : IsLim (fun k => solsticeref01_Date.l0 k x0 x3) (solsticeref01_Date.L0 x0 x3) := ⟨fun k => (solsticeref01_Date.mono_l k).2.2 x0 x3, rfl⟩
theorem solsticeref01_Date.isF (a0 : Int) : IsLim (fun k => solsticeref01_Date.f k a0) (solsticeref01_Date.F a0) := ⟨fun k => solsticeref01_Date.mono a0 k, rfl⟩
theorem solsticeref01_Date.J1_eq (x0 : Int) (x3 : Int) : solsticeref01_Date.J1 x0 x3 = (solsticeref01_Number.F x3 1 1).bind fun t264 => (solsticeref01_Date.L1 x3 (wrap64 (x0 - t264)) x3 1 1) := by
  apply IsLim.step (solsticeref01_Date.isJ1 x0 x3).mono
  case hf =>
    repeat'
      try intro _
      first
      | (with_reducible exact solsticeref01_Date.isL1 _ _ _ _ _)
      | (with_reducible exact solsticeref01_Number.isF _ _ _)
      | (with_reducible apply IsLim.ite)
      | (with_reducible apply IsLim.bind)
      | (apply IsLim.cst; intro _; exact rfl)
  case h => intro k; rw [solsticeref01_Date.j1]
theorem solsticeref01_Date.L1_eq (x3 : Int) (x5 : Int) (x264000 : Int) (x264001 : Int) (x264002 : Int) : solsticeref01_Date.L1 x3 x5 x264000 x264001 x264002 = if x5 > 0 then ((solsticeref01_Len.F x3 x264001).bind fun t265 => (if x5 ≥ t265 then (solsticeref01_Date.L1 x3 (wrap64 (x5 - t265)) x264000 (wrap64 (x264001 + 1)) x264002) else (solsticeref01_Date.L1 x3 0 x264000 x264001 (wrap64 (x5 + 1))))) else (some (x264000, x264001, x264002)) := by
  apply IsLim.step (solsticeref01_Date.isL1 x3 x5 x264000 x264001 x264002).mono
  case hf =>
    repeat'
      try intro _
      first
      | (with_reducible exact solsticeref01_Date.isL1 _ _ _ _ _)
      | (with_reducible exact solsticeref01_Len.isF _ _)
      | (with_reducible apply IsLim.ite)
      | (with_reducible apply IsLim.bind)
      | (apply IsLim.cst; intro _; exact rfl)
  case h => intro k; rw [solsticeref01_Date.l1]
theorem solsticeref01_Date.L0_eq (x0 : Int) (x3 : Int) : solsticeref01_Date.L0 x0 x3 = if x3 < 10000 then ((solsticeref01_Number.F (wrap64 (x3 + 1)) 1 1).bind fun t262 => (if t262 ≤ x0 then (solsticeref01_Date.L0 x0 (wrap64 (x3 + 1))) else (solsticeref01_Date.J1 x0 x3))) else (solsticeref01_Date.J1 x0 x3) := by
  apply IsLim.step (solsticeref01_Date.isL0 x0 x3).mono
  case hf =>
    repeat'
      try intro _
      first
      | (with_reducible exact solsticeref01_Date.isJ1 _ _)
      | (with_reducible exact solsticeref01_Date.isL0 _ _)
      | (with_reducible exact solsticeref01_Number.isF _ _ _)
      | (with_reducible apply IsLim.ite)
      | (with_reducible apply IsLim.bind)
      | (apply IsLim.cst; intro _; exact rfl)
  case h => intro k; rw [solsticeref01_Date.l0]
theorem solsticeref01_Date.F_eq (a0 : Int) : solsticeref01_Date.F a0 = solsticeref01_Date.L0 a0 (wrap64 (Int.tdiv (wrap64 (a0 + 719528)) 366)) := by
  apply IsLim.via
  case hf =>
    repeat'
      try intro _
      first
      | (with_reducible exact solsticeref01_Date.isL0 _ _)
      | (with_reducible apply IsLim.ite)
      | (with_reducible apply IsLim.bind)
      | (apply IsLim.cst; intro _; exact rfl)
  case h => exact fun _ => rfl
noncomputable def solsticeref16_Years.F (a0 : Int) : Option (Int × Int × Int × Bool) := lim fun k => solsticeref16_Years.f k a0
theorem solsticeref16_Years.isF (a0 : Int) : IsLim (fun k => solsticeref16_Years.f k a0) (solsticeref16_Years.F a0) := ⟨fun k => solsticeref16_Years.mono a0 k, rfl⟩
theorem solsticeref16_Years.F_eq (a0 : Int) : solsticeref16_Years.F a0 = (solsticeref01_Div.f a0 86400).bind fun bt267 => ((solsticeref01_Least.F).bind fun t269 => ((solsticeref01_Most.F).bind fun t270 => ((solsticeref16_in.f bt267.1 t269 t270).bind fun t271 => (if t271 = true then ((solsticeref01_Date.F bt267.1).bind fun bt272 => ((solsticeref16_in.f bt272.1 1 9999).bind fun t276 => (some (bt272.1, bt272.2.1, bt272.2.2, t276)))) else (some (0, 0, 0, false)))))) := by
  apply IsLim.via
  case hf =>
    repeat'
      try intro _
      first
      | (with_reducible exact solsticeref01_Date.isF _)
      | (with_reducible exact solsticeref01_Least.isF)
      | (with_reducible exact solsticeref01_Most.isF)
      | (with_reducible apply IsLim.ite)
      | (with_reducible apply IsLim.bind)
      | (apply IsLim.cst; intro _; exact rfl)
  case h => exact fun _ => rfl
noncomputable def solsticelaw20_wakes.F  : Option (Bool) := lim fun k => solsticelaw20_wakes.f k
theorem solsticelaw20_wakes.isF  : IsLim (fun k => solsticelaw20_wakes.f k) (solsticelaw20_wakes.F ) := ⟨fun k => solsticelaw20_wakes.mono k, rfl⟩
theorem solsticelaw20_wakes.F_eq  : solsticelaw20_wakes.F  = (value_Time.F 0 true).bind fun bt277 => ((value_ParseTime.F (⟨#[49, 57, 55, 48, 48, 49, 48, 50, 84, 48, 48, 48, 48, 48, 49]⟩ : ByteArray)).bind fun bt279 => ((value_Offset.F (-5400)).bind fun bt282 => ((value_ParseOffset.F (⟨#[43, 48, 49, 51, 48]⟩ : ByteArray)).bind fun bt284 => ((value_ParseTime.F (⟨#[49, 57, 55, 48, 48, 50, 51, 48, 84, 48, 48, 48, 48, 48, 48]⟩ : ByteArray)).bind fun bt286 => ((value_Times.F (⟨#[49, 57, 55, 48, 48, 49, 48, 49, 84, 48, 48, 48, 48, 48, 48, 44, 49, 57, 55, 48, 48, 49, 48, 50, 84, 48, 48, 48, 48, 48, 48]⟩ : ByteArray)).bind fun bt289 => (if bt277.2 = 0 then (if bt277.1.toList = ([49, 57, 55, 48, 48, 49, 48, 49, 84, 48, 48, 48, 48, 48, 48, 90] : List UInt8) then (if bt279.2.2 = 0 then (if bt279.1 = 86401 then (if bt279.2.1 = true then (some false) else (if bt282.2 = 0 then (if bt282.1.toList = ([45, 48, 49, 51, 48] : List UInt8) then (if bt284.2 = 0 then (if bt284.1 = 5400 then (if bt286.2.2 = 19 then (if bt289.2.2 = 0 then ((solsticekeep_Ints.F bt289.1 (([0, 86400] : List Int))).bind fun t297 => (some t297)) else (some false)) else (some false)) else (some false)) else (some false)) else (some false)) else (some false))) else (some false)) else (some false)) else (some false)) else (some false))))))) := by
  apply IsLim.via
  case hf =>
    repeat'
      try intro _
      first
      | (with_reducible exact solsticekeep_Ints.isF _ _)
      | (with_reducible exact value_Offset.isF _)
      | (with_reducible exact value_ParseOffset.isF _)
      | (with_reducible exact value_ParseTime.isF _)
      | (with_reducible exact value_Time.isF _ _)
      | (with_reducible exact value_Times.isF _)
      | (with_reducible apply IsLim.ite)
      | (with_reducible apply IsLim.bind)
      | (apply IsLim.cst; intro _; exact rfl)
  case h => exact fun _ => rfl
end Go.Proofs.YtligbecmbefclaaDoor.PVex

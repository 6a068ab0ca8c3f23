/- Printed functions of the family Tre without a bound on their rounds, and the equation that each meets. No condition. -/
import Derived.Test.YtdgeokpbedllaaaDoorBase
import Derived.Test.YtdgeokpbedllaaaDoorPTrex6
namespace Go.Proofs.YtdgeokpbedllaaaDoor.PTre
open Go.RowKit Go.Proofs.YtdgeokpbedllaaaDoorW.PrintWords Go.Proofs.YtdgeokpbedllaaaDoorW.PrintLast Go.Proofs.YtdgeokpbedllaaaDoor.Base
set_option linter.unusedVariables false
noncomputable def line_name.L0 (x0 : ByteArray) (x6 : Int) (x7 : Int) : Option (Bool) := lim fun k => line_name.l0 k x0 x6 x7
noncomputable def line_name.F (a0 : ByteArray) : Option (Bool) := lim fun k => line_name.f k a0
theorem line_name.isL0 (x0 : ByteArray) (x6 : Int) (x7 : Int) : IsLim (fun k => line_name.l0 k x0 x6 x7) (line_name.L0 x0 x6 x7) := ⟨fun k => (line_name.mono_l k) x0 x6 x7, rfl⟩
theorem line_name.isF (a0 : ByteArray) : IsLim (fun k => line_name.f k a0) (line_name.F a0) := ⟨fun k => line_name.mono a0 k, rfl⟩
theorem line_name.L0_eq (x0 : ByteArray) (x6 : Int) (x7 : Int) : line_name.L0 x0 x6 x7 = if x7 < x6 then (if 0 ≤ x7 then (if x7 < (x0.size : Int) then (if (bt x0 x7) < 48 then (if (bt x0 x7) < 97 then (if (bt x0 x7) < 65 then (if (bt x0 x7) = 45 then (line_name.L0 x0 x6 (wrap64 (x7 + 1))) else (some false)) else (if (bt x0 x7) > 90 then (if (bt x0 x7) = 45 then (line_name.L0 x0 x6 (wrap64 (x7 + 1))) else (some false)) else (line_name.L0 x0 x6 (wrap64 (x7 + 1))))) else (if (bt x0 x7) > 122 then (if (bt x0 x7) < 65 then (if (bt x0 x7) = 45 then (line_name.L0 x0 x6 (wrap64 (x7 + 1))) else (some false)) else (if (bt x0 x7) > 90 then (if (bt x0 x7) = 45 then (line_name.L0 x0 x6 (wrap64 (x7 + 1))) else (some false)) else (line_name.L0 x0 x6 (wrap64 (x7 + 1))))) else (line_name.L0 x0 x6 (wrap64 (x7 + 1))))) else (if (bt x0 x7) > 57 then (if (bt x0 x7) < 97 then (if (bt x0 x7) < 65 then (if (bt x0 x7) = 45 then (line_name.L0 x0 x6 (wrap64 (x7 + 1))) else (some false)) else (if (bt x0 x7) > 90 then (if (bt x0 x7) = 45 then (line_name.L0 x0 x6 (wrap64 (x7 + 1))) else (some false)) else (line_name.L0 x0 x6 (wrap64 (x7 + 1))))) else (if (bt x0 x7) > 122 then (if (bt x0 x7) < 65 then (if (bt x0 x7) = 45 then (line_name.L0 x0 x6 (wrap64 (x7 + 1))) else (some false)) else (if (bt x0 x7) > 90 then (if (bt x0 x7) = 45 then (line_name.L0 x0 x6 (wrap64 (x7 + 1))) else (some false)) else (line_name.L0 x0 x6 (wrap64 (x7 + 1))))) else (line_name.L0 x0 x6 (wrap64 (x7 + 1))))) else (line_name.L0 x0 x6 (wrap64 (x7 + 1))))) else (none)) else (none)) else (if (x0.size : Int) ≥ 1 then (some (decide ((x0.size : Int) ≤ 40))) else (some false)) := by
  apply IsLim.step (line_name.isL0 x0 x6 x7).mono
  case hf =>
    repeat'
      try intro _
      first
      | (with_reducible exact line_name.isL0 _ _ _)
      | (with_reducible apply IsLim.ite)
      | (with_reducible apply IsLim.bind)
      | (apply IsLim.cst; intro _; exact rfl)
  case h => intro k; rw [line_name.l0]
theorem line_name.F_eq (a0 : ByteArray) : line_name.F a0 = line_name.L0 a0 (a0.size : Int) 0 := by
  apply IsLim.via
  case hf =>
    repeat'
      try intro _
      first
      | (with_reducible exact line_name.isL0 _ _ _)
      | (with_reducible apply IsLim.ite)
      | (with_reducible apply IsLim.bind)
      | (apply IsLim.cst; intro _; exact rfl)
  case h => exact fun _ => rfl
noncomputable def line_plain.L0 (x0 : ByteArray) (x5 : Int) (x6 : Int) : Option (Bool) := lim fun k => line_plain.l0 k x0 x5 x6
noncomputable def line_plain.F (a0 : ByteArray) : Option (Bool) := lim fun k => line_plain.f k a0
theorem line_plain.isL0 (x0 : ByteArray) (x5 : Int) (x6 : Int) : IsLim (fun k => line_plain.l0 k x0 x5 x6) (line_plain.L0 x0 x5 x6) := ⟨fun k => (line_plain.mono_l k) x0 x5 x6, rfl⟩
theorem line_plain.isF (a0 : ByteArray) : IsLim (fun k => line_plain.f k a0) (line_plain.F a0) := ⟨fun k => line_plain.mono a0 k, rfl⟩
theorem line_plain.L0_eq (x0 : ByteArray) (x5 : Int) (x6 : Int) : line_plain.L0 x0 x5 x6 = if x6 < x5 then (if 0 ≤ x6 then (if x6 < (x0.size : Int) then (if (bt x0 x6) < 32 then (if (bt x0 x6) = 9 then (if (bt x0 x6) = 127 then (some false) else (line_plain.L0 x0 x5 (wrap64 (x6 + 1)))) else (some false)) else (if (bt x0 x6) = 127 then (some false) else (line_plain.L0 x0 x5 (wrap64 (x6 + 1))))) else (none)) else (none)) else (some true) := by
  apply IsLim.step (line_plain.isL0 x0 x5 x6).mono
  case hf =>
    repeat'
      try intro _
      first
      | (with_reducible exact line_plain.isL0 _ _ _)
      | (with_reducible apply IsLim.ite)
      | (with_reducible apply IsLim.bind)
      | (apply IsLim.cst; intro _; exact rfl)
  case h => intro k; rw [line_plain.l0]
theorem line_plain.F_eq (a0 : ByteArray) : line_plain.F a0 = line_plain.L0 a0 (a0.size : Int) 0 := by
  apply IsLim.via
  case hf =>
    repeat'
      try intro _
      first
      | (with_reducible exact line_plain.isL0 _ _ _)
      | (with_reducible apply IsLim.ite)
      | (with_reducible apply IsLim.bind)
      | (apply IsLim.cst; intro _; exact rfl)
  case h => exact fun _ => rfl
noncomputable def line_value.F (a0 : ByteArray) : Option (Bool) := lim fun k => line_value.f k a0
theorem line_value.isF (a0 : ByteArray) : IsLim (fun k => line_value.f k a0) (line_value.F a0) := ⟨fun k => line_value.mono a0 k, rfl⟩
theorem line_value.F_eq (a0 : ByteArray) : line_value.F a0 = (line_plain.F a0).bind fun t150 => (if t150 = true then ((strings_IndexByte.f a0 34).bind fun t151 => (some (decide (t151 < 0)))) else (some false)) := by
  apply IsLim.via
  case hf =>
    repeat'
      try intro _
      first
      | (with_reducible exact line_plain.isF _)
      | (with_reducible apply IsLim.ite)
      | (with_reducible apply IsLim.bind)
      | (apply IsLim.cst; intro _; exact rfl)
  case h => exact fun _ => rfl
noncomputable def line_param_1.F (a0 : ByteArray) : Option (Bool) := lim fun k => line_param_1.f k a0
theorem line_param_1.isF (a0 : ByteArray) : IsLim (fun k => line_param_1.f k a0) (line_param_1.F a0) := ⟨fun k => line_param_1.mono a0 k, rfl⟩
theorem line_param_1.F_eq (a0 : ByteArray) : line_param_1.F a0 = (line_value.F a0).bind fun t152 => (some (!t152)) := by
  apply IsLim.via
  case hf =>
    repeat'
      try intro _
      first
      | (with_reducible exact line_value.isF _)
      | (with_reducible apply IsLim.ite)
      | (with_reducible apply IsLim.bind)
      | (apply IsLim.cst; intro _; exact rfl)
  case h => exact fun _ => rfl
end Go.Proofs.YtdgeokpbedllaaaDoor.PTre

/- Printed functions of the family Tre without a bound on their rounds, and the equation that each meets. No condition. -/
import Derived.Test.YtdgeokpbedllaaaDoorBase
import Derived.Test.YtdgeokpbedllaaaDoorPTrex7
namespace Go.Proofs.YtdgeokpbedllaaaDoor.PTre
open Go.RowKit Go.Proofs.YtdgeokpbedllaaaDoorW.PrintWords Go.Proofs.YtdgeokpbedllaaaDoorW.PrintLast Go.Proofs.YtdgeokpbedllaaaDoor.Base
set_option linter.unusedVariables false
noncomputable def line_Alike.L0 (x0 : ByteArray) (x1 : ByteArray) (x12 : Int) (x13 : Int) : Option (Bool) := lim fun k => line_Alike.l0 k x0 x1 x12 x13
noncomputable def line_Alike.F (a0 : ByteArray) (a1 : ByteArray) : Option (Bool) := lim fun k => line_Alike.f k a0 a1
theorem line_Alike.isL0 (x0 : ByteArray) (x1 : ByteArray) (x12 : Int) (x13 : Int) : IsLim (fun k => line_Alike.l0 k x0 x1 x12 x13) (line_Alike.L0 x0 x1 x12 x13) := ⟨fun k => (line_Alike.mono_l k) x0 x1 x12 x13, rfl⟩
theorem line_Alike.L0_eq (x0 : ByteArray) (x1 : ByteArray) (x12 : Int) (x13 : Int) : line_Alike.L0 x0 x1 x12 x13 = if x13 < x12 then (if 0 ≤ x13 then (if x13 < (x0.size : Int) then ((line_small.f (bt x0 x13)).bind fun t168 => (if x13 < (x1.size : Int) then ((line_small.f (bt x1 x13)).bind fun t169 => (if t168 = t169 then (line_Alike.L0 x0 x1 x12 (wrap64 (x13 + 1))) else (some false))) else (none))) else (none)) else (none)) else (some true) := by
  apply IsLim.step (line_Alike.isL0 x0 x1 x12 x13).mono
  case hf =>
    repeat'
      try intro _
      first
      | (with_reducible exact line_Alike.isL0 _ _ _ _)
      | (with_reducible apply IsLim.ite)
      | (with_reducible apply IsLim.bind)
      | (apply IsLim.cst; intro _; exact rfl)
  case h => intro k; rw [line_Alike.l0]
theorem line_Alike.F_eq (a0 : ByteArray) (a1 : ByteArray) : line_Alike.F a0 a1 = if (a0.size : Int) = (a1.size : Int) then (line_Alike.L0 a0 a1 (a0.size : Int) 0) else (some false) := by
  apply IsLim.via
  case hf =>
    repeat'
      try intro _
      first
      | (with_reducible exact line_Alike.isL0 _ _ _ _)
      | (with_reducible apply IsLim.ite)
      | (with_reducible apply IsLim.bind)
      | (apply IsLim.cst; intro _; exact rfl)
  case h => exact fun _ => rfl
end Go.Proofs.YtdgeokpbedllaaaDoor.PTre

/- Printed functions of the family Vex without a bound on their rounds, and the equation that each meets. No condition. -/
import Derived.Test.YtligbecmbefclaaDoorBase
import Derived.Test.YtligbecmbefclaaDoorPVexx4
import Derived.Test.YtligbecmbefclaaDoorEVexx1
namespace Go.Proofs.YtligbecmbefclaaDoor.PVex
open Go.RowKit Go.Proofs.YtligbecmbefclaaDoorW.PrintWords Go.Proofs.YtligbecmbefclaaDoorW.PrintLast Go.Proofs.YtligbecmbefclaaDoor.Base
set_option linter.unusedVariables false
noncomputable def civil_right.F (a0_0 : Int) (a0_1 : Int) (a0_2 : Int) : Option (Bool) := lim fun k => civil_right.f k a0_0 a0_1 a0_2
theorem civil_right.isF (a0_0 : Int) (a0_1 : Int) (a0_2 : Int) : IsLim (fun k => civil_right.f k a0_0 a0_1 a0_2) (civil_right.F a0_0 a0_1 a0_2) := ⟨fun k => civil_right.mono a0_0 a0_1 a0_2 k, rfl⟩
theorem civil_right.F_eq (a0_0 : Int) (a0_1 : Int) (a0_2 : Int) : civil_right.F a0_0 a0_1 a0_2 = if a0_0 ≥ 0 then (if a0_0 ≤ 10000 then (if a0_2 ≥ 1 then ((civil_Len.F a0_0 a0_1).bind fun t141 => (some (decide (a0_2 ≤ t141)))) else (some false)) else (some false)) else (some false) := by
  apply IsLim.via
  case hf =>
    repeat'
      try intro _
      first
      | (with_reducible exact civil_Len.isF _ _)
      | (with_reducible apply IsLim.ite)
      | (with_reducible apply IsLim.bind)
      | (apply IsLim.cst; intro _; exact rfl)
  case h => exact fun _ => rfl
end Go.Proofs.YtligbecmbefclaaDoor.PVex

/- Printed functions of the family Vls without a bound on their rounds, and the equation that each meets. No condition. -/
import Derived.Test.YtligbecmbefclaaDoorBase
import Derived.Test.YtligbecmbefclaaDoorPVlsx4
import Derived.Test.YtligbecmbefclaaDoorEVlsx1
namespace Go.Proofs.YtligbecmbefclaaDoor.PVls
open Go.RowKit Go.Proofs.YtligbecmbefclaaDoorW.PrintWords Go.Proofs.YtligbecmbefclaaDoorW.PrintLast Go.Proofs.YtligbecmbefclaaDoor.Base
set_option linter.unusedVariables false
noncomputable def civil_right.F (a0_0 : Int) (a0_1 : Int) (a0_2 : Int) : Option (Bool) := lim fun k => civil_right.f k a0_0 a0_1 a0_2
theorem civil_right.isF (a0_0 : Int) (a0_1 : Int) (a0_2 : Int) : IsLim (fun k => civil_right.f k a0_0 a0_1 a0_2) (civil_right.F a0_0 a0_1 a0_2) := ⟨fun k => civil_right.mono a0_0 a0_1 a0_2 k, rfl⟩
theorem civil_right.F_eq (a0_0 : Int) (a0_1 : Int) (a0_2 : Int) : civil_right.F a0_0 a0_1 a0_2 = if a0_0 ≥ 0 then (if a0_0 ≤ 10000 then (if a0_2 ≥ 1 then ((civil_Len.F a0_0 a0_1).bind fun t141 => (some (decide (a0_2 ≤ t141)))) else (some false)) else (some false)) else (some false) := by
  refine IsLim.eq (g := fun k => if a0_0 ≥ 0 then (if a0_0 ≤ 10000 then (if a0_2 ≥ 1 then ((civil_Len.f k a0_0 a0_1).bind fun t141 => (some (decide (a0_2 ≤ t141)))) else (some false)) else (some false)) else (some false)) ?_
  · repeat' first
    | (with_reducible exact IsLim.const _)
    | (with_reducible exact civil_Len.isF _ _)
    | (with_reducible refine IsLim.ite ?_ ?_)
    | (with_reducible refine IsLim.bind ?_ (fun _ => ?_))
end Go.Proofs.YtligbecmbefclaaDoor.PVls

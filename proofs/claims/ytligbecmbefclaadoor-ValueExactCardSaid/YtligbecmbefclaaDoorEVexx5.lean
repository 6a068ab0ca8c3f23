/- Printed functions of the family Vex without a bound on their rounds, and the equation that each meets. No condition. -/
import Derived.Test.YtligbecmbefclaaDoorBase
import Derived.Test.YtligbecmbefclaaDoorPVexx5
import Derived.Test.YtligbecmbefclaaDoorEVexx1
import Derived.Test.YtligbecmbefclaaDoorEVexx4
namespace Go.Proofs.YtligbecmbefclaaDoor.PVex
open Go.RowKit Go.Proofs.YtligbecmbefclaaDoorW.PrintWords Go.Proofs.YtligbecmbefclaaDoorW.PrintLast Go.Proofs.YtligbecmbefclaaDoor.Base
set_option linter.unusedVariables false
noncomputable def civil_Number.L0 (x4 : Int) (x5 : Int) (x143000 : Int) (x143001 : Int) (x143002 : Int) : Option (Int × Int) := lim fun k => civil_Number.l0 k x4 x5 x143000 x143001 x143002
noncomputable def civil_Number.F (a0_0 : Int) (a0_1 : Int) (a0_2 : Int) : Option (Int × Int) := lim fun k => civil_Number.f k a0_0 a0_1 a0_2
theorem civil_Number.isL0 (x4 : Int) (x5 : Int) (x143000 : Int) (x143001 : Int) (x143002 : Int) : IsLim (fun k => civil_Number.l0 k x4 x5 x143000 x143001 x143002) (civil_Number.L0 x4 x5 x143000 x143001 x143002) := ⟨fun k => (civil_Number.mono_l k) x4 x5 x143000 x143001 x143002, rfl⟩
theorem civil_Number.isF (a0_0 : Int) (a0_1 : Int) (a0_2 : Int) : IsLim (fun k => civil_Number.f k a0_0 a0_1 a0_2) (civil_Number.F a0_0 a0_1 a0_2) := ⟨fun k => civil_Number.mono a0_0 a0_1 a0_2 k, rfl⟩
theorem civil_Number.L0_eq (x4 : Int) (x5 : Int) (x143000 : Int) (x143001 : Int) (x143002 : Int) : civil_Number.L0 x4 x5 x143000 x143001 x143002 = if x5 < x143001 then ((civil_Len.F x143000 x5).bind fun t145 => (civil_Number.L0 (wrap64 (x4 + t145)) (wrap64 (x5 + 1)) x143000 x143001 x143002)) else (some (x4, 0)) := by
  apply IsLim.step (civil_Number.isL0 x4 x5 x143000 x143001 x143002).mono
  case hf =>
    repeat'
      try intro _
      first
      | (with_reducible exact civil_Len.isF _ _)
      | (with_reducible exact civil_Number.isL0 _ _ _ _ _)
      | (with_reducible apply IsLim.ite)
      | (with_reducible apply IsLim.bind)
      | (apply IsLim.cst; intro _; exact rfl)
  case h => intro k; rw [civil_Number.l0]
theorem civil_Number.F_eq (a0_0 : Int) (a0_1 : Int) (a0_2 : Int) : civil_Number.F a0_0 a0_1 a0_2 = (civil_right.F a0_0 a0_1 a0_2).bind fun t143 => (if t143 = true then ((civil_ahead.f a0_0).bind fun t144 => (civil_Number.L0 (wrap64 ((wrap64 ((wrap64 (t144 - 719528)) + a0_2)) - 1)) 1 a0_0 a0_1 a0_2)) else (some (0, 4))) := by
  apply IsLim.via
  case hf =>
    repeat'
      try intro _
      first
      | (with_reducible exact civil_Number.isL0 _ _ _ _ _)
      | (with_reducible exact civil_right.isF _ _ _)
      | (with_reducible apply IsLim.ite)
      | (with_reducible apply IsLim.bind)
      | (apply IsLim.cst; intro _; exact rfl)
  case h => exact fun _ => rfl
end Go.Proofs.YtligbecmbefclaaDoor.PVex

/- Printed functions of the family Vex without a bound on their rounds, and the equation that each meets. No condition. -/
import Derived.Test.YtligbecmbefclaaDoorBase
import Derived.Test.YtligbecmbefclaaDoorPVexx10
import Derived.Test.YtligbecmbefclaaDoorEVexx9
namespace Go.Proofs.YtligbecmbefclaaDoor.PVex
open Go.RowKit Go.Proofs.YtligbecmbefclaaDoorW.PrintWords Go.Proofs.YtligbecmbefclaaDoorW.PrintLast Go.Proofs.YtligbecmbefclaaDoor.Base
set_option linter.unusedVariables false
noncomputable def solsticeref01_Number.L0 (x3 : Int) (x4 : Int) (x5 : Int) (x220000 : Int) (x220001 : Int) (x220002 : Int) : Option (Int) := lim fun k => solsticeref01_Number.l0 k x3 x4 x5 x220000 x220001 x220002
noncomputable def solsticeref01_Number.F (a0_0 : Int) (a0_1 : Int) (a0_2 : Int) : Option (Int) := lim fun k => solsticeref01_Number.f k a0_0 a0_1 a0_2
theorem solsticeref01_Number.isL0 (x3 : Int) (x4 : Int) (x5 : Int) (x220000 : Int) (x220001 : Int) (x220002 : Int) : IsLim (fun k => solsticeref01_Number.l0 k x3 x4 x5 x220000 x220001 x220002) (solsticeref01_Number.L0 x3 x4 x5 x220000 x220001 x220002) := ⟨fun k => (solsticeref01_Number.mono_l k) x3 x4 x5 x220000 x220001 x220002, rfl⟩
theorem solsticeref01_Number.isF (a0_0 : Int) (a0_1 : Int) (a0_2 : Int) : IsLim (fun k => solsticeref01_Number.f k a0_0 a0_1 a0_2) (solsticeref01_Number.F a0_0 a0_1 a0_2) := ⟨fun k => solsticeref01_Number.mono a0_0 a0_1 a0_2 k, rfl⟩
theorem solsticeref01_Number.L0_eq (x3 : Int) (x4 : Int) (x5 : Int) (x220000 : Int) (x220001 : Int) (x220002 : Int) : solsticeref01_Number.L0 x3 x4 x5 x220000 x220001 x220002 = if x5 < x220001 then ((solsticeref01_Len.F x3 x5).bind fun t220 => (solsticeref01_Number.L0 x3 (wrap64 (x4 + t220)) (wrap64 (x5 + 1)) x220000 x220001 x220002)) else (some (wrap64 ((wrap64 ((wrap64 (x4 + x220002)) - 1)) - 719528))) := by
  apply IsLim.step (solsticeref01_Number.isL0 x3 x4 x5 x220000 x220001 x220002).mono
  case hf =>
    repeat'
      try intro _
      first
      | (with_reducible exact solsticeref01_Len.isF _ _)
      | (with_reducible exact solsticeref01_Number.isL0 _ _ _ _ _ _)
      | (with_reducible apply IsLim.ite)
      | (with_reducible apply IsLim.bind)
      | (apply IsLim.cst; intro _; exact rfl)
  case h => intro k; rw [solsticeref01_Number.l0]
theorem solsticeref01_Number.F_eq (a0_0 : Int) (a0_1 : Int) (a0_2 : Int) : solsticeref01_Number.F a0_0 a0_1 a0_2 = solsticeref01_Number.L0 a0_0 (wrap64 ((wrap64 ((wrap64 ((wrap64 (365 * a0_0)) + (wrap64 (Int.tdiv (wrap64 (a0_0 + 3)) 4)))) - (wrap64 (Int.tdiv (wrap64 (a0_0 + 99)) 100)))) + (wrap64 (Int.tdiv (wrap64 (a0_0 + 399)) 400)))) 1 a0_0 a0_1 a0_2 := by
  apply IsLim.via
  case hf =>
    repeat'
      try intro _
      first
      | (with_reducible exact solsticeref01_Number.isL0 _ _ _ _ _ _)
      | (with_reducible apply IsLim.ite)
      | (with_reducible apply IsLim.bind)
      | (apply IsLim.cst; intro _; exact rfl)
  case h => exact fun _ => rfl
end Go.Proofs.YtligbecmbefclaaDoor.PVex

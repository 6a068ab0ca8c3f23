/- Printed functions of the family Vex without a bound on their rounds, and the equation that each meets. No condition. -/
import Derived.Test.YtligbecmbefclaaDoorBase
import Derived.Test.YtligbecmbefclaaDoorPVexx15
import Derived.Test.YtligbecmbefclaaDoorEVexx13
import Derived.Test.YtligbecmbefclaaDoorEVexx14
namespace Go.Proofs.YtligbecmbefclaaDoor.PVex
open Go.RowKit Go.Proofs.YtligbecmbefclaaDoorW.PrintWords Go.Proofs.YtligbecmbefclaaDoorW.PrintLast Go.Proofs.YtligbecmbefclaaDoor.Base
set_option linter.unusedVariables false
noncomputable def solsticeref16_Time.F (a0 : Int) (a1 : Bool) : Option (ByteArray) := lim fun k => solsticeref16_Time.f k a0 a1
theorem solsticeref16_Time.isF (a0 : Int) (a1 : Bool) : IsLim (fun k => solsticeref16_Time.f k a0 a1) (solsticeref16_Time.F a0 a1) := ⟨fun k => solsticeref16_Time.mono a0 a1 k, rfl⟩
theorem solsticeref16_Time.F_eq (a0 : Int) (a1 : Bool) : solsticeref16_Time.F a0 a1 = (solsticeref16_Years.F a0).bind fun bt298 => ((solsticeref01_Div.f a0 86400).bind fun bt303 => ((solsticeref01_Text.F bt298.1 4).bind fun t305 => ((solsticeref01_Text.F bt298.2.1 2).bind fun t306 => (if t305.size + t306.size ≤ 9223372036854775807 then ((solsticeref01_Text.F bt298.2.2.1 2).bind fun t307 => (if (t305 ++ t306).size + t307.size ≤ 9223372036854775807 then (if ((t305 ++ t306) ++ t307).size + 1 ≤ 9223372036854775807 then ((solsticeref01_Text.F (wrap64 (Int.tdiv bt303.2 3600)) 2).bind fun t308 => (if (((t305 ++ t306) ++ t307) ++ (⟨#[84]⟩ : ByteArray)).size + t308.size ≤ 9223372036854775807 then ((solsticeref01_Text.F (Int.tmod (wrap64 (Int.tdiv bt303.2 60)) 60) 2).bind fun t309 => (if ((((t305 ++ t306) ++ t307) ++ (⟨#[84]⟩ : ByteArray)) ++ t308).size + t309.size ≤ 9223372036854775807 then ((solsticeref01_Text.F (Int.tmod bt303.2 60) 2).bind fun t310 => (if (((((t305 ++ t306) ++ t307) ++ (⟨#[84]⟩ : ByteArray)) ++ t308) ++ t309).size + t310.size ≤ 9223372036854775807 then (if a1 = true then (if ((((((t305 ++ t306) ++ t307) ++ (⟨#[84]⟩ : ByteArray)) ++ t308) ++ t309) ++ t310).size + 1 ≤ 9223372036854775807 then (some (((((((t305 ++ t306) ++ t307) ++ (⟨#[84]⟩ : ByteArray)) ++ t308) ++ t309) ++ t310) ++ (⟨#[90]⟩ : ByteArray))) else (none)) else (some ((((((t305 ++ t306) ++ t307) ++ (⟨#[84]⟩ : ByteArray)) ++ t308) ++ t309) ++ t310))) else (none))) else (none))) else (none))) else (none)) else (none))) else (none))))) := by
  apply IsLim.via
  case hf =>
    repeat'
      try intro _
      first
      | (with_reducible exact solsticeref01_Text.isF _ _)
      | (with_reducible exact solsticeref16_Years.isF _)
      | (with_reducible apply IsLim.ite)
      | (with_reducible apply IsLim.bind)
      | (apply IsLim.cst; intro _; exact rfl)
  case h => exact fun _ => rfl
end Go.Proofs.YtligbecmbefclaaDoor.PVex

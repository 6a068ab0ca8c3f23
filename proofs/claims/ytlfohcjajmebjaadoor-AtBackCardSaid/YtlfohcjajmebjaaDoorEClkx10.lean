/- Printed functions of the family Clk without a bound on their rounds, and the equation that each meets. No condition. -/
import Derived.Test.YtlfohcjajmebjaaDoorBase
import Derived.Test.YtlfohcjajmebjaaDoorPClkx10
import Derived.Test.YtlfohcjajmebjaaDoorEClkx7
import Derived.Test.YtlfohcjajmebjaaDoorEClkx8
namespace Go.Proofs.YtlfohcjajmebjaaDoor.PClk
open Go.RowKit Go.Proofs.YtlfohcjajmebjaaDoorW.PrintWords Go.Proofs.YtlfohcjajmebjaaDoorW.PrintLast Go.Proofs.YtlfohcjajmebjaaDoor.Base
set_option linter.unusedVariables false
noncomputable def solsticeref01_AtForm.J0 (x0 : ByteArray) (x4 : Int) (x5 : Bool) : Option (Int × Int × Bool) := lim fun k => solsticeref01_AtForm.j0 k x0 x4 x5
noncomputable def solsticeref01_AtForm.F (a0 : ByteArray) : Option (Int × Int × Bool) := lim fun k => solsticeref01_AtForm.f k a0
theorem solsticeref01_AtForm.isJ0 (x0 : ByteArray) (x4 : Int) (x5 : Bool) : IsLim (fun k => solsticeref01_AtForm.j0 k x0 x4 x5) (solsticeref01_AtForm.J0 x0 x4 x5) := ⟨fun k => (solsticeref01_AtForm.mono_l k) x0 x4 x5, rfl⟩
theorem solsticeref01_AtForm.isF (a0 : ByteArray) : IsLim (fun k => solsticeref01_AtForm.f k a0) (solsticeref01_AtForm.F a0) := ⟨fun k => solsticeref01_AtForm.mono a0 k, rfl⟩
theorem solsticeref01_AtForm.J0_eq (x0 : ByteArray) (x4 : Int) (x5 : Bool) : solsticeref01_AtForm.J0 x0 x4 x5 = if x5 = true then (if 0 ≤ (wrap64 ((x0.size : Int) - 1)) then (if (wrap64 ((x0.size : Int) - 1)) ≤ (x0.size : Int) then ((solsticeref01_Clock.F (x0.extract 0 ((wrap64 ((x0.size : Int) - 1)) : Int).toNat)).bind fun bt229 => (if bt229.2 = true then (some (bt229.1, x4, true)) else (some (0, 0, false)))) else (none)) else (none)) else ((solsticeref01_Clock.F x0).bind fun bt231 => (if bt231.2 = true then (some (bt231.1, x4, true)) else (some (0, 0, false)))) := by
  refine IsLim.step (solsticeref01_AtForm.isJ0 x0 x4 x5).mono (f := fun k => if x5 = true then (if 0 ≤ (wrap64 ((x0.size : Int) - 1)) then (if (wrap64 ((x0.size : Int) - 1)) ≤ (x0.size : Int) then ((solsticeref01_Clock.f k (x0.extract 0 ((wrap64 ((x0.size : Int) - 1)) : Int).toNat)).bind fun bt229 => (if bt229.2 = true then (some (bt229.1, x4, true)) else (some (0, 0, false)))) else (none)) else (none)) else ((solsticeref01_Clock.f k x0).bind fun bt231 => (if bt231.2 = true then (some (bt231.1, x4, true)) else (some (0, 0, false))))) (fun k => by rw [solsticeref01_AtForm.j0]) ?_
  · repeat' first
    | (with_reducible exact IsLim.const _)
    | (with_reducible exact solsticeref01_Clock.isF _)
    | (with_reducible refine IsLim.ite ?_ ?_)
    | (with_reducible refine IsLim.bind ?_ (fun _ => ?_))
theorem solsticeref01_AtForm.F_eq (a0 : ByteArray) : solsticeref01_AtForm.F a0 = if (a0.size : Int) > 0 then (if 0 ≤ (wrap64 ((a0.size : Int) - 1)) then (if (wrap64 ((a0.size : Int) - 1)) < (a0.size : Int) then ((solsticeref01_small.f (bt a0 (wrap64 ((a0.size : Int) - 1)))).bind fun t228 => (if t228 = 119 then (solsticeref01_AtForm.J0 a0 1 true) else (if t228 = 115 then (solsticeref01_AtForm.J0 a0 2 true) else (if t228 = 117 then (solsticeref01_AtForm.J0 a0 3 true) else (if t228 = 103 then (solsticeref01_AtForm.J0 a0 3 true) else (if t228 = 122 then (solsticeref01_AtForm.J0 a0 3 true) else (solsticeref01_AtForm.J0 a0 1 false))))))) else (none)) else (none)) else ((solsticeref01_Clock.F a0).bind fun bt233 => (if bt233.2 = true then (some (bt233.1, 1, true)) else (some (0, 0, false)))) := by
  refine IsLim.eq (g := fun k => if (a0.size : Int) > 0 then (if 0 ≤ (wrap64 ((a0.size : Int) - 1)) then (if (wrap64 ((a0.size : Int) - 1)) < (a0.size : Int) then ((solsticeref01_small.f (bt a0 (wrap64 ((a0.size : Int) - 1)))).bind fun t228 => (if t228 = 119 then (solsticeref01_AtForm.j0 k a0 1 true) else (if t228 = 115 then (solsticeref01_AtForm.j0 k a0 2 true) else (if t228 = 117 then (solsticeref01_AtForm.j0 k a0 3 true) else (if t228 = 103 then (solsticeref01_AtForm.j0 k a0 3 true) else (if t228 = 122 then (solsticeref01_AtForm.j0 k a0 3 true) else (solsticeref01_AtForm.j0 k a0 1 false))))))) else (none)) else (none)) else ((solsticeref01_Clock.f k a0).bind fun bt233 => (if bt233.2 = true then (some (bt233.1, 1, true)) else (some (0, 0, false))))) ?_
  · repeat' first
    | (with_reducible exact IsLim.const _)
    | (with_reducible exact solsticeref01_AtForm.isJ0 _ _ _)
    | (with_reducible exact solsticeref01_Clock.isF _)
    | (with_reducible refine IsLim.ite ?_ ?_)
    | (with_reducible refine IsLim.bind ?_ (fun _ => ?_))
noncomputable def solsticeref01_AtText.F (a0_0 : Int) (a0_1 : Int) : Option (ByteArray) := lim fun k => solsticeref01_AtText.f k a0_0 a0_1
theorem solsticeref01_AtText.isF (a0_0 : Int) (a0_1 : Int) : IsLim (fun k => solsticeref01_AtText.f k a0_0 a0_1) (solsticeref01_AtText.F a0_0 a0_1) := ⟨fun k => solsticeref01_AtText.mono a0_0 a0_1 k, rfl⟩
theorem solsticeref01_AtText.F_eq (a0_0 : Int) (a0_1 : Int) : solsticeref01_AtText.F a0_0 a0_1 = (solsticeref01_ClockText.F a0_0).bind fun t239 => ((some (([(⟨#[]⟩ : ByteArray), (⟨#[]⟩ : ByteArray), (⟨#[115]⟩ : ByteArray), (⟨#[117]⟩ : ByteArray)] : List ByteArray) : List ByteArray)).bind fun y240 => (if 0 ≤ a0_1 then (if a0_1 < (y240.length : Int) then (if t239.size + (rdOf ByteArray.empty y240 a0_1).size ≤ 9223372036854775807 then (some (t239 ++ (rdOf ByteArray.empty y240 a0_1))) else (none)) else (none)) else (none))) := by
  refine IsLim.eq (g := fun k => (solsticeref01_ClockText.f k a0_0).bind fun t239 => ((some (([(⟨#[]⟩ : ByteArray), (⟨#[]⟩ : ByteArray), (⟨#[115]⟩ : ByteArray), (⟨#[117]⟩ : ByteArray)] : List ByteArray) : List ByteArray)).bind fun y240 => (if 0 ≤ a0_1 then (if a0_1 < (y240.length : Int) then (if t239.size + (rdOf ByteArray.empty y240 a0_1).size ≤ 9223372036854775807 then (some (t239 ++ (rdOf ByteArray.empty y240 a0_1))) else (none)) else (none)) else (none)))) ?_
  · repeat' first
    | (with_reducible exact IsLim.const _)
    | (with_reducible exact solsticeref01_ClockText.isF _)
    | (with_reducible refine IsLim.ite ?_ ?_)
    | (with_reducible refine IsLim.bind ?_ (fun _ => ?_))
end Go.Proofs.YtlfohcjajmebjaaDoor.PClk

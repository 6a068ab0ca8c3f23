-- Remarks left out.
import Derived.Test.YtlfohcjajmebjaaDoorBase
import Derived.Test.YtlfohcjajmebjaaDoorPClkx10
import Derived.Test.YtlfohcjajmebjaaDoorEClkx4
import Derived.Test.YtlfohcjajmebjaaDoorEClkx5
import Derived.Test.YtlfohcjajmebjaaDoorEClkx9
namespace Go.Proofs.YtlfohcjajmebjaaDoor.PClk
open Go.RowKit Go.Proofs.YtlfohcjajmebjaaDoorW.PrintWords Go.Proofs.YtlfohcjajmebjaaDoorW.PrintLast Go.Proofs.YtlfohcjajmebjaaDoor.Base
set_option linter.unusedVariables false
noncomputable def solsticeref01_AtForm.J0 (x0 : ByteArray) (x4 : Int) (x5 : Bool) : Option (Int × Int × Bool) := lim fun k => solsticeref01_AtForm.j0 k x0 x4 x5
noncomputable def solsticeref01_AtForm.F (a0 : ByteArray) : Option (Int × Int × Bool) := lim fun k => solsticeref01_AtForm.f k a0
theorem solsticeref01_AtForm.isJ0 (x0 : ByteArray) (x4 : Int) (x5 : Bool) : IsLim (fun k => solsticeref01_AtForm.j0 k x0 x4 x5) (solsticeref01_AtForm.J0 x0 x4 x5) := ⟨fun k => (solsticeref01_AtForm.mono_l k) x0 x4 x5, rfl⟩
theorem solsticeref01_AtForm.isF (a0 : ByteArray) : IsLim (fun k => solsticeref01_AtForm.f k a0) (solsticeref01_AtForm.F a0) := ⟨fun k => solsticeref01_AtForm.mono a0 k, rfl⟩
theorem solsticeref01_AtForm.J0_eq (x0 : ByteArray) (x4 : Int) (x5 : Bool) : solsticeref01_AtForm.J0 x0 x4 x5 = if x5 = true then (if 0 ≤ (wrap64 ((x0.size : Int) - 1)) then (if (wrap64 ((x0.size : Int) - 1)) ≤ (x0.size : Int) then ((solsticeref01_Clock.F (x0.extract 0 ((wrap64 ((x0.size : Int) - 1)) : Int).toNat)).bind fun bt220 => (if bt220.2 = true then (some (bt220.1, x4, true)) else (some (0, 0, false)))) else (none)) else (none)) else ((solsticeref01_Clock.F x0).bind fun bt222 => (if bt222.2 = true then (some (bt222.1, x4, true)) else (some (0, 0, false)))) := by
 refine IsLim.step (solsticeref01_AtForm.isJ0 x0 x4 x5).mono (f := fun k => if x5 = true then (if 0 ≤ (wrap64 ((x0.size : Int) - 1)) then (if (wrap64 ((x0.size : Int) - 1)) ≤ (x0.size : Int) then ((solsticeref01_Clock.f k (x0.extract 0 ((wrap64 ((x0.size : Int) - 1)) : Int).toNat)).bind fun bt220 => (if bt220.2 = true then (some (bt220.1, x4, true)) else (some (0, 0, false)))) else (none)) else (none)) else ((solsticeref01_Clock.f k x0).bind fun bt222 => (if bt222.2 = true then (some (bt222.1, x4, true)) else (some (0, 0, false))))) (fun k => by rw [solsticeref01_AtForm.j0]) ?_
 ·repeat' first
  | (with_reducible exact IsLim.const _)
  | (with_reducible exact solsticeref01_Clock.isF _)
  | (with_reducible refine IsLim.ite ?_ ?_)
  | (with_reducible refine IsLim.bind ?_ (fun _ => ?_))
theorem solsticeref01_AtForm.F_eq (a0 : ByteArray) : solsticeref01_AtForm.F a0 = if (a0.size : Int) > 0 then (if 0 ≤ (wrap64 ((a0.size : Int) - 1)) then (if (wrap64 ((a0.size : Int) - 1)) < (a0.size : Int) then ((solsticeref01_small.f (bt a0 (wrap64 ((a0.size : Int) - 1)))).bind fun t219 => (if t219 = 119 then (solsticeref01_AtForm.J0 a0 1 true) else (if t219 = 115 then (solsticeref01_AtForm.J0 a0 2 true) else (if t219 = 117 then (solsticeref01_AtForm.J0 a0 3 true) else (if t219 = 103 then (solsticeref01_AtForm.J0 a0 3 true) else (if t219 = 122 then (solsticeref01_AtForm.J0 a0 3 true) else (solsticeref01_AtForm.J0 a0 1 false))))))) else (none)) else (none)) else ((solsticeref01_Clock.F a0).bind fun bt224 => (if bt224.2 = true then (some (bt224.1, 1, true)) else (some (0, 0, false)))) := by
 refine IsLim.eq (g := fun k => if (a0.size : Int) > 0 then (if 0 ≤ (wrap64 ((a0.size : Int) - 1)) then (if (wrap64 ((a0.size : Int) - 1)) < (a0.size : Int) then ((solsticeref01_small.f (bt a0 (wrap64 ((a0.size : Int) - 1)))).bind fun t219 => (if t219 = 119 then (solsticeref01_AtForm.j0 k a0 1 true) else (if t219 = 115 then (solsticeref01_AtForm.j0 k a0 2 true) else (if t219 = 117 then (solsticeref01_AtForm.j0 k a0 3 true) else (if t219 = 103 then (solsticeref01_AtForm.j0 k a0 3 true) else (if t219 = 122 then (solsticeref01_AtForm.j0 k a0 3 true) else (solsticeref01_AtForm.j0 k a0 1 false))))))) else (none)) else (none)) else ((solsticeref01_Clock.f k a0).bind fun bt224 => (if bt224.2 = true then (some (bt224.1, 1, true)) else (some (0, 0, false))))) ?_
 ·repeat' first
  | (with_reducible exact IsLim.const _)
  | (with_reducible exact solsticeref01_AtForm.isJ0 _ _ _)
  | (with_reducible exact solsticeref01_Clock.isF _)
  | (with_reducible refine IsLim.ite ?_ ?_)
  | (with_reducible refine IsLim.bind ?_ (fun _ => ?_))
noncomputable def solsticelaw08_wakes.F  : Option (Bool) := lim fun k => solsticelaw08_wakes.f k
theorem solsticelaw08_wakes.isF  : IsLim (fun k => solsticelaw08_wakes.f k) (solsticelaw08_wakes.F ) := ⟨fun k => solsticelaw08_wakes.mono k, rfl⟩
theorem solsticelaw08_wakes.F_eq  : solsticelaw08_wakes.F  = (atform_Parse.F (⟨#[49, 58, 48, 48, 117]⟩ : ByteArray)).bind fun bt229 => ((atform_Text.F 7200 2).bind fun bt233 => ((atform_Utc.F 10000 1 3600 1800).bind fun bt235 => (if bt229.2.2 = 0 then (if bt229.1 = 3600 then (if bt229.2.1 = 3 then (if bt233.2 = 0 then (if bt233.1.toList = ([50, 115] : List UInt8) then (if bt235.2 = true then (if bt235.1 = 4600 then ((atform_Check.f 0 0).bind fun t237 => (some (t237 == 9))) else (some false)) else (some false)) else (some false)) else (some false)) else (some false)) else (some false)) else (some false)))) := by
 refine IsLim.eq (g := fun k => (atform_Parse.f k (⟨#[49, 58, 48, 48, 117]⟩ : ByteArray)).bind fun bt229 => ((atform_Text.f k 7200 2).bind fun bt233 => ((atform_Utc.f k 10000 1 3600 1800).bind fun bt235 => (if bt229.2.2 = 0 then (if bt229.1 = 3600 then (if bt229.2.1 = 3 then (if bt233.2 = 0 then (if bt233.1.toList = ([50, 115] : List UInt8) then (if bt235.2 = true then (if bt235.1 = 4600 then ((atform_Check.f 0 0).bind fun t237 => (some (t237 == 9))) else (some false)) else (some false)) else (some false)) else (some false)) else (some false)) else (some false)) else (some false))))) ?_
 ·repeat' first
  | (with_reducible exact IsLim.const _)
  | (with_reducible exact atform_Parse.isF _)
  | (with_reducible exact atform_Text.isF _ _)
  | (with_reducible exact atform_Utc.isF _ _ _ _)
  | (with_reducible refine IsLim.ite ?_ ?_)
  | (with_reducible refine IsLim.bind ?_ (fun _ => ?_))
noncomputable def solsticeref01_AtText.F (a0_0 : Int) (a0_1 : Int) : Option (ByteArray) := lim fun k => solsticeref01_AtText.f k a0_0 a0_1
theorem solsticeref01_AtText.isF (a0_0 : Int) (a0_1 : Int) : IsLim (fun k => solsticeref01_AtText.f k a0_0 a0_1) (solsticeref01_AtText.F a0_0 a0_1) := ⟨fun k => solsticeref01_AtText.mono a0_0 a0_1 k, rfl⟩
theorem solsticeref01_AtText.F_eq (a0_0 : Int) (a0_1 : Int) : solsticeref01_AtText.F a0_0 a0_1 = (solsticeref01_ClockText.F a0_0).bind fun t239 => ((some (([(⟨#[]⟩ : ByteArray), (⟨#[]⟩ : ByteArray), (⟨#[115]⟩ : ByteArray), (⟨#[117]⟩ : ByteArray)] : List ByteArray) : List ByteArray)).bind fun y240 => (if 0 ≤ a0_1 then (if a0_1 < (y240.length : Int) then (if t239.size + (rdOf ByteArray.empty y240 a0_1).size ≤ 9223372036854775807 then (some (t239 ++ (rdOf ByteArray.empty y240 a0_1))) else (none)) else (none)) else (none))) := by
 refine IsLim.eq (g := fun k => (solsticeref01_ClockText.f k a0_0).bind fun t239 => ((some (([(⟨#[]⟩ : ByteArray), (⟨#[]⟩ : ByteArray), (⟨#[115]⟩ : ByteArray), (⟨#[117]⟩ : ByteArray)] : List ByteArray) : List ByteArray)).bind fun y240 => (if 0 ≤ a0_1 then (if a0_1 < (y240.length : Int) then (if t239.size + (rdOf ByteArray.empty y240 a0_1).size ≤ 9223372036854775807 then (some (t239 ++ (rdOf ByteArray.empty y240 a0_1))) else (none)) else (none)) else (none)))) ?_
 ·repeat' first
  | (with_reducible exact IsLim.const _)
  | (with_reducible exact solsticeref01_ClockText.isF _)
  | (with_reducible refine IsLim.ite ?_ ?_)
  | (with_reducible refine IsLim.bind ?_ (fun _ => ?_))
end Go.Proofs.YtlfohcjajmebjaaDoor.PClk

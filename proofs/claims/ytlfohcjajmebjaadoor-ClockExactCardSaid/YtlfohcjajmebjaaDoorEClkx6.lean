/- Printed functions of the family Clk without a bound on their rounds, and the equation that each meets. No condition. -/
import Derived.Test.YtlfohcjajmebjaaDoorBase
import Derived.Test.YtlfohcjajmebjaaDoorPClkx6
import Derived.Test.YtlfohcjajmebjaaDoorEClkx2
import Derived.Test.YtlfohcjajmebjaaDoorEClkx3
import Derived.Test.YtlfohcjajmebjaaDoorEClkx4
import Derived.Test.YtlfohcjajmebjaaDoorEClkx5
namespace Go.Proofs.YtlfohcjajmebjaaDoor.PClk
open Go.RowKit Go.Proofs.YtlfohcjajmebjaaDoorW.PrintWords Go.Proofs.YtlfohcjajmebjaaDoorW.PrintLast Go.Proofs.YtlfohcjajmebjaaDoor.Base
set_option linter.unusedVariables false
noncomputable def solsticelaw04_ClockExact.J0 (x1 : Int) (x2 : Int) (x3 : Int) (x11 : ByteArray) (x12 : Int) (x13 : Int) (x14 : Int) (x15 : Int) (x16 : Bool) (x73 : Bool) : Option (Bool) := lim fun k => solsticelaw04_ClockExact.j0 k x1 x2 x3 x11 x12 x13 x14 x15 x16 x73
noncomputable def solsticelaw04_ClockExact.J1 (x1 : Int) (x2 : Int) (x3 : Int) (x11 : ByteArray) (x12 : Int) (x15 : Int) (x16 : Bool) (x86 : Bool) : Option (Bool) := lim fun k => solsticelaw04_ClockExact.j1 k x1 x2 x3 x11 x12 x15 x16 x86
noncomputable def solsticelaw04_ClockExact.J2 (x1 : Int) (x11 : ByteArray) (x12 : Int) (x100 : Bool) : Option (Bool) := lim fun k => solsticelaw04_ClockExact.j2 k x1 x11 x12 x100
noncomputable def solsticelaw04_ClockExact.J3 (x1 : Int) (x11 : ByteArray) (x12 : Int) (x106 : Bool) : Option (Bool) := lim fun k => solsticelaw04_ClockExact.j3 k x1 x11 x12 x106
noncomputable def solsticelaw04_ClockExact.F (a0 : ByteArray) (a1 : Int) (a2 : Int) (a3 : Int) : Option (Bool) := lim fun k => solsticelaw04_ClockExact.f k a0 a1 a2 a3
theorem solsticelaw04_ClockExact.isJ0 (x1 : Int) (x2 : Int) (x3 : Int) (x11 : ByteArray) (x12 : Int) (x13 : Int) (x14 : Int) (x15 : Int) (x16 : Bool) (x73 : Bool) : IsLim (fun k => solsticelaw04_ClockExact.j0 k x1 x2 x3 x11 x12 x13 x14 x15 x16 x73) (solsticelaw04_ClockExact.J0 x1 x2 x3 x11 x12 x13 x14 x15 x16 x73) := ⟨fun k => (solsticelaw04_ClockExact.mono_l k).1 x1 x2 x3 x11 x12 x13 x14 x15 x16 x73, rfl⟩
theorem solsticelaw04_ClockExact.isJ1 (x1 : Int) (x2 : Int) (x3 : Int) (x11 : ByteArray) (x12 : Int) (x15 : Int) (x16 : Bool) (x86 : Bool) : IsLim (fun k => solsticelaw04_ClockExact.j1 k x1 x2 x3 x11 x12 x15 x16 x86) (solsticelaw04_ClockExact.J1 x1 x2 x3 x11 x12 x15 x16 x86) := ⟨fun k => (solsticelaw04_ClockExact.mono_l k).2.1 x1 x2 x3 x11 x12 x15 x16 x86, rfl⟩
theorem solsticelaw04_ClockExact.isJ2 (x1 : Int) (x11 : ByteArray) (x12 : Int) (x100 : Bool) : IsLim (fun k => solsticelaw04_ClockExact.j2 k x1 x11 x12 x100) (solsticelaw04_ClockExact.J2 x1 x11 x12 x100) := ⟨fun k => (solsticelaw04_ClockExact.mono_l k).2.2.1 x1 x11 x12 x100, rfl⟩
theorem solsticelaw04_ClockExact.isJ3 (x1 : Int) (x11 : ByteArray) (x12 : Int) (x106 : Bool) : IsLim (fun k => solsticelaw04_ClockExact.j3 k x1 x11 x12 x106) (solsticelaw04_ClockExact.J3 x1 x11 x12 x106) := ⟨fun k => (solsticelaw04_ClockExact.mono_l k).2.2.2 x1 x11 x12 x106, rfl⟩
theorem solsticelaw04_ClockExact.isF (a0 : ByteArray) (a1 : Int) (a2 : Int) (a3 : Int) : IsLim (fun k => solsticelaw04_ClockExact.f k a0 a1 a2 a3) (solsticelaw04_ClockExact.F a0 a1 a2 a3) := ⟨fun k => solsticelaw04_ClockExact.mono a0 a1 a2 a3 k, rfl⟩
theorem solsticelaw04_ClockExact.J0_eq (x1 : Int) (x2 : Int) (x3 : Int) (x11 : ByteArray) (x12 : Int) (x13 : Int) (x14 : Int) (x15 : Int) (x16 : Bool) (x73 : Bool) : solsticelaw04_ClockExact.J0 x1 x2 x3 x11 x12 x13 x14 x15 x16 x73 = if x73 = true then (some false) else ((solsticeref01_Div.f x1 86400).bind fun bt172 => (if bt172.1 = x13 then (solsticelaw04_ClockExact.J1 x1 x2 x3 x11 x12 x15 x16 (bt172.2 != x14)) else (solsticelaw04_ClockExact.J1 x1 x2 x3 x11 x12 x15 x16 true))) := by
  refine IsLim.step (solsticelaw04_ClockExact.isJ0 x1 x2 x3 x11 x12 x13 x14 x15 x16 x73).mono (f := fun k => if x73 = true then (some false) else ((solsticeref01_Div.f x1 86400).bind fun bt172 => (if bt172.1 = x13 then (solsticelaw04_ClockExact.j1 k x1 x2 x3 x11 x12 x15 x16 (bt172.2 != x14)) else (solsticelaw04_ClockExact.j1 k x1 x2 x3 x11 x12 x15 x16 true)))) (fun k => by rw [solsticelaw04_ClockExact.j0]) ?_
  · repeat' first
    | (with_reducible exact IsLim.const _)
    | (with_reducible exact solsticelaw04_ClockExact.isJ1 _ _ _ _ _ _ _ _)
    | (with_reducible refine IsLim.ite ?_ ?_)
    | (with_reducible refine IsLim.bind ?_ (fun _ => ?_))
theorem solsticelaw04_ClockExact.J1_eq (x1 : Int) (x2 : Int) (x3 : Int) (x11 : ByteArray) (x12 : Int) (x15 : Int) (x16 : Bool) (x86 : Bool) : solsticelaw04_ClockExact.J1 x1 x2 x3 x11 x12 x15 x16 x86 = if x86 = true then (some false) else ((solsticeref01_JoinDay.f x2 x3).bind fun bt174 => (if x15 = bt174.1 then (solsticelaw04_ClockExact.J2 x1 x11 x12 (x16 != bt174.2)) else (solsticelaw04_ClockExact.J2 x1 x11 x12 true))) := by
  refine IsLim.step (solsticelaw04_ClockExact.isJ1 x1 x2 x3 x11 x12 x15 x16 x86).mono (f := fun k => if x86 = true then (some false) else ((solsticeref01_JoinDay.f x2 x3).bind fun bt174 => (if x15 = bt174.1 then (solsticelaw04_ClockExact.j2 k x1 x11 x12 (x16 != bt174.2)) else (solsticelaw04_ClockExact.j2 k x1 x11 x12 true)))) (fun k => by rw [solsticelaw04_ClockExact.j1]) ?_
  · repeat' first
    | (with_reducible exact IsLim.const _)
    | (with_reducible exact solsticelaw04_ClockExact.isJ2 _ _ _ _)
    | (with_reducible refine IsLim.ite ?_ ?_)
    | (with_reducible refine IsLim.bind ?_ (fun _ => ?_))
theorem solsticelaw04_ClockExact.J2_eq (x1 : Int) (x11 : ByteArray) (x12 : Int) (x100 : Bool) : solsticelaw04_ClockExact.J2 x1 x11 x12 x100 = if x100 = true then (some false) else (if x1 < (-345600) then (solsticelaw04_ClockExact.J3 x1 x11 x12 true) else (solsticelaw04_ClockExact.J3 x1 x11 x12 (decide (x1 > 345600)))) := by
  refine IsLim.step (solsticelaw04_ClockExact.isJ2 x1 x11 x12 x100).mono (f := fun k => if x100 = true then (some false) else (if x1 < (-345600) then (solsticelaw04_ClockExact.j3 k x1 x11 x12 true) else (solsticelaw04_ClockExact.j3 k x1 x11 x12 (decide (x1 > 345600))))) (fun k => by rw [solsticelaw04_ClockExact.j2]) ?_
  · repeat' first
    | (with_reducible exact IsLim.const _)
    | (with_reducible exact solsticelaw04_ClockExact.isJ3 _ _ _ _)
    | (with_reducible refine IsLim.ite ?_ ?_)
    | (with_reducible refine IsLim.bind ?_ (fun _ => ?_))
theorem solsticelaw04_ClockExact.J3_eq (x1 : Int) (x11 : ByteArray) (x12 : Int) (x106 : Bool) : solsticelaw04_ClockExact.J3 x1 x11 x12 x106 = if x106 = true then (if x12 = 5 then (if x11.toList = ([] : List UInt8) then ((solsticelaw04_wakes.F).bind fun t176 => (some t176)) else (some false)) else (some false)) else (if x12 = 0 then ((solsticeref01_ClockText.F x1).bind fun t177 => (if x11.toList = t177.toList then ((solsticelaw04_wakes.F).bind fun t178 => (some t178)) else (some false))) else (some false)) := by
  refine IsLim.step (solsticelaw04_ClockExact.isJ3 x1 x11 x12 x106).mono (f := fun k => if x106 = true then (if x12 = 5 then (if x11.toList = ([] : List UInt8) then ((solsticelaw04_wakes.f k).bind fun t176 => (some t176)) else (some false)) else (some false)) else (if x12 = 0 then ((solsticeref01_ClockText.f k x1).bind fun t177 => (if x11.toList = t177.toList then ((solsticelaw04_wakes.f k).bind fun t178 => (some t178)) else (some false))) else (some false))) (fun k => by rw [solsticelaw04_ClockExact.j3]) ?_
  · repeat' first
    | (with_reducible exact IsLim.const _)
    | (with_reducible exact solsticelaw04_wakes.isF)
    | (with_reducible exact solsticeref01_ClockText.isF _)
    | (with_reducible refine IsLim.ite ?_ ?_)
    | (with_reducible refine IsLim.bind ?_ (fun _ => ?_))
theorem solsticelaw04_ClockExact.F_eq (a0 : ByteArray) (a1 : Int) (a2 : Int) (a3 : Int) : solsticelaw04_ClockExact.F a0 a1 a2 a3 = if (a0.size : Int) > 100 then (some true) else ((clock_Parse.F a0).bind fun bt162 => ((clock_Text.F a1).bind fun bt164 => ((clock_Split.f a1).bind fun bt166 => ((clock_Join.F a2 a3).bind fun bt168 => ((solsticeref01_Clock.F a0).bind fun bt170 => (if bt170.2 = true then (if bt162.2 = 0 then (solsticelaw04_ClockExact.J0 a1 a2 a3 bt164.1 bt164.2 bt166.1 bt166.2 bt168.1 bt168.2 (bt162.1 != bt170.1)) else (solsticelaw04_ClockExact.J0 a1 a2 a3 bt164.1 bt164.2 bt166.1 bt166.2 bt168.1 bt168.2 true)) else (if bt162.2 = 5 then (if bt162.1 = 0 then (solsticelaw04_ClockExact.J0 a1 a2 a3 bt164.1 bt164.2 bt166.1 bt166.2 bt168.1 bt168.2 false) else (solsticelaw04_ClockExact.J0 a1 a2 a3 bt164.1 bt164.2 bt166.1 bt166.2 bt168.1 bt168.2 true)) else (solsticelaw04_ClockExact.J0 a1 a2 a3 bt164.1 bt164.2 bt166.1 bt166.2 bt168.1 bt168.2 true)))))))) := by
  refine IsLim.eq (g := fun k => if (a0.size : Int) > 100 then (some true) else ((clock_Parse.f k a0).bind fun bt162 => ((clock_Text.f k a1).bind fun bt164 => ((clock_Split.f a1).bind fun bt166 => ((clock_Join.f k a2 a3).bind fun bt168 => ((solsticeref01_Clock.f k a0).bind fun bt170 => (if bt170.2 = true then (if bt162.2 = 0 then (solsticelaw04_ClockExact.j0 k a1 a2 a3 bt164.1 bt164.2 bt166.1 bt166.2 bt168.1 bt168.2 (bt162.1 != bt170.1)) else (solsticelaw04_ClockExact.j0 k a1 a2 a3 bt164.1 bt164.2 bt166.1 bt166.2 bt168.1 bt168.2 true)) else (if bt162.2 = 5 then (if bt162.1 = 0 then (solsticelaw04_ClockExact.j0 k a1 a2 a3 bt164.1 bt164.2 bt166.1 bt166.2 bt168.1 bt168.2 false) else (solsticelaw04_ClockExact.j0 k a1 a2 a3 bt164.1 bt164.2 bt166.1 bt166.2 bt168.1 bt168.2 true)) else (solsticelaw04_ClockExact.j0 k a1 a2 a3 bt164.1 bt164.2 bt166.1 bt166.2 bt168.1 bt168.2 true))))))))) ?_
  · repeat' first
    | (with_reducible exact IsLim.const _)
    | (with_reducible exact clock_Join.isF _ _)
    | (with_reducible exact clock_Parse.isF _)
    | (with_reducible exact clock_Text.isF _)
    | (with_reducible exact solsticelaw04_ClockExact.isJ0 _ _ _ _ _ _ _ _ _ _)
    | (with_reducible exact solsticeref01_Clock.isF _)
    | (with_reducible refine IsLim.ite ?_ ?_)
    | (with_reducible refine IsLim.bind ?_ (fun _ => ?_))
end Go.Proofs.YtlfohcjajmebjaaDoor.PClk

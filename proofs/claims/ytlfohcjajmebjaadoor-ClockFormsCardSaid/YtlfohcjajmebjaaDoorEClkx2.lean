/- Printed functions of the family Clk without a bound on their rounds, and the equation that each meets. No condition. -/
import Derived.Test.YtlfohcjajmebjaaDoorBase
import Derived.Test.YtlfohcjajmebjaaDoorPClkx2
import Derived.Test.YtlfohcjajmebjaaDoorEClkx1
namespace Go.Proofs.YtlfohcjajmebjaaDoor.PClk
open Go.RowKit Go.Proofs.YtlfohcjajmebjaaDoorW.PrintWords Go.Proofs.YtlfohcjajmebjaaDoorW.PrintLast Go.Proofs.YtlfohcjajmebjaaDoor.Base
set_option linter.unusedVariables false
noncomputable def clock_Text.J0 (x0 : Int) (x11 : Bool) : Option (ByteArray × Int) := lim fun k => clock_Text.j0 k x0 x11
noncomputable def clock_Text.J1 (x0 : Int) (x4 : ByteArray) : Option (ByteArray × Int) := lim fun k => clock_Text.j1 k x0 x4
noncomputable def clock_Text.F (a0 : Int) : Option (ByteArray × Int) := lim fun k => clock_Text.f k a0
theorem clock_Text.isJ0 (x0 : Int) (x11 : Bool) : IsLim (fun k => clock_Text.j0 k x0 x11) (clock_Text.J0 x0 x11) := ⟨fun k => (clock_Text.mono_l k).1 x0 x11, rfl⟩
theorem clock_Text.isJ1 (x0 : Int) (x4 : ByteArray) : IsLim (fun k => clock_Text.j1 k x0 x4) (clock_Text.J1 x0 x4) := ⟨fun k => (clock_Text.mono_l k).2 x0 x4, rfl⟩
theorem clock_Text.isF (a0 : Int) : IsLim (fun k => clock_Text.f k a0) (clock_Text.F a0) := ⟨fun k => clock_Text.mono a0 k, rfl⟩
theorem clock_Text.J0_eq (x0 : Int) (x11 : Bool) : clock_Text.J0 x0 x11 = if x11 = true then (some ((⟨#[]⟩ : ByteArray), 5)) else (if x0 < 0 then (clock_Text.J1 (wrap64 (-x0)) (⟨#[45]⟩ : ByteArray)) else (clock_Text.J1 x0 (⟨#[]⟩ : ByteArray))) := by
  refine IsLim.step (clock_Text.isJ0 x0 x11).mono (f := fun k => if x11 = true then (some ((⟨#[]⟩ : ByteArray), 5)) else (if x0 < 0 then (clock_Text.j1 k (wrap64 (-x0)) (⟨#[45]⟩ : ByteArray)) else (clock_Text.j1 k x0 (⟨#[]⟩ : ByteArray)))) (fun k => by rw [clock_Text.j0]) ?_
  · repeat' first
    | (with_reducible exact IsLim.const _)
    | (with_reducible exact clock_Text.isJ1 _ _)
    | (with_reducible refine IsLim.ite ?_ ?_)
    | (with_reducible refine IsLim.bind ?_ (fun _ => ?_))
theorem clock_Text.J1_eq (x0 : Int) (x4 : ByteArray) : clock_Text.J1 x0 x4 = (num_Text.f (wrap64 (Int.tdiv x0 3600)) 1).bind fun t113 => (if x4.size + t113.size ≤ 9223372036854775807 then (if (Int.tmod x0 3600) = 0 then (if (Int.tmod x0 60) = 0 then (some (x4 ++ t113, 0)) else ((num_Text.f (Int.tmod x0 60) 2).bind fun t114 => (if 1 + t114.size ≤ 9223372036854775807 then (if (x4 ++ t113).size + ((⟨#[58]⟩ : ByteArray) ++ t114).size ≤ 9223372036854775807 then (some ((x4 ++ t113) ++ ((⟨#[58]⟩ : ByteArray) ++ t114), 0)) else (none)) else (none)))) else ((num_Text.f (wrap64 (Int.tdiv (Int.tmod x0 3600) 60)) 2).bind fun t115 => (if 1 + t115.size ≤ 9223372036854775807 then (if (x4 ++ t113).size + ((⟨#[58]⟩ : ByteArray) ++ t115).size ≤ 9223372036854775807 then (if (Int.tmod x0 60) = 0 then (some ((x4 ++ t113) ++ ((⟨#[58]⟩ : ByteArray) ++ t115), 0)) else ((num_Text.f (Int.tmod x0 60) 2).bind fun t116 => (if 1 + t116.size ≤ 9223372036854775807 then (if ((x4 ++ t113) ++ ((⟨#[58]⟩ : ByteArray) ++ t115)).size + ((⟨#[58]⟩ : ByteArray) ++ t116).size ≤ 9223372036854775807 then (some (((x4 ++ t113) ++ ((⟨#[58]⟩ : ByteArray) ++ t115)) ++ ((⟨#[58]⟩ : ByteArray) ++ t116), 0)) else (none)) else (none)))) else (none)) else (none)))) else (none)) := by
  refine IsLim.step (clock_Text.isJ1 x0 x4).mono (f := fun k => (num_Text.f (wrap64 (Int.tdiv x0 3600)) 1).bind fun t113 => (if x4.size + t113.size ≤ 9223372036854775807 then (if (Int.tmod x0 3600) = 0 then (if (Int.tmod x0 60) = 0 then (some (x4 ++ t113, 0)) else ((num_Text.f (Int.tmod x0 60) 2).bind fun t114 => (if 1 + t114.size ≤ 9223372036854775807 then (if (x4 ++ t113).size + ((⟨#[58]⟩ : ByteArray) ++ t114).size ≤ 9223372036854775807 then (some ((x4 ++ t113) ++ ((⟨#[58]⟩ : ByteArray) ++ t114), 0)) else (none)) else (none)))) else ((num_Text.f (wrap64 (Int.tdiv (Int.tmod x0 3600) 60)) 2).bind fun t115 => (if 1 + t115.size ≤ 9223372036854775807 then (if (x4 ++ t113).size + ((⟨#[58]⟩ : ByteArray) ++ t115).size ≤ 9223372036854775807 then (if (Int.tmod x0 60) = 0 then (some ((x4 ++ t113) ++ ((⟨#[58]⟩ : ByteArray) ++ t115), 0)) else ((num_Text.f (Int.tmod x0 60) 2).bind fun t116 => (if 1 + t116.size ≤ 9223372036854775807 then (if ((x4 ++ t113) ++ ((⟨#[58]⟩ : ByteArray) ++ t115)).size + ((⟨#[58]⟩ : ByteArray) ++ t116).size ≤ 9223372036854775807 then (some (((x4 ++ t113) ++ ((⟨#[58]⟩ : ByteArray) ++ t115)) ++ ((⟨#[58]⟩ : ByteArray) ++ t116), 0)) else (none)) else (none)))) else (none)) else (none)))) else (none))) (fun k => by rw [clock_Text.j1]) ?_
  · repeat' first
    | (with_reducible exact IsLim.const _)
    | (with_reducible refine IsLim.ite ?_ ?_)
    | (with_reducible refine IsLim.bind ?_ (fun _ => ?_))
theorem clock_Text.F_eq (a0 : Int) : clock_Text.F a0 = if a0 < (-345600) then (clock_Text.J0 a0 true) else (clock_Text.J0 a0 (decide (a0 > 345600))) := by
  refine IsLim.eq (g := fun k => if a0 < (-345600) then (clock_Text.j0 k a0 true) else (clock_Text.j0 k a0 (decide (a0 > 345600)))) ?_
  · repeat' first
    | (with_reducible exact IsLim.const _)
    | (with_reducible exact clock_Text.isJ0 _ _)
    | (with_reducible refine IsLim.ite ?_ ?_)
    | (with_reducible refine IsLim.bind ?_ (fun _ => ?_))
noncomputable def clock_Join.J0 (x7 : Int) (x8 : Int) (x28 : Bool) : Option (Int × Bool) := lim fun k => clock_Join.j0 k x7 x8 x28
noncomputable def clock_Join.F (a0 : Int) (a1 : Int) : Option (Int × Bool) := lim fun k => clock_Join.f k a0 a1
theorem clock_Join.isJ0 (x7 : Int) (x8 : Int) (x28 : Bool) : IsLim (fun k => clock_Join.j0 k x7 x8 x28) (clock_Join.J0 x7 x8 x28) := ⟨fun k => (clock_Join.mono_l k) x7 x8 x28, rfl⟩
theorem clock_Join.isF (a0 : Int) (a1 : Int) : IsLim (fun k => clock_Join.f k a0 a1) (clock_Join.F a0 a1) := ⟨fun k => clock_Join.mono a0 a1 k, rfl⟩
theorem clock_Join.J0_eq (x7 : Int) (x8 : Int) (x28 : Bool) : clock_Join.J0 x7 x8 x28 = if x28 = true then (some (0, false)) else (if x8 > (wrap64 (Int.tdiv (wrap64 (4611686018427387904 - x7)) 86400)) then (some (0, false)) else (if x8 < (wrap64 (-(wrap64 (Int.tdiv (wrap64 (4611686018427387904 + x7)) 86400)))) then (some (0, false)) else (some (wrap64 ((wrap64 (x8 * 86400)) + x7), true)))) := by
  refine IsLim.step (clock_Join.isJ0 x7 x8 x28).mono (f := fun k => if x28 = true then (some (0, false)) else (if x8 > (wrap64 (Int.tdiv (wrap64 (4611686018427387904 - x7)) 86400)) then (some (0, false)) else (if x8 < (wrap64 (-(wrap64 (Int.tdiv (wrap64 (4611686018427387904 + x7)) 86400)))) then (some (0, false)) else (some (wrap64 ((wrap64 (x8 * 86400)) + x7), true))))) (fun k => by rw [clock_Join.j0]) ?_
  · repeat' first
    | (with_reducible exact IsLim.const _)
    | (with_reducible refine IsLim.ite ?_ ?_)
    | (with_reducible refine IsLim.bind ?_ (fun _ => ?_))
theorem clock_Join.F_eq (a0 : Int) (a1 : Int) : clock_Join.F a0 a1 = (clock_Split.f a1).bind fun bt117 => (if ((decide (a0 ≥ 0)) == (decide (bt117.1 ≥ 0))) = true then (clock_Join.J0 bt117.2 (wrap64 (a0 + bt117.1)) ((decide ((wrap64 (a0 + bt117.1)) ≥ 0)) != (decide (a0 ≥ 0)))) else (clock_Join.J0 bt117.2 (wrap64 (a0 + bt117.1)) false)) := by
  refine IsLim.eq (g := fun k => (clock_Split.f a1).bind fun bt117 => (if ((decide (a0 ≥ 0)) == (decide (bt117.1 ≥ 0))) = true then (clock_Join.j0 k bt117.2 (wrap64 (a0 + bt117.1)) ((decide ((wrap64 (a0 + bt117.1)) ≥ 0)) != (decide (a0 ≥ 0)))) else (clock_Join.j0 k bt117.2 (wrap64 (a0 + bt117.1)) false))) ?_
  · repeat' first
    | (with_reducible exact IsLim.const _)
    | (with_reducible exact clock_Join.isJ0 _ _ _)
    | (with_reducible refine IsLim.ite ?_ ?_)
    | (with_reducible refine IsLim.bind ?_ (fun _ => ?_))
noncomputable def solsticelaw04_wakes.F  : Option (Bool) := lim fun k => solsticelaw04_wakes.f k
theorem solsticelaw04_wakes.isF  : IsLim (fun k => solsticelaw04_wakes.f k) (solsticelaw04_wakes.F ) := ⟨fun k => solsticelaw04_wakes.mono k, rfl⟩
theorem solsticelaw04_wakes.F_eq  : solsticelaw04_wakes.F  = (clock_Parse.F (⟨#[45, 49, 58, 51, 48]⟩ : ByteArray)).bind fun bt119 => ((clock_Text.F 3661).bind fun bt121 => ((clock_Split.f (-1)).bind fun bt123 => ((clock_Join.F 1 (-1)).bind fun bt125 => (if bt119.2 = 0 then (if bt119.1 = (-5400) then (if bt121.2 = 0 then (if bt121.1.toList = ([49, 58, 48, 49, 58, 48, 49] : List UInt8) then (if bt123.1 = (-1) then (if bt123.2 = 86399 then (if bt125.2 = true then (some (bt125.1 == 86399)) else (some false)) else (some false)) else (some false)) else (some false)) else (some false)) else (some false)) else (some false))))) := by
  refine IsLim.eq (g := fun k => (clock_Parse.f k (⟨#[45, 49, 58, 51, 48]⟩ : ByteArray)).bind fun bt119 => ((clock_Text.f k 3661).bind fun bt121 => ((clock_Split.f (-1)).bind fun bt123 => ((clock_Join.f k 1 (-1)).bind fun bt125 => (if bt119.2 = 0 then (if bt119.1 = (-5400) then (if bt121.2 = 0 then (if bt121.1.toList = ([49, 58, 48, 49, 58, 48, 49] : List UInt8) then (if bt123.1 = (-1) then (if bt123.2 = 86399 then (if bt125.2 = true then (some (bt125.1 == 86399)) else (some false)) else (some false)) else (some false)) else (some false)) else (some false)) else (some false)) else (some false)))))) ?_
  · repeat' first
    | (with_reducible exact IsLim.const _)
    | (with_reducible exact clock_Join.isF _ _)
    | (with_reducible exact clock_Parse.isF _)
    | (with_reducible exact clock_Text.isF _)
    | (with_reducible refine IsLim.ite ?_ ?_)
    | (with_reducible refine IsLim.bind ?_ (fun _ => ?_))
end Go.Proofs.YtlfohcjajmebjaaDoor.PClk

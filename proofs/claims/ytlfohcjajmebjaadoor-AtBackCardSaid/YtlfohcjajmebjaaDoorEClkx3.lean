/- Printed functions of the family Clk without a bound on their rounds, and the equation that each meets. No condition. -/
import Derived.Test.YtlfohcjajmebjaaDoorBase
import Derived.Test.YtlfohcjajmebjaaDoorPClkx3
import Derived.Test.YtlfohcjajmebjaaDoorEClkx2
namespace Go.Proofs.YtlfohcjajmebjaaDoor.PClk
open Go.RowKit Go.Proofs.YtlfohcjajmebjaaDoorW.PrintWords Go.Proofs.YtlfohcjajmebjaaDoorW.PrintLast Go.Proofs.YtlfohcjajmebjaaDoor.Base
set_option linter.unusedVariables false
noncomputable def atform_Parse.J0 (x0 : ByteArray) (x4 : Int) (x5 : Int) (x19 : Bool) : Option (Int × Int × Int) := lim fun k => atform_Parse.j0 k x0 x4 x5 x19
noncomputable def atform_Parse.F (a0 : ByteArray) : Option (Int × Int × Int) := lim fun k => atform_Parse.f k a0
theorem atform_Parse.isJ0 (x0 : ByteArray) (x4 : Int) (x5 : Int) (x19 : Bool) : IsLim (fun k => atform_Parse.j0 k x0 x4 x5 x19) (atform_Parse.J0 x0 x4 x5 x19) := ⟨fun k => (atform_Parse.mono_l k) x0 x4 x5 x19, rfl⟩
theorem atform_Parse.isF (a0 : ByteArray) : IsLim (fun k => atform_Parse.f k a0) (atform_Parse.F a0) := ⟨fun k => atform_Parse.mono a0 k, rfl⟩
theorem atform_Parse.J0_eq (x0 : ByteArray) (x4 : Int) (x5 : Int) (x19 : Bool) : atform_Parse.J0 x0 x4 x5 x19 = if x19 = true then (if 0 ≤ (wrap64 (x5 - 1)) then (if (wrap64 (x5 - 1)) < (x0.size : Int) then ((atform_kind.F (bt x0 (wrap64 (x5 - 1)))).bind fun t113 => (if (wrap64 (x5 - 1)) ≤ (x0.size : Int) then ((clock_Parse.F (x0.extract 0 ((wrap64 (x5 - 1)) : Int).toNat)).bind fun bt114 => (if bt114.2 = 0 then (some (bt114.1, t113, 0)) else (some (0, 0, 9)))) else (none))) else (none)) else (none)) else ((clock_Parse.F x0).bind fun bt116 => (if bt116.2 = 0 then (some (bt116.1, x4, 0)) else (some (0, 0, 9)))) := by
  refine IsLim.step (atform_Parse.isJ0 x0 x4 x5 x19).mono (f := fun k => if x19 = true then (if 0 ≤ (wrap64 (x5 - 1)) then (if (wrap64 (x5 - 1)) < (x0.size : Int) then ((atform_kind.f k (bt x0 (wrap64 (x5 - 1)))).bind fun t113 => (if (wrap64 (x5 - 1)) ≤ (x0.size : Int) then ((clock_Parse.f k (x0.extract 0 ((wrap64 (x5 - 1)) : Int).toNat)).bind fun bt114 => (if bt114.2 = 0 then (some (bt114.1, t113, 0)) else (some (0, 0, 9)))) else (none))) else (none)) else (none)) else ((clock_Parse.f k x0).bind fun bt116 => (if bt116.2 = 0 then (some (bt116.1, x4, 0)) else (some (0, 0, 9))))) (fun k => by rw [atform_Parse.j0]) ?_
  · repeat' first
    | (with_reducible exact IsLim.const _)
    | (with_reducible exact atform_kind.isF _)
    | (with_reducible exact clock_Parse.isF _)
    | (with_reducible refine IsLim.ite ?_ ?_)
    | (with_reducible refine IsLim.bind ?_ (fun _ => ?_))
theorem atform_Parse.F_eq (a0 : ByteArray) : atform_Parse.F a0 = if (a0.size : Int) > 0 then (if 0 ≤ (wrap64 ((a0.size : Int) - 1)) then (if (wrap64 ((a0.size : Int) - 1)) < (a0.size : Int) then ((atform_kind.F (bt a0 (wrap64 ((a0.size : Int) - 1)))).bind fun t112 => (atform_Parse.J0 a0 1 (a0.size : Int) (t112 != 0))) else (none)) else (none)) else (atform_Parse.J0 a0 1 (a0.size : Int) false) := by
  refine IsLim.eq (g := fun k => if (a0.size : Int) > 0 then (if 0 ≤ (wrap64 ((a0.size : Int) - 1)) then (if (wrap64 ((a0.size : Int) - 1)) < (a0.size : Int) then ((atform_kind.f k (bt a0 (wrap64 ((a0.size : Int) - 1)))).bind fun t112 => (atform_Parse.j0 k a0 1 (a0.size : Int) (t112 != 0))) else (none)) else (none)) else (atform_Parse.j0 k a0 1 (a0.size : Int) false)) ?_
  · repeat' first
    | (with_reducible exact IsLim.const _)
    | (with_reducible exact atform_Parse.isJ0 _ _ _ _)
    | (with_reducible exact atform_kind.isF _)
    | (with_reducible refine IsLim.ite ?_ ?_)
    | (with_reducible refine IsLim.bind ?_ (fun _ => ?_))
noncomputable def clock_Text.J0 (x0 : Int) (x11 : Bool) : Option (ByteArray × Int) := lim fun k => clock_Text.j0 k x0 x11
noncomputable def clock_Text.J1 (x0 : Int) (x4 : ByteArray) : Option (ByteArray × Int) := lim fun k => clock_Text.j1 k x0 x4
noncomputable def clock_Text.F (a0 : Int) : Option (ByteArray × Int) := lim fun k => clock_Text.f k a0
theorem clock_Text.isJ0 (x0 : Int) (x11 : Bool) : IsLim (fun k => clock_Text.j0 k x0 x11) (clock_Text.J0 x0 x11) := ⟨fun k => (clock_Text.mono_l k).1 x0 x11, rfl⟩
theorem clock_Text.isJ1 (x0 : Int) (x4 : ByteArray) : IsLim (fun k => clock_Text.j1 k x0 x4) (clock_Text.J1 x0 x4) := ⟨fun k => (clock_Text.mono_l k).2 x0 x4, rfl⟩
theorem clock_Text.isF (a0 : Int) : IsLim (fun k => clock_Text.f k a0) (clock_Text.F a0) := ⟨fun k => clock_Text.mono a0 k, rfl⟩
theorem clock_Text.J0_eq (x0 : Int) (x11 : Bool) : clock_Text.J0 x0 x11 = if x11 = true then (some ((⟨#[]⟩ : ByteArray), 5)) else (if x0 < 0 then (clock_Text.J1 (wrap64 (-x0)) (⟨#[45]⟩ : ByteArray)) else (clock_Text.J1 x0 (⟨#[]⟩ : ByteArray))) := by
  refine IsLim.step (clock_Text.isJ0 x0 x11).mono (f := fun k => if x11 = true then (some ((⟨#[]⟩ : ByteArray), 5)) else (if x0 < 0 then (clock_Text.j1 k (wrap64 (-x0)) (⟨#[45]⟩ : ByteArray)) else (clock_Text.j1 k x0 (⟨#[]⟩ : ByteArray)))) (fun k => by rw [clock_Text.j0]) ?_
  · repeat' first
    | (with_reducible exact IsLim.const _)
    | (with_reducible exact clock_Text.isJ1 _ _)
    | (with_reducible refine IsLim.ite ?_ ?_)
    | (with_reducible refine IsLim.bind ?_ (fun _ => ?_))
theorem clock_Text.J1_eq (x0 : Int) (x4 : ByteArray) : clock_Text.J1 x0 x4 = (num_Text.f (wrap64 (Int.tdiv x0 3600)) 1).bind fun t120 => (if x4.size + t120.size ≤ 9223372036854775807 then (if (Int.tmod x0 3600) = 0 then (if (Int.tmod x0 60) = 0 then (some (x4 ++ t120, 0)) else ((num_Text.f (Int.tmod x0 60) 2).bind fun t121 => (if 1 + t121.size ≤ 9223372036854775807 then (if (x4 ++ t120).size + ((⟨#[58]⟩ : ByteArray) ++ t121).size ≤ 9223372036854775807 then (some ((x4 ++ t120) ++ ((⟨#[58]⟩ : ByteArray) ++ t121), 0)) else (none)) else (none)))) else ((num_Text.f (wrap64 (Int.tdiv (Int.tmod x0 3600) 60)) 2).bind fun t122 => (if 1 + t122.size ≤ 9223372036854775807 then (if (x4 ++ t120).size + ((⟨#[58]⟩ : ByteArray) ++ t122).size ≤ 9223372036854775807 then (if (Int.tmod x0 60) = 0 then (some ((x4 ++ t120) ++ ((⟨#[58]⟩ : ByteArray) ++ t122), 0)) else ((num_Text.f (Int.tmod x0 60) 2).bind fun t123 => (if 1 + t123.size ≤ 9223372036854775807 then (if ((x4 ++ t120) ++ ((⟨#[58]⟩ : ByteArray) ++ t122)).size + ((⟨#[58]⟩ : ByteArray) ++ t123).size ≤ 9223372036854775807 then (some (((x4 ++ t120) ++ ((⟨#[58]⟩ : ByteArray) ++ t122)) ++ ((⟨#[58]⟩ : ByteArray) ++ t123), 0)) else (none)) else (none)))) else (none)) else (none)))) else (none)) := by
  refine IsLim.step (clock_Text.isJ1 x0 x4).mono (f := fun k => (num_Text.f (wrap64 (Int.tdiv x0 3600)) 1).bind fun t120 => (if x4.size + t120.size ≤ 9223372036854775807 then (if (Int.tmod x0 3600) = 0 then (if (Int.tmod x0 60) = 0 then (some (x4 ++ t120, 0)) else ((num_Text.f (Int.tmod x0 60) 2).bind fun t121 => (if 1 + t121.size ≤ 9223372036854775807 then (if (x4 ++ t120).size + ((⟨#[58]⟩ : ByteArray) ++ t121).size ≤ 9223372036854775807 then (some ((x4 ++ t120) ++ ((⟨#[58]⟩ : ByteArray) ++ t121), 0)) else (none)) else (none)))) else ((num_Text.f (wrap64 (Int.tdiv (Int.tmod x0 3600) 60)) 2).bind fun t122 => (if 1 + t122.size ≤ 9223372036854775807 then (if (x4 ++ t120).size + ((⟨#[58]⟩ : ByteArray) ++ t122).size ≤ 9223372036854775807 then (if (Int.tmod x0 60) = 0 then (some ((x4 ++ t120) ++ ((⟨#[58]⟩ : ByteArray) ++ t122), 0)) else ((num_Text.f (Int.tmod x0 60) 2).bind fun t123 => (if 1 + t123.size ≤ 9223372036854775807 then (if ((x4 ++ t120) ++ ((⟨#[58]⟩ : ByteArray) ++ t122)).size + ((⟨#[58]⟩ : ByteArray) ++ t123).size ≤ 9223372036854775807 then (some (((x4 ++ t120) ++ ((⟨#[58]⟩ : ByteArray) ++ t122)) ++ ((⟨#[58]⟩ : ByteArray) ++ t123), 0)) else (none)) else (none)))) else (none)) else (none)))) else (none))) (fun k => by rw [clock_Text.j1]) ?_
  · repeat' first
    | (with_reducible exact IsLim.const _)
    | (with_reducible refine IsLim.ite ?_ ?_)
    | (with_reducible refine IsLim.bind ?_ (fun _ => ?_))
theorem clock_Text.F_eq (a0 : Int) : clock_Text.F a0 = if a0 < (-345600) then (clock_Text.J0 a0 true) else (clock_Text.J0 a0 (decide (a0 > 345600))) := by
  refine IsLim.eq (g := fun k => if a0 < (-345600) then (clock_Text.j0 k a0 true) else (clock_Text.j0 k a0 (decide (a0 > 345600)))) ?_
  · repeat' first
    | (with_reducible exact IsLim.const _)
    | (with_reducible exact clock_Text.isJ0 _ _)
    | (with_reducible refine IsLim.ite ?_ ?_)
    | (with_reducible refine IsLim.bind ?_ (fun _ => ?_))
noncomputable def atform_Text.F (a0_0 : Int) (a0_1 : Int) : Option (ByteArray × Int) := lim fun k => atform_Text.f k a0_0 a0_1
theorem atform_Text.isF (a0_0 : Int) (a0_1 : Int) : IsLim (fun k => atform_Text.f k a0_0 a0_1) (atform_Text.F a0_0 a0_1) := ⟨fun k => atform_Text.mono a0_0 a0_1 k, rfl⟩
theorem atform_Text.F_eq (a0_0 : Int) (a0_1 : Int) : atform_Text.F a0_0 a0_1 = (atform_Check.f a0_0 a0_1).bind fun t128 => (if t128 = 0 then ((clock_Text.F a0_0).bind fun bt129 => (if a0_1 = 2 then (if bt129.1.size + 1 ≤ 9223372036854775807 then (some (bt129.1 ++ (⟨#[115]⟩ : ByteArray), 0)) else (none)) else (if a0_1 = 3 then (if bt129.1.size + 1 ≤ 9223372036854775807 then (some (bt129.1 ++ (⟨#[117]⟩ : ByteArray), 0)) else (none)) else (some (bt129.1, 0))))) else (some ((⟨#[]⟩ : ByteArray), t128))) := by
  refine IsLim.eq (g := fun k => (atform_Check.f a0_0 a0_1).bind fun t128 => (if t128 = 0 then ((clock_Text.f k a0_0).bind fun bt129 => (if a0_1 = 2 then (if bt129.1.size + 1 ≤ 9223372036854775807 then (some (bt129.1 ++ (⟨#[115]⟩ : ByteArray), 0)) else (none)) else (if a0_1 = 3 then (if bt129.1.size + 1 ≤ 9223372036854775807 then (some (bt129.1 ++ (⟨#[117]⟩ : ByteArray), 0)) else (none)) else (some (bt129.1, 0))))) else (some ((⟨#[]⟩ : ByteArray), t128)))) ?_
  · repeat' first
    | (with_reducible exact IsLim.const _)
    | (with_reducible exact clock_Text.isF _)
    | (with_reducible refine IsLim.ite ?_ ?_)
    | (with_reducible refine IsLim.bind ?_ (fun _ => ?_))
end Go.Proofs.YtlfohcjajmebjaaDoor.PClk

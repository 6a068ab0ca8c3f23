/- Printed functions of the family Clk without a bound on their rounds, and the equation that each meets. No condition. -/
import Derived.Test.YtlfohcjajmebjaaDoorBase
import Derived.Test.YtlfohcjajmebjaaDoorPClkx8
import Derived.Test.YtlfohcjajmebjaaDoorEClkx2
import Derived.Test.YtlfohcjajmebjaaDoorEClkx3
import Derived.Test.YtlfohcjajmebjaaDoorEClkx5
namespace Go.Proofs.YtlfohcjajmebjaaDoor.PClk
open Go.RowKit Go.Proofs.YtlfohcjajmebjaaDoorW.PrintWords Go.Proofs.YtlfohcjajmebjaaDoorW.PrintLast Go.Proofs.YtlfohcjajmebjaaDoor.Base
set_option linter.unusedVariables false
noncomputable def solsticelaw04_wakes.F  : Option (Bool) := lim fun k => solsticelaw04_wakes.f k
theorem solsticelaw04_wakes.isF  : IsLim (fun k => solsticelaw04_wakes.f k) (solsticelaw04_wakes.F ) := ⟨fun k => solsticelaw04_wakes.mono k, rfl⟩
theorem solsticelaw04_wakes.F_eq  : solsticelaw04_wakes.F  = (clock_Parse.F (⟨#[45, 49, 58, 51, 48]⟩ : ByteArray)).bind fun bt192 => ((clock_Text.F 3661).bind fun bt194 => ((clock_Split.f (-1)).bind fun bt196 => ((clock_Join.F 1 (-1)).bind fun bt198 => (if bt192.2 = 0 then (if bt192.1 = (-5400) then (if bt194.2 = 0 then (if bt194.1.toList = ([49, 58, 48, 49, 58, 48, 49] : List UInt8) then (if bt196.1 = (-1) then (if bt196.2 = 86399 then (if bt198.2 = true then (some (bt198.1 == 86399)) else (some false)) else (some false)) else (some false)) else (some false)) else (some false)) else (some false)) else (some false))))) := by
  refine IsLim.eq (g := fun k => (clock_Parse.f k (⟨#[45, 49, 58, 51, 48]⟩ : ByteArray)).bind fun bt192 => ((clock_Text.f k 3661).bind fun bt194 => ((clock_Split.f (-1)).bind fun bt196 => ((clock_Join.f k 1 (-1)).bind fun bt198 => (if bt192.2 = 0 then (if bt192.1 = (-5400) then (if bt194.2 = 0 then (if bt194.1.toList = ([49, 58, 48, 49, 58, 48, 49] : List UInt8) then (if bt196.1 = (-1) then (if bt196.2 = 86399 then (if bt198.2 = true then (some (bt198.1 == 86399)) else (some false)) else (some false)) else (some false)) else (some false)) else (some false)) else (some false)) else (some false)))))) ?_
  · repeat' first
    | (with_reducible exact IsLim.const _)
    | (with_reducible exact clock_Join.isF _ _)
    | (with_reducible exact clock_Parse.isF _)
    | (with_reducible exact clock_Text.isF _)
    | (with_reducible refine IsLim.ite ?_ ?_)
    | (with_reducible refine IsLim.bind ?_ (fun _ => ?_))
noncomputable def solsticeref01_Text.J0 (x0 : Int) (x1 : Int) (x13 : Bool) : Option (ByteArray) := lim fun k => solsticeref01_Text.j0 k x0 x1 x13
noncomputable def solsticeref01_Text.J1 (x0 : Int) (x1 : Int) : Option (ByteArray) := lim fun k => solsticeref01_Text.j1 k x0 x1
noncomputable def solsticeref01_Text.L0 (x0 : Int) (x1 : Int) (x5 : ByteArray) : Option (ByteArray) := lim fun k => solsticeref01_Text.l0 k x0 x1 x5
noncomputable def solsticeref01_Text.L1 (x1 : Int) (x5 : ByteArray) : Option (ByteArray) := lim fun k => solsticeref01_Text.l1 k x1 x5
noncomputable def solsticeref01_Text.F (a0 : Int) (a1 : Int) : Option (ByteArray) := lim fun k => solsticeref01_Text.f k a0 a1
theorem solsticeref01_Text.isJ0 (x0 : Int) (x1 : Int) (x13 : Bool) : IsLim (fun k => solsticeref01_Text.j0 k x0 x1 x13) (solsticeref01_Text.J0 x0 x1 x13) := ⟨fun k => (solsticeref01_Text.mono_l k).1 x0 x1 x13, rfl⟩
theorem solsticeref01_Text.isJ1 (x0 : Int) (x1 : Int) : IsLim (fun k => solsticeref01_Text.j1 k x0 x1) (solsticeref01_Text.J1 x0 x1) := ⟨fun k => (solsticeref01_Text.mono_l k).2.1 x0 x1, rfl⟩
theorem solsticeref01_Text.isL0 (x0 : Int) (x1 : Int) (x5 : ByteArray) : IsLim (fun k => solsticeref01_Text.l0 k x0 x1 x5) (solsticeref01_Text.L0 x0 x1 x5) := ⟨fun k => (solsticeref01_Text.mono_l k).2.2.1 x0 x1 x5, rfl⟩
theorem solsticeref01_Text.isL1 (x1 : Int) (x5 : ByteArray) : IsLim (fun k => solsticeref01_Text.l1 k x1 x5) (solsticeref01_Text.L1 x1 x5) := ⟨fun k => (solsticeref01_Text.mono_l k).2.2.2 x1 x5, rfl⟩
theorem solsticeref01_Text.isF (a0 : Int) (a1 : Int) : IsLim (fun k => solsticeref01_Text.f k a0 a1) (solsticeref01_Text.F a0 a1) := ⟨fun k => solsticeref01_Text.mono a0 a1 k, rfl⟩
theorem solsticeref01_Text.J0_eq (x0 : Int) (x1 : Int) (x13 : Bool) : solsticeref01_Text.J0 x0 x1 x13 = if x13 = true then (solsticeref01_Text.J1 x0 0) else (solsticeref01_Text.J1 x0 x1) := by
  refine IsLim.step (solsticeref01_Text.isJ0 x0 x1 x13).mono (f := fun k => if x13 = true then (solsticeref01_Text.j1 k x0 0) else (solsticeref01_Text.j1 k x0 x1)) (fun k => by rw [solsticeref01_Text.j0]) ?_
  · repeat' first
    | (with_reducible exact IsLim.const _)
    | (with_reducible exact solsticeref01_Text.isJ1 _ _)
    | (with_reducible refine IsLim.ite ?_ ?_)
    | (with_reducible refine IsLim.bind ?_ (fun _ => ?_))
theorem solsticeref01_Text.J1_eq (x0 : Int) (x1 : Int) : solsticeref01_Text.J1 x0 x1 = solsticeref01_Text.L0 x0 x1 (⟨#[]⟩ : ByteArray) := by
  refine IsLim.step (solsticeref01_Text.isJ1 x0 x1).mono (f := fun k => solsticeref01_Text.l0 k x0 x1 (⟨#[]⟩ : ByteArray)) (fun k => by rw [solsticeref01_Text.j1]) ?_
  · repeat' first
    | (with_reducible exact IsLim.const _)
    | (with_reducible exact solsticeref01_Text.isL0 _ _ _)
    | (with_reducible refine IsLim.ite ?_ ?_)
    | (with_reducible refine IsLim.bind ?_ (fun _ => ?_))
theorem solsticeref01_Text.L0_eq (x0 : Int) (x1 : Int) (x5 : ByteArray) : solsticeref01_Text.L0 x0 x1 x5 = if x0 > 0 then ((some (([(wrap64 (48 + (Int.tmod x0 10))) % 256] : List Int) : List Int)).bind fun y200 => (if (strOfNums y200).size + x5.size ≤ 9223372036854775807 then (solsticeref01_Text.L0 (wrap64 (Int.tdiv x0 10)) x1 ((strOfNums y200) ++ x5)) else (none))) else (if (x5.size : Int) = 0 then ((some (([(wrap64 (48 + (Int.tmod x0 10))) % 256] : List Int) : List Int)).bind fun y203 => (if (strOfNums y203).size + x5.size ≤ 9223372036854775807 then (solsticeref01_Text.L0 (wrap64 (Int.tdiv x0 10)) x1 ((strOfNums y203) ++ x5)) else (none))) else (solsticeref01_Text.L1 x1 x5)) := by
  refine IsLim.step (solsticeref01_Text.isL0 x0 x1 x5).mono (f := fun k => if x0 > 0 then ((some (([(wrap64 (48 + (Int.tmod x0 10))) % 256] : List Int) : List Int)).bind fun y200 => (if (strOfNums y200).size + x5.size ≤ 9223372036854775807 then (solsticeref01_Text.l0 k (wrap64 (Int.tdiv x0 10)) x1 ((strOfNums y200) ++ x5)) else (none))) else (if (x5.size : Int) = 0 then ((some (([(wrap64 (48 + (Int.tmod x0 10))) % 256] : List Int) : List Int)).bind fun y203 => (if (strOfNums y203).size + x5.size ≤ 9223372036854775807 then (solsticeref01_Text.l0 k (wrap64 (Int.tdiv x0 10)) x1 ((strOfNums y203) ++ x5)) else (none))) else (solsticeref01_Text.l1 k x1 x5))) (fun k => by rw [solsticeref01_Text.l0]) ?_
  · repeat' first
    | (with_reducible exact IsLim.const _)
    | (with_reducible exact solsticeref01_Text.isL0 _ _ _)
    | (with_reducible exact solsticeref01_Text.isL1 _ _)
    | (with_reducible refine IsLim.ite ?_ ?_)
    | (with_reducible refine IsLim.bind ?_ (fun _ => ?_))
theorem solsticeref01_Text.L1_eq (x1 : Int) (x5 : ByteArray) : solsticeref01_Text.L1 x1 x5 = if (x5.size : Int) < x1 then (if 1 + x5.size ≤ 9223372036854775807 then (solsticeref01_Text.L1 x1 ((⟨#[48]⟩ : ByteArray) ++ x5)) else (none)) else (some x5) := by
  refine IsLim.step (solsticeref01_Text.isL1 x1 x5).mono (f := fun k => if (x5.size : Int) < x1 then (if 1 + x5.size ≤ 9223372036854775807 then (solsticeref01_Text.l1 k x1 ((⟨#[48]⟩ : ByteArray) ++ x5)) else (none)) else (some x5)) (fun k => by rw [solsticeref01_Text.l1]) ?_
  · repeat' first
    | (with_reducible exact IsLim.const _)
    | (with_reducible exact solsticeref01_Text.isL1 _ _)
    | (with_reducible refine IsLim.ite ?_ ?_)
    | (with_reducible refine IsLim.bind ?_ (fun _ => ?_))
theorem solsticeref01_Text.F_eq (a0 : Int) (a1 : Int) : solsticeref01_Text.F a0 a1 = if a0 < 0 then (some (⟨#[]⟩ : ByteArray)) else (if a1 < 0 then (solsticeref01_Text.J0 a0 a1 true) else (solsticeref01_Text.J0 a0 a1 (decide (a1 > 20)))) := by
  refine IsLim.eq (g := fun k => if a0 < 0 then (some (⟨#[]⟩ : ByteArray)) else (if a1 < 0 then (solsticeref01_Text.j0 k a0 a1 true) else (solsticeref01_Text.j0 k a0 a1 (decide (a1 > 20))))) ?_
  · repeat' first
    | (with_reducible exact IsLim.const _)
    | (with_reducible exact solsticeref01_Text.isJ0 _ _ _)
    | (with_reducible refine IsLim.ite ?_ ?_)
    | (with_reducible refine IsLim.bind ?_ (fun _ => ?_))
noncomputable def solsticeref01_ClockText.J0 (x0 : Int) (x3 : ByteArray) : Option (ByteArray) := lim fun k => solsticeref01_ClockText.j0 k x0 x3
noncomputable def solsticeref01_ClockText.F (a0 : Int) : Option (ByteArray) := lim fun k => solsticeref01_ClockText.f k a0
theorem solsticeref01_ClockText.isJ0 (x0 : Int) (x3 : ByteArray) : IsLim (fun k => solsticeref01_ClockText.j0 k x0 x3) (solsticeref01_ClockText.J0 x0 x3) := ⟨fun k => (solsticeref01_ClockText.mono_l k) x0 x3, rfl⟩
theorem solsticeref01_ClockText.isF (a0 : Int) : IsLim (fun k => solsticeref01_ClockText.f k a0) (solsticeref01_ClockText.F a0) := ⟨fun k => solsticeref01_ClockText.mono a0 k, rfl⟩
theorem solsticeref01_ClockText.J0_eq (x0 : Int) (x3 : ByteArray) : solsticeref01_ClockText.J0 x0 x3 = (solsticeref01_Text.F (wrap64 (Int.tdiv x0 3600)) 0).bind fun t206 => (if x3.size + t206.size ≤ 9223372036854775807 then (if (Int.tmod x0 3600) = 0 then (if (Int.tmod x0 60) = 0 then (some (x3 ++ t206)) else (if (x3 ++ t206).size + 1 ≤ 9223372036854775807 then ((solsticeref01_Text.F (Int.tmod x0 60) 2).bind fun t207 => (if ((x3 ++ t206) ++ (⟨#[58]⟩ : ByteArray)).size + t207.size ≤ 9223372036854775807 then (some (((x3 ++ t206) ++ (⟨#[58]⟩ : ByteArray)) ++ t207)) else (none))) else (none))) else (if (x3 ++ t206).size + 1 ≤ 9223372036854775807 then ((solsticeref01_Text.F (Int.tmod (wrap64 (Int.tdiv x0 60)) 60) 2).bind fun t208 => (if ((x3 ++ t206) ++ (⟨#[58]⟩ : ByteArray)).size + t208.size ≤ 9223372036854775807 then (if (Int.tmod x0 60) = 0 then (some (((x3 ++ t206) ++ (⟨#[58]⟩ : ByteArray)) ++ t208)) else (if (((x3 ++ t206) ++ (⟨#[58]⟩ : ByteArray)) ++ t208).size + 1 ≤ 9223372036854775807 then ((solsticeref01_Text.F (Int.tmod x0 60) 2).bind fun t209 => (if ((((x3 ++ t206) ++ (⟨#[58]⟩ : ByteArray)) ++ t208) ++ (⟨#[58]⟩ : ByteArray)).size + t209.size ≤ 9223372036854775807 then (some (((((x3 ++ t206) ++ (⟨#[58]⟩ : ByteArray)) ++ t208) ++ (⟨#[58]⟩ : ByteArray)) ++ t209)) else (none))) else (none))) else (none))) else (none))) else (none)) := by
  refine IsLim.step (solsticeref01_ClockText.isJ0 x0 x3).mono (f := fun k => (solsticeref01_Text.f k (wrap64 (Int.tdiv x0 3600)) 0).bind fun t206 => (if x3.size + t206.size ≤ 9223372036854775807 then (if (Int.tmod x0 3600) = 0 then (if (Int.tmod x0 60) = 0 then (some (x3 ++ t206)) else (if (x3 ++ t206).size + 1 ≤ 9223372036854775807 then ((solsticeref01_Text.f k (Int.tmod x0 60) 2).bind fun t207 => (if ((x3 ++ t206) ++ (⟨#[58]⟩ : ByteArray)).size + t207.size ≤ 9223372036854775807 then (some (((x3 ++ t206) ++ (⟨#[58]⟩ : ByteArray)) ++ t207)) else (none))) else (none))) else (if (x3 ++ t206).size + 1 ≤ 9223372036854775807 then ((solsticeref01_Text.f k (Int.tmod (wrap64 (Int.tdiv x0 60)) 60) 2).bind fun t208 => (if ((x3 ++ t206) ++ (⟨#[58]⟩ : ByteArray)).size + t208.size ≤ 9223372036854775807 then (if (Int.tmod x0 60) = 0 then (some (((x3 ++ t206) ++ (⟨#[58]⟩ : ByteArray)) ++ t208)) else (if (((x3 ++ t206) ++ (⟨#[58]⟩ : ByteArray)) ++ t208).size + 1 ≤ 9223372036854775807 then ((solsticeref01_Text.f k (Int.tmod x0 60) 2).bind fun t209 => (if ((((x3 ++ t206) ++ (⟨#[58]⟩ : ByteArray)) ++ t208) ++ (⟨#[58]⟩ : ByteArray)).size + t209.size ≤ 9223372036854775807 then (some (((((x3 ++ t206) ++ (⟨#[58]⟩ : ByteArray)) ++ t208) ++ (⟨#[58]⟩ : ByteArray)) ++ t209)) else (none))) else (none))) else (none))) else (none))) else (none))) (fun k => by rw [solsticeref01_ClockText.j0]) ?_
  · repeat' first
    | (with_reducible exact IsLim.const _)
    | (with_reducible exact solsticeref01_Text.isF _ _)
    | (with_reducible refine IsLim.ite ?_ ?_)
    | (with_reducible refine IsLim.bind ?_ (fun _ => ?_))
theorem solsticeref01_ClockText.F_eq (a0 : Int) : solsticeref01_ClockText.F a0 = if a0 < 0 then (solsticeref01_ClockText.J0 (wrap64 (-a0)) (⟨#[45]⟩ : ByteArray)) else (solsticeref01_ClockText.J0 a0 (⟨#[]⟩ : ByteArray)) := by
  refine IsLim.eq (g := fun k => if a0 < 0 then (solsticeref01_ClockText.j0 k (wrap64 (-a0)) (⟨#[45]⟩ : ByteArray)) else (solsticeref01_ClockText.j0 k a0 (⟨#[]⟩ : ByteArray))) ?_
  · repeat' first
    | (with_reducible exact IsLim.const _)
    | (with_reducible exact solsticeref01_ClockText.isJ0 _ _)
    | (with_reducible refine IsLim.ite ?_ ?_)
    | (with_reducible refine IsLim.bind ?_ (fun _ => ?_))
end Go.Proofs.YtlfohcjajmebjaaDoor.PClk

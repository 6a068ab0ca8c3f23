/- Printed functions of the family Tre without a bound on their rounds, and the equation that each meets. No condition. -/
import Derived.Test.YtdgeokpbedllaaaDoorBase
import Derived.Test.YtdgeokpbedllaaaDoorPTrex14
import Derived.Test.YtdgeokpbedllaaaDoorETrex4
import Derived.Test.YtdgeokpbedllaaaDoorETrex7
import Derived.Test.YtdgeokpbedllaaaDoorETrex9
import Derived.Test.YtdgeokpbedllaaaDoorETrex10
import Derived.Test.YtdgeokpbedllaaaDoorETrex13
namespace Go.Proofs.YtdgeokpbedllaaaDoor.PTre
open Go.RowKit Go.Proofs.YtdgeokpbedllaaaDoorW.PrintWords Go.Proofs.YtdgeokpbedllaaaDoorW.PrintLast Go.Proofs.YtdgeokpbedllaaaDoor.Base
set_option linter.unusedVariables false
noncomputable def solsticekeep_Ints.L0 (x0 : List Int) (x1 : List Int) (x5 : Int) : Option (Bool) := lim fun k => solsticekeep_Ints.l0 k x0 x1 x5
noncomputable def solsticekeep_Ints.F (l0 : List Int) (l1 : List Int) : Option (Bool) := lim fun k => solsticekeep_Ints.f k l0 l1
theorem solsticekeep_Ints.isL0 (x0 : List Int) (x1 : List Int) (x5 : Int) : IsLim (fun k => solsticekeep_Ints.l0 k x0 x1 x5) (solsticekeep_Ints.L0 x0 x1 x5) := ⟨fun k => (solsticekeep_Ints.mono_l k) x0 x1 x5, rfl⟩
theorem solsticekeep_Ints.isF (l0 : List Int) (l1 : List Int) : IsLim (fun k => solsticekeep_Ints.f k l0 l1) (solsticekeep_Ints.F l0 l1) := ⟨fun k => solsticekeep_Ints.mono l0 l1 k, rfl⟩
theorem solsticekeep_Ints.L0_eq (x0 : List Int) (x1 : List Int) (x5 : Int) : solsticekeep_Ints.L0 x0 x1 x5 = if x5 < (x0.length : Int) then (if 0 ≤ x5 then (if x5 < (x1.length : Int) then (if (rd x0 x5) = (rd x1 x5) then (solsticekeep_Ints.L0 x0 x1 (wrap64 (x5 + 1))) else (some false)) else (none)) else (none)) else (some true) := by
  apply IsLim.step (solsticekeep_Ints.isL0 x0 x1 x5).mono
  case hf =>
    repeat'
      try intro _
      first
      | (with_reducible exact solsticekeep_Ints.isL0 _ _ _)
      | (with_reducible apply IsLim.ite)
      | (with_reducible apply IsLim.bind)
      | (apply IsLim.cst; intro _; exact rfl)
  case h => intro k; rw [solsticekeep_Ints.l0]
theorem solsticekeep_Ints.F_eq (l0 : List Int) (l1 : List Int) : solsticekeep_Ints.F l0 l1 = if (l0.length : Int) = (l1.length : Int) then (solsticekeep_Ints.L0 l0 l1 0) else (some false) := by
  apply IsLim.via
  case hf =>
    repeat'
      try intro _
      first
      | (with_reducible exact solsticekeep_Ints.isL0 _ _ _)
      | (with_reducible apply IsLim.ite)
      | (with_reducible apply IsLim.bind)
      | (apply IsLim.cst; intro _; exact rfl)
  case h => exact fun _ => rfl
noncomputable def solsticelaw19_wakes.F  : Option (Bool) := lim fun k => solsticelaw19_wakes.f k
theorem solsticelaw19_wakes.isF  : IsLim (fun k => solsticelaw19_wakes.f k) (solsticelaw19_wakes.F ) := ⟨fun k => solsticelaw19_wakes.mono k, rfl⟩
theorem solsticelaw19_wakes.F_eq  : solsticelaw19_wakes.F  = (some (([(⟨(⟨#[65]⟩ : ByteArray), (([(⟨(⟨#[88]⟩ : ByteArray), ([] : List (S70)), (⟨#[49]⟩ : ByteArray)⟩ : S44)] : List (S44))), 1⟩ : S40), (⟨(⟨#[66]⟩ : ByteArray), ([] : List (S44)), 0⟩ : S40)] : List (S40)) : List (S40))).bind fun y268 => ((tree_Text.F y268).bind fun bt271 => ((tree_Parse.F (⟨#[98, 101, 103, 105, 110, 58, 65, 10, 88, 58, 49, 10, 66, 69, 71, 73, 78, 58, 66, 10, 69, 78, 68, 58, 98, 10, 69, 78, 68, 58, 65]⟩ : ByteArray)).bind fun bt273 => ((tree_Parse.F (⟨#[66, 69, 71, 73, 78, 58, 65]⟩ : ByteArray)).bind fun bt277 => (if bt271.2 = 0 then (if bt271.1.toList = ([66, 69, 71, 73, 78, 58, 65, 13, 10, 88, 58, 49, 13, 10, 66, 69, 71, 73, 78, 58, 66, 13, 10, 69, 78, 68, 58, 66, 13, 10, 69, 78, 68, 58, 65, 13, 10] : List UInt8) then (if bt273.2 = 0 then ((solsticekeep_Comps.F bt273.1 y268).bind fun t281 => (if t281 = true then (if bt277.2 = 20 then ((tree_Kids.F y268 0).bind fun t282 => ((solsticekeep_Ints.F t282 (([1] : List Int))).bind fun t288 => (if t288 = true then ((tree_Check.F ([] : List (S40))).bind fun t289 => (some (t289 == 20))) else (some false)))) else (some false)) else (some false))) else (some false)) else (some false)) else (some false))))) := by
  apply IsLim.via
  case hf =>
    repeat'
      try intro _
      first
      | (with_reducible exact solsticekeep_Comps.isF _ _)
      | (with_reducible exact solsticekeep_Ints.isF _ _)
      | (with_reducible exact tree_Check.isF _)
      | (with_reducible exact tree_Kids.isF _ _)
      | (with_reducible exact tree_Parse.isF _)
      | (with_reducible exact tree_Text.isF _)
      | (with_reducible apply IsLim.ite)
      | (with_reducible apply IsLim.bind)
      | (apply IsLim.cst; intro _; exact rfl)
  case h => exact fun _ => rfl
end Go.Proofs.YtdgeokpbedllaaaDoor.PTre

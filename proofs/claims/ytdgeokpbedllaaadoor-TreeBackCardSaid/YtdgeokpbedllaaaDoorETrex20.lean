/- Printed functions of the family Tre without a bound on their rounds, and the equation that each meets. No condition. -/
import Derived.Test.YtdgeokpbedllaaaDoorBase
import Derived.Test.YtdgeokpbedllaaaDoorPTrex20
import Derived.Test.YtdgeokpbedllaaaDoorETrex2
import Derived.Test.YtdgeokpbedllaaaDoorETrex12
import Derived.Test.YtdgeokpbedllaaaDoorETrex15
import Derived.Test.YtdgeokpbedllaaaDoorETrex17
import Derived.Test.YtdgeokpbedllaaaDoorETrex18
namespace Go.Proofs.YtdgeokpbedllaaaDoor.PTre
open Go.RowKit Go.Proofs.YtdgeokpbedllaaaDoorW.PrintWords Go.Proofs.YtdgeokpbedllaaaDoorW.PrintLast Go.Proofs.YtdgeokpbedllaaaDoor.Base
set_option linter.unusedVariables false
noncomputable def solsticelaw19_TreeBack.J0 (x0 : List (S40)) (x1 : List (S40)) (x16 : Bool) : Option (Bool) := lim fun k => solsticelaw19_TreeBack.j0 k x0 x1 x16
noncomputable def solsticelaw19_TreeBack.J1 (x0 : List (S40)) (x1 : List (S40)) (x5 : ByteArray) (x6 : Int) (x7 : ByteArray) (x8 : Int) (x32 : Bool) : Option (Bool) := lim fun k => solsticelaw19_TreeBack.j1 k x0 x1 x5 x6 x7 x8 x32
noncomputable def solsticelaw19_TreeBack.F (l0 : List (S40)) (l1 : List (S40)) : Option (Bool) := lim fun k => solsticelaw19_TreeBack.f k l0 l1
theorem solsticelaw19_TreeBack.isJ0 (x0 : List (S40)) (x1 : List (S40)) (x16 : Bool) : IsLim (fun k => solsticelaw19_TreeBack.j0 k x0 x1 x16) (solsticelaw19_TreeBack.J0 x0 x1 x16) := ⟨fun k => (solsticelaw19_TreeBack.mono_l k).1 x0 x1 x16, rfl⟩
theorem solsticelaw19_TreeBack.isJ1 (x0 : List (S40)) (x1 : List (S40)) (x5 : ByteArray) (x6 : Int) (x7 : ByteArray) (x8 : Int) (x32 : Bool) : IsLim (fun k => solsticelaw19_TreeBack.j1 k x0 x1 x5 x6 x7 x8 x32) (solsticelaw19_TreeBack.J1 x0 x1 x5 x6 x7 x8 x32) := ⟨fun k => (solsticelaw19_TreeBack.mono_l k).2 x0 x1 x5 x6 x7 x8 x32, rfl⟩
theorem solsticelaw19_TreeBack.J0_eq (x0 : List (S40)) (x1 : List (S40)) (x16 : Bool) : solsticelaw19_TreeBack.J0 x0 x1 x16 = if x16 = true then (some true) else ((tree_Text.F x0).bind fun bt380 => ((tree_Text.F x1).bind fun bt382 => (if bt380.2 = 0 then (solsticelaw19_TreeBack.J1 x0 x1 bt380.1 bt380.2 bt382.1 bt382.2 (bt382.2 != 0)) else (solsticelaw19_TreeBack.J1 x0 x1 bt380.1 bt380.2 bt382.1 bt382.2 true)))) := by
  apply IsLim.step (solsticelaw19_TreeBack.isJ0 x0 x1 x16).mono
  case hf =>
    repeat'
      try intro _
      first
      | (with_reducible exact solsticelaw19_TreeBack.isJ1 _ _ _ _ _ _ _)
      | (with_reducible exact tree_Text.isF _)
      | (with_reducible apply IsLim.ite)
      | (with_reducible apply IsLim.bind)
      | (apply IsLim.cst; intro _; exact rfl)
  case h => intro k; rw [solsticelaw19_TreeBack.j0]
theorem solsticelaw19_TreeBack.J1_eq (x0 : List (S40)) (x1 : List (S40)) (x5 : ByteArray) (x6 : Int) (x7 : ByteArray) (x8 : Int) (x32 : Bool) : solsticelaw19_TreeBack.J1 x0 x1 x5 x6 x7 x8 x32 = if x32 = true then (if x6 = 0 then (if x8 = 0 then ((solsticelaw19_wakes.F).bind fun t384 => (some t384)) else (if x7.toList = ([] : List UInt8) then ((solsticelaw19_wakes.F).bind fun t385 => (some t385)) else (some false))) else (if x5.toList = ([] : List UInt8) then (if x8 = 0 then ((solsticelaw19_wakes.F).bind fun t386 => (some t386)) else (if x7.toList = ([] : List UInt8) then ((solsticelaw19_wakes.F).bind fun t387 => (some t387)) else (some false))) else (some false))) else ((tree_Parse.F x5).bind fun bt388 => (if bt388.2 = 0 then ((solsticekeep_Comps.F bt388.1 x0).bind fun t392 => (if t392 = true then ((solsticekeep_Comps.F x0 x1).bind fun t393 => (if ((x5.toList == x7.toList) == t393) = true then ((solsticelaw19_wakes.F).bind fun t394 => (some t394)) else (some false))) else (some false))) else (some false))) := by
  apply IsLim.step (solsticelaw19_TreeBack.isJ1 x0 x1 x5 x6 x7 x8 x32).mono
  case hf =>
    repeat'
      try intro _
      first
      | (with_reducible exact solsticekeep_Comps.isF _ _)
      | (with_reducible exact solsticelaw19_wakes.isF)
      | (with_reducible exact tree_Parse.isF _)
      | (with_reducible apply IsLim.ite)
      | (with_reducible apply IsLim.bind)
      | (apply IsLim.cst; intro _; exact rfl)
  case h => intro k; rw [solsticelaw19_TreeBack.j1]
theorem solsticelaw19_TreeBack.F_eq (l0 : List (S40)) (l1 : List (S40)) : solsticelaw19_TreeBack.F l0 l1 = (solsticelaw19_Heavy.F l0).bind fun t378 => (if t378 = true then (solsticelaw19_TreeBack.J0 l0 l1 true) else ((solsticelaw19_Heavy.F l1).bind fun t379 => (solsticelaw19_TreeBack.J0 l0 l1 t379))) := by
  apply IsLim.via
  case hf =>
    repeat'
      try intro _
      first
      | (with_reducible exact solsticelaw19_Heavy.isF _)
      | (with_reducible exact solsticelaw19_TreeBack.isJ0 _ _ _)
      | (with_reducible apply IsLim.ite)
      | (with_reducible apply IsLim.bind)
      | (apply IsLim.cst; intro _; exact rfl)
  case h => exact fun _ => rfl
end Go.Proofs.YtdgeokpbedllaaaDoor.PTre

/- Printed functions of the family Tre without a bound on their rounds, and the equation that each meets. No condition. -/
import Derived.Test.YtdgeokpbedllaaaDoorBase
import Derived.Test.YtdgeokpbedllaaaDoorPTrex2
import Derived.Test.YtdgeokpbedllaaaDoorETrex1
namespace Go.Proofs.YtdgeokpbedllaaaDoor.PTre
open Go.RowKit Go.Proofs.YtdgeokpbedllaaaDoorW.PrintWords Go.Proofs.YtdgeokpbedllaaaDoorW.PrintLast Go.Proofs.YtdgeokpbedllaaaDoor.Base
set_option linter.unusedVariables false
noncomputable def solsticelaw19_Heavy.L0 (x0 : List (S40)) (x3 : Int) : Option (Bool) := lim fun k => solsticelaw19_Heavy.l0 k x0 x3
noncomputable def solsticelaw19_Heavy.J1 (x0 : List (S40)) (x3 : Int) (x29 : Bool) : Option (Bool) := lim fun k => solsticelaw19_Heavy.j1 k x0 x3 x29
noncomputable def solsticelaw19_Heavy.L1 (x0 : List (S40)) (x3 : Int) (x4 : Int) : Option (Bool) := lim fun k => solsticelaw19_Heavy.l1 k x0 x3 x4
noncomputable def solsticelaw19_Heavy.F (l0 : List (S40)) : Option (Bool) := lim fun k => solsticelaw19_Heavy.f k l0
theorem solsticelaw19_Heavy.isL0 (x0 : List (S40)) (x3 : Int) : IsLim (fun k => solsticelaw19_Heavy.l0 k x0 x3) (solsticelaw19_Heavy.L0 x0 x3) := ⟨fun k => (solsticelaw19_Heavy.mono_l k).1 x0 x3, rfl⟩
theorem solsticelaw19_Heavy.isJ1 (x0 : List (S40)) (x3 : Int) (x29 : Bool) : IsLim (fun k => solsticelaw19_Heavy.j1 k x0 x3 x29) (solsticelaw19_Heavy.J1 x0 x3 x29) := ⟨fun k => (solsticelaw19_Heavy.mono_l k).2.1 x0 x3 x29, rfl⟩
theorem solsticelaw19_Heavy.isL1 (x0 : List (S40)) (x3 : Int) (x4 : Int) : IsLim (fun k => solsticelaw19_Heavy.l1 k x0 x3 x4) (solsticelaw19_Heavy.L1 x0 x3 x4) := ⟨fun k => (solsticelaw19_Heavy.mono_l k).2.2 x0 x3 x4, rfl⟩
theorem solsticelaw19_Heavy.isF (l0 : List (S40)) : IsLim (fun k => solsticelaw19_Heavy.f k l0) (solsticelaw19_Heavy.F l0) := ⟨fun k => solsticelaw19_Heavy.mono l0 k, rfl⟩
theorem solsticelaw19_Heavy.L0_eq (x0 : List (S40)) (x3 : Int) : solsticelaw19_Heavy.L0 x0 x3 = if x3 < (x0.length : Int) then (if 0 ≤ x3 then (if (((rd_T40 x0 x3).f0).size : Int) > 200 then (solsticelaw19_Heavy.J1 x0 x3 true) else (solsticelaw19_Heavy.J1 x0 x3 (decide ((((rd_T40 x0 x3).f1).length : Int) > 20)))) else (none)) else (some false) := by
  apply IsLim.step (solsticelaw19_Heavy.isL0 x0 x3).mono
  case hf =>
    repeat'
      try intro _
      first
      | (with_reducible exact solsticelaw19_Heavy.isJ1 _ _ _)
      | (with_reducible apply IsLim.ite)
      | (with_reducible apply IsLim.bind)
      | (apply IsLim.cst; intro _; exact rfl)
  case h => intro k; rw [solsticelaw19_Heavy.l0]
theorem solsticelaw19_Heavy.J1_eq (x0 : List (S40)) (x3 : Int) (x29 : Bool) : solsticelaw19_Heavy.J1 x0 x3 x29 = if x29 = true then (some true) else (solsticelaw19_Heavy.L1 x0 x3 0) := by
  apply IsLim.step (solsticelaw19_Heavy.isJ1 x0 x3 x29).mono
  case hf =>
    repeat'
      try intro _
      first
      | (with_reducible exact solsticelaw19_Heavy.isL1 _ _ _)
      | (with_reducible apply IsLim.ite)
      | (with_reducible apply IsLim.bind)
      | (apply IsLim.cst; intro _; exact rfl)
  case h => intro k; rw [solsticelaw19_Heavy.j1]
theorem solsticelaw19_Heavy.L1_eq (x0 : List (S40)) (x3 : Int) (x4 : Int) : solsticelaw19_Heavy.L1 x0 x3 x4 = if 0 ≤ x3 then (if x3 < (x0.length : Int) then (if x4 < (((rd_T40 x0 x3).f1).length : Int) then (if 0 ≤ x4 then ((solsticelaw18_Heavy.F ((rd_T44 ((rd_T40 x0 x3).f1) x4).f0) ((rd_T44 ((rd_T40 x0 x3).f1) x4).f1) ((rd_T44 ((rd_T40 x0 x3).f1) x4).f2)).bind fun t112 => (if t112 = true then (some true) else (solsticelaw19_Heavy.L1 x0 x3 (wrap64 (x4 + 1))))) else (none)) else (solsticelaw19_Heavy.L0 x0 (wrap64 (x3 + 1)))) else (none)) else (none) := by
  apply IsLim.step (solsticelaw19_Heavy.isL1 x0 x3 x4).mono
  case hf =>
    repeat'
      try intro _
      first
      | (with_reducible exact solsticelaw18_Heavy.isF _ _ _)
      | (with_reducible exact solsticelaw19_Heavy.isL0 _ _)
      | (with_reducible exact solsticelaw19_Heavy.isL1 _ _ _)
      | (with_reducible apply IsLim.ite)
      | (with_reducible apply IsLim.bind)
      | (apply IsLim.cst; intro _; exact rfl)
  case h => intro k; rw [solsticelaw19_Heavy.l1]
theorem solsticelaw19_Heavy.F_eq (l0 : List (S40)) : solsticelaw19_Heavy.F l0 = if (l0.length : Int) > 30 then (some true) else (solsticelaw19_Heavy.L0 l0 0) := by
  apply IsLim.via
  case hf =>
    repeat'
      try intro _
      first
      | (with_reducible exact solsticelaw19_Heavy.isL0 _ _)
      | (with_reducible apply IsLim.ite)
      | (with_reducible apply IsLim.bind)
      | (apply IsLim.cst; intro _; exact rfl)
  case h => exact fun _ => rfl
end Go.Proofs.YtdgeokpbedllaaaDoor.PTre

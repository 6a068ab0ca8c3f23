/- Printed functions of the family Tre without a bound on their rounds, and the equation that each meets. No condition. -/
import Derived.Test.YtdgeokpbedllaaaDoorBase
import Derived.Test.YtdgeokpbedllaaaDoorPTrex17
import Derived.Test.YtdgeokpbedllaaaDoorETrex16
namespace Go.Proofs.YtdgeokpbedllaaaDoor.PTre
open Go.RowKit Go.Proofs.YtdgeokpbedllaaaDoorW.PrintWords Go.Proofs.YtdgeokpbedllaaaDoorW.PrintLast Go.Proofs.YtdgeokpbedllaaaDoor.Base
set_option linter.unusedVariables false
noncomputable def solsticekeep_Comps.L0 (x0 : List (S40)) (x1 : List (S40)) (x5 : Int) : Option (Bool) := lim fun k => solsticekeep_Comps.l0 k x0 x1 x5
noncomputable def solsticekeep_Comps.J1 (x0 : List (S40)) (x1 : List (S40)) (x5 : Int) (x56 : Bool) : Option (Bool) := lim fun k => solsticekeep_Comps.j1 k x0 x1 x5 x56
noncomputable def solsticekeep_Comps.L1 (x0 : List (S40)) (x1 : List (S40)) (x5 : Int) (x6 : Int) : Option (Bool) := lim fun k => solsticekeep_Comps.l1 k x0 x1 x5 x6
noncomputable def solsticekeep_Comps.F (l0 : List (S40)) (l1 : List (S40)) : Option (Bool) := lim fun k => solsticekeep_Comps.f k l0 l1
theorem solsticekeep_Comps.isL0 (x0 : List (S40)) (x1 : List (S40)) (x5 : Int) : IsLim (fun k => solsticekeep_Comps.l0 k x0 x1 x5) (solsticekeep_Comps.L0 x0 x1 x5) := ⟨fun k => (solsticekeep_Comps.mono_l k).1 x0 x1 x5, rfl⟩
theorem solsticekeep_Comps.isJ1 (x0 : List (S40)) (x1 : List (S40)) (x5 : Int) (x56 : Bool) : IsLim (fun k => solsticekeep_Comps.j1 k x0 x1 x5 x56) (solsticekeep_Comps.J1 x0 x1 x5 x56) := ⟨fun k => (solsticekeep_Comps.mono_l k).2.1 x0 x1 x5 x56, rfl⟩
theorem solsticekeep_Comps.isL1 (x0 : List (S40)) (x1 : List (S40)) (x5 : Int) (x6 : Int) : IsLim (fun k => solsticekeep_Comps.l1 k x0 x1 x5 x6) (solsticekeep_Comps.L1 x0 x1 x5 x6) := ⟨fun k => (solsticekeep_Comps.mono_l k).2.2 x0 x1 x5 x6, rfl⟩
theorem solsticekeep_Comps.isF (l0 : List (S40)) (l1 : List (S40)) : IsLim (fun k => solsticekeep_Comps.f k l0 l1) (solsticekeep_Comps.F l0 l1) := ⟨fun k => solsticekeep_Comps.mono l0 l1 k, rfl⟩
theorem solsticekeep_Comps.L0_eq (x0 : List (S40)) (x1 : List (S40)) (x5 : Int) : solsticekeep_Comps.L0 x0 x1 x5 = if x5 < (x0.length : Int) then (if 0 ≤ x5 then (if x5 < (x1.length : Int) then (if ((rd_T40 x0 x5).f0).toList = ((rd_T40 x1 x5).f0).toList then (if ((rd_T40 x0 x5).f2) = ((rd_T40 x1 x5).f2) then (solsticekeep_Comps.J1 x0 x1 x5 ((((rd_T40 x0 x5).f1).length : Int) != (((rd_T40 x1 x5).f1).length : Int))) else (solsticekeep_Comps.J1 x0 x1 x5 true)) else (solsticekeep_Comps.J1 x0 x1 x5 true)) else (none)) else (none)) else (some true) := by
  apply IsLim.step (solsticekeep_Comps.isL0 x0 x1 x5).mono
  case hf =>
    repeat'
      try intro _
      first
      | (with_reducible exact solsticekeep_Comps.isJ1 _ _ _ _)
      | (with_reducible apply IsLim.ite)
      | (with_reducible apply IsLim.bind)
      | (apply IsLim.cst; intro _; exact rfl)
  case h => intro k; rw [solsticekeep_Comps.l0]
theorem solsticekeep_Comps.J1_eq (x0 : List (S40)) (x1 : List (S40)) (x5 : Int) (x56 : Bool) : solsticekeep_Comps.J1 x0 x1 x5 x56 = if x56 = true then (some false) else (solsticekeep_Comps.L1 x0 x1 x5 0) := by
  apply IsLim.step (solsticekeep_Comps.isJ1 x0 x1 x5 x56).mono
  case hf =>
    repeat'
      try intro _
      first
      | (with_reducible exact solsticekeep_Comps.isL1 _ _ _ _)
      | (with_reducible apply IsLim.ite)
      | (with_reducible apply IsLim.bind)
      | (apply IsLim.cst; intro _; exact rfl)
  case h => intro k; rw [solsticekeep_Comps.j1]
theorem solsticekeep_Comps.L1_eq (x0 : List (S40)) (x1 : List (S40)) (x5 : Int) (x6 : Int) : solsticekeep_Comps.L1 x0 x1 x5 x6 = if 0 ≤ x5 then (if x5 < (x0.length : Int) then (if x6 < (((rd_T40 x0 x5).f1).length : Int) then (if 0 ≤ x6 then (if x5 < (x1.length : Int) then (if x6 < (((rd_T40 x1 x5).f1).length : Int) then ((solsticekeep_Line.F ((rd_T44 ((rd_T40 x0 x5).f1) x6).f0) ((rd_T44 ((rd_T40 x0 x5).f1) x6).f1) ((rd_T44 ((rd_T40 x0 x5).f1) x6).f2) ((rd_T44 ((rd_T40 x1 x5).f1) x6).f0) ((rd_T44 ((rd_T40 x1 x5).f1) x6).f1) ((rd_T44 ((rd_T40 x1 x5).f1) x6).f2)).bind fun t304 => (if t304 = true then (solsticekeep_Comps.L1 x0 x1 x5 (wrap64 (x6 + 1))) else (some false))) else (none)) else (none)) else (none)) else (solsticekeep_Comps.L0 x0 x1 (wrap64 (x5 + 1)))) else (none)) else (none) := by
  apply IsLim.step (solsticekeep_Comps.isL1 x0 x1 x5 x6).mono
  case hf =>
    repeat'
      try intro _
      first
      | (with_reducible exact solsticekeep_Comps.isL0 _ _ _)
      | (with_reducible exact solsticekeep_Comps.isL1 _ _ _ _)
      | (with_reducible exact solsticekeep_Line.isF _ _ _ _ _ _)
      | (with_reducible apply IsLim.ite)
      | (with_reducible apply IsLim.bind)
      | (apply IsLim.cst; intro _; exact rfl)
  case h => intro k; rw [solsticekeep_Comps.l1]
theorem solsticekeep_Comps.F_eq (l0 : List (S40)) (l1 : List (S40)) : solsticekeep_Comps.F l0 l1 = if (l0.length : Int) = (l1.length : Int) then (solsticekeep_Comps.L0 l0 l1 0) else (some false) := by
  apply IsLim.via
  case hf =>
    repeat'
      try intro _
      first
      | (with_reducible exact solsticekeep_Comps.isL0 _ _ _)
      | (with_reducible apply IsLim.ite)
      | (with_reducible apply IsLim.bind)
      | (apply IsLim.cst; intro _; exact rfl)
  case h => exact fun _ => rfl
end Go.Proofs.YtdgeokpbedllaaaDoor.PTre

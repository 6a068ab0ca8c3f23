/- Printed functions of the family Tre without a bound on their rounds, and the equation that each meets. No condition. -/
import Derived.Test.YtdgeokpbedllaaaDoorBase
import Derived.Test.YtdgeokpbedllaaaDoorPTrex2
import Derived.Test.YtdgeokpbedllaaaDoorETrex1
namespace Go.Proofs.YtdgeokpbedllaaaDoor.PTre
open Go.RowKit Go.Proofs.YtdgeokpbedllaaaDoorW.PrintWords Go.Proofs.YtdgeokpbedllaaaDoorW.PrintLast Go.Proofs.YtdgeokpbedllaaaDoor.Base
set_option linter.unusedVariables false
noncomputable def w19_Heavy.L0 (x0 : List (S40)) (x3 : Int) : Option (Bool) := lim fun k => w19_Heavy.l0 k x0 x3
noncomputable def w19_Heavy.J1 (x0 : List (S40)) (x3 : Int) (x29 : Bool) : Option (Bool) := lim fun k => w19_Heavy.j1 k x0 x3 x29
noncomputable def w19_Heavy.L1 (x0 : List (S40)) (x3 : Int) (x4 : Int) : Option (Bool) := lim fun k => w19_Heavy.l1 k x0 x3 x4
noncomputable def w19_Heavy.F (l0 : List (S40)) : Option (Bool) := lim fun k => w19_Heavy.f k l0
theorem w19_Heavy.isL0 (x0 : List (S40)) (x3 : Int) : IsLim (fun k => w19_Heavy.l0 k x0 x3) (w19_Heavy.L0 x0 x3) := ⟨fun k => (w19_Heavy.mono_l k).1 x0 x3, rfl⟩
theorem w19_Heavy.isJ1 (x0 : List (S40)) (x3 : Int) (x29 : Bool) : IsLim (fun k => w19_Heavy.j1 k x0 x3 x29) (w19_Heavy.J1 x0 x3 x29) := ⟨fun k => (w19_Heavy.mono_l k).2.1 x0 x3 x29, rfl⟩
theorem w19_Heavy.isL1 (x0 : List (S40)) (x3 : Int) (x4 : Int) : IsLim (fun k => w19_Heavy.l1 k x0 x3 x4) (w19_Heavy.L1 x0 x3 x4) := ⟨fun k => (w19_Heavy.mono_l k).2.2 x0 x3 x4, rfl⟩
theorem w19_Heavy.isF (l0 : List (S40)) : IsLim (fun k => w19_Heavy.f k l0) (w19_Heavy.F l0) := ⟨fun k => w19_Heavy.mono l0 k, rfl⟩
theorem w19_Heavy.L0_eq (x0 : List (S40)) (x3 : Int) : w19_Heavy.L0 x0 x3 = if x3 < (x0.length : Int) then (if 0 ≤ x3 then (if (((rd_T40 x0 x3).f0).size : Int) > 200 then (w19_Heavy.J1 x0 x3 true) else (w19_Heavy.J1 x0 x3 (decide ((((rd_T40 x0 x3).f1).length : Int) > 20)))) else (none)) else (some false) := by
  apply IsLim.step (w19_Heavy.isL0 x0 x3).mono
  case hf =>
    repeat'
      try intro _
      first
      | (with_reducible exact w19_Heavy.isJ1 _ _ _)
      | (with_reducible apply IsLim.ite)
      | (with_reducible apply IsLim.bind)
      | (apply IsLim.cst; intro _; exact rfl)
  case h => intro k; rw [w19_Heavy.l0]
theorem w19_Heavy.J1_eq (x0 : List (S40)) (x3 : Int) (x29 : Bool) : w19_Heavy.J1 x0 x3 x29 = if x29 = true then (some true) else (w19_Heavy.L1 x0 x3 0) := by
  apply IsLim.step (w19_Heavy.isJ1 x0 x3 x29).mono
  case hf =>
    repeat'
      try intro _
      first
      | (with_reducible exact w19_Heavy.isL1 _ _ _)
      | (with_reducible apply IsLim.ite)
      | (with_reducible apply IsLim.bind)
      | (apply IsLim.cst; intro _; exact rfl)
  case h => intro k; rw [w19_Heavy.j1]
theorem w19_Heavy.L1_eq (x0 : List (S40)) (x3 : Int) (x4 : Int) : w19_Heavy.L1 x0 x3 x4 = if 0 ≤ x3 then (if x3 < (x0.length : Int) then (if x4 < (((rd_T40 x0 x3).f1).length : Int) then (if 0 ≤ x4 then ((w18_Heavy.F ((rd_T44 ((rd_T40 x0 x3).f1) x4).f0) ((rd_T44 ((rd_T40 x0 x3).f1) x4).f1) ((rd_T44 ((rd_T40 x0 x3).f1) x4).f2)).bind fun t112 => (if t112 = true then (some true) else (w19_Heavy.L1 x0 x3 (wrap64 (x4 + 1))))) else (none)) else (w19_Heavy.L0 x0 (wrap64 (x3 + 1)))) else (none)) else (none) := by
  apply IsLim.step (w19_Heavy.isL1 x0 x3 x4).mono
  case hf =>
    repeat'
      try intro _
      first
      | (with_reducible exact w18_Heavy.isF _ _ _)
      | (with_reducible exact w19_Heavy.isL0 _ _)
      | (with_reducible exact w19_Heavy.isL1 _ _ _)
      | (with_reducible apply IsLim.ite)
      | (with_reducible apply IsLim.bind)
      | (apply IsLim.cst; intro _; exact rfl)
  case h => intro k; rw [w19_Heavy.l1]
theorem w19_Heavy.F_eq (l0 : List (S40)) : w19_Heavy.F l0 = if (l0.length : Int) > 30 then (some true) else (w19_Heavy.L0 l0 0) := by
  apply IsLim.via
  case hf =>
    repeat'
      try intro _
      first
      | (with_reducible exact w19_Heavy.isL0 _ _)
      | (with_reducible apply IsLim.ite)
      | (with_reducible apply IsLim.bind)
      | (apply IsLim.cst; intro _; exact rfl)
  case h => exact fun _ => rfl
noncomputable def tree_Kids.J0 (x0 : List (S40)) (x1 : Int) (x15 : Bool) : Option (List Int) := lim fun k => tree_Kids.j0 k x0 x1 x15
noncomputable def tree_Kids.J1 (x0 : List (S40)) (x1 : Int) (x5 : Int) (x30 : Bool) : Option (List Int) := lim fun k => tree_Kids.j1 k x0 x1 x5 x30
noncomputable def tree_Kids.L0 (x0 : List (S40)) (x1 : Int) (x5 : Int) (x6 : List Int) (x7 : Int) : Option (List Int) := lim fun k => tree_Kids.l0 k x0 x1 x5 x6 x7
noncomputable def tree_Kids.F (l0 : List (S40)) (a1 : Int) : Option (List Int) := lim fun k => tree_Kids.f k l0 a1
theorem tree_Kids.isJ0 (x0 : List (S40)) (x1 : Int) (x15 : Bool) : IsLim (fun k => tree_Kids.j0 k x0 x1 x15) (tree_Kids.J0 x0 x1 x15) := ⟨fun k => (tree_Kids.mono_l k).1 x0 x1 x15, rfl⟩
theorem tree_Kids.isJ1 (x0 : List (S40)) (x1 : Int) (x5 : Int) (x30 : Bool) : IsLim (fun k => tree_Kids.j1 k x0 x1 x5 x30) (tree_Kids.J1 x0 x1 x5 x30) := ⟨fun k => (tree_Kids.mono_l k).2.1 x0 x1 x5 x30, rfl⟩
theorem tree_Kids.isL0 (x0 : List (S40)) (x1 : Int) (x5 : Int) (x6 : List Int) (x7 : Int) : IsLim (fun k => tree_Kids.l0 k x0 x1 x5 x6 x7) (tree_Kids.L0 x0 x1 x5 x6 x7) := ⟨fun k => (tree_Kids.mono_l k).2.2 x0 x1 x5 x6 x7, rfl⟩
theorem tree_Kids.isF (l0 : List (S40)) (a1 : Int) : IsLim (fun k => tree_Kids.f k l0 a1) (tree_Kids.F l0 a1) := ⟨fun k => tree_Kids.mono l0 a1 k, rfl⟩
theorem tree_Kids.J0_eq (x0 : List (S40)) (x1 : Int) (x15 : Bool) : tree_Kids.J0 x0 x1 x15 = if x15 = true then (some ([] : List Int)) else (if 0 ≤ x1 then (if x1 < (x0.length : Int) then (if ((rd_T40 x0 x1).f2) < 0 then (tree_Kids.J1 x0 x1 ((rd_T40 x0 x1).f2) true) else (tree_Kids.J1 x0 x1 ((rd_T40 x0 x1).f2) (decide (((rd_T40 x0 x1).f2) ≥ (wrap64 ((x0.length : Int) - x1)))))) else (none)) else (none)) := by
  apply IsLim.step (tree_Kids.isJ0 x0 x1 x15).mono
  case hf =>
    repeat'
      try intro _
      first
      | (with_reducible exact tree_Kids.isJ1 _ _ _ _)
      | (with_reducible apply IsLim.ite)
      | (with_reducible apply IsLim.bind)
      | (apply IsLim.cst; intro _; exact rfl)
  case h => intro k; rw [tree_Kids.j0]
theorem tree_Kids.J1_eq (x0 : List (S40)) (x1 : Int) (x5 : Int) (x30 : Bool) : tree_Kids.J1 x0 x1 x5 x30 = if x30 = true then (some ([] : List Int)) else (tree_Kids.L0 x0 x1 x5 ([] : List Int) (wrap64 (x1 + 1))) := by
  apply IsLim.step (tree_Kids.isJ1 x0 x1 x5 x30).mono
  case hf =>
    repeat'
      try intro _
      first
      | (with_reducible exact tree_Kids.isL0 _ _ _ _ _)
      | (with_reducible apply IsLim.ite)
      | (with_reducible apply IsLim.bind)
      | (apply IsLim.cst; intro _; exact rfl)
  case h => intro k; rw [tree_Kids.j1]
theorem tree_Kids.L0_eq (x0 : List (S40)) (x1 : Int) (x5 : Int) (x6 : List Int) (x7 : Int) : tree_Kids.L0 x0 x1 x5 x6 x7 = if x7 ≤ (wrap64 (x1 + x5)) then (if 0 ≤ x7 then (if x7 < (x0.length : Int) then (if ((rd_T40 x0 x7).f2) < 0 then (some ([] : List Int)) else (if ((rd_T40 x0 x7).f2) > (wrap64 ((wrap64 (x1 + x5)) - x7)) then (some ([] : List Int)) else (if x6.length < 17592186044416 then (tree_Kids.L0 x0 x1 x5 (x6 ++ [x7]) (wrap64 (x7 + (wrap64 (1 + ((rd_T40 x0 x7).f2)))))) else (none)))) else (none)) else (none)) else (some x6) := by
  apply IsLim.step (tree_Kids.isL0 x0 x1 x5 x6 x7).mono
  case hf =>
    repeat'
      try intro _
      first
      | (with_reducible exact tree_Kids.isL0 _ _ _ _ _)
      | (with_reducible apply IsLim.ite)
      | (with_reducible apply IsLim.bind)
      | (apply IsLim.cst; intro _; exact rfl)
  case h => intro k; rw [tree_Kids.l0]
theorem tree_Kids.F_eq (l0 : List (S40)) (a1 : Int) : tree_Kids.F l0 a1 = if a1 < 0 then (tree_Kids.J0 l0 a1 true) else (tree_Kids.J0 l0 a1 (decide (a1 ≥ (l0.length : Int)))) := by
  apply IsLim.via
  case hf =>
    repeat'
      try intro _
      first
      | (with_reducible exact tree_Kids.isJ0 _ _ _)
      | (with_reducible apply IsLim.ite)
      | (with_reducible apply IsLim.bind)
      | (apply IsLim.cst; intro _; exact rfl)
  case h => exact fun _ => rfl
end Go.Proofs.YtdgeokpbedllaaaDoor.PTre

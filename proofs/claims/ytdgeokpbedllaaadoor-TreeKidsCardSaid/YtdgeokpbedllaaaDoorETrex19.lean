/- Printed functions of the family Tre without a bound on their rounds, and the equation that each meets. No condition. -/
import Derived.Test.YtdgeokpbedllaaaDoorBase
import Derived.Test.YtdgeokpbedllaaaDoorPTrex19
import Derived.Test.YtdgeokpbedllaaaDoorETrex2
import Derived.Test.YtdgeokpbedllaaaDoorETrex5
import Derived.Test.YtdgeokpbedllaaaDoorETrex18
namespace Go.Proofs.YtdgeokpbedllaaaDoor.PTre
open Go.RowKit Go.Proofs.YtdgeokpbedllaaaDoorW.PrintWords Go.Proofs.YtdgeokpbedllaaaDoorW.PrintLast Go.Proofs.YtdgeokpbedllaaaDoor.Base
set_option linter.unusedVariables false
noncomputable def w19_TreeKids.J0 (x0 : List (S40)) (x15 : Bool) : Option (Bool) := lim fun k => w19_TreeKids.j0 k x0 x15
noncomputable def w19_TreeKids.L0 (x0 : List (S40)) (x3 : List Int) (x4 : Int) : Option (Bool) := lim fun k => w19_TreeKids.l0 k x0 x3 x4
noncomputable def w19_TreeKids.L1 (x0 : List (S40)) (x3 : List Int) (x4 : Int) (x5 : List Int) (x6 : Int) (x7 : Int) : Option (Bool) := lim fun k => w19_TreeKids.l1 k x0 x3 x4 x5 x6 x7
noncomputable def w19_TreeKids.L2 (x0 : List (S40)) (x3 : List Int) (x8 : Int) : Option (Bool) := lim fun k => w19_TreeKids.l2 k x0 x3 x8
noncomputable def w19_TreeKids.F (l0 : List (S40)) : Option (Bool) := lim fun k => w19_TreeKids.f k l0
theorem w19_TreeKids.isJ0 (x0 : List (S40)) (x15 : Bool) : IsLim (fun k => w19_TreeKids.j0 k x0 x15) (w19_TreeKids.J0 x0 x15) := ⟨fun k => (w19_TreeKids.mono_l k).1 x0 x15, rfl⟩
theorem w19_TreeKids.isL0 (x0 : List (S40)) (x3 : List Int) (x4 : Int) : IsLim (fun k => w19_TreeKids.l0 k x0 x3 x4) (w19_TreeKids.L0 x0 x3 x4) := ⟨fun k => (w19_TreeKids.mono_l k).2.1 x0 x3 x4, rfl⟩
theorem w19_TreeKids.isL1 (x0 : List (S40)) (x3 : List Int) (x4 : Int) (x5 : List Int) (x6 : Int) (x7 : Int) : IsLim (fun k => w19_TreeKids.l1 k x0 x3 x4 x5 x6 x7) (w19_TreeKids.L1 x0 x3 x4 x5 x6 x7) := ⟨fun k => (w19_TreeKids.mono_l k).2.2.1 x0 x3 x4 x5 x6 x7, rfl⟩
theorem w19_TreeKids.isL2 (x0 : List (S40)) (x3 : List Int) (x8 : Int) : IsLim (fun k => w19_TreeKids.l2 k x0 x3 x8) (w19_TreeKids.L2 x0 x3 x8) := ⟨fun k => (w19_TreeKids.mono_l k).2.2.2 x0 x3 x8, rfl⟩
theorem w19_TreeKids.J0_eq (x0 : List (S40)) (x15 : Bool) : w19_TreeKids.J0 x0 x15 = if x15 = true then (some true) else (if 0 ≤ (x0.length : Int) then (if ((x0.length : Int) : Int).toNat ≤ 35184372088832 then (w19_TreeKids.L0 x0 (List.replicate ((x0.length : Int) : Int).toNat 0) 0) else (none)) else (none)) := by
  apply IsLim.step (w19_TreeKids.isJ0 x0 x15).mono
  case hf =>
    repeat'
      try intro _
      first
      | (with_reducible exact w19_TreeKids.isL0 _ _ _)
      | (with_reducible apply IsLim.ite)
      | (with_reducible apply IsLim.bind)
      | (apply IsLim.cst; intro _; exact rfl)
  case h => intro k; rw [w19_TreeKids.j0]
theorem w19_TreeKids.L0_eq (x0 : List (S40)) (x3 : List Int) (x4 : Int) : w19_TreeKids.L0 x0 x3 x4 = if x4 < (x0.length : Int) then ((tree_Kids.F x0 x4).bind fun t337 => (w19_TreeKids.L1 x0 x3 x4 t337 0 0)) else (w19_TreeKids.L2 x0 x3 1) := by
  apply IsLim.step (w19_TreeKids.isL0 x0 x3 x4).mono
  case hf =>
    repeat'
      try intro _
      first
      | (with_reducible exact w19_TreeKids.isL1 _ _ _ _ _ _)
      | (with_reducible exact w19_TreeKids.isL2 _ _ _)
      | (with_reducible exact tree_Kids.isF _ _)
      | (with_reducible apply IsLim.ite)
      | (with_reducible apply IsLim.bind)
      | (apply IsLim.cst; intro _; exact rfl)
  case h => intro k; rw [w19_TreeKids.l0]
theorem w19_TreeKids.L1_eq (x0 : List (S40)) (x3 : List Int) (x4 : Int) (x5 : List Int) (x6 : Int) (x7 : Int) : w19_TreeKids.L1 x0 x3 x4 x5 x6 x7 = if x7 < (x5.length : Int) then (if 0 ≤ x7 then (if (rd x5 x7) ≤ x4 then (some false) else (if (rd x5 x7) ≥ (x0.length : Int) then (some false) else (if x7 > 0 then (if 0 ≤ (wrap64 (x7 - 1)) then (if (wrap64 (x7 - 1)) < (x5.length : Int) then (if (rd x5 x7) ≤ (rd x5 (wrap64 (x7 - 1))) then (some false) else (if 0 ≤ (rd x5 x7) then (if (rd x5 x7) < (x3.length : Int) then (if (rd x5 x7) < (x0.length : Int) then (w19_TreeKids.L1 x0 (x3.set ((rd x5 x7) : Int).toNat (wrap64 ((rd x3 (rd x5 x7)) + 1))) x4 x5 (wrap64 ((wrap64 (x6 + 1)) + ((rd_T40 x0 (rd x5 x7)).f2))) (wrap64 (x7 + 1))) else (none)) else (none)) else (none))) else (none)) else (none)) else (if 0 ≤ (rd x5 x7) then (if (rd x5 x7) < (x3.length : Int) then (if (rd x5 x7) < (x0.length : Int) then (w19_TreeKids.L1 x0 (x3.set ((rd x5 x7) : Int).toNat (wrap64 ((rd x3 (rd x5 x7)) + 1))) x4 x5 (wrap64 ((wrap64 (x6 + 1)) + ((rd_T40 x0 (rd x5 x7)).f2))) (wrap64 (x7 + 1))) else (none)) else (none)) else (none))))) else (none)) else (if 0 ≤ x4 then (if x4 < (x0.length : Int) then (if x6 = ((rd_T40 x0 x4).f2) then (w19_TreeKids.L0 x0 x3 (wrap64 (x4 + 1))) else (some false)) else (none)) else (none)) := by
  apply IsLim.step (w19_TreeKids.isL1 x0 x3 x4 x5 x6 x7).mono
  case hf =>
    repeat'
      try intro _
      first
      | (with_reducible exact w19_TreeKids.isL0 _ _ _)
      | (with_reducible exact w19_TreeKids.isL1 _ _ _ _ _ _)
      | (with_reducible apply IsLim.ite)
      | (with_reducible apply IsLim.bind)
      | (apply IsLim.cst; intro _; exact rfl)
  case h => intro k; rw [w19_TreeKids.l1]
theorem w19_TreeKids.L2_eq (x0 : List (S40)) (x3 : List Int) (x8 : Int) : w19_TreeKids.L2 x0 x3 x8 = if x8 < (x0.length : Int) then (if 0 ≤ x8 then (if x8 < (x3.length : Int) then (if (rd x3 x8) = 1 then (w19_TreeKids.L2 x0 x3 (wrap64 (x8 + 1))) else (some false)) else (none)) else (none)) else (if 0 < (x3.length : Int) then (if (rd x3 0) = 0 then ((tree_Kids.F x0 (-1)).bind fun t357 => ((tree_Kids.F x0 (x0.length : Int)).bind fun t360 => (if (wrap64 ((t357.length : Int) + (t360.length : Int))) = 0 then ((w19_wakes.F).bind fun t363 => (some t363)) else (some false)))) else (some false)) else (none)) := by
  apply IsLim.step (w19_TreeKids.isL2 x0 x3 x8).mono
  case hf =>
    repeat'
      try intro _
      first
      | (with_reducible exact w19_TreeKids.isL2 _ _ _)
      | (with_reducible exact w19_wakes.isF)
      | (with_reducible exact tree_Kids.isF _ _)
      | (with_reducible apply IsLim.ite)
      | (with_reducible apply IsLim.bind)
      | (apply IsLim.cst; intro _; exact rfl)
  case h => intro k; rw [w19_TreeKids.l2]
theorem w19_TreeKids.F_eq (l0 : List (S40)) : w19_TreeKids.F l0 = (w19_Heavy.F l0).bind fun t332 => (if t332 = true then (w19_TreeKids.J0 l0 true) else ((r16_Tree.F l0).bind fun t333 => (w19_TreeKids.J0 l0 (!t333)))) := by
  apply IsLim.via
  case hf =>
    repeat'
      try intro _
      first
      | (with_reducible exact w19_Heavy.isF _)
      | (with_reducible exact w19_TreeKids.isJ0 _ _)
      | (with_reducible exact r16_Tree.isF _)
      | (with_reducible apply IsLim.ite)
      | (with_reducible apply IsLim.bind)
      | (apply IsLim.cst; intro _; exact rfl)
  case h => exact fun _ => rfl
end Go.Proofs.YtdgeokpbedllaaaDoor.PTre

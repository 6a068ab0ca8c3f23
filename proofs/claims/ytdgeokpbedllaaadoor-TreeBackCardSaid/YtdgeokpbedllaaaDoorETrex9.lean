/- Printed functions of the family Tre without a bound on their rounds, and the equation that each meets. No condition. -/
import Derived.Test.YtdgeokpbedllaaaDoorBase
import Derived.Test.YtdgeokpbedllaaaDoorPTrex9
import Derived.Test.YtdgeokpbedllaaaDoorETrex8
namespace Go.Proofs.YtdgeokpbedllaaaDoor.PTre
open Go.RowKit Go.Proofs.YtdgeokpbedllaaaDoorW.PrintWords Go.Proofs.YtdgeokpbedllaaaDoorW.PrintLast Go.Proofs.YtdgeokpbedllaaaDoor.Base
set_option linter.unusedVariables false
noncomputable def tree_Check.J0 (x0 : List (S40)) (x23 : Bool) : Option (Int) := lim fun k => tree_Check.j0 k x0 x23
noncomputable def tree_Check.L0 (x0 : List (S40)) (x3 : List Int) (x24 : List (S40)) (x25 : Int) (x26 : Int) : Option (Int) := lim fun k => tree_Check.l0 k x0 x3 x24 x25 x26
noncomputable def tree_Check.J3 (x0 : List (S40)) (x3 : List Int) (x4 : Int) (x24 : List (S40)) (x25 : Int) (x26 : Int) (x191000 : ByteArray) (x191001 : List (S44)) (x191002 : Int) : Option (Int) := lim fun k => tree_Check.j3 k x0 x3 x4 x24 x25 x26 x191000 x191001 x191002
noncomputable def tree_Check.L1 (x0 : List (S40)) (x3 : List Int) (x4 : Int) (x24 : List (S40)) (x25 : Int) (x26 : Int) (x191000 : ByteArray) (x191001 : List (S44)) (x191002 : Int) : Option (Int) := lim fun k => tree_Check.l1 k x0 x3 x4 x24 x25 x26 x191000 x191001 x191002
noncomputable def tree_Check.F (l0 : List (S40)) : Option (Int) := lim fun k => tree_Check.f k l0
theorem tree_Check.isJ0 (x0 : List (S40)) (x23 : Bool) : IsLim (fun k => tree_Check.j0 k x0 x23) (tree_Check.J0 x0 x23) := ⟨fun k => (tree_Check.mono_l k).1 x0 x23, rfl⟩
theorem tree_Check.isL0 (x0 : List (S40)) (x3 : List Int) (x24 : List (S40)) (x25 : Int) (x26 : Int) : IsLim (fun k => tree_Check.l0 k x0 x3 x24 x25 x26) (tree_Check.L0 x0 x3 x24 x25 x26) := ⟨fun k => (tree_Check.mono_l k).2.1 x0 x3 x24 x25 x26, rfl⟩
theorem tree_Check.isJ3 (x0 : List (S40)) (x3 : List Int) (x4 : Int) (x24 : List (S40)) (x25 : Int) (x26 : Int) (x191000 : ByteArray) (x191001 : List (S44)) (x191002 : Int) : IsLim (fun k => tree_Check.j3 k x0 x3 x4 x24 x25 x26 x191000 x191001 x191002) (tree_Check.J3 x0 x3 x4 x24 x25 x26 x191000 x191001 x191002) := ⟨fun k => (tree_Check.mono_l k).2.2.1 x0 x3 x4 x24 x25 x26 x191000 x191001 x191002, rfl⟩
theorem tree_Check.isL1 (x0 : List (S40)) (x3 : List Int) (x4 : Int) (x24 : List (S40)) (x25 : Int) (x26 : Int) (x191000 : ByteArray) (x191001 : List (S44)) (x191002 : Int) : IsLim (fun k => tree_Check.l1 k x0 x3 x4 x24 x25 x26 x191000 x191001 x191002) (tree_Check.L1 x0 x3 x4 x24 x25 x26 x191000 x191001 x191002) := ⟨fun k => (tree_Check.mono_l k).2.2.2 x0 x3 x4 x24 x25 x26 x191000 x191001 x191002, rfl⟩
theorem tree_Check.isF (l0 : List (S40)) : IsLim (fun k => tree_Check.f k l0) (tree_Check.F l0) := ⟨fun k => tree_Check.mono l0 k, rfl⟩
theorem tree_Check.J0_eq (x0 : List (S40)) (x23 : Bool) : tree_Check.J0 x0 x23 = if x23 = true then (some 20) else (tree_Check.L0 x0 ([] : List Int) x0 (x0.length : Int) 0) := by
  apply IsLim.step (tree_Check.isJ0 x0 x23).mono
  case hf =>
    repeat'
      try intro _
      first
      | (with_reducible exact tree_Check.isL0 _ _ _ _ _)
      | (with_reducible apply IsLim.ite)
      | (with_reducible apply IsLim.bind)
      | (apply IsLim.cst; intro _; exact rfl)
  case h => intro k; rw [tree_Check.j0]
theorem tree_Check.L0_eq (x0 : List (S40)) (x3 : List Int) (x24 : List (S40)) (x25 : Int) (x26 : Int) : tree_Check.L0 x0 x3 x24 x25 x26 = if x26 < x25 then (if 0 ≤ x26 then (if x26 < (x24.length : Int) then (tree_Check.L1 x0 x3 x26 x24 x25 x26 ((rd_T40 x24 x26).f0) ((rd_T40 x24 x26).f1) ((rd_T40 x24 x26).f2)) else (none)) else (none)) else (some 0) := by
  apply IsLim.step (tree_Check.isL0 x0 x3 x24 x25 x26).mono
  case hf =>
    repeat'
      try intro _
      first
      | (with_reducible exact tree_Check.isL1 _ _ _ _ _ _ _ _ _)
      | (with_reducible apply IsLim.ite)
      | (with_reducible apply IsLim.bind)
      | (apply IsLim.cst; intro _; exact rfl)
  case h => intro k; rw [tree_Check.l0]
theorem tree_Check.J3_eq (x0 : List (S40)) (x3 : List Int) (x4 : Int) (x24 : List (S40)) (x25 : Int) (x26 : Int) (x191000 : ByteArray) (x191001 : List (S44)) (x191002 : Int) : tree_Check.J3 x0 x3 x4 x24 x25 x26 x191000 x191001 x191002 = if (x3.length : Int) > 0 then (if 0 ≤ (wrap64 ((x3.length : Int) - 1)) then (if (wrap64 ((x3.length : Int) - 1)) < (x3.length : Int) then (if x191002 < 0 then (some 20) else (if x191002 ≥ (wrap64 ((rd x3 (wrap64 ((x3.length : Int) - 1))) - x4)) then (some 20) else (if (x3.length : Int) ≥ 8 then (some 20) else (if x3.length < 17592186044416 then (tree_Check.L0 x0 (x3 ++ [wrap64 ((wrap64 (x4 + 1)) + x191002)]) x24 x25 (wrap64 (x26 + 1))) else (none))))) else (none)) else (none)) else (if x191002 < 0 then (some 20) else (if x191002 ≥ (wrap64 ((x0.length : Int) - x4)) then (some 20) else (if (x3.length : Int) ≥ 8 then (some 20) else (if x3.length < 17592186044416 then (tree_Check.L0 x0 (x3 ++ [wrap64 ((wrap64 (x4 + 1)) + x191002)]) x24 x25 (wrap64 (x26 + 1))) else (none))))) := by
  apply IsLim.step (tree_Check.isJ3 x0 x3 x4 x24 x25 x26 x191000 x191001 x191002).mono
  case hf =>
    repeat'
      try intro _
      first
      | (with_reducible exact tree_Check.isL0 _ _ _ _ _)
      | (with_reducible apply IsLim.ite)
      | (with_reducible apply IsLim.bind)
      | (apply IsLim.cst; intro _; exact rfl)
  case h => intro k; rw [tree_Check.j3]
theorem tree_Check.L1_eq (x0 : List (S40)) (x3 : List Int) (x4 : Int) (x24 : List (S40)) (x25 : Int) (x26 : Int) (x191000 : ByteArray) (x191001 : List (S44)) (x191002 : Int) : tree_Check.L1 x0 x3 x4 x24 x25 x26 x191000 x191001 x191002 = if (x3.length : Int) > 0 then (if 0 ≤ (wrap64 ((x3.length : Int) - 1)) then (if (wrap64 ((x3.length : Int) - 1)) < (x3.length : Int) then (if (rd x3 (wrap64 ((x3.length : Int) - 1))) ≤ x4 then (if (wrap64 ((x3.length : Int) - 1)) ≤ (x3.length : Int) then (tree_Check.L1 x0 (x3.take ((wrap64 ((x3.length : Int) - 1)) : Int).toNat) x4 x24 x25 x26 x191000 x191001 x191002) else (none)) else (tree_Check.J3 x0 x3 x4 x24 x25 x26 x191000 x191001 x191002)) else (none)) else (none)) else (tree_Check.J3 x0 x3 x4 x24 x25 x26 x191000 x191001 x191002) := by
  apply IsLim.step (tree_Check.isL1 x0 x3 x4 x24 x25 x26 x191000 x191001 x191002).mono
  case hf =>
    repeat'
      try intro _
      first
      | (with_reducible exact tree_Check.isJ3 _ _ _ _ _ _ _ _ _)
      | (with_reducible exact tree_Check.isL1 _ _ _ _ _ _ _ _ _)
      | (with_reducible apply IsLim.ite)
      | (with_reducible apply IsLim.bind)
      | (apply IsLim.cst; intro _; exact rfl)
  case h => intro k; rw [tree_Check.l1]
theorem tree_Check.F_eq (l0 : List (S40)) : tree_Check.F l0 = if (l0.length : Int) = 0 then (tree_Check.J0 l0 true) else (if 0 < (l0.length : Int) then (if ((rd_T40 l0 0).f2) = (wrap64 ((l0.length : Int) - 1)) then ((api_Comp_34.F l0 ()).bind fun t188 => (tree_Check.J0 l0 t188)) else (tree_Check.J0 l0 true)) else (none)) := by
  apply IsLim.via
  case hf =>
    repeat'
      try intro _
      first
      | (with_reducible exact api_Comp_34.isF _ _)
      | (with_reducible exact tree_Check.isJ0 _ _)
      | (with_reducible apply IsLim.ite)
      | (with_reducible apply IsLim.bind)
      | (apply IsLim.cst; intro _; exact rfl)
  case h => exact fun _ => rfl
end Go.Proofs.YtdgeokpbedllaaaDoor.PTre

/- Printed functions of the family Tre without a bound on their rounds, and the equation that each meets. No condition. -/
import Derived.Test.YtdgeokpbedllaaaDoorBase
import Derived.Test.YtdgeokpbedllaaaDoorPTrex5
import Derived.Test.YtdgeokpbedllaaaDoorETrex3
import Derived.Test.YtdgeokpbedllaaaDoorETrex4
namespace Go.Proofs.YtdgeokpbedllaaaDoor.PTre
open Go.RowKit Go.Proofs.YtdgeokpbedllaaaDoorW.PrintWords Go.Proofs.YtdgeokpbedllaaaDoorW.PrintLast Go.Proofs.YtdgeokpbedllaaaDoor.Base
set_option linter.unusedVariables false
noncomputable def r16_Tree.J0 (x0 : List (S40)) (x20 : Bool) : Option (Bool) := lim fun k => r16_Tree.j0 k x0 x20
noncomputable def r16_Tree.L0 (x0 : List (S40)) (x3 : List Int) (x4 : Int) : Option (Bool) := lim fun k => r16_Tree.l0 k x0 x3 x4
noncomputable def r16_Tree.J3 (x0 : List (S40)) (x3 : List Int) (x4 : Int) : Option (Bool) := lim fun k => r16_Tree.j3 k x0 x3 x4
noncomputable def r16_Tree.J4 (x0 : List (S40)) (x3 : List Int) (x4 : Int) (x6 : Int) (x139000 : ByteArray) (x139001 : List (S44)) (x139002 : Int) : Option (Bool) := lim fun k => r16_Tree.j4 k x0 x3 x4 x6 x139000 x139001 x139002
noncomputable def r16_Tree.J5 (x0 : List (S40)) (x3 : List Int) (x4 : Int) (x82 : Bool) (x139000 : ByteArray) (x139001 : List (S44)) (x139002 : Int) : Option (Bool) := lim fun k => r16_Tree.j5 k x0 x3 x4 x82 x139000 x139001 x139002
noncomputable def r16_Tree.L2 (x0 : List (S40)) (x3 : List Int) (x4 : Int) (x7 : Int) (x139000 : ByteArray) (x139001 : List (S44)) (x139002 : Int) : Option (Bool) := lim fun k => r16_Tree.l2 k x0 x3 x4 x7 x139000 x139001 x139002
noncomputable def r16_Tree.L1 (x0 : List (S40)) (x3 : List Int) (x4 : Int) : Option (Bool) := lim fun k => r16_Tree.l1 k x0 x3 x4
noncomputable def r16_Tree.F (l0 : List (S40)) : Option (Bool) := lim fun k => r16_Tree.f k l0
theorem r16_Tree.isJ0 (x0 : List (S40)) (x20 : Bool) : IsLim (fun k => r16_Tree.j0 k x0 x20) (r16_Tree.J0 x0 x20) := ⟨fun k => (r16_Tree.mono_l k).1 x0 x20, rfl⟩
theorem r16_Tree.isL0 (x0 : List (S40)) (x3 : List Int) (x4 : Int) : IsLim (fun k => r16_Tree.l0 k x0 x3 x4) (r16_Tree.L0 x0 x3 x4) := ⟨fun k => (r16_Tree.mono_l k).2.1 x0 x3 x4, rfl⟩
theorem r16_Tree.isJ3 (x0 : List (S40)) (x3 : List Int) (x4 : Int) : IsLim (fun k => r16_Tree.j3 k x0 x3 x4) (r16_Tree.J3 x0 x3 x4) := ⟨fun k => (r16_Tree.mono_l k).2.2.1 x0 x3 x4, rfl⟩
theorem r16_Tree.isJ4 (x0 : List (S40)) (x3 : List Int) (x4 : Int) (x6 : Int) (x139000 : ByteArray) (x139001 : List (S44)) (x139002 : Int) : IsLim (fun k => r16_Tree.j4 k x0 x3 x4 x6 x139000 x139001 x139002) (r16_Tree.J4 x0 x3 x4 x6 x139000 x139001 x139002) := ⟨fun k => (r16_Tree.mono_l k).2.2.2.1 x0 x3 x4 x6 x139000 x139001 x139002, rfl⟩
theorem r16_Tree.isJ5 (x0 : List (S40)) (x3 : List Int) (x4 : Int) (x82 : Bool) (x139000 : ByteArray) (x139001 : List (S44)) (x139002 : Int) : IsLim (fun k => r16_Tree.j5 k x0 x3 x4 x82 x139000 x139001 x139002) (r16_Tree.J5 x0 x3 x4 x82 x139000 x139001 x139002) := ⟨fun k => (r16_Tree.mono_l k).2.2.2.2.1 x0 x3 x4 x82 x139000 x139001 x139002, rfl⟩
theorem r16_Tree.isL2 (x0 : List (S40)) (x3 : List Int) (x4 : Int) (x7 : Int) (x139000 : ByteArray) (x139001 : List (S44)) (x139002 : Int) : IsLim (fun k => r16_Tree.l2 k x0 x3 x4 x7 x139000 x139001 x139002) (r16_Tree.L2 x0 x3 x4 x7 x139000 x139001 x139002) := ⟨fun k => (r16_Tree.mono_l k).2.2.2.2.2.1 x0 x3 x4 x7 x139000 x139001 x139002, rfl⟩
theorem r16_Tree.isL1 (x0 : List (S40)) (x3 : List Int) (x4 : Int) : IsLim (fun k => r16_Tree.l1 k x0 x3 x4) (r16_Tree.L1 x0 x3 x4) := ⟨fun k => (r16_Tree.mono_l k).2.2.2.2.2.2 x0 x3 x4, rfl⟩
theorem r16_Tree.isF (l0 : List (S40)) : IsLim (fun k => r16_Tree.f k l0) (r16_Tree.F l0) := ⟨fun k => r16_Tree.mono l0 k, rfl⟩
theorem r16_Tree.J0_eq (x0 : List (S40)) (x20 : Bool) : r16_Tree.J0 x0 x20 = if x20 = true then (some false) else (r16_Tree.L0 x0 ([] : List Int) 0) := by
  apply IsLim.step (r16_Tree.isJ0 x0 x20).mono
  case hf =>
    repeat'
      try intro _
      first
      | (with_reducible exact r16_Tree.isL0 _ _ _)
      | (with_reducible apply IsLim.ite)
      | (with_reducible apply IsLim.bind)
      | (apply IsLim.cst; intro _; exact rfl)
  case h => intro k; rw [r16_Tree.j0]
theorem r16_Tree.L0_eq (x0 : List (S40)) (x3 : List Int) (x4 : Int) : r16_Tree.L0 x0 x3 x4 = if x4 < (x0.length : Int) then (r16_Tree.L1 x0 x3 x4) else (some true) := by
  apply IsLim.step (r16_Tree.isL0 x0 x3 x4).mono
  case hf =>
    repeat'
      try intro _
      first
      | (with_reducible exact r16_Tree.isL1 _ _ _)
      | (with_reducible apply IsLim.ite)
      | (with_reducible apply IsLim.bind)
      | (apply IsLim.cst; intro _; exact rfl)
  case h => intro k; rw [r16_Tree.l0]
theorem r16_Tree.J3_eq (x0 : List (S40)) (x3 : List Int) (x4 : Int) : r16_Tree.J3 x0 x3 x4 = if 0 ≤ x4 then (if x4 < (x0.length : Int) then (if (x3.length : Int) > 0 then (if 0 ≤ (wrap64 ((x3.length : Int) - 1)) then (if (wrap64 ((x3.length : Int) - 1)) < (x3.length : Int) then (r16_Tree.J4 x0 x3 x4 (rd x3 (wrap64 ((x3.length : Int) - 1))) ((rd_T40 x0 x4).f0) ((rd_T40 x0 x4).f1) ((rd_T40 x0 x4).f2)) else (none)) else (none)) else (r16_Tree.J4 x0 x3 x4 (x0.length : Int) ((rd_T40 x0 x4).f0) ((rd_T40 x0 x4).f1) ((rd_T40 x0 x4).f2))) else (none)) else (none) := by
  apply IsLim.step (r16_Tree.isJ3 x0 x3 x4).mono
  case hf =>
    repeat'
      try intro _
      first
      | (with_reducible exact r16_Tree.isJ4 _ _ _ _ _ _ _)
      | (with_reducible apply IsLim.ite)
      | (with_reducible apply IsLim.bind)
      | (apply IsLim.cst; intro _; exact rfl)
  case h => intro k; rw [r16_Tree.j3]
theorem r16_Tree.J4_eq (x0 : List (S40)) (x3 : List Int) (x4 : Int) (x6 : Int) (x139000 : ByteArray) (x139001 : List (S44)) (x139002 : Int) : r16_Tree.J4 x0 x3 x4 x6 x139000 x139001 x139002 = (r16_Name.F x139000).bind fun t140 => (if t140 = true then (if x139002 < 0 then (r16_Tree.J5 x0 x3 x4 true x139000 x139001 x139002) else (if x139002 > (wrap64 ((wrap64 (x6 - x4)) - 1)) then (r16_Tree.J5 x0 x3 x4 true x139000 x139001 x139002) else (r16_Tree.J5 x0 x3 x4 (decide ((x3.length : Int) ≥ 8)) x139000 x139001 x139002))) else (r16_Tree.J5 x0 x3 x4 true x139000 x139001 x139002)) := by
  apply IsLim.step (r16_Tree.isJ4 x0 x3 x4 x6 x139000 x139001 x139002).mono
  case hf =>
    repeat'
      try intro _
      first
      | (with_reducible exact r16_Name.isF _)
      | (with_reducible exact r16_Tree.isJ5 _ _ _ _ _ _ _)
      | (with_reducible apply IsLim.ite)
      | (with_reducible apply IsLim.bind)
      | (apply IsLim.cst; intro _; exact rfl)
  case h => intro k; rw [r16_Tree.j4]
theorem r16_Tree.J5_eq (x0 : List (S40)) (x3 : List Int) (x4 : Int) (x82 : Bool) (x139000 : ByteArray) (x139001 : List (S44)) (x139002 : Int) : r16_Tree.J5 x0 x3 x4 x82 x139000 x139001 x139002 = if x82 = true then (some false) else (r16_Tree.L2 x0 x3 x4 0 x139000 x139001 x139002) := by
  apply IsLim.step (r16_Tree.isJ5 x0 x3 x4 x82 x139000 x139001 x139002).mono
  case hf =>
    repeat'
      try intro _
      first
      | (with_reducible exact r16_Tree.isL2 _ _ _ _ _ _ _)
      | (with_reducible apply IsLim.ite)
      | (with_reducible apply IsLim.bind)
      | (apply IsLim.cst; intro _; exact rfl)
  case h => intro k; rw [r16_Tree.j5]
theorem r16_Tree.L2_eq (x0 : List (S40)) (x3 : List Int) (x4 : Int) (x7 : Int) (x139000 : ByteArray) (x139001 : List (S44)) (x139002 : Int) : r16_Tree.L2 x0 x3 x4 x7 x139000 x139001 x139002 = if x7 < (x139001.length : Int) then (if 0 ≤ x7 then ((r16_Line.F ((rd_T44 x139001 x7).f0) ((rd_T44 x139001 x7).f1) ((rd_T44 x139001 x7).f2)).bind fun t145 => (if t145 = true then ((r16_Alike.F ((rd_T44 x139001 x7).f0) (⟨#[66, 69, 71, 73, 78]⟩ : ByteArray)).bind fun t147 => (if t147 = true then (some false) else ((r16_Alike.F ((rd_T44 x139001 x7).f0) (⟨#[69, 78, 68]⟩ : ByteArray)).bind fun t149 => (if t149 = true then (some false) else (r16_Tree.L2 x0 x3 x4 (wrap64 (x7 + 1)) x139000 x139001 x139002))))) else (some false))) else (none)) else (if x3.length < 17592186044416 then (r16_Tree.L0 x0 (x3 ++ [wrap64 ((wrap64 (x4 + 1)) + x139002)]) (wrap64 (x4 + 1))) else (none)) := by
  apply IsLim.step (r16_Tree.isL2 x0 x3 x4 x7 x139000 x139001 x139002).mono
  case hf =>
    repeat'
      try intro _
      first
      | (with_reducible exact r16_Alike.isF _ _)
      | (with_reducible exact r16_Line.isF _ _ _)
      | (with_reducible exact r16_Tree.isL0 _ _ _)
      | (with_reducible exact r16_Tree.isL2 _ _ _ _ _ _ _)
      | (with_reducible apply IsLim.ite)
      | (with_reducible apply IsLim.bind)
      | (apply IsLim.cst; intro _; exact rfl)
  case h => intro k; rw [r16_Tree.l2]
theorem r16_Tree.L1_eq (x0 : List (S40)) (x3 : List Int) (x4 : Int) : r16_Tree.L1 x0 x3 x4 = if (x3.length : Int) > 0 then (if 0 ≤ (wrap64 ((x3.length : Int) - 1)) then (if (wrap64 ((x3.length : Int) - 1)) < (x3.length : Int) then (if (rd x3 (wrap64 ((x3.length : Int) - 1))) = x4 then (if (wrap64 ((x3.length : Int) - 1)) ≤ (x3.length : Int) then (r16_Tree.L1 x0 (x3.take ((wrap64 ((x3.length : Int) - 1)) : Int).toNat) x4) else (none)) else (r16_Tree.J3 x0 x3 x4)) else (none)) else (none)) else (r16_Tree.J3 x0 x3 x4) := by
  apply IsLim.step (r16_Tree.isL1 x0 x3 x4).mono
  case hf =>
    repeat'
      try intro _
      first
      | (with_reducible exact r16_Tree.isJ3 _ _ _)
      | (with_reducible exact r16_Tree.isL1 _ _ _)
      | (with_reducible apply IsLim.ite)
      | (with_reducible apply IsLim.bind)
      | (apply IsLim.cst; intro _; exact rfl)
  case h => intro k; rw [r16_Tree.l1]
theorem r16_Tree.F_eq (l0 : List (S40)) : r16_Tree.F l0 = if (l0.length : Int) = 0 then (r16_Tree.J0 l0 true) else (if 0 < (l0.length : Int) then (r16_Tree.J0 l0 (((rd_T40 l0 0).f2) != (wrap64 ((l0.length : Int) - 1)))) else (none)) := by
  apply IsLim.via
  case hf =>
    repeat'
      try intro _
      first
      | (with_reducible exact r16_Tree.isJ0 _ _)
      | (with_reducible apply IsLim.ite)
      | (with_reducible apply IsLim.bind)
      | (apply IsLim.cst; intro _; exact rfl)
  case h => exact fun _ => rfl
end Go.Proofs.YtdgeokpbedllaaaDoor.PTre

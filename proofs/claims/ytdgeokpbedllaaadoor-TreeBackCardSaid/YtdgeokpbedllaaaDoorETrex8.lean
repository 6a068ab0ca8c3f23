/- Printed functions of the family Tre without a bound on their rounds, and the equation that each meets. No condition. -/
import Derived.Test.YtdgeokpbedllaaaDoorBase
import Derived.Test.YtdgeokpbedllaaaDoorPTrex8
import Derived.Test.YtdgeokpbedllaaaDoorETrex7
namespace Go.Proofs.YtdgeokpbedllaaaDoor.PTre
open Go.RowKit Go.Proofs.YtdgeokpbedllaaaDoorW.PrintWords Go.Proofs.YtdgeokpbedllaaaDoorW.PrintLast Go.Proofs.YtdgeokpbedllaaaDoor.Base
set_option linter.unusedVariables false
noncomputable def api_Line_80.L0 (x0 : List (S44)) (x7 : Int) (x8 : Int) : Option (Int) := lim fun k => api_Line_80.l0 k x0 x7 x8
noncomputable def api_Line_80.F (l0 : List (S44)) (a1 : Unit) : Option (Int) := lim fun k => api_Line_80.f k l0 a1
theorem api_Line_80.isL0 (x0 : List (S44)) (x7 : Int) (x8 : Int) : IsLim (fun k => api_Line_80.l0 k x0 x7 x8) (api_Line_80.L0 x0 x7 x8) := ⟨fun k => (api_Line_80.mono_l k) x0 x7 x8, rfl⟩
theorem api_Line_80.isF (l0 : List (S44)) (a1 : Unit) : IsLim (fun k => api_Line_80.f k l0 a1) (api_Line_80.F l0 a1) := ⟨fun k => api_Line_80.mono l0 a1 k, rfl⟩
theorem api_Line_80.L0_eq (x0 : List (S44)) (x7 : Int) (x8 : Int) : api_Line_80.L0 x0 x7 x8 = if x8 < x7 then (if 0 ≤ x8 then (if x8 < (x0.length : Int) then ((tree_right_1.F ((rd_T44 x0 x8).f0) ((rd_T44 x0 x8).f1) ((rd_T44 x0 x8).f2)).bind fun t176 => (if t176 = true then (some x8) else (api_Line_80.L0 x0 x7 (wrap64 (x8 + 1))))) else (none)) else (none)) else (some (-1)) := by
  apply IsLim.step (api_Line_80.isL0 x0 x7 x8).mono
  case hf =>
    repeat'
      try intro _
      first
      | (with_reducible exact api_Line_80.isL0 _ _ _)
      | (with_reducible exact tree_right_1.isF _ _ _)
      | (with_reducible apply IsLim.ite)
      | (with_reducible apply IsLim.bind)
      | (apply IsLim.cst; intro _; exact rfl)
  case h => intro k; rw [api_Line_80.l0]
theorem api_Line_80.F_eq (l0 : List (S44)) (a1 : Unit) : api_Line_80.F l0 a1 = api_Line_80.L0 l0 (l0.length : Int) 0 := by
  apply IsLim.via
  case hf =>
    repeat'
      try intro _
      first
      | (with_reducible exact api_Line_80.isL0 _ _ _)
      | (with_reducible apply IsLim.ite)
      | (with_reducible apply IsLim.bind)
      | (apply IsLim.cst; intro _; exact rfl)
  case h => exact fun _ => rfl
noncomputable def api_Line_59.F (l0 : List (S44)) (a1 : Unit) : Option (Bool) := lim fun k => api_Line_59.f k l0 a1
theorem api_Line_59.isF (l0 : List (S44)) (a1 : Unit) : IsLim (fun k => api_Line_59.f k l0 a1) (api_Line_59.F l0 a1) := ⟨fun k => api_Line_59.mono l0 a1 k, rfl⟩
theorem api_Line_59.F_eq (l0 : List (S44)) (a1 : Unit) : api_Line_59.F l0 a1 = (api_Line_80.F l0 a1).bind fun t177 => (some (decide (t177 ≥ 0))) := by
  apply IsLim.via
  case hf =>
    repeat'
      try intro _
      first
      | (with_reducible exact api_Line_80.isF _ _)
      | (with_reducible apply IsLim.ite)
      | (with_reducible apply IsLim.bind)
      | (apply IsLim.cst; intro _; exact rfl)
  case h => exact fun _ => rfl
noncomputable def tree_right.F (a0_0 : ByteArray) (l0_1 : List (S44)) (a0_2 : Int) : Option (Bool) := lim fun k => tree_right.f k a0_0 l0_1 a0_2
theorem tree_right.isF (a0_0 : ByteArray) (l0_1 : List (S44)) (a0_2 : Int) : IsLim (fun k => tree_right.f k a0_0 l0_1 a0_2) (tree_right.F a0_0 l0_1 a0_2) := ⟨fun k => tree_right.mono a0_0 l0_1 a0_2 k, rfl⟩
theorem tree_right.F_eq (a0_0 : ByteArray) (l0_1 : List (S44)) (a0_2 : Int) : tree_right.F a0_0 l0_1 a0_2 = (line_Check.F a0_0 ([] : List (S70)) (⟨#[]⟩ : ByteArray)).bind fun t180 => (if t180 = 0 then ((api_Line_59.F l0_1 ()).bind fun t181 => (some (!t181))) else (some false)) := by
  apply IsLim.via
  case hf =>
    repeat'
      try intro _
      first
      | (with_reducible exact api_Line_59.isF _ _)
      | (with_reducible exact line_Check.isF _ _ _)
      | (with_reducible apply IsLim.ite)
      | (with_reducible apply IsLim.bind)
      | (apply IsLim.cst; intro _; exact rfl)
  case h => exact fun _ => rfl
noncomputable def tree_Check_1.F (a0_0 : ByteArray) (l0_1 : List (S44)) (a0_2 : Int) : Option (Bool) := lim fun k => tree_Check_1.f k a0_0 l0_1 a0_2
theorem tree_Check_1.isF (a0_0 : ByteArray) (l0_1 : List (S44)) (a0_2 : Int) : IsLim (fun k => tree_Check_1.f k a0_0 l0_1 a0_2) (tree_Check_1.F a0_0 l0_1 a0_2) := ⟨fun k => tree_Check_1.mono a0_0 l0_1 a0_2 k, rfl⟩
theorem tree_Check_1.F_eq (a0_0 : ByteArray) (l0_1 : List (S44)) (a0_2 : Int) : tree_Check_1.F a0_0 l0_1 a0_2 = (tree_right.F a0_0 l0_1 a0_2).bind fun t183 => (some (!t183)) := by
  apply IsLim.via
  case hf =>
    repeat'
      try intro _
      first
      | (with_reducible exact tree_right.isF _ _ _)
      | (with_reducible apply IsLim.ite)
      | (with_reducible apply IsLim.bind)
      | (apply IsLim.cst; intro _; exact rfl)
  case h => exact fun _ => rfl
noncomputable def api_Comp_58.L0 (x0 : List (S40)) (x7 : Int) (x8 : Int) : Option (Int) := lim fun k => api_Comp_58.l0 k x0 x7 x8
noncomputable def api_Comp_58.F (l0 : List (S40)) (a1 : Unit) : Option (Int) := lim fun k => api_Comp_58.f k l0 a1
theorem api_Comp_58.isL0 (x0 : List (S40)) (x7 : Int) (x8 : Int) : IsLim (fun k => api_Comp_58.l0 k x0 x7 x8) (api_Comp_58.L0 x0 x7 x8) := ⟨fun k => (api_Comp_58.mono_l k) x0 x7 x8, rfl⟩
theorem api_Comp_58.isF (l0 : List (S40)) (a1 : Unit) : IsLim (fun k => api_Comp_58.f k l0 a1) (api_Comp_58.F l0 a1) := ⟨fun k => api_Comp_58.mono l0 a1 k, rfl⟩
theorem api_Comp_58.L0_eq (x0 : List (S40)) (x7 : Int) (x8 : Int) : api_Comp_58.L0 x0 x7 x8 = if x8 < x7 then (if 0 ≤ x8 then (if x8 < (x0.length : Int) then ((tree_Check_1.F ((rd_T40 x0 x8).f0) ((rd_T40 x0 x8).f1) ((rd_T40 x0 x8).f2)).bind fun t185 => (if t185 = true then (some x8) else (api_Comp_58.L0 x0 x7 (wrap64 (x8 + 1))))) else (none)) else (none)) else (some (-1)) := by
  apply IsLim.step (api_Comp_58.isL0 x0 x7 x8).mono
  case hf =>
    repeat'
      try intro _
      first
      | (with_reducible exact api_Comp_58.isL0 _ _ _)
      | (with_reducible exact tree_Check_1.isF _ _ _)
      | (with_reducible apply IsLim.ite)
      | (with_reducible apply IsLim.bind)
      | (apply IsLim.cst; intro _; exact rfl)
  case h => intro k; rw [api_Comp_58.l0]
theorem api_Comp_58.F_eq (l0 : List (S40)) (a1 : Unit) : api_Comp_58.F l0 a1 = api_Comp_58.L0 l0 (l0.length : Int) 0 := by
  apply IsLim.via
  case hf =>
    repeat'
      try intro _
      first
      | (with_reducible exact api_Comp_58.isL0 _ _ _)
      | (with_reducible apply IsLim.ite)
      | (with_reducible apply IsLim.bind)
      | (apply IsLim.cst; intro _; exact rfl)
  case h => exact fun _ => rfl
noncomputable def api_Comp_34.F (l0 : List (S40)) (a1 : Unit) : Option (Bool) := lim fun k => api_Comp_34.f k l0 a1
theorem api_Comp_34.isF (l0 : List (S40)) (a1 : Unit) : IsLim (fun k => api_Comp_34.f k l0 a1) (api_Comp_34.F l0 a1) := ⟨fun k => api_Comp_34.mono l0 a1 k, rfl⟩
theorem api_Comp_34.F_eq (l0 : List (S40)) (a1 : Unit) : api_Comp_34.F l0 a1 = (api_Comp_58.F l0 a1).bind fun t186 => (some (decide (t186 ≥ 0))) := by
  apply IsLim.via
  case hf =>
    repeat'
      try intro _
      first
      | (with_reducible exact api_Comp_58.isF _ _)
      | (with_reducible apply IsLim.ite)
      | (with_reducible apply IsLim.bind)
      | (apply IsLim.cst; intro _; exact rfl)
  case h => exact fun _ => rfl
end Go.Proofs.YtdgeokpbedllaaaDoor.PTre

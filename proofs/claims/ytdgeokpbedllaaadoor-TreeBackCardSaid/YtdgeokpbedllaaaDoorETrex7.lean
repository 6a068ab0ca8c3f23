/- Printed functions of the family Tre without a bound on their rounds, and the equation that each meets. No condition. -/
import Derived.Test.YtdgeokpbedllaaaDoorBase
import Derived.Test.YtdgeokpbedllaaaDoorPTrex7
import Derived.Test.YtdgeokpbedllaaaDoorETrex6
namespace Go.Proofs.YtdgeokpbedllaaaDoor.PTre
open Go.RowKit Go.Proofs.YtdgeokpbedllaaaDoorW.PrintWords Go.Proofs.YtdgeokpbedllaaaDoorW.PrintLast Go.Proofs.YtdgeokpbedllaaaDoor.Base
set_option linter.unusedVariables false
noncomputable def slices_IndexFunc_string_string.L0 (x0 : List ByteArray) (x7 : Int) (x8 : Int) : Option (Int) := lim fun k => slices_IndexFunc_string_string.l0 k x0 x7 x8
noncomputable def slices_IndexFunc_string_string.F (l0 : List ByteArray) (a1 : Unit) : Option (Int) := lim fun k => slices_IndexFunc_string_string.f k l0 a1
theorem slices_IndexFunc_string_string.isL0 (x0 : List ByteArray) (x7 : Int) (x8 : Int) : IsLim (fun k => slices_IndexFunc_string_string.l0 k x0 x7 x8) (slices_IndexFunc_string_string.L0 x0 x7 x8) := ⟨fun k => (slices_IndexFunc_string_string.mono_l k) x0 x7 x8, rfl⟩
theorem slices_IndexFunc_string_string.isF (l0 : List ByteArray) (a1 : Unit) : IsLim (fun k => slices_IndexFunc_string_string.f k l0 a1) (slices_IndexFunc_string_string.F l0 a1) := ⟨fun k => slices_IndexFunc_string_string.mono l0 a1 k, rfl⟩
theorem slices_IndexFunc_string_string.L0_eq (x0 : List ByteArray) (x7 : Int) (x8 : Int) : slices_IndexFunc_string_string.L0 x0 x7 x8 = if x8 < x7 then (if 0 ≤ x8 then (if x8 < (x0.length : Int) then ((line_param_1.F (rdOf ByteArray.empty x0 x8)).bind fun t154 => (if t154 = true then (some x8) else (slices_IndexFunc_string_string.L0 x0 x7 (wrap64 (x8 + 1))))) else (none)) else (none)) else (some (-1)) := by
  apply IsLim.step (slices_IndexFunc_string_string.isL0 x0 x7 x8).mono
  case hf =>
    repeat'
      try intro _
      first
      | (with_reducible exact line_param_1.isF _)
      | (with_reducible exact slices_IndexFunc_string_string.isL0 _ _ _)
      | (with_reducible apply IsLim.ite)
      | (with_reducible apply IsLim.bind)
      | (apply IsLim.cst; intro _; exact rfl)
  case h => intro k; rw [slices_IndexFunc_string_string.l0]
theorem slices_IndexFunc_string_string.F_eq (l0 : List ByteArray) (a1 : Unit) : slices_IndexFunc_string_string.F l0 a1 = slices_IndexFunc_string_string.L0 l0 (l0.length : Int) 0 := by
  apply IsLim.via
  case hf =>
    repeat'
      try intro _
      first
      | (with_reducible exact slices_IndexFunc_string_string.isL0 _ _ _)
      | (with_reducible apply IsLim.ite)
      | (with_reducible apply IsLim.bind)
      | (apply IsLim.cst; intro _; exact rfl)
  case h => exact fun _ => rfl
noncomputable def slices_ContainsFunc_string_string.F (l0 : List ByteArray) (a1 : Unit) : Option (Bool) := lim fun k => slices_ContainsFunc_string_string.f k l0 a1
theorem slices_ContainsFunc_string_string.isF (l0 : List ByteArray) (a1 : Unit) : IsLim (fun k => slices_ContainsFunc_string_string.f k l0 a1) (slices_ContainsFunc_string_string.F l0 a1) := ⟨fun k => slices_ContainsFunc_string_string.mono l0 a1 k, rfl⟩
theorem slices_ContainsFunc_string_string.F_eq (l0 : List ByteArray) (a1 : Unit) : slices_ContainsFunc_string_string.F l0 a1 = (slices_IndexFunc_string_string.F l0 a1).bind fun t155 => (some (decide (t155 ≥ 0))) := by
  apply IsLim.via
  case hf =>
    repeat'
      try intro _
      first
      | (with_reducible exact slices_IndexFunc_string_string.isF _ _)
      | (with_reducible apply IsLim.ite)
      | (with_reducible apply IsLim.bind)
      | (apply IsLim.cst; intro _; exact rfl)
  case h => exact fun _ => rfl
noncomputable def line_param.F (a0_0 : ByteArray) (l0_1 : List ByteArray) : Option (Bool) := lim fun k => line_param.f k a0_0 l0_1
theorem line_param.isF (a0_0 : ByteArray) (l0_1 : List ByteArray) : IsLim (fun k => line_param.f k a0_0 l0_1) (line_param.F a0_0 l0_1) := ⟨fun k => line_param.mono a0_0 l0_1 k, rfl⟩
theorem line_param.F_eq (a0_0 : ByteArray) (l0_1 : List ByteArray) : line_param.F a0_0 l0_1 = (line_name.F a0_0).bind fun t157 => (if t157 = true then (if (l0_1.length : Int) > 0 then ((slices_ContainsFunc_string_string.F l0_1 ()).bind fun t158 => (some (!t158))) else (some false)) else (some false)) := by
  apply IsLim.via
  case hf =>
    repeat'
      try intro _
      first
      | (with_reducible exact line_name.isF _)
      | (with_reducible exact slices_ContainsFunc_string_string.isF _ _)
      | (with_reducible apply IsLim.ite)
      | (with_reducible apply IsLim.bind)
      | (apply IsLim.cst; intro _; exact rfl)
  case h => exact fun _ => rfl
noncomputable def line_Check_1.F (a0_0 : ByteArray) (l0_1 : List ByteArray) : Option (Bool) := lim fun k => line_Check_1.f k a0_0 l0_1
theorem line_Check_1.isF (a0_0 : ByteArray) (l0_1 : List ByteArray) : IsLim (fun k => line_Check_1.f k a0_0 l0_1) (line_Check_1.F a0_0 l0_1) := ⟨fun k => line_Check_1.mono a0_0 l0_1 k, rfl⟩
theorem line_Check_1.F_eq (a0_0 : ByteArray) (l0_1 : List ByteArray) : line_Check_1.F a0_0 l0_1 = (line_param.F a0_0 l0_1).bind fun t160 => (some (!t160)) := by
  apply IsLim.via
  case hf =>
    repeat'
      try intro _
      first
      | (with_reducible exact line_param.isF _ _)
      | (with_reducible apply IsLim.ite)
      | (with_reducible apply IsLim.bind)
      | (apply IsLim.cst; intro _; exact rfl)
  case h => exact fun _ => rfl
noncomputable def api_Param_91.L0 (x0 : List (S70)) (x7 : Int) (x8 : Int) : Option (Int) := lim fun k => api_Param_91.l0 k x0 x7 x8
noncomputable def api_Param_91.F (l0 : List (S70)) (a1 : Unit) : Option (Int) := lim fun k => api_Param_91.f k l0 a1
theorem api_Param_91.isL0 (x0 : List (S70)) (x7 : Int) (x8 : Int) : IsLim (fun k => api_Param_91.l0 k x0 x7 x8) (api_Param_91.L0 x0 x7 x8) := ⟨fun k => (api_Param_91.mono_l k) x0 x7 x8, rfl⟩
theorem api_Param_91.isF (l0 : List (S70)) (a1 : Unit) : IsLim (fun k => api_Param_91.f k l0 a1) (api_Param_91.F l0 a1) := ⟨fun k => api_Param_91.mono l0 a1 k, rfl⟩
theorem api_Param_91.L0_eq (x0 : List (S70)) (x7 : Int) (x8 : Int) : api_Param_91.L0 x0 x7 x8 = if x8 < x7 then (if 0 ≤ x8 then (if x8 < (x0.length : Int) then ((line_Check_1.F ((rd_T70 x0 x8).f0) ((rd_T70 x0 x8).f1)).bind fun t162 => (if t162 = true then (some x8) else (api_Param_91.L0 x0 x7 (wrap64 (x8 + 1))))) else (none)) else (none)) else (some (-1)) := by
  apply IsLim.step (api_Param_91.isL0 x0 x7 x8).mono
  case hf =>
    repeat'
      try intro _
      first
      | (with_reducible exact api_Param_91.isL0 _ _ _)
      | (with_reducible exact line_Check_1.isF _ _)
      | (with_reducible apply IsLim.ite)
      | (with_reducible apply IsLim.bind)
      | (apply IsLim.cst; intro _; exact rfl)
  case h => intro k; rw [api_Param_91.l0]
theorem api_Param_91.F_eq (l0 : List (S70)) (a1 : Unit) : api_Param_91.F l0 a1 = api_Param_91.L0 l0 (l0.length : Int) 0 := by
  apply IsLim.via
  case hf =>
    repeat'
      try intro _
      first
      | (with_reducible exact api_Param_91.isL0 _ _ _)
      | (with_reducible apply IsLim.ite)
      | (with_reducible apply IsLim.bind)
      | (apply IsLim.cst; intro _; exact rfl)
  case h => exact fun _ => rfl
noncomputable def api_Param_75.F (l0 : List (S70)) (a1 : Unit) : Option (Bool) := lim fun k => api_Param_75.f k l0 a1
theorem api_Param_75.isF (l0 : List (S70)) (a1 : Unit) : IsLim (fun k => api_Param_75.f k l0 a1) (api_Param_75.F l0 a1) := ⟨fun k => api_Param_75.mono l0 a1 k, rfl⟩
theorem api_Param_75.F_eq (l0 : List (S70)) (a1 : Unit) : api_Param_75.F l0 a1 = (api_Param_91.F l0 a1).bind fun t163 => (some (decide (t163 ≥ 0))) := by
  apply IsLim.via
  case hf =>
    repeat'
      try intro _
      first
      | (with_reducible exact api_Param_91.isF _ _)
      | (with_reducible apply IsLim.ite)
      | (with_reducible apply IsLim.bind)
      | (apply IsLim.cst; intro _; exact rfl)
  case h => exact fun _ => rfl
noncomputable def line_Check.F (a0_0 : ByteArray) (l0_1 : List (S70)) (a0_2 : ByteArray) : Option (Int) := lim fun k => line_Check.f k a0_0 l0_1 a0_2
theorem line_Check.isF (a0_0 : ByteArray) (l0_1 : List (S70)) (a0_2 : ByteArray) : IsLim (fun k => line_Check.f k a0_0 l0_1 a0_2) (line_Check.F a0_0 l0_1 a0_2) := ⟨fun k => line_Check.mono a0_0 l0_1 a0_2 k, rfl⟩
theorem line_Check.F_eq (a0_0 : ByteArray) (l0_1 : List (S70)) (a0_2 : ByteArray) : line_Check.F a0_0 l0_1 a0_2 = (line_name.F a0_0).bind fun t165 => (if t165 = true then ((line_plain.F a0_2).bind fun t166 => (if t166 = true then ((api_Param_75.F l0_1 ()).bind fun t167 => (if t167 = true then (some 18) else (some 0))) else (some 18))) else (some 18)) := by
  apply IsLim.via
  case hf =>
    repeat'
      try intro _
      first
      | (with_reducible exact api_Param_75.isF _ _)
      | (with_reducible exact line_name.isF _)
      | (with_reducible exact line_plain.isF _)
      | (with_reducible apply IsLim.ite)
      | (with_reducible apply IsLim.bind)
      | (apply IsLim.cst; intro _; exact rfl)
  case h => exact fun _ => rfl
noncomputable def line_Alike.L0 (x0 : ByteArray) (x1 : ByteArray) (x12 : Int) (x13 : Int) : Option (Bool) := lim fun k => line_Alike.l0 k x0 x1 x12 x13
noncomputable def line_Alike.F (a0 : ByteArray) (a1 : ByteArray) : Option (Bool) := lim fun k => line_Alike.f k a0 a1
theorem line_Alike.isL0 (x0 : ByteArray) (x1 : ByteArray) (x12 : Int) (x13 : Int) : IsLim (fun k => line_Alike.l0 k x0 x1 x12 x13) (line_Alike.L0 x0 x1 x12 x13) := ⟨fun k => (line_Alike.mono_l k) x0 x1 x12 x13, rfl⟩
theorem line_Alike.isF (a0 : ByteArray) (a1 : ByteArray) : IsLim (fun k => line_Alike.f k a0 a1) (line_Alike.F a0 a1) := ⟨fun k => line_Alike.mono a0 a1 k, rfl⟩
theorem line_Alike.L0_eq (x0 : ByteArray) (x1 : ByteArray) (x12 : Int) (x13 : Int) : line_Alike.L0 x0 x1 x12 x13 = if x13 < x12 then (if 0 ≤ x13 then (if x13 < (x0.size : Int) then ((line_small.f (bt x0 x13)).bind fun t168 => (if x13 < (x1.size : Int) then ((line_small.f (bt x1 x13)).bind fun t169 => (if t168 = t169 then (line_Alike.L0 x0 x1 x12 (wrap64 (x13 + 1))) else (some false))) else (none))) else (none)) else (none)) else (some true) := by
  apply IsLim.step (line_Alike.isL0 x0 x1 x12 x13).mono
  case hf =>
    repeat'
      try intro _
      first
      | (with_reducible exact line_Alike.isL0 _ _ _ _)
      | (with_reducible apply IsLim.ite)
      | (with_reducible apply IsLim.bind)
      | (apply IsLim.cst; intro _; exact rfl)
  case h => intro k; rw [line_Alike.l0]
theorem line_Alike.F_eq (a0 : ByteArray) (a1 : ByteArray) : line_Alike.F a0 a1 = if (a0.size : Int) = (a1.size : Int) then (line_Alike.L0 a0 a1 (a0.size : Int) 0) else (some false) := by
  apply IsLim.via
  case hf =>
    repeat'
      try intro _
      first
      | (with_reducible exact line_Alike.isL0 _ _ _ _)
      | (with_reducible apply IsLim.ite)
      | (with_reducible apply IsLim.bind)
      | (apply IsLim.cst; intro _; exact rfl)
  case h => exact fun _ => rfl
noncomputable def tree_marks.F (a0 : ByteArray) : Option (Bool) := lim fun k => tree_marks.f k a0
theorem tree_marks.isF (a0 : ByteArray) : IsLim (fun k => tree_marks.f k a0) (tree_marks.F a0) := ⟨fun k => tree_marks.mono a0 k, rfl⟩
theorem tree_marks.F_eq (a0 : ByteArray) : tree_marks.F a0 = (line_Alike.F a0 (⟨#[66, 69, 71, 73, 78]⟩ : ByteArray)).bind fun t170 => (if t170 = true then (some true) else ((line_Alike.F a0 (⟨#[69, 78, 68]⟩ : ByteArray)).bind fun t171 => (some t171))) := by
  apply IsLim.via
  case hf =>
    repeat'
      try intro _
      first
      | (with_reducible exact line_Alike.isF _ _)
      | (with_reducible apply IsLim.ite)
      | (with_reducible apply IsLim.bind)
      | (apply IsLim.cst; intro _; exact rfl)
  case h => exact fun _ => rfl
noncomputable def tree_right_1.F (a0_0 : ByteArray) (l0_1 : List (S70)) (a0_2 : ByteArray) : Option (Bool) := lim fun k => tree_right_1.f k a0_0 l0_1 a0_2
theorem tree_right_1.isF (a0_0 : ByteArray) (l0_1 : List (S70)) (a0_2 : ByteArray) : IsLim (fun k => tree_right_1.f k a0_0 l0_1 a0_2) (tree_right_1.F a0_0 l0_1 a0_2) := ⟨fun k => tree_right_1.mono a0_0 l0_1 a0_2 k, rfl⟩
theorem tree_right_1.F_eq (a0_0 : ByteArray) (l0_1 : List (S70)) (a0_2 : ByteArray) : tree_right_1.F a0_0 l0_1 a0_2 = (line_Check.F a0_0 l0_1 a0_2).bind fun t173 => (if t173 = 0 then ((tree_marks.F a0_0).bind fun t174 => (some t174)) else (some true)) := by
  apply IsLim.via
  case hf =>
    repeat'
      try intro _
      first
      | (with_reducible exact line_Check.isF _ _ _)
      | (with_reducible exact tree_marks.isF _)
      | (with_reducible apply IsLim.ite)
      | (with_reducible apply IsLim.bind)
      | (apply IsLim.cst; intro _; exact rfl)
  case h => exact fun _ => rfl
end Go.Proofs.YtdgeokpbedllaaaDoor.PTre

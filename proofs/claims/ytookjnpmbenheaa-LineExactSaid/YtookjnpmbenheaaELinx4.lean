-- A text of the kit's tools for this claim, its remarks left out.
import Derived.Test.YtookjnpmbenheaaBase
import Derived.Test.YtookjnpmbenheaaPLinx4
import Derived.Test.YtookjnpmbenheaaELinx3
namespace Go.Proofs.Ytookjnpmbenheaa.PLin
open Go.RowKit Go.Proofs.YtookjnpmbenheaaW.PrintWords Go.Proofs.YtookjnpmbenheaaW.PrintLast Go.Proofs.Ytookjnpmbenheaa.Base
set_option linter.unusedVariables false
noncomputable def slices_IndexFunc_string_string.L0 (x0 : List ByteArray) (x7 : Int) (x8 : Int) : Option (Int) := lim fun k => slices_IndexFunc_string_string.l0 k x0 x7 x8
noncomputable def slices_IndexFunc_string_string.F (l0 : List ByteArray) (a1 : Unit) : Option (Int) := lim fun k => slices_IndexFunc_string_string.f k l0 a1
theorem slices_IndexFunc_string_string.isL0 (x0 : List ByteArray) (x7 : Int) (x8 : Int) : IsLim (fun k => slices_IndexFunc_string_string.l0 k x0 x7 x8) (slices_IndexFunc_string_string.L0 x0 x7 x8) := ⟨fun k => (slices_IndexFunc_string_string.mono_l k) x0 x7 x8, rfl⟩
theorem slices_IndexFunc_string_string.isF (l0 : List ByteArray) (a1 : Unit) : IsLim (fun k => slices_IndexFunc_string_string.f k l0 a1) (slices_IndexFunc_string_string.F l0 a1) := ⟨fun k => slices_IndexFunc_string_string.mono l0 a1 k, rfl⟩
theorem slices_IndexFunc_string_string.L0_eq (x0 : List ByteArray) (x7 : Int) (x8 : Int) : slices_IndexFunc_string_string.L0 x0 x7 x8 = if x8 < x7 then (if 0 ≤ x8 then (if x8 < (x0.length : Int) then ((line_param_1.F (rdOf ByteArray.empty x0 x8)).bind fun t127 => (if t127 = true then (some x8) else (slices_IndexFunc_string_string.L0 x0 x7 (wrap64 (x8 + 1))))) else (none)) else (none)) else (some (-1)) := by
 apply IsLim.step (slices_IndexFunc_string_string.isL0 x0 x7 x8).mono
 case hf =>
  repeat'
   try intro _
   first
   | (with_reducible exact line_param_1.isF _)
   | (with_reducible exact slices_IndexFunc_string_string.isL0 _ _ _)
   | (with_reducible apply IsLim.ite)
   | (with_reducible apply IsLim.bind)
   | (apply IsLim.cst; intro _; exact rfl)
 case h => intro k; rw [slices_IndexFunc_string_string.l0]
theorem slices_IndexFunc_string_string.F_eq (l0 : List ByteArray) (a1 : Unit) : slices_IndexFunc_string_string.F l0 a1 = slices_IndexFunc_string_string.L0 l0 (l0.length : Int) 0 := by
 apply IsLim.via
 case hf =>
  repeat'
   try intro _
   first
   | (with_reducible exact slices_IndexFunc_string_string.isL0 _ _ _)
   | (with_reducible apply IsLim.ite)
   | (with_reducible apply IsLim.bind)
   | (apply IsLim.cst; intro _; exact rfl)
 case h => exact fun _ => rfl
noncomputable def slices_ContainsFunc_string_string.F (l0 : List ByteArray) (a1 : Unit) : Option (Bool) := lim fun k => slices_ContainsFunc_string_string.f k l0 a1
theorem slices_ContainsFunc_string_string.isF (l0 : List ByteArray) (a1 : Unit) : IsLim (fun k => slices_ContainsFunc_string_string.f k l0 a1) (slices_ContainsFunc_string_string.F l0 a1) := ⟨fun k => slices_ContainsFunc_string_string.mono l0 a1 k, rfl⟩
theorem slices_ContainsFunc_string_string.F_eq (l0 : List ByteArray) (a1 : Unit) : slices_ContainsFunc_string_string.F l0 a1 = (slices_IndexFunc_string_string.F l0 a1).bind fun t128 => (some (decide (t128 ≥ 0))) := by
 apply IsLim.via
 case hf =>
  repeat'
   try intro _
   first
   | (with_reducible exact slices_IndexFunc_string_string.isF _ _)
   | (with_reducible apply IsLim.ite)
   | (with_reducible apply IsLim.bind)
   | (apply IsLim.cst; intro _; exact rfl)
 case h => exact fun _ => rfl
noncomputable def line_param.F (a0_0 : ByteArray) (l0_1 : List ByteArray) : Option (Bool) := lim fun k => line_param.f k a0_0 l0_1
theorem line_param.isF (a0_0 : ByteArray) (l0_1 : List ByteArray) : IsLim (fun k => line_param.f k a0_0 l0_1) (line_param.F a0_0 l0_1) := ⟨fun k => line_param.mono a0_0 l0_1 k, rfl⟩
theorem line_param.F_eq (a0_0 : ByteArray) (l0_1 : List ByteArray) : line_param.F a0_0 l0_1 = (line_name.F a0_0).bind fun t130 => (if t130 = true then (if (l0_1.length : Int) > 0 then ((slices_ContainsFunc_string_string.F l0_1 ()).bind fun t131 => (some (!t131))) else (some false)) else (some false)) := by
 apply IsLim.via
 case hf =>
  repeat'
   try intro _
   first
   | (with_reducible exact line_name.isF _)
   | (with_reducible exact slices_ContainsFunc_string_string.isF _ _)
   | (with_reducible apply IsLim.ite)
   | (with_reducible apply IsLim.bind)
   | (apply IsLim.cst; intro _; exact rfl)
 case h => exact fun _ => rfl
noncomputable def line_Check_1.F (a0_0 : ByteArray) (l0_1 : List ByteArray) : Option (Bool) := lim fun k => line_Check_1.f k a0_0 l0_1
theorem line_Check_1.isF (a0_0 : ByteArray) (l0_1 : List ByteArray) : IsLim (fun k => line_Check_1.f k a0_0 l0_1) (line_Check_1.F a0_0 l0_1) := ⟨fun k => line_Check_1.mono a0_0 l0_1 k, rfl⟩
theorem line_Check_1.F_eq (a0_0 : ByteArray) (l0_1 : List ByteArray) : line_Check_1.F a0_0 l0_1 = (line_param.F a0_0 l0_1).bind fun t133 => (some (!t133)) := by
 apply IsLim.via
 case hf =>
  repeat'
   try intro _
   first
   | (with_reducible exact line_param.isF _ _)
   | (with_reducible apply IsLim.ite)
   | (with_reducible apply IsLim.bind)
   | (apply IsLim.cst; intro _; exact rfl)
 case h => exact fun _ => rfl
noncomputable def api_Param_43.L0 (x0 : List (S54)) (x7 : Int) (x8 : Int) : Option (Int) := lim fun k => api_Param_43.l0 k x0 x7 x8
noncomputable def api_Param_43.F (l0 : List (S54)) (a1 : Unit) : Option (Int) := lim fun k => api_Param_43.f k l0 a1
theorem api_Param_43.isL0 (x0 : List (S54)) (x7 : Int) (x8 : Int) : IsLim (fun k => api_Param_43.l0 k x0 x7 x8) (api_Param_43.L0 x0 x7 x8) := ⟨fun k => (api_Param_43.mono_l k) x0 x7 x8, rfl⟩
theorem api_Param_43.isF (l0 : List (S54)) (a1 : Unit) : IsLim (fun k => api_Param_43.f k l0 a1) (api_Param_43.F l0 a1) := ⟨fun k => api_Param_43.mono l0 a1 k, rfl⟩
theorem api_Param_43.L0_eq (x0 : List (S54)) (x7 : Int) (x8 : Int) : api_Param_43.L0 x0 x7 x8 = if x8 < x7 then (if 0 ≤ x8 then (if x8 < (x0.length : Int) then ((line_Check_1.F ((rd_T54 x0 x8).f0) ((rd_T54 x0 x8).f1)).bind fun t135 => (if t135 = true then (some x8) else (api_Param_43.L0 x0 x7 (wrap64 (x8 + 1))))) else (none)) else (none)) else (some (-1)) := by
 apply IsLim.step (api_Param_43.isL0 x0 x7 x8).mono
 case hf =>
  repeat'
   try intro _
   first
   | (with_reducible exact api_Param_43.isL0 _ _ _)
   | (with_reducible exact line_Check_1.isF _ _)
   | (with_reducible apply IsLim.ite)
   | (with_reducible apply IsLim.bind)
   | (apply IsLim.cst; intro _; exact rfl)
 case h => intro k; rw [api_Param_43.l0]
theorem api_Param_43.F_eq (l0 : List (S54)) (a1 : Unit) : api_Param_43.F l0 a1 = api_Param_43.L0 l0 (l0.length : Int) 0 := by
 apply IsLim.via
 case hf =>
  repeat'
   try intro _
   first
   | (with_reducible exact api_Param_43.isL0 _ _ _)
   | (with_reducible apply IsLim.ite)
   | (with_reducible apply IsLim.bind)
   | (apply IsLim.cst; intro _; exact rfl)
 case h => exact fun _ => rfl
noncomputable def api_Param_53.F (l0 : List (S54)) (a1 : Unit) : Option (Bool) := lim fun k => api_Param_53.f k l0 a1
theorem api_Param_53.isF (l0 : List (S54)) (a1 : Unit) : IsLim (fun k => api_Param_53.f k l0 a1) (api_Param_53.F l0 a1) := ⟨fun k => api_Param_53.mono l0 a1 k, rfl⟩
theorem api_Param_53.F_eq (l0 : List (S54)) (a1 : Unit) : api_Param_53.F l0 a1 = (api_Param_43.F l0 a1).bind fun t136 => (some (decide (t136 ≥ 0))) := by
 apply IsLim.via
 case hf =>
  repeat'
   try intro _
   first
   | (with_reducible exact api_Param_43.isF _ _)
   | (with_reducible apply IsLim.ite)
   | (with_reducible apply IsLim.bind)
   | (apply IsLim.cst; intro _; exact rfl)
 case h => exact fun _ => rfl
noncomputable def line_Check.F (a0_0 : ByteArray) (l0_1 : List (S54)) (a0_2 : ByteArray) : Option (Int) := lim fun k => line_Check.f k a0_0 l0_1 a0_2
theorem line_Check.isF (a0_0 : ByteArray) (l0_1 : List (S54)) (a0_2 : ByteArray) : IsLim (fun k => line_Check.f k a0_0 l0_1 a0_2) (line_Check.F a0_0 l0_1 a0_2) := ⟨fun k => line_Check.mono a0_0 l0_1 a0_2 k, rfl⟩
theorem line_Check.F_eq (a0_0 : ByteArray) (l0_1 : List (S54)) (a0_2 : ByteArray) : line_Check.F a0_0 l0_1 a0_2 = (line_name.F a0_0).bind fun t138 => (if t138 = true then ((line_plain.F a0_2).bind fun t139 => (if t139 = true then ((api_Param_53.F l0_1 ()).bind fun t140 => (if t140 = true then (some 18) else (some 0))) else (some 18))) else (some 18)) := by
 apply IsLim.via
 case hf =>
  repeat'
   try intro _
   first
   | (with_reducible exact api_Param_53.isF _ _)
   | (with_reducible exact line_name.isF _)
   | (with_reducible exact line_plain.isF _)
   | (with_reducible apply IsLim.ite)
   | (with_reducible apply IsLim.bind)
   | (apply IsLim.cst; intro _; exact rfl)
 case h => exact fun _ => rfl
noncomputable def line_until.L0 (x0 : ByteArray) (x1 : ByteArray) (x7 : Int) (x8 : Int) : Option (Int) := lim fun k => line_until.l0 k x0 x1 x7 x8
noncomputable def line_until.F (a0 : ByteArray) (a1 : ByteArray) : Option (Int) := lim fun k => line_until.f k a0 a1
theorem line_until.isL0 (x0 : ByteArray) (x1 : ByteArray) (x7 : Int) (x8 : Int) : IsLim (fun k => line_until.l0 k x0 x1 x7 x8) (line_until.L0 x0 x1 x7 x8) := ⟨fun k => (line_until.mono_l k) x0 x1 x7 x8, rfl⟩
theorem line_until.isF (a0 : ByteArray) (a1 : ByteArray) : IsLim (fun k => line_until.f k a0 a1) (line_until.F a0 a1) := ⟨fun k => line_until.mono a0 a1 k, rfl⟩
theorem line_until.L0_eq (x0 : ByteArray) (x1 : ByteArray) (x7 : Int) (x8 : Int) : line_until.L0 x0 x1 x7 x8 = if x8 < x7 then (if 0 ≤ x8 then (if x8 < (x0.size : Int) then ((strings_IndexByte.f x1 (bt x0 x8)).bind fun t141 => (if t141 ≥ 0 then (some x8) else (line_until.L0 x0 x1 x7 (wrap64 (x8 + 1))))) else (none)) else (none)) else (some (x0.size : Int)) := by
 apply IsLim.step (line_until.isL0 x0 x1 x7 x8).mono
 case hf =>
  repeat'
   try intro _
   first
   | (with_reducible exact line_until.isL0 _ _ _ _)
   | (with_reducible apply IsLim.ite)
   | (with_reducible apply IsLim.bind)
   | (apply IsLim.cst; intro _; exact rfl)
 case h => intro k; rw [line_until.l0]
theorem line_until.F_eq (a0 : ByteArray) (a1 : ByteArray) : line_until.F a0 a1 = line_until.L0 a0 a1 (a0.size : Int) 0 := by
 apply IsLim.via
 case hf =>
  repeat'
   try intro _
   first
   | (with_reducible exact line_until.isL0 _ _ _ _)
   | (with_reducible apply IsLim.ite)
   | (with_reducible apply IsLim.bind)
   | (apply IsLim.cst; intro _; exact rfl)
 case h => exact fun _ => rfl
end Go.Proofs.Ytookjnpmbenheaa.PLin

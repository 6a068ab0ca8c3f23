-- A text of the kit's tools for this claim, its remarks left out.
import Derived.Test.YtookjnpmbenheaaBase
import Derived.Test.YtookjnpmbenheaaPLinx7
namespace Go.Proofs.Ytookjnpmbenheaa.PLin
open Go.RowKit Go.Proofs.YtookjnpmbenheaaW.PrintWords Go.Proofs.YtookjnpmbenheaaW.PrintLast Go.Proofs.Ytookjnpmbenheaa.Base
set_option linter.unusedVariables false
noncomputable def line_Alike.L0 (x0 : ByteArray) (x1 : ByteArray) (x12 : Int) (x13 : Int) : Option (Bool) := lim fun k => line_Alike.l0 k x0 x1 x12 x13
noncomputable def line_Alike.F (a0 : ByteArray) (a1 : ByteArray) : Option (Bool) := lim fun k => line_Alike.f k a0 a1
theorem line_Alike.isL0 (x0 : ByteArray) (x1 : ByteArray) (x12 : Int) (x13 : Int) : IsLim (fun k => line_Alike.l0 k x0 x1 x12 x13) (line_Alike.L0 x0 x1 x12 x13) := ⟨fun k => (line_Alike.mono_l k) x0 x1 x12 x13, rfl⟩
theorem line_Alike.isF (a0 : ByteArray) (a1 : ByteArray) : IsLim (fun k => line_Alike.f k a0 a1) (line_Alike.F a0 a1) := ⟨fun k => line_Alike.mono a0 a1 k, rfl⟩
theorem line_Alike.L0_eq (x0 : ByteArray) (x1 : ByteArray) (x12 : Int) (x13 : Int) : line_Alike.L0 x0 x1 x12 x13 = if x13 < x12 then (if 0 ≤ x13 then (if x13 < (x0.size : Int) then ((line_small.f (bt x0 x13)).bind fun t195 => (if x13 < (x1.size : Int) then ((line_small.f (bt x1 x13)).bind fun t196 => (if t195 = t196 then (line_Alike.L0 x0 x1 x12 (wrap64 (x13 + 1))) else (some false))) else (none))) else (none)) else (none)) else (some true) := by
 apply IsLim.step (line_Alike.isL0 x0 x1 x12 x13).mono
 case hf =>
  repeat'
   try intro _
   first
   | (with_reducible exact line_Alike.isL0 _ _ _ _)
   | (with_reducible apply IsLim.ite)
   | (with_reducible apply IsLim.bind)
   | (apply IsLim.cst; intro _; exact rfl)
 case h => intro k; rw [line_Alike.l0]
theorem line_Alike.F_eq (a0 : ByteArray) (a1 : ByteArray) : line_Alike.F a0 a1 = if (a0.size : Int) = (a1.size : Int) then (line_Alike.L0 a0 a1 (a0.size : Int) 0) else (some false) := by
 apply IsLim.via
 case hf =>
  repeat'
   try intro _
   first
   | (with_reducible exact line_Alike.isL0 _ _ _ _)
   | (with_reducible apply IsLim.ite)
   | (with_reducible apply IsLim.bind)
   | (apply IsLim.cst; intro _; exact rfl)
 case h => exact fun _ => rfl
noncomputable def line_Param_1.F (a0_0 : ByteArray) (l0_1 : List ByteArray) (q : ByteArray) : Option (Bool) := lim fun k => line_Param_1.f k a0_0 l0_1 q
theorem line_Param_1.isF (a0_0 : ByteArray) (l0_1 : List ByteArray) (q : ByteArray) : IsLim (fun k => line_Param_1.f k a0_0 l0_1 q) (line_Param_1.F a0_0 l0_1 q) := ⟨fun k => line_Param_1.mono a0_0 l0_1 q k, rfl⟩
theorem line_Param_1.F_eq (a0_0 : ByteArray) (l0_1 : List ByteArray) (q : ByteArray) : line_Param_1.F a0_0 l0_1 q = line_Alike.F a0_0 q := by
 apply IsLim.via
 case hf =>
  repeat'
   try intro _
   first
   | (with_reducible exact line_Alike.isF _ _)
   | (with_reducible apply IsLim.ite)
   | (with_reducible apply IsLim.bind)
   | (apply IsLim.cst; intro _; exact rfl)
 case h => exact fun _ => rfl
noncomputable def api_Param_43c.L0 (q : ByteArray) (x0 : List (S54)) (x7 : Int) (x8 : Int) : Option (Int) := lim fun k => api_Param_43c.l0 q k x0 x7 x8
noncomputable def api_Param_43c.F (l0 : List (S54)) (q : ByteArray) : Option (Int) := lim fun k => api_Param_43c.f k l0 q
theorem api_Param_43c.isL0 (q : ByteArray) (x0 : List (S54)) (x7 : Int) (x8 : Int) : IsLim (fun k => api_Param_43c.l0 q k x0 x7 x8) (api_Param_43c.L0 q x0 x7 x8) := ⟨fun k => (api_Param_43c.mono_l q k) x0 x7 x8, rfl⟩
theorem api_Param_43c.isF (l0 : List (S54)) (q : ByteArray) : IsLim (fun k => api_Param_43c.f k l0 q) (api_Param_43c.F l0 q) := ⟨fun k => api_Param_43c.mono l0 q k, rfl⟩
theorem api_Param_43c.L0_eq (q : ByteArray) (x0 : List (S54)) (x7 : Int) (x8 : Int) : api_Param_43c.L0 q x0 x7 x8 = if x8 < x7 then (if 0 ≤ x8 then (if x8 < (x0.length : Int) then ((line_Param_1.F ((rd_T54 x0 x8).f0) ((rd_T54 x0 x8).f1) q).bind fun t135 => (if t135 = true then (some x8) else (api_Param_43c.L0 q x0 x7 (wrap64 (x8 + 1))))) else (none)) else (none)) else (some (-1)) := by
 apply IsLim.step (api_Param_43c.isL0 q x0 x7 x8).mono
 case hf =>
  repeat'
   try intro _
   first
   | (with_reducible exact api_Param_43c.isL0 _ _ _ _)
   | (with_reducible exact line_Param_1.isF _ _ _)
   | (with_reducible apply IsLim.ite)
   | (with_reducible apply IsLim.bind)
   | (apply IsLim.cst; intro _; exact rfl)
 case h => intro k; rw [api_Param_43c.l0]
theorem api_Param_43c.F_eq (l0 : List (S54)) (q : ByteArray) : api_Param_43c.F l0 q = api_Param_43c.L0 q l0 (l0.length : Int) 0 := by
 apply IsLim.via
 case hf =>
  repeat'
   try intro _
   first
   | (with_reducible exact api_Param_43c.isL0 _ _ _ _)
   | (with_reducible apply IsLim.ite)
   | (with_reducible apply IsLim.bind)
   | (apply IsLim.cst; intro _; exact rfl)
 case h => exact fun _ => rfl
noncomputable def line_Param.F (a0_0 : ByteArray) (l0_1 : List (S54)) (a0_2 : ByteArray) (a1 : ByteArray) : Option (List ByteArray × Bool) := lim fun k => line_Param.f k a0_0 l0_1 a0_2 a1
theorem line_Param.isF (a0_0 : ByteArray) (l0_1 : List (S54)) (a0_2 : ByteArray) (a1 : ByteArray) : IsLim (fun k => line_Param.f k a0_0 l0_1 a0_2 a1) (line_Param.F a0_0 l0_1 a0_2 a1) := ⟨fun k => line_Param.mono a0_0 l0_1 a0_2 a1 k, rfl⟩
theorem line_Param.F_eq (a0_0 : ByteArray) (l0_1 : List (S54)) (a0_2 : ByteArray) (a1 : ByteArray) : line_Param.F a0_0 l0_1 a0_2 a1 = (api_Param_43c.F l0_1 a1).bind fun t => if t < 0 then some (([] : List ByteArray), false) else if t < (l0_1.length : Int) then (if ((rd_T54 l0_1 t).f1).length * 16 ≤ 140737488355328 then some ((rd_T54 l0_1 t).f1, true) else none) else none := by
 apply IsLim.via
 case hf =>
  repeat'
   try intro _
   first
   | (with_reducible exact api_Param_43c.isF _ _)
   | (with_reducible apply IsLim.ite)
   | (with_reducible apply IsLim.bind)
   | (apply IsLim.cst; intro _; exact rfl)
 case h => exact fun _ => rfl
end Go.Proofs.Ytookjnpmbenheaa.PLin

/- Printed functions of the family Lin without a bound on their rounds, and the equation that each meets. No condition. -/
import Derived.Test.YtookjnpmbenheaaBase
import Derived.Test.YtookjnpmbenheaaPLinx7
import Derived.Test.YtookjnpmbenheaaELinx6
namespace Go.Proofs.Ytookjnpmbenheaa.PLin
open Go.RowKit Go.Proofs.YtookjnpmbenheaaW.PrintWords Go.Proofs.YtookjnpmbenheaaW.PrintLast Go.Proofs.Ytookjnpmbenheaa.Base
set_option linter.unusedVariables false
noncomputable def line_Param_1.F (a0_0 : ByteArray) (l0_1 : List ByteArray) (q : ByteArray) : Option (Bool) := lim fun k => line_Param_1.f k a0_0 l0_1 q
theorem line_Param_1.isF (a0_0 : ByteArray) (l0_1 : List ByteArray) (q : ByteArray) : IsLim (fun k => line_Param_1.f k a0_0 l0_1 q) (line_Param_1.F a0_0 l0_1 q) := ⟨fun k => line_Param_1.mono a0_0 l0_1 q k, rfl⟩
theorem line_Param_1.F_eq (a0_0 : ByteArray) (l0_1 : List ByteArray) (q : ByteArray) : line_Param_1.F a0_0 l0_1 q = line_Alike.F a0_0 q := by
  refine IsLim.eq (g := fun k => line_Alike.f k a0_0 q) ?_
  · repeat' first
    | (with_reducible exact IsLim.const _)
    | (with_reducible exact line_Alike.isF _ _)
    | (with_reducible refine IsLim.ite ?_ ?_)
    | (with_reducible refine IsLim.bind ?_ (fun _ => ?_))
noncomputable def api_Param_43c.L0 (q : ByteArray) (x0 : List (S54)) (x7 : Int) (x8 : Int) : Option (Int) := lim fun k => api_Param_43c.l0 q k x0 x7 x8
noncomputable def api_Param_43c.F (l0 : List (S54)) (q : ByteArray) : Option (Int) := lim fun k => api_Param_43c.f k l0 q
theorem api_Param_43c.isL0 (q : ByteArray) (x0 : List (S54)) (x7 : Int) (x8 : Int) : IsLim (fun k => api_Param_43c.l0 q k x0 x7 x8) (api_Param_43c.L0 q x0 x7 x8) := ⟨fun k => (api_Param_43c.mono_l q k) x0 x7 x8, rfl⟩
theorem api_Param_43c.isF (l0 : List (S54)) (q : ByteArray) : IsLim (fun k => api_Param_43c.f k l0 q) (api_Param_43c.F l0 q) := ⟨fun k => api_Param_43c.mono l0 q k, rfl⟩
theorem api_Param_43c.L0_eq (q : ByteArray) (x0 : List (S54)) (x7 : Int) (x8 : Int) : api_Param_43c.L0 q x0 x7 x8 = if x8 < x7 then (if 0 ≤ x8 then (if x8 < (x0.length : Int) then ((line_Param_1.F ((rd_T54 x0 x8).f0) ((rd_T54 x0 x8).f1) q).bind fun t113 => (if t113 = true then (some x8) else (api_Param_43c.L0 q x0 x7 (wrap64 (x8 + 1))))) else (none)) else (none)) else (some (-1)) := by
  refine IsLim.step (api_Param_43c.isL0 q x0 x7 x8).mono (f := fun k => if x8 < x7 then (if 0 ≤ x8 then (if x8 < (x0.length : Int) then ((line_Param_1.f k ((rd_T54 x0 x8).f0) ((rd_T54 x0 x8).f1) q).bind fun t113 => (if t113 = true then (some x8) else (api_Param_43c.l0 q k x0 x7 (wrap64 (x8 + 1))))) else (none)) else (none)) else (some (-1))) (fun k => by rw [api_Param_43c.l0]) ?_
  · repeat' first
    | (with_reducible exact IsLim.const _)
    | (with_reducible exact api_Param_43c.isL0 _ _ _ _)
    | (with_reducible exact line_Param_1.isF _ _ _)
    | (with_reducible refine IsLim.ite ?_ ?_)
    | (with_reducible refine IsLim.bind ?_ (fun _ => ?_))
theorem api_Param_43c.F_eq (l0 : List (S54)) (q : ByteArray) : api_Param_43c.F l0 q = api_Param_43c.L0 q l0 (l0.length : Int) 0 := by
  refine IsLim.eq (g := fun k => api_Param_43c.l0 q k l0 (l0.length : Int) 0) ?_
  · repeat' first
    | (with_reducible exact IsLim.const _)
    | (with_reducible exact api_Param_43c.isL0 _ _ _ _)
    | (with_reducible refine IsLim.ite ?_ ?_)
    | (with_reducible refine IsLim.bind ?_ (fun _ => ?_))
noncomputable def line_Param.F (a0_0 : ByteArray) (l0_1 : List (S54)) (a0_2 : ByteArray) (a1 : ByteArray) : Option (List ByteArray × Bool) := lim fun k => line_Param.f k a0_0 l0_1 a0_2 a1
theorem line_Param.isF (a0_0 : ByteArray) (l0_1 : List (S54)) (a0_2 : ByteArray) (a1 : ByteArray) : IsLim (fun k => line_Param.f k a0_0 l0_1 a0_2 a1) (line_Param.F a0_0 l0_1 a0_2 a1) := ⟨fun k => line_Param.mono a0_0 l0_1 a0_2 a1 k, rfl⟩
theorem line_Param.F_eq (a0_0 : ByteArray) (l0_1 : List (S54)) (a0_2 : ByteArray) (a1 : ByteArray) : line_Param.F a0_0 l0_1 a0_2 a1 = (api_Param_43c.F l0_1 a1).bind fun t => if t < 0 then some (([] : List ByteArray), false) else if t < (l0_1.length : Int) then (if ((rd_T54 l0_1 t).f1).length * 16 ≤ 140737488355328 then some ((rd_T54 l0_1 t).f1, true) else none) else none := by
  refine IsLim.eq (g := fun k => (api_Param_43c.f k l0_1 a1).bind fun t => if t < 0 then some (([] : List ByteArray), false) else if t < (l0_1.length : Int) then (if ((rd_T54 l0_1 t).f1).length * 16 ≤ 140737488355328 then some ((rd_T54 l0_1 t).f1, true) else none) else none) ?_
  · repeat' first
    | (with_reducible exact IsLim.const _)
    | (with_reducible exact api_Param_43c.isF _ _)
    | (with_reducible refine IsLim.ite ?_ ?_)
    | (with_reducible refine IsLim.bind ?_ (fun _ => ?_))
end Go.Proofs.Ytookjnpmbenheaa.PLin

/- Printed functions of the family Lin without a bound on their rounds, and the equation that each meets. No condition. -/
import Derived.Test.YtookjnpmbenheaaBase
import Derived.Test.YtookjnpmbenheaaPLinx10
import Derived.Test.YtookjnpmbenheaaELinx3
import Derived.Test.YtookjnpmbenheaaELinx5
import Derived.Test.YtookjnpmbenheaaELinx9
namespace Go.Proofs.Ytookjnpmbenheaa.PLin
open Go.RowKit Go.Proofs.YtookjnpmbenheaaW.PrintWords Go.Proofs.YtookjnpmbenheaaW.PrintLast Go.Proofs.Ytookjnpmbenheaa.Base
set_option linter.unusedVariables false
noncomputable def line_Param_1.F (a0_0 : ByteArray) (l0_1 : List ByteArray) (q : ByteArray) : Option (Bool) := lim fun k => line_Param_1.f k a0_0 l0_1 q
theorem line_Param_1.isF (a0_0 : ByteArray) (l0_1 : List ByteArray) (q : ByteArray) : IsLim (fun k => line_Param_1.f k a0_0 l0_1 q) (line_Param_1.F a0_0 l0_1 q) := ⟨fun k => line_Param_1.mono a0_0 l0_1 q k, rfl⟩
theorem line_Param_1.F_eq (a0_0 : ByteArray) (l0_1 : List ByteArray) (q : ByteArray) : line_Param_1.F a0_0 l0_1 q = line_Alike.F a0_0 q := by
  refine IsLim.eq (g := fun k => line_Alike.f k a0_0 q) ?_
  · repeat' first
    | (with_reducible exact IsLim.const _)
    | (with_reducible exact line_Alike.isF _ _)
    | (with_reducible refine IsLim.ite ?_ ?_)
    | (with_reducible refine IsLim.bind ?_ (fun _ => ?_))
noncomputable def api_Param_43c.L0 (q : ByteArray) (x0 : List (S54)) (x7 : Int) (x8 : Int) : Option (Int) := lim fun k => api_Param_43c.l0 q k x0 x7 x8
noncomputable def api_Param_43c.F (l0 : List (S54)) (q : ByteArray) : Option (Int) := lim fun k => api_Param_43c.f k l0 q
theorem api_Param_43c.isL0 (q : ByteArray) (x0 : List (S54)) (x7 : Int) (x8 : Int) : IsLim (fun k => api_Param_43c.l0 q k x0 x7 x8) (api_Param_43c.L0 q x0 x7 x8) := ⟨fun k => (api_Param_43c.mono_l q k) x0 x7 x8, rfl⟩
theorem api_Param_43c.isF (l0 : List (S54)) (q : ByteArray) : IsLim (fun k => api_Param_43c.f k l0 q) (api_Param_43c.F l0 q) := ⟨fun k => api_Param_43c.mono l0 q k, rfl⟩
theorem api_Param_43c.L0_eq (q : ByteArray) (x0 : List (S54)) (x7 : Int) (x8 : Int) : api_Param_43c.L0 q x0 x7 x8 = if x8 < x7 then (if 0 ≤ x8 then (if x8 < (x0.length : Int) then ((line_Param_1.F ((rd_T54 x0 x8).f0) ((rd_T54 x0 x8).f1) q).bind fun t119 => (if t119 = true then (some x8) else (api_Param_43c.L0 q x0 x7 (wrap64 (x8 + 1))))) else (none)) else (none)) else (some (-1)) := by
  refine IsLim.step (api_Param_43c.isL0 q x0 x7 x8).mono (f := fun k => if x8 < x7 then (if 0 ≤ x8 then (if x8 < (x0.length : Int) then ((line_Param_1.f k ((rd_T54 x0 x8).f0) ((rd_T54 x0 x8).f1) q).bind fun t119 => (if t119 = true then (some x8) else (api_Param_43c.l0 q k x0 x7 (wrap64 (x8 + 1))))) else (none)) else (none)) else (some (-1))) (fun k => by rw [api_Param_43c.l0]) ?_
  · repeat' first
    | (with_reducible exact IsLim.const _)
    | (with_reducible exact api_Param_43c.isL0 _ _ _ _)
    | (with_reducible exact line_Param_1.isF _ _ _)
    | (with_reducible refine IsLim.ite ?_ ?_)
    | (with_reducible refine IsLim.bind ?_ (fun _ => ?_))
theorem api_Param_43c.F_eq (l0 : List (S54)) (q : ByteArray) : api_Param_43c.F l0 q = api_Param_43c.L0 q l0 (l0.length : Int) 0 := by
  refine IsLim.eq (g := fun k => api_Param_43c.l0 q k l0 (l0.length : Int) 0) ?_
  · repeat' first
    | (with_reducible exact IsLim.const _)
    | (with_reducible exact api_Param_43c.isL0 _ _ _ _)
    | (with_reducible refine IsLim.ite ?_ ?_)
    | (with_reducible refine IsLim.bind ?_ (fun _ => ?_))
noncomputable def line_Param.F (a0_0 : ByteArray) (l0_1 : List (S54)) (a0_2 : ByteArray) (a1 : ByteArray) : Option (List ByteArray × Bool) := lim fun k => line_Param.f k a0_0 l0_1 a0_2 a1
theorem line_Param.isF (a0_0 : ByteArray) (l0_1 : List (S54)) (a0_2 : ByteArray) (a1 : ByteArray) : IsLim (fun k => line_Param.f k a0_0 l0_1 a0_2 a1) (line_Param.F a0_0 l0_1 a0_2 a1) := ⟨fun k => line_Param.mono a0_0 l0_1 a0_2 a1 k, rfl⟩
theorem line_Param.F_eq (a0_0 : ByteArray) (l0_1 : List (S54)) (a0_2 : ByteArray) (a1 : ByteArray) : line_Param.F a0_0 l0_1 a0_2 a1 = (api_Param_43c.F l0_1 a1).bind fun t => if t < 0 then some (([] : List ByteArray), false) else if t < (l0_1.length : Int) then (if ((rd_T54 l0_1 t).f1).length * 16 ≤ 140737488355328 then some ((rd_T54 l0_1 t).f1, true) else none) else none := by
  refine IsLim.eq (g := fun k => (api_Param_43c.f k l0_1 a1).bind fun t => if t < 0 then some (([] : List ByteArray), false) else if t < (l0_1.length : Int) then (if ((rd_T54 l0_1 t).f1).length * 16 ≤ 140737488355328 then some ((rd_T54 l0_1 t).f1, true) else none) else none) ?_
  · repeat' first
    | (with_reducible exact IsLim.const _)
    | (with_reducible exact api_Param_43c.isF _ _)
    | (with_reducible refine IsLim.ite ?_ ?_)
    | (with_reducible refine IsLim.bind ?_ (fun _ => ?_))
noncomputable def solsticelaw18_wakes.F  : Option (Bool) := lim fun k => solsticelaw18_wakes.f k
theorem solsticelaw18_wakes.isF  : IsLim (fun k => solsticelaw18_wakes.f k) (solsticelaw18_wakes.F ) := ⟨fun k => solsticelaw18_wakes.mono k, rfl⟩
theorem solsticelaw18_wakes.F_eq  : solsticelaw18_wakes.F  = (line_Parse.F (⟨#[82, 68, 65, 84, 69, 59, 84, 90, 73, 68, 61, 34, 97, 58, 98, 34, 44, 99, 58, 120, 58, 121]⟩ : ByteArray)).bind fun bt200 => ((line_Text.F bt200.1 bt200.2.1 bt200.2.2.1).bind fun bt207 => ((line_Param.F bt200.1 bt200.2.1 bt200.2.2.1 (⟨#[116, 122, 105, 100]⟩ : ByteArray)).bind fun bt209 => ((line_Parse.F (⟨#[82, 68, 65, 84, 69]⟩ : ByteArray)).bind fun bt213 => (if bt200.2.2.2 = 0 then (if bt200.1.toList = ([82, 68, 65, 84, 69] : List UInt8) then (if bt200.2.2.1.toList = ([120, 58, 121] : List UInt8) then (if bt207.2 = 0 then (if bt207.1.toList = ([82, 68, 65, 84, 69, 59, 84, 90, 73, 68, 61, 34, 97, 58, 98, 34, 44, 99, 58, 120, 58, 121] : List UInt8) then (if bt209.2 = true then ((solsticekeep_Texts.F bt209.1 (([(⟨#[97, 58, 98]⟩ : ByteArray), (⟨#[99]⟩ : ByteArray)] : List ByteArray))).bind fun t223 => (if t223 = true then (if bt213.2.2.2 = 18 then ((line_Check.F (⟨#[]⟩ : ByteArray) ([] : List (S54)) (⟨#[]⟩ : ByteArray)).bind fun t224 => (some (t224 == 18))) else (some false)) else (some false))) else (some false)) else (some false)) else (some false)) else (some false)) else (some false)) else (some false))))) := by
  refine IsLim.eq (g := fun k => (line_Parse.f k (⟨#[82, 68, 65, 84, 69, 59, 84, 90, 73, 68, 61, 34, 97, 58, 98, 34, 44, 99, 58, 120, 58, 121]⟩ : ByteArray)).bind fun bt200 => ((line_Text.f k bt200.1 bt200.2.1 bt200.2.2.1).bind fun bt207 => ((line_Param.f k bt200.1 bt200.2.1 bt200.2.2.1 (⟨#[116, 122, 105, 100]⟩ : ByteArray)).bind fun bt209 => ((line_Parse.f k (⟨#[82, 68, 65, 84, 69]⟩ : ByteArray)).bind fun bt213 => (if bt200.2.2.2 = 0 then (if bt200.1.toList = ([82, 68, 65, 84, 69] : List UInt8) then (if bt200.2.2.1.toList = ([120, 58, 121] : List UInt8) then (if bt207.2 = 0 then (if bt207.1.toList = ([82, 68, 65, 84, 69, 59, 84, 90, 73, 68, 61, 34, 97, 58, 98, 34, 44, 99, 58, 120, 58, 121] : List UInt8) then (if bt209.2 = true then ((solsticekeep_Texts.f k bt209.1 (([(⟨#[97, 58, 98]⟩ : ByteArray), (⟨#[99]⟩ : ByteArray)] : List ByteArray))).bind fun t223 => (if t223 = true then (if bt213.2.2.2 = 18 then ((line_Check.f k (⟨#[]⟩ : ByteArray) ([] : List (S54)) (⟨#[]⟩ : ByteArray)).bind fun t224 => (some (t224 == 18))) else (some false)) else (some false))) else (some false)) else (some false)) else (some false)) else (some false)) else (some false)) else (some false)))))) ?_
  · repeat' first
    | (with_reducible exact IsLim.const _)
    | (with_reducible exact line_Check.isF _ _ _)
    | (with_reducible exact line_Param.isF _ _ _ _)
    | (with_reducible exact line_Parse.isF _)
    | (with_reducible exact line_Text.isF _ _ _)
    | (with_reducible exact solsticekeep_Texts.isF _ _)
    | (with_reducible refine IsLim.ite ?_ ?_)
    | (with_reducible refine IsLim.bind ?_ (fun _ => ?_))
end Go.Proofs.Ytookjnpmbenheaa.PLin

/- Printed functions of the family Lin without a bound on their rounds, and the equation that each meets. No condition. -/
import Derived.Test.YtookjnpmbenheaaBase
import Derived.Test.YtookjnpmbenheaaPLinx4
import Derived.Test.YtookjnpmbenheaaELinx3
namespace Go.Proofs.Ytookjnpmbenheaa.PLin
open Go.RowKit Go.Proofs.YtookjnpmbenheaaW.PrintWords Go.Proofs.YtookjnpmbenheaaW.PrintLast Go.Proofs.Ytookjnpmbenheaa.Base
set_option linter.unusedVariables false
noncomputable def line_next.J0 (x0 : ByteArray) (x12 : Bool) : Option (ByteArray × ByteArray × Bool) := lim fun k => line_next.j0 k x0 x12
noncomputable def line_next.F (a0 : ByteArray) : Option (ByteArray × ByteArray × Bool) := lim fun k => line_next.f k a0
theorem line_next.isJ0 (x0 : ByteArray) (x12 : Bool) : IsLim (fun k => line_next.j0 k x0 x12) (line_next.J0 x0 x12) := ⟨fun k => (line_next.mono_l k) x0 x12, rfl⟩
theorem line_next.isF (a0 : ByteArray) : IsLim (fun k => line_next.f k a0) (line_next.F a0) := ⟨fun k => line_next.mono a0 k, rfl⟩
theorem line_next.J0_eq (x0 : ByteArray) (x12 : Bool) : line_next.J0 x0 x12 = if x12 = true then ((line_until.F x0 (⟨#[58, 59, 44, 34]⟩ : ByteArray)).bind fun t131 => (if 0 ≤ t131 then (if t131 ≤ (x0.size : Int) then (some (x0.extract 0 (t131 : Int).toNat, x0.extract (t131 : Int).toNat x0.size, true)) else (none)) else (none))) else (if 1 ≤ (x0.size : Int) then ((strings_Cut.f (x0.extract 1 x0.size) (⟨#[34]⟩ : ByteArray)).bind fun bt132 => (some (bt132.1, bt132.2.1, bt132.2.2))) else (none)) := by
  refine IsLim.step (line_next.isJ0 x0 x12).mono (f := fun k => if x12 = true then ((line_until.f k x0 (⟨#[58, 59, 44, 34]⟩ : ByteArray)).bind fun t131 => (if 0 ≤ t131 then (if t131 ≤ (x0.size : Int) then (some (x0.extract 0 (t131 : Int).toNat, x0.extract (t131 : Int).toNat x0.size, true)) else (none)) else (none))) else (if 1 ≤ (x0.size : Int) then ((strings_Cut.f (x0.extract 1 x0.size) (⟨#[34]⟩ : ByteArray)).bind fun bt132 => (some (bt132.1, bt132.2.1, bt132.2.2))) else (none))) (fun k => by rw [line_next.j0]) ?_
  · repeat' first
    | (with_reducible exact IsLim.const _)
    | (with_reducible exact line_until.isF _ _)
    | (with_reducible refine IsLim.ite ?_ ?_)
    | (with_reducible refine IsLim.bind ?_ (fun _ => ?_))
theorem line_next.F_eq (a0 : ByteArray) : line_next.F a0 = if a0.toList = ([] : List UInt8) then (line_next.J0 a0 true) else (if 0 < (a0.size : Int) then (line_next.J0 a0 ((bt a0 0) != 34)) else (none)) := by
  refine IsLim.eq (g := fun k => if a0.toList = ([] : List UInt8) then (line_next.j0 k a0 true) else (if 0 < (a0.size : Int) then (line_next.j0 k a0 ((bt a0 0) != 34)) else (none))) ?_
  · repeat' first
    | (with_reducible exact IsLim.const _)
    | (with_reducible exact line_next.isJ0 _ _)
    | (with_reducible refine IsLim.ite ?_ ?_)
    | (with_reducible refine IsLim.bind ?_ (fun _ => ?_))
noncomputable def line_params.L0 (x0 : ByteArray) (x2 : List (S54)) : Option ((List (S54)) × ByteArray × Bool) := lim fun k => line_params.l0 k x0 x2
noncomputable def line_params.L1 (x2 : List (S54)) (x6 : ByteArray) (x9 : Bool) (x140000 : ByteArray) (x140001 : List ByteArray) : Option ((List (S54)) × ByteArray × Bool) := lim fun k => line_params.l1 k x2 x6 x9 x140000 x140001
noncomputable def line_params.J2 (x2 : List (S54)) (x6 : ByteArray) (x9 : Bool) (x28 : Bool) (x140000 : ByteArray) (x140001 : List ByteArray) : Option ((List (S54)) × ByteArray × Bool) := lim fun k => line_params.j2 k x2 x6 x9 x28 x140000 x140001
noncomputable def line_params.F (a0 : ByteArray) : Option ((List (S54)) × ByteArray × Bool) := lim fun k => line_params.f k a0
theorem line_params.isL0 (x0 : ByteArray) (x2 : List (S54)) : IsLim (fun k => line_params.l0 k x0 x2) (line_params.L0 x0 x2) := ⟨fun k => (line_params.mono_l k).1 x0 x2, rfl⟩
theorem line_params.isL1 (x2 : List (S54)) (x6 : ByteArray) (x9 : Bool) (x140000 : ByteArray) (x140001 : List ByteArray) : IsLim (fun k => line_params.l1 k x2 x6 x9 x140000 x140001) (line_params.L1 x2 x6 x9 x140000 x140001) := ⟨fun k => (line_params.mono_l k).2.1 x2 x6 x9 x140000 x140001, rfl⟩
theorem line_params.isJ2 (x2 : List (S54)) (x6 : ByteArray) (x9 : Bool) (x28 : Bool) (x140000 : ByteArray) (x140001 : List ByteArray) : IsLim (fun k => line_params.j2 k x2 x6 x9 x28 x140000 x140001) (line_params.J2 x2 x6 x9 x28 x140000 x140001) := ⟨fun k => (line_params.mono_l k).2.2 x2 x6 x9 x28 x140000 x140001, rfl⟩
theorem line_params.isF (a0 : ByteArray) : IsLim (fun k => line_params.f k a0) (line_params.F a0) := ⟨fun k => line_params.mono a0 k, rfl⟩
theorem line_params.L0_eq (x0 : ByteArray) (x2 : List (S54)) : line_params.L0 x0 x2 = (strings_HasPrefix.f x0 (⟨#[59]⟩ : ByteArray)).bind fun t135 => (if t135 = true then (if 1 ≤ (x0.size : Int) then ((strings_Cut.f (x0.extract 1 x0.size) (⟨#[61]⟩ : ByteArray)).bind fun bt136 => (if bt136.2.2 = true then (line_params.L1 x2 bt136.2.1 true bt136.1 ([] : List ByteArray)) else (some (([] : List (S54)), (⟨#[]⟩ : ByteArray), false)))) else (none)) else (some (x2, x0, true))) := by
  refine IsLim.step (line_params.isL0 x0 x2).mono (f := fun k => (strings_HasPrefix.f x0 (⟨#[59]⟩ : ByteArray)).bind fun t135 => (if t135 = true then (if 1 ≤ (x0.size : Int) then ((strings_Cut.f (x0.extract 1 x0.size) (⟨#[61]⟩ : ByteArray)).bind fun bt136 => (if bt136.2.2 = true then (line_params.l1 k x2 bt136.2.1 true bt136.1 ([] : List ByteArray)) else (some (([] : List (S54)), (⟨#[]⟩ : ByteArray), false)))) else (none)) else (some (x2, x0, true)))) (fun k => by rw [line_params.l0]) ?_
  · repeat' first
    | (with_reducible exact IsLim.const _)
    | (with_reducible exact line_params.isL1 _ _ _ _ _)
    | (with_reducible refine IsLim.ite ?_ ?_)
    | (with_reducible refine IsLim.bind ?_ (fun _ => ?_))
theorem line_params.L1_eq (x2 : List (S54)) (x6 : ByteArray) (x9 : Bool) (x140000 : ByteArray) (x140001 : List ByteArray) : line_params.L1 x2 x6 x9 x140000 x140001 = if x9 = true then (line_params.J2 x2 x6 x9 true x140000 x140001) else ((strings_HasPrefix.f x6 (⟨#[44]⟩ : ByteArray)).bind fun t140 => (line_params.J2 x2 x6 x9 t140 x140000 x140001)) := by
  refine IsLim.step (line_params.isL1 x2 x6 x9 x140000 x140001).mono (f := fun k => if x9 = true then (line_params.j2 k x2 x6 x9 true x140000 x140001) else ((strings_HasPrefix.f x6 (⟨#[44]⟩ : ByteArray)).bind fun t140 => (line_params.j2 k x2 x6 x9 t140 x140000 x140001))) (fun k => by rw [line_params.l1]) ?_
  · repeat' first
    | (with_reducible exact IsLim.const _)
    | (with_reducible exact line_params.isJ2 _ _ _ _ _ _)
    | (with_reducible refine IsLim.ite ?_ ?_)
    | (with_reducible refine IsLim.bind ?_ (fun _ => ?_))
theorem line_params.J2_eq (x2 : List (S54)) (x6 : ByteArray) (x9 : Bool) (x28 : Bool) (x140000 : ByteArray) (x140001 : List ByteArray) : line_params.J2 x2 x6 x9 x28 x140000 x140001 = if x28 = true then (if x9 = true then ((line_next.F x6).bind fun bt144 => (if bt144.2.2 = true then (if x140001.length < 8796093022208 then (line_params.L1 x2 bt144.2.1 false x140000 (x140001 ++ [bt144.1])) else (none)) else (some (([] : List (S54)), (⟨#[]⟩ : ByteArray), false)))) else (if 1 ≤ (x6.size : Int) then ((line_next.F (x6.extract 1 x6.size)).bind fun bt150 => (if bt150.2.2 = true then (if x140001.length < 8796093022208 then (line_params.L1 x2 bt150.2.1 false x140000 (x140001 ++ [bt150.1])) else (none)) else (some (([] : List (S54)), (⟨#[]⟩ : ByteArray), false)))) else (none))) else (if x2.length < 3518437208883 then (line_params.L0 x6 (x2 ++ [(⟨x140000, x140001⟩ : S54)])) else (none)) := by
  refine IsLim.step (line_params.isJ2 x2 x6 x9 x28 x140000 x140001).mono (f := fun k => if x28 = true then (if x9 = true then ((line_next.f k x6).bind fun bt144 => (if bt144.2.2 = true then (if x140001.length < 8796093022208 then (line_params.l1 k x2 bt144.2.1 false x140000 (x140001 ++ [bt144.1])) else (none)) else (some (([] : List (S54)), (⟨#[]⟩ : ByteArray), false)))) else (if 1 ≤ (x6.size : Int) then ((line_next.f k (x6.extract 1 x6.size)).bind fun bt150 => (if bt150.2.2 = true then (if x140001.length < 8796093022208 then (line_params.l1 k x2 bt150.2.1 false x140000 (x140001 ++ [bt150.1])) else (none)) else (some (([] : List (S54)), (⟨#[]⟩ : ByteArray), false)))) else (none))) else (if x2.length < 3518437208883 then (line_params.l0 k x6 (x2 ++ [(⟨x140000, x140001⟩ : S54)])) else (none))) (fun k => by rw [line_params.j2]) ?_
  · repeat' first
    | (with_reducible exact IsLim.const _)
    | (with_reducible exact line_next.isF _)
    | (with_reducible exact line_params.isL0 _ _)
    | (with_reducible exact line_params.isL1 _ _ _ _ _)
    | (with_reducible refine IsLim.ite ?_ ?_)
    | (with_reducible refine IsLim.bind ?_ (fun _ => ?_))
theorem line_params.F_eq (a0 : ByteArray) : line_params.F a0 = line_params.L0 a0 ([] : List (S54)) := by
  refine IsLim.eq (g := fun k => line_params.l0 k a0 ([] : List (S54))) ?_
  · repeat' first
    | (with_reducible exact IsLim.const _)
    | (with_reducible exact line_params.isL0 _ _)
    | (with_reducible refine IsLim.ite ?_ ?_)
    | (with_reducible refine IsLim.bind ?_ (fun _ => ?_))
end Go.Proofs.Ytookjnpmbenheaa.PLin

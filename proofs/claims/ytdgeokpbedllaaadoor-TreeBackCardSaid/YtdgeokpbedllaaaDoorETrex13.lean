/- Printed functions of the family Tre without a bound on their rounds, and the equation that each meets. No condition. -/
import Derived.Test.YtdgeokpbedllaaaDoorBase
import Derived.Test.YtdgeokpbedllaaaDoorPTrex13
import Derived.Test.YtdgeokpbedllaaaDoorETrex10
namespace Go.Proofs.YtdgeokpbedllaaaDoor.PTre
open Go.RowKit Go.Proofs.YtdgeokpbedllaaaDoorW.PrintWords Go.Proofs.YtdgeokpbedllaaaDoorW.PrintLast Go.Proofs.YtdgeokpbedllaaaDoor.Base
set_option linter.unusedVariables false
noncomputable def fold_Unfold.L0 (x0 : ByteArray) (x4 : List Int) (x5 : Int) : Option (List ByteArray × Int) := lim fun k => fold_Unfold.l0 k x0 x4 x5
noncomputable def fold_Unfold.F (a0 : ByteArray) : Option (List ByteArray × Int) := lim fun k => fold_Unfold.f k a0
theorem fold_Unfold.isL0 (x0 : ByteArray) (x4 : List Int) (x5 : Int) : IsLim (fun k => fold_Unfold.l0 k x0 x4 x5) (fold_Unfold.L0 x0 x4 x5) := ⟨fun k => (fold_Unfold.mono_l k) x0 x4 x5, rfl⟩
theorem fold_Unfold.isF (a0 : ByteArray) : IsLim (fun k => fold_Unfold.f k a0) (fold_Unfold.F a0) := ⟨fun k => fold_Unfold.mono a0 k, rfl⟩
theorem fold_Unfold.L0_eq (x0 : ByteArray) (x4 : List Int) (x5 : Int) : fold_Unfold.L0 x0 x4 x5 = if x5 < (x0.size : Int) then (if 0 ≤ x5 then (if (bt x0 x5) = 10 then (if (wrap64 (x5 + 1)) < (x0.size : Int) then (if 0 ≤ (wrap64 (x5 + 1)) then (if (bt x0 (wrap64 (x5 + 1))) = 32 then (fold_Unfold.L0 x0 x4 (wrap64 ((wrap64 (x5 + 1)) + 1))) else (if (bt x0 (wrap64 (x5 + 1))) = 9 then (fold_Unfold.L0 x0 x4 (wrap64 ((wrap64 (x5 + 1)) + 1))) else (if x4.length < 140737488355328 then (fold_Unfold.L0 x0 (x4 ++ [bt x0 x5]) (wrap64 (x5 + 1))) else (none)))) else (none)) else (if x4.length < 140737488355328 then (fold_Unfold.L0 x0 (x4 ++ [bt x0 x5]) (wrap64 (x5 + 1))) else (none))) else (if x4.length < 140737488355328 then (fold_Unfold.L0 x0 (x4 ++ [bt x0 x5]) (wrap64 (x5 + 1))) else (none))) else (none)) else ((strings_Split.f (strOfNums x4) (⟨#[10]⟩ : ByteArray)).bind fun t241 => (if 0 ≤ (wrap64 ((t241.length : Int) - 1)) then (if (wrap64 ((t241.length : Int) - 1)) < (t241.length : Int) then (if (rdOf ByteArray.empty t241 (wrap64 ((t241.length : Int) - 1))).toList = ([] : List UInt8) then (if (wrap64 ((t241.length : Int) - 1)) ≤ (t241.length : Int) then (some ((t241.take ((wrap64 ((t241.length : Int) - 1)) : Int).toNat), 0)) else (none)) else (some (t241, 0))) else (none)) else (none))) := by
  apply IsLim.step (fold_Unfold.isL0 x0 x4 x5).mono
  case hf =>
    repeat'
      try intro _
      first
      | (with_reducible exact fold_Unfold.isL0 _ _ _)
      | (with_reducible apply IsLim.ite)
      | (with_reducible apply IsLim.bind)
      | (apply IsLim.cst; intro _; exact rfl)
  case h => intro k; rw [fold_Unfold.l0]
theorem fold_Unfold.F_eq (a0 : ByteArray) : fold_Unfold.F a0 = if (a0.size : Int) > 600000 then (some (([] : List ByteArray), 2)) else ((fold_lone.f a0).bind fun t230 => (if t230 = true then (some (([] : List ByteArray), 18)) else ((strings_ReplaceAll.f a0 (⟨#[13, 10]⟩ : ByteArray) (⟨#[10]⟩ : ByteArray)).bind fun t231 => (fold_Unfold.L0 t231 ([] : List Int) 0)))) := by
  apply IsLim.via
  case hf =>
    repeat'
      try intro _
      first
      | (with_reducible exact fold_Unfold.isL0 _ _ _)
      | (with_reducible apply IsLim.ite)
      | (with_reducible apply IsLim.bind)
      | (apply IsLim.cst; intro _; exact rfl)
  case h => exact fun _ => rfl
noncomputable def line_next.J0 (x0 : ByteArray) (x12 : Bool) : Option (ByteArray × ByteArray × Bool) := lim fun k => line_next.j0 k x0 x12
noncomputable def line_next.F (a0 : ByteArray) : Option (ByteArray × ByteArray × Bool) := lim fun k => line_next.f k a0
theorem line_next.isJ0 (x0 : ByteArray) (x12 : Bool) : IsLim (fun k => line_next.j0 k x0 x12) (line_next.J0 x0 x12) := ⟨fun k => (line_next.mono_l k) x0 x12, rfl⟩
theorem line_next.isF (a0 : ByteArray) : IsLim (fun k => line_next.f k a0) (line_next.F a0) := ⟨fun k => line_next.mono a0 k, rfl⟩
theorem line_next.J0_eq (x0 : ByteArray) (x12 : Bool) : line_next.J0 x0 x12 = if x12 = true then ((line_until.F x0 (⟨#[58, 59, 44, 34]⟩ : ByteArray)).bind fun t249 => (if 0 ≤ t249 then (if t249 ≤ (x0.size : Int) then (some (x0.extract 0 (t249 : Int).toNat, x0.extract (t249 : Int).toNat x0.size, true)) else (none)) else (none))) else (if 1 ≤ (x0.size : Int) then ((strings_Cut.f (x0.extract 1 x0.size) (⟨#[34]⟩ : ByteArray)).bind fun bt250 => (some (bt250.1, bt250.2.1, bt250.2.2))) else (none)) := by
  apply IsLim.step (line_next.isJ0 x0 x12).mono
  case hf =>
    repeat'
      try intro _
      first
      | (with_reducible exact line_until.isF _ _)
      | (with_reducible apply IsLim.ite)
      | (with_reducible apply IsLim.bind)
      | (apply IsLim.cst; intro _; exact rfl)
  case h => intro k; rw [line_next.j0]
theorem line_next.F_eq (a0 : ByteArray) : line_next.F a0 = if a0.toList = ([] : List UInt8) then (line_next.J0 a0 true) else (if 0 < (a0.size : Int) then (line_next.J0 a0 ((bt a0 0) != 34)) else (none)) := by
  apply IsLim.via
  case hf =>
    repeat'
      try intro _
      first
      | (with_reducible exact line_next.isJ0 _ _)
      | (with_reducible apply IsLim.ite)
      | (with_reducible apply IsLim.bind)
      | (apply IsLim.cst; intro _; exact rfl)
  case h => exact fun _ => rfl
end Go.Proofs.YtdgeokpbedllaaaDoor.PTre

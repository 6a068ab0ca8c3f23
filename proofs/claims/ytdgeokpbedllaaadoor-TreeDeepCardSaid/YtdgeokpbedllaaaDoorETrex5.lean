/- Printed functions of the family Tre without a bound on their rounds, and the equation that each meets. No condition. -/
import Derived.Test.YtdgeokpbedllaaaDoorBase
import Derived.Test.YtdgeokpbedllaaaDoorPTrex5
namespace Go.Proofs.YtdgeokpbedllaaaDoor.PTre
open Go.RowKit Go.Proofs.YtdgeokpbedllaaaDoorW.PrintWords Go.Proofs.YtdgeokpbedllaaaDoorW.PrintLast Go.Proofs.YtdgeokpbedllaaaDoor.Base
set_option linter.unusedVariables false
noncomputable def fold_Unfold.L0 (x0 : ByteArray) (x4 : List Int) (x5 : Int) : Option (List ByteArray × Int) := lim fun k => fold_Unfold.l0 k x0 x4 x5
noncomputable def fold_Unfold.F (a0 : ByteArray) : Option (List ByteArray × Int) := lim fun k => fold_Unfold.f k a0
theorem fold_Unfold.isL0 (x0 : ByteArray) (x4 : List Int) (x5 : Int) : IsLim (fun k => fold_Unfold.l0 k x0 x4 x5) (fold_Unfold.L0 x0 x4 x5) := ⟨fun k => (fold_Unfold.mono_l k) x0 x4 x5, rfl⟩
theorem fold_Unfold.isF (a0 : ByteArray) : IsLim (fun k => fold_Unfold.f k a0) (fold_Unfold.F a0) := ⟨fun k => fold_Unfold.mono a0 k, rfl⟩
theorem fold_Unfold.L0_eq (x0 : ByteArray) (x4 : List Int) (x5 : Int) : fold_Unfold.L0 x0 x4 x5 = if x5 < (x0.size : Int) then (if 0 ≤ x5 then (if (bt x0 x5) = 10 then (if (wrap64 (x5 + 1)) < (x0.size : Int) then (if 0 ≤ (wrap64 (x5 + 1)) then (if (bt x0 (wrap64 (x5 + 1))) = 32 then (fold_Unfold.L0 x0 x4 (wrap64 ((wrap64 (x5 + 1)) + 1))) else (if (bt x0 (wrap64 (x5 + 1))) = 9 then (fold_Unfold.L0 x0 x4 (wrap64 ((wrap64 (x5 + 1)) + 1))) else (if x4.length < 140737488355328 then (fold_Unfold.L0 x0 (x4 ++ [bt x0 x5]) (wrap64 (x5 + 1))) else (none)))) else (none)) else (if x4.length < 140737488355328 then (fold_Unfold.L0 x0 (x4 ++ [bt x0 x5]) (wrap64 (x5 + 1))) else (none))) else (if x4.length < 140737488355328 then (fold_Unfold.L0 x0 (x4 ++ [bt x0 x5]) (wrap64 (x5 + 1))) else (none))) else (none)) else ((strings_Split.f (strOfNums x4) (⟨#[10]⟩ : ByteArray)).bind fun t166 => (if 0 ≤ (wrap64 ((t166.length : Int) - 1)) then (if (wrap64 ((t166.length : Int) - 1)) < (t166.length : Int) then (if (rdOf ByteArray.empty t166 (wrap64 ((t166.length : Int) - 1))).toList = ([] : List UInt8) then (if (wrap64 ((t166.length : Int) - 1)) ≤ (t166.length : Int) then (some ((t166.take ((wrap64 ((t166.length : Int) - 1)) : Int).toNat), 0)) else (none)) else (some (t166, 0))) else (none)) else (none))) := by
  apply IsLim.step (fold_Unfold.isL0 x0 x4 x5).mono
  case hf =>
    repeat'
      try intro _
      first
      | (with_reducible exact fold_Unfold.isL0 _ _ _)
      | (with_reducible apply IsLim.ite)
      | (with_reducible apply IsLim.bind)
      | (apply IsLim.cst; intro _; exact rfl)
  case h => intro k; rw [fold_Unfold.l0]
theorem fold_Unfold.F_eq (a0 : ByteArray) : fold_Unfold.F a0 = if (a0.size : Int) > 600000 then (some (([] : List ByteArray), 2)) else ((fold_lone.f a0).bind fun t155 => (if t155 = true then (some (([] : List ByteArray), 18)) else ((strings_ReplaceAll.f a0 (⟨#[13, 10]⟩ : ByteArray) (⟨#[10]⟩ : ByteArray)).bind fun t156 => (fold_Unfold.L0 t156 ([] : List Int) 0)))) := by
  apply IsLim.via
  case hf =>
    repeat'
      try intro _
      first
      | (with_reducible exact fold_Unfold.isL0 _ _ _)
      | (with_reducible apply IsLim.ite)
      | (with_reducible apply IsLim.bind)
      | (apply IsLim.cst; intro _; exact rfl)
  case h => exact fun _ => rfl
noncomputable def line_until.L0 (x0 : ByteArray) (x1 : ByteArray) (x7 : Int) (x8 : Int) : Option (Int) := lim fun k => line_until.l0 k x0 x1 x7 x8
noncomputable def line_until.F (a0 : ByteArray) (a1 : ByteArray) : Option (Int) := lim fun k => line_until.f k a0 a1
theorem line_until.isL0 (x0 : ByteArray) (x1 : ByteArray) (x7 : Int) (x8 : Int) : IsLim (fun k => line_until.l0 k x0 x1 x7 x8) (line_until.L0 x0 x1 x7 x8) := ⟨fun k => (line_until.mono_l k) x0 x1 x7 x8, rfl⟩
theorem line_until.isF (a0 : ByteArray) (a1 : ByteArray) : IsLim (fun k => line_until.f k a0 a1) (line_until.F a0 a1) := ⟨fun k => line_until.mono a0 a1 k, rfl⟩
theorem line_until.L0_eq (x0 : ByteArray) (x1 : ByteArray) (x7 : Int) (x8 : Int) : line_until.L0 x0 x1 x7 x8 = if x8 < x7 then (if 0 ≤ x8 then (if x8 < (x0.size : Int) then ((strings_IndexByte.f x1 (bt x0 x8)).bind fun t173 => (if t173 ≥ 0 then (some x8) else (line_until.L0 x0 x1 x7 (wrap64 (x8 + 1))))) else (none)) else (none)) else (some (x0.size : Int)) := by
  apply IsLim.step (line_until.isL0 x0 x1 x7 x8).mono
  case hf =>
    repeat'
      try intro _
      first
      | (with_reducible exact line_until.isL0 _ _ _ _)
      | (with_reducible apply IsLim.ite)
      | (with_reducible apply IsLim.bind)
      | (apply IsLim.cst; intro _; exact rfl)
  case h => intro k; rw [line_until.l0]
theorem line_until.F_eq (a0 : ByteArray) (a1 : ByteArray) : line_until.F a0 a1 = line_until.L0 a0 a1 (a0.size : Int) 0 := by
  apply IsLim.via
  case hf =>
    repeat'
      try intro _
      first
      | (with_reducible exact line_until.isL0 _ _ _ _)
      | (with_reducible apply IsLim.ite)
      | (with_reducible apply IsLim.bind)
      | (apply IsLim.cst; intro _; exact rfl)
  case h => exact fun _ => rfl
noncomputable def line_next.J0 (x0 : ByteArray) (x12 : Bool) : Option (ByteArray × ByteArray × Bool) := lim fun k => line_next.j0 k x0 x12
noncomputable def line_next.F (a0 : ByteArray) : Option (ByteArray × ByteArray × Bool) := lim fun k => line_next.f k a0
theorem line_next.isJ0 (x0 : ByteArray) (x12 : Bool) : IsLim (fun k => line_next.j0 k x0 x12) (line_next.J0 x0 x12) := ⟨fun k => (line_next.mono_l k) x0 x12, rfl⟩
theorem line_next.isF (a0 : ByteArray) : IsLim (fun k => line_next.f k a0) (line_next.F a0) := ⟨fun k => line_next.mono a0 k, rfl⟩
theorem line_next.J0_eq (x0 : ByteArray) (x12 : Bool) : line_next.J0 x0 x12 = if x12 = true then ((line_until.F x0 (⟨#[58, 59, 44, 34]⟩ : ByteArray)).bind fun t175 => (if 0 ≤ t175 then (if t175 ≤ (x0.size : Int) then (some (x0.extract 0 (t175 : Int).toNat, x0.extract (t175 : Int).toNat x0.size, true)) else (none)) else (none))) else (if 1 ≤ (x0.size : Int) then ((strings_Cut.f (x0.extract 1 x0.size) (⟨#[34]⟩ : ByteArray)).bind fun bt176 => (some (bt176.1, bt176.2.1, bt176.2.2))) else (none)) := by
  apply IsLim.step (line_next.isJ0 x0 x12).mono
  case hf =>
    repeat'
      try intro _
      first
      | (with_reducible exact line_until.isF _ _)
      | (with_reducible apply IsLim.ite)
      | (with_reducible apply IsLim.bind)
      | (apply IsLim.cst; intro _; exact rfl)
  case h => intro k; rw [line_next.j0]
theorem line_next.F_eq (a0 : ByteArray) : line_next.F a0 = if a0.toList = ([] : List UInt8) then (line_next.J0 a0 true) else (if 0 < (a0.size : Int) then (line_next.J0 a0 ((bt a0 0) != 34)) else (none)) := by
  apply IsLim.via
  case hf =>
    repeat'
      try intro _
      first
      | (with_reducible exact line_next.isJ0 _ _)
      | (with_reducible apply IsLim.ite)
      | (with_reducible apply IsLim.bind)
      | (apply IsLim.cst; intro _; exact rfl)
  case h => exact fun _ => rfl
end Go.Proofs.YtdgeokpbedllaaaDoor.PTre

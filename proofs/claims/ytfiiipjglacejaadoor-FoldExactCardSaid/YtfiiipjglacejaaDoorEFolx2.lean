/- Printed functions of the family Fol without a bound on their rounds, and the equation that each meets. No condition. -/
import Derived.Test.YtfiiipjglacejaaDoorBase
import Derived.Test.YtfiiipjglacejaaDoorPFolx2
namespace Go.Proofs.YtfiiipjglacejaaDoor.PFol
open Go.RowKit Go.Proofs.YtfiiipjglacejaaDoorW.PrintWords Go.Proofs.YtfiiipjglacejaaDoorW.PrintLast Go.Proofs.YtfiiipjglacejaaDoor.Base
set_option linter.unusedVariables false
noncomputable def fold_Unfold.L0 (x0 : ByteArray) (x4 : List Int) (x5 : Int) : Option (List ByteArray × Int) := lim fun k => fold_Unfold.l0 k x0 x4 x5
noncomputable def fold_Unfold.F (a0 : ByteArray) : Option (List ByteArray × Int) := lim fun k => fold_Unfold.f k a0
theorem fold_Unfold.isL0 (x0 : ByteArray) (x4 : List Int) (x5 : Int) : IsLim (fun k => fold_Unfold.l0 k x0 x4 x5) (fold_Unfold.L0 x0 x4 x5) := ⟨fun k => (fold_Unfold.mono_l k) x0 x4 x5, rfl⟩
theorem fold_Unfold.isF (a0 : ByteArray) : IsLim (fun k => fold_Unfold.f k a0) (fold_Unfold.F a0) := ⟨fun k => fold_Unfold.mono a0 k, rfl⟩
theorem fold_Unfold.L0_eq (x0 : ByteArray) (x4 : List Int) (x5 : Int) : fold_Unfold.L0 x0 x4 x5 = if x5 < (x0.size : Int) then (if 0 ≤ x5 then (if (bt x0 x5) = 10 then (if (wrap64 (x5 + 1)) < (x0.size : Int) then (if 0 ≤ (wrap64 (x5 + 1)) then (if (bt x0 (wrap64 (x5 + 1))) = 32 then (fold_Unfold.L0 x0 x4 (wrap64 ((wrap64 (x5 + 1)) + 1))) else (if (bt x0 (wrap64 (x5 + 1))) = 9 then (fold_Unfold.L0 x0 x4 (wrap64 ((wrap64 (x5 + 1)) + 1))) else (if x4.length < 140737488355328 then (fold_Unfold.L0 x0 (x4 ++ [bt x0 x5]) (wrap64 (x5 + 1))) else (none)))) else (none)) else (if x4.length < 140737488355328 then (fold_Unfold.L0 x0 (x4 ++ [bt x0 x5]) (wrap64 (x5 + 1))) else (none))) else (if x4.length < 140737488355328 then (fold_Unfold.L0 x0 (x4 ++ [bt x0 x5]) (wrap64 (x5 + 1))) else (none))) else (none)) else ((strings_Split.f (strOfNums x4) (⟨#[10]⟩ : ByteArray)).bind fun t126 => (if 0 ≤ (wrap64 ((t126.length : Int) - 1)) then (if (wrap64 ((t126.length : Int) - 1)) < (t126.length : Int) then (if (rdOf ByteArray.empty t126 (wrap64 ((t126.length : Int) - 1))).toList = ([] : List UInt8) then (if (wrap64 ((t126.length : Int) - 1)) ≤ (t126.length : Int) then (some ((t126.take ((wrap64 ((t126.length : Int) - 1)) : Int).toNat), 0)) else (none)) else (some (t126, 0))) else (none)) else (none))) := by
  refine IsLim.step (fold_Unfold.isL0 x0 x4 x5).mono (f := fun k => if x5 < (x0.size : Int) then (if 0 ≤ x5 then (if (bt x0 x5) = 10 then (if (wrap64 (x5 + 1)) < (x0.size : Int) then (if 0 ≤ (wrap64 (x5 + 1)) then (if (bt x0 (wrap64 (x5 + 1))) = 32 then (fold_Unfold.l0 k x0 x4 (wrap64 ((wrap64 (x5 + 1)) + 1))) else (if (bt x0 (wrap64 (x5 + 1))) = 9 then (fold_Unfold.l0 k x0 x4 (wrap64 ((wrap64 (x5 + 1)) + 1))) else (if x4.length < 140737488355328 then (fold_Unfold.l0 k x0 (x4 ++ [bt x0 x5]) (wrap64 (x5 + 1))) else (none)))) else (none)) else (if x4.length < 140737488355328 then (fold_Unfold.l0 k x0 (x4 ++ [bt x0 x5]) (wrap64 (x5 + 1))) else (none))) else (if x4.length < 140737488355328 then (fold_Unfold.l0 k x0 (x4 ++ [bt x0 x5]) (wrap64 (x5 + 1))) else (none))) else (none)) else ((strings_Split.f (strOfNums x4) (⟨#[10]⟩ : ByteArray)).bind fun t126 => (if 0 ≤ (wrap64 ((t126.length : Int) - 1)) then (if (wrap64 ((t126.length : Int) - 1)) < (t126.length : Int) then (if (rdOf ByteArray.empty t126 (wrap64 ((t126.length : Int) - 1))).toList = ([] : List UInt8) then (if (wrap64 ((t126.length : Int) - 1)) ≤ (t126.length : Int) then (some ((t126.take ((wrap64 ((t126.length : Int) - 1)) : Int).toNat), 0)) else (none)) else (some (t126, 0))) else (none)) else (none)))) (fun k => by rw [fold_Unfold.l0]) ?_
  · repeat' first
    | (with_reducible exact IsLim.const _)
    | (with_reducible exact fold_Unfold.isL0 _ _ _)
    | (with_reducible refine IsLim.ite ?_ ?_)
    | (with_reducible refine IsLim.bind ?_ (fun _ => ?_))
theorem fold_Unfold.F_eq (a0 : ByteArray) : fold_Unfold.F a0 = if (a0.size : Int) > 600000 then (some (([] : List ByteArray), 2)) else ((fold_lone.f a0).bind fun t115 => (if t115 = true then (some (([] : List ByteArray), 18)) else ((strings_ReplaceAll.f a0 (⟨#[13, 10]⟩ : ByteArray) (⟨#[10]⟩ : ByteArray)).bind fun t116 => (fold_Unfold.L0 t116 ([] : List Int) 0)))) := by
  refine IsLim.eq (g := fun k => if (a0.size : Int) > 600000 then (some (([] : List ByteArray), 2)) else ((fold_lone.f a0).bind fun t115 => (if t115 = true then (some (([] : List ByteArray), 18)) else ((strings_ReplaceAll.f a0 (⟨#[13, 10]⟩ : ByteArray) (⟨#[10]⟩ : ByteArray)).bind fun t116 => (fold_Unfold.l0 k t116 ([] : List Int) 0))))) ?_
  · repeat' first
    | (with_reducible exact IsLim.const _)
    | (with_reducible exact fold_Unfold.isL0 _ _ _)
    | (with_reducible refine IsLim.ite ?_ ?_)
    | (with_reducible refine IsLim.bind ?_ (fun _ => ?_))
end Go.Proofs.YtfiiipjglacejaaDoor.PFol

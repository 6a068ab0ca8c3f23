/- Printed functions of the family Fol without a bound on their rounds, and the equation that each meets. No condition. -/
import Derived.Test.YtfiiipjglacejaaDoorBase
import Derived.Test.YtfiiipjglacejaaDoorPFolx3
namespace Go.Proofs.YtfiiipjglacejaaDoor.PFol
open Go.RowKit Go.Proofs.YtfiiipjglacejaaDoorW.PrintWords Go.Proofs.YtfiiipjglacejaaDoorW.PrintLast Go.Proofs.YtfiiipjglacejaaDoor.Base
set_option linter.unusedVariables false
noncomputable def solsticeref16_Unfold.L0 (x0 : ByteArray) (x4 : Int) : Option (List ByteArray × Int) := lim fun k => solsticeref16_Unfold.l0 k x0 x4
noncomputable def solsticeref16_Unfold.L1 (x0 : ByteArray) (x5 : List ByteArray) (x6 : List Int) (x7 : Bool) (x8 : Int) : Option (List ByteArray × Int) := lim fun k => solsticeref16_Unfold.l1 k x0 x5 x6 x7 x8
noncomputable def solsticeref16_Unfold.J2 (x0 : ByteArray) (x5 : List ByteArray) (x6 : List Int) (x8 : Int) (x9 : Int) (x52 : Bool) : Option (List ByteArray × Int) := lim fun k => solsticeref16_Unfold.j2 k x0 x5 x6 x8 x9 x52
noncomputable def solsticeref16_Unfold.F (a0 : ByteArray) : Option (List ByteArray × Int) := lim fun k => solsticeref16_Unfold.f k a0
theorem solsticeref16_Unfold.isL0 (x0 : ByteArray) (x4 : Int) : IsLim (fun k => solsticeref16_Unfold.l0 k x0 x4) (solsticeref16_Unfold.L0 x0 x4) := ⟨fun k => (solsticeref16_Unfold.mono_l k).1 x0 x4, rfl⟩
theorem solsticeref16_Unfold.isL1 (x0 : ByteArray) (x5 : List ByteArray) (x6 : List Int) (x7 : Bool) (x8 : Int) : IsLim (fun k => solsticeref16_Unfold.l1 k x0 x5 x6 x7 x8) (solsticeref16_Unfold.L1 x0 x5 x6 x7 x8) := ⟨fun k => (solsticeref16_Unfold.mono_l k).2.1 x0 x5 x6 x7 x8, rfl⟩
theorem solsticeref16_Unfold.isJ2 (x0 : ByteArray) (x5 : List ByteArray) (x6 : List Int) (x8 : Int) (x9 : Int) (x52 : Bool) : IsLim (fun k => solsticeref16_Unfold.j2 k x0 x5 x6 x8 x9 x52) (solsticeref16_Unfold.J2 x0 x5 x6 x8 x9 x52) := ⟨fun k => (solsticeref16_Unfold.mono_l k).2.2 x0 x5 x6 x8 x9 x52, rfl⟩
theorem solsticeref16_Unfold.isF (a0 : ByteArray) : IsLim (fun k => solsticeref16_Unfold.f k a0) (solsticeref16_Unfold.F a0) := ⟨fun k => solsticeref16_Unfold.mono a0 k, rfl⟩
theorem solsticeref16_Unfold.L0_eq (x0 : ByteArray) (x4 : Int) : solsticeref16_Unfold.L0 x0 x4 = if x4 < (x0.size : Int) then (if 0 ≤ x4 then (if (bt x0 x4) = 13 then (if (wrap64 (x4 + 1)) = (x0.size : Int) then (some (([] : List ByteArray), 18)) else (if 0 ≤ (wrap64 (x4 + 1)) then (if (wrap64 (x4 + 1)) < (x0.size : Int) then (if (bt x0 (wrap64 (x4 + 1))) = 10 then (solsticeref16_Unfold.L0 x0 (wrap64 (x4 + 1))) else (some (([] : List ByteArray), 18))) else (none)) else (none))) else (solsticeref16_Unfold.L0 x0 (wrap64 (x4 + 1)))) else (none)) else (solsticeref16_Unfold.L1 x0 ([] : List ByteArray) (([] : List Int)) false 0) := by
  refine IsLim.step (solsticeref16_Unfold.isL0 x0 x4).mono (f := fun k => if x4 < (x0.size : Int) then (if 0 ≤ x4 then (if (bt x0 x4) = 13 then (if (wrap64 (x4 + 1)) = (x0.size : Int) then (some (([] : List ByteArray), 18)) else (if 0 ≤ (wrap64 (x4 + 1)) then (if (wrap64 (x4 + 1)) < (x0.size : Int) then (if (bt x0 (wrap64 (x4 + 1))) = 10 then (solsticeref16_Unfold.l0 k x0 (wrap64 (x4 + 1))) else (some (([] : List ByteArray), 18))) else (none)) else (none))) else (solsticeref16_Unfold.l0 k x0 (wrap64 (x4 + 1)))) else (none)) else (solsticeref16_Unfold.l1 k x0 ([] : List ByteArray) (([] : List Int)) false 0)) (fun k => by rw [solsticeref16_Unfold.l0]) ?_
  · repeat' first
    | (with_reducible exact IsLim.const _)
    | (with_reducible exact solsticeref16_Unfold.isL0 _ _)
    | (with_reducible exact solsticeref16_Unfold.isL1 _ _ _ _ _)
    | (with_reducible refine IsLim.ite ?_ ?_)
    | (with_reducible refine IsLim.bind ?_ (fun _ => ?_))
theorem solsticeref16_Unfold.L1_eq (x0 : ByteArray) (x5 : List ByteArray) (x6 : List Int) (x7 : Bool) (x8 : Int) : solsticeref16_Unfold.L1 x0 x5 x6 x7 x8 = if x8 < (x0.size : Int) then (if 0 ≤ x8 then (if (bt x0 x8) = 13 then (solsticeref16_Unfold.J2 x0 x5 x6 x8 (bt x0 x8) false) else (solsticeref16_Unfold.J2 x0 x5 x6 x8 (bt x0 x8) ((bt x0 x8) != 10))) else (none)) else (if x7 = true then (if (x6.length : Int) > 0 then (if x5.length < 8796093022208 then (some ((x5 ++ [strOfNums x6]), 0)) else (none)) else (some (x5, 0))) else (some (x5, 0))) := by
  refine IsLim.step (solsticeref16_Unfold.isL1 x0 x5 x6 x7 x8).mono (f := fun k => if x8 < (x0.size : Int) then (if 0 ≤ x8 then (if (bt x0 x8) = 13 then (solsticeref16_Unfold.j2 k x0 x5 x6 x8 (bt x0 x8) false) else (solsticeref16_Unfold.j2 k x0 x5 x6 x8 (bt x0 x8) ((bt x0 x8) != 10))) else (none)) else (if x7 = true then (if (x6.length : Int) > 0 then (if x5.length < 8796093022208 then (some ((x5 ++ [strOfNums x6]), 0)) else (none)) else (some (x5, 0))) else (some (x5, 0)))) (fun k => by rw [solsticeref16_Unfold.l1]) ?_
  · repeat' first
    | (with_reducible exact IsLim.const _)
    | (with_reducible exact solsticeref16_Unfold.isJ2 _ _ _ _ _ _)
    | (with_reducible refine IsLim.ite ?_ ?_)
    | (with_reducible refine IsLim.bind ?_ (fun _ => ?_))
theorem solsticeref16_Unfold.J2_eq (x0 : ByteArray) (x5 : List ByteArray) (x6 : List Int) (x8 : Int) (x9 : Int) (x52 : Bool) : solsticeref16_Unfold.J2 x0 x5 x6 x8 x9 x52 = if x52 = true then (if x6.length < 140737488355328 then (solsticeref16_Unfold.L1 x0 x5 (x6 ++ [x9]) true (wrap64 (x8 + 1))) else (none)) else (if x9 = 13 then (if (wrap64 ((wrap64 (x8 + 1)) + 1)) < (x0.size : Int) then (if 0 ≤ (wrap64 ((wrap64 (x8 + 1)) + 1)) then (if (bt x0 (wrap64 ((wrap64 (x8 + 1)) + 1))) = 32 then (solsticeref16_Unfold.L1 x0 x5 x6 true (wrap64 ((wrap64 ((wrap64 (x8 + 1)) + 1)) + 1))) else (if (bt x0 (wrap64 ((wrap64 (x8 + 1)) + 1))) = 9 then (solsticeref16_Unfold.L1 x0 x5 x6 true (wrap64 ((wrap64 ((wrap64 (x8 + 1)) + 1)) + 1))) else (if x5.length < 8796093022208 then (solsticeref16_Unfold.L1 x0 (x5 ++ [strOfNums x6]) ([] : List Int) false (wrap64 ((wrap64 (x8 + 1)) + 1))) else (none)))) else (none)) else (if x5.length < 8796093022208 then (solsticeref16_Unfold.L1 x0 (x5 ++ [strOfNums x6]) ([] : List Int) false (wrap64 ((wrap64 (x8 + 1)) + 1))) else (none))) else (if (wrap64 (x8 + 1)) < (x0.size : Int) then (if 0 ≤ (wrap64 (x8 + 1)) then (if (bt x0 (wrap64 (x8 + 1))) = 32 then (solsticeref16_Unfold.L1 x0 x5 x6 true (wrap64 ((wrap64 (x8 + 1)) + 1))) else (if (bt x0 (wrap64 (x8 + 1))) = 9 then (solsticeref16_Unfold.L1 x0 x5 x6 true (wrap64 ((wrap64 (x8 + 1)) + 1))) else (if x5.length < 8796093022208 then (solsticeref16_Unfold.L1 x0 (x5 ++ [strOfNums x6]) ([] : List Int) false (wrap64 (x8 + 1))) else (none)))) else (none)) else (if x5.length < 8796093022208 then (solsticeref16_Unfold.L1 x0 (x5 ++ [strOfNums x6]) ([] : List Int) false (wrap64 (x8 + 1))) else (none)))) := by
  refine IsLim.step (solsticeref16_Unfold.isJ2 x0 x5 x6 x8 x9 x52).mono (f := fun k => if x52 = true then (if x6.length < 140737488355328 then (solsticeref16_Unfold.l1 k x0 x5 (x6 ++ [x9]) true (wrap64 (x8 + 1))) else (none)) else (if x9 = 13 then (if (wrap64 ((wrap64 (x8 + 1)) + 1)) < (x0.size : Int) then (if 0 ≤ (wrap64 ((wrap64 (x8 + 1)) + 1)) then (if (bt x0 (wrap64 ((wrap64 (x8 + 1)) + 1))) = 32 then (solsticeref16_Unfold.l1 k x0 x5 x6 true (wrap64 ((wrap64 ((wrap64 (x8 + 1)) + 1)) + 1))) else (if (bt x0 (wrap64 ((wrap64 (x8 + 1)) + 1))) = 9 then (solsticeref16_Unfold.l1 k x0 x5 x6 true (wrap64 ((wrap64 ((wrap64 (x8 + 1)) + 1)) + 1))) else (if x5.length < 8796093022208 then (solsticeref16_Unfold.l1 k x0 (x5 ++ [strOfNums x6]) ([] : List Int) false (wrap64 ((wrap64 (x8 + 1)) + 1))) else (none)))) else (none)) else (if x5.length < 8796093022208 then (solsticeref16_Unfold.l1 k x0 (x5 ++ [strOfNums x6]) ([] : List Int) false (wrap64 ((wrap64 (x8 + 1)) + 1))) else (none))) else (if (wrap64 (x8 + 1)) < (x0.size : Int) then (if 0 ≤ (wrap64 (x8 + 1)) then (if (bt x0 (wrap64 (x8 + 1))) = 32 then (solsticeref16_Unfold.l1 k x0 x5 x6 true (wrap64 ((wrap64 (x8 + 1)) + 1))) else (if (bt x0 (wrap64 (x8 + 1))) = 9 then (solsticeref16_Unfold.l1 k x0 x5 x6 true (wrap64 ((wrap64 (x8 + 1)) + 1))) else (if x5.length < 8796093022208 then (solsticeref16_Unfold.l1 k x0 (x5 ++ [strOfNums x6]) ([] : List Int) false (wrap64 (x8 + 1))) else (none)))) else (none)) else (if x5.length < 8796093022208 then (solsticeref16_Unfold.l1 k x0 (x5 ++ [strOfNums x6]) ([] : List Int) false (wrap64 (x8 + 1))) else (none))))) (fun k => by rw [solsticeref16_Unfold.j2]) ?_
  · repeat' first
    | (with_reducible exact IsLim.const _)
    | (with_reducible exact solsticeref16_Unfold.isL1 _ _ _ _ _)
    | (with_reducible refine IsLim.ite ?_ ?_)
    | (with_reducible refine IsLim.bind ?_ (fun _ => ?_))
theorem solsticeref16_Unfold.F_eq (a0 : ByteArray) : solsticeref16_Unfold.F a0 = if (a0.size : Int) > 600000 then (some (([] : List ByteArray), 2)) else (solsticeref16_Unfold.L0 a0 0) := by
  refine IsLim.eq (g := fun k => if (a0.size : Int) > 600000 then (some (([] : List ByteArray), 2)) else (solsticeref16_Unfold.l0 k a0 0)) ?_
  · repeat' first
    | (with_reducible exact IsLim.const _)
    | (with_reducible exact solsticeref16_Unfold.isL0 _ _)
    | (with_reducible refine IsLim.ite ?_ ?_)
    | (with_reducible refine IsLim.bind ?_ (fun _ => ?_))
noncomputable def solsticekeep_Texts.L0 (x0 : List ByteArray) (x1 : List ByteArray) (x5 : Int) : Option (Bool) := lim fun k => solsticekeep_Texts.l0 k x0 x1 x5
noncomputable def solsticekeep_Texts.F (l0 : List ByteArray) (l1 : List ByteArray) : Option (Bool) := lim fun k => solsticekeep_Texts.f k l0 l1
theorem solsticekeep_Texts.isL0 (x0 : List ByteArray) (x1 : List ByteArray) (x5 : Int) : IsLim (fun k => solsticekeep_Texts.l0 k x0 x1 x5) (solsticekeep_Texts.L0 x0 x1 x5) := ⟨fun k => (solsticekeep_Texts.mono_l k) x0 x1 x5, rfl⟩
theorem solsticekeep_Texts.isF (l0 : List ByteArray) (l1 : List ByteArray) : IsLim (fun k => solsticekeep_Texts.f k l0 l1) (solsticekeep_Texts.F l0 l1) := ⟨fun k => solsticekeep_Texts.mono l0 l1 k, rfl⟩
theorem solsticekeep_Texts.L0_eq (x0 : List ByteArray) (x1 : List ByteArray) (x5 : Int) : solsticekeep_Texts.L0 x0 x1 x5 = if x5 < (x0.length : Int) then (if 0 ≤ x5 then (if x5 < (x1.length : Int) then (if (rdOf ByteArray.empty x0 x5).toList = (rdOf ByteArray.empty x1 x5).toList then (solsticekeep_Texts.L0 x0 x1 (wrap64 (x5 + 1))) else (some false)) else (none)) else (none)) else (some true) := by
  refine IsLim.step (solsticekeep_Texts.isL0 x0 x1 x5).mono (f := fun k => if x5 < (x0.length : Int) then (if 0 ≤ x5 then (if x5 < (x1.length : Int) then (if (rdOf ByteArray.empty x0 x5).toList = (rdOf ByteArray.empty x1 x5).toList then (solsticekeep_Texts.l0 k x0 x1 (wrap64 (x5 + 1))) else (some false)) else (none)) else (none)) else (some true)) (fun k => by rw [solsticekeep_Texts.l0]) ?_
  · repeat' first
    | (with_reducible exact IsLim.const _)
    | (with_reducible exact solsticekeep_Texts.isL0 _ _ _)
    | (with_reducible refine IsLim.ite ?_ ?_)
    | (with_reducible refine IsLim.bind ?_ (fun _ => ?_))
theorem solsticekeep_Texts.F_eq (l0 : List ByteArray) (l1 : List ByteArray) : solsticekeep_Texts.F l0 l1 = if (l0.length : Int) = (l1.length : Int) then (solsticekeep_Texts.L0 l0 l1 0) else (some false) := by
  refine IsLim.eq (g := fun k => if (l0.length : Int) = (l1.length : Int) then (solsticekeep_Texts.l0 k l0 l1 0) else (some false)) ?_
  · repeat' first
    | (with_reducible exact IsLim.const _)
    | (with_reducible exact solsticekeep_Texts.isL0 _ _ _)
    | (with_reducible refine IsLim.ite ?_ ?_)
    | (with_reducible refine IsLim.bind ?_ (fun _ => ?_))
end Go.Proofs.YtfiiipjglacejaaDoor.PFol

/- Printed functions of the family Lin without a bound on their rounds, and the equation that each meets. No condition. -/
import Derived.Test.YtookjnpmbenheaaBase
import Derived.Test.YtookjnpmbenheaaPLinx6
import Derived.Test.YtookjnpmbenheaaELinx5
namespace Go.Proofs.Ytookjnpmbenheaa.PLin
open Go.RowKit Go.Proofs.YtookjnpmbenheaaW.PrintWords Go.Proofs.YtookjnpmbenheaaW.PrintLast Go.Proofs.Ytookjnpmbenheaa.Base
set_option linter.unusedVariables false
noncomputable def solsticekeep_Line.J0 (x26 : Bool) (x169000 : ByteArray) (x169001 : List (S54)) (x169002 : ByteArray) (x170000 : ByteArray) (x170001 : List (S54)) (x170002 : ByteArray) : Option (Bool) := lim fun k => solsticekeep_Line.j0 k x26 x169000 x169001 x169002 x170000 x170001 x170002
noncomputable def solsticekeep_Line.L0 (x5 : Int) (x169000 : ByteArray) (x169001 : List (S54)) (x169002 : ByteArray) (x170000 : ByteArray) (x170001 : List (S54)) (x170002 : ByteArray) : Option (Bool) := lim fun k => solsticekeep_Line.l0 k x5 x169000 x169001 x169002 x170000 x170001 x170002
noncomputable def solsticekeep_Line.F (a0_0 : ByteArray) (l0_1 : List (S54)) (a0_2 : ByteArray) (a1_0 : ByteArray) (l1_1 : List (S54)) (a1_2 : ByteArray) : Option (Bool) := lim fun k => solsticekeep_Line.f k a0_0 l0_1 a0_2 a1_0 l1_1 a1_2
theorem solsticekeep_Line.isJ0 (x26 : Bool) (x169000 : ByteArray) (x169001 : List (S54)) (x169002 : ByteArray) (x170000 : ByteArray) (x170001 : List (S54)) (x170002 : ByteArray) : IsLim (fun k => solsticekeep_Line.j0 k x26 x169000 x169001 x169002 x170000 x170001 x170002) (solsticekeep_Line.J0 x26 x169000 x169001 x169002 x170000 x170001 x170002) := ⟨fun k => (solsticekeep_Line.mono_l k).1 x26 x169000 x169001 x169002 x170000 x170001 x170002, rfl⟩
theorem solsticekeep_Line.isL0 (x5 : Int) (x169000 : ByteArray) (x169001 : List (S54)) (x169002 : ByteArray) (x170000 : ByteArray) (x170001 : List (S54)) (x170002 : ByteArray) : IsLim (fun k => solsticekeep_Line.l0 k x5 x169000 x169001 x169002 x170000 x170001 x170002) (solsticekeep_Line.L0 x5 x169000 x169001 x169002 x170000 x170001 x170002) := ⟨fun k => (solsticekeep_Line.mono_l k).2 x5 x169000 x169001 x169002 x170000 x170001 x170002, rfl⟩
theorem solsticekeep_Line.isF (a0_0 : ByteArray) (l0_1 : List (S54)) (a0_2 : ByteArray) (a1_0 : ByteArray) (l1_1 : List (S54)) (a1_2 : ByteArray) : IsLim (fun k => solsticekeep_Line.f k a0_0 l0_1 a0_2 a1_0 l1_1 a1_2) (solsticekeep_Line.F a0_0 l0_1 a0_2 a1_0 l1_1 a1_2) := ⟨fun k => solsticekeep_Line.mono a0_0 l0_1 a0_2 a1_0 l1_1 a1_2 k, rfl⟩
theorem solsticekeep_Line.J0_eq (x26 : Bool) (x169000 : ByteArray) (x169001 : List (S54)) (x169002 : ByteArray) (x170000 : ByteArray) (x170001 : List (S54)) (x170002 : ByteArray) : solsticekeep_Line.J0 x26 x169000 x169001 x169002 x170000 x170001 x170002 = if x26 = true then (some false) else (solsticekeep_Line.L0 0 x169000 x169001 x169002 x170000 x170001 x170002) := by
  refine IsLim.step (solsticekeep_Line.isJ0 x26 x169000 x169001 x169002 x170000 x170001 x170002).mono (f := fun k => if x26 = true then (some false) else (solsticekeep_Line.l0 k 0 x169000 x169001 x169002 x170000 x170001 x170002)) (fun k => by rw [solsticekeep_Line.j0]) ?_
  · repeat' first
    | (with_reducible exact IsLim.const _)
    | (with_reducible exact solsticekeep_Line.isL0 _ _ _ _ _ _ _)
    | (with_reducible refine IsLim.ite ?_ ?_)
    | (with_reducible refine IsLim.bind ?_ (fun _ => ?_))
theorem solsticekeep_Line.L0_eq (x5 : Int) (x169000 : ByteArray) (x169001 : List (S54)) (x169002 : ByteArray) (x170000 : ByteArray) (x170001 : List (S54)) (x170002 : ByteArray) : solsticekeep_Line.L0 x5 x169000 x169001 x169002 x170000 x170001 x170002 = if x5 < (x169001.length : Int) then (if 0 ≤ x5 then (if x5 < (x170001.length : Int) then (if ((rd_T54 x169001 x5).f0).toList = ((rd_T54 x170001 x5).f0).toList then ((solsticekeep_Texts.F ((rd_T54 x169001 x5).f1) ((rd_T54 x170001 x5).f1)).bind fun t174 => (if t174 = true then (solsticekeep_Line.L0 (wrap64 (x5 + 1)) x169000 x169001 x169002 x170000 x170001 x170002) else (some false))) else (some false)) else (none)) else (none)) else (some true) := by
  refine IsLim.step (solsticekeep_Line.isL0 x5 x169000 x169001 x169002 x170000 x170001 x170002).mono (f := fun k => if x5 < (x169001.length : Int) then (if 0 ≤ x5 then (if x5 < (x170001.length : Int) then (if ((rd_T54 x169001 x5).f0).toList = ((rd_T54 x170001 x5).f0).toList then ((solsticekeep_Texts.f k ((rd_T54 x169001 x5).f1) ((rd_T54 x170001 x5).f1)).bind fun t174 => (if t174 = true then (solsticekeep_Line.l0 k (wrap64 (x5 + 1)) x169000 x169001 x169002 x170000 x170001 x170002) else (some false))) else (some false)) else (none)) else (none)) else (some true)) (fun k => by rw [solsticekeep_Line.l0]) ?_
  · repeat' first
    | (with_reducible exact IsLim.const _)
    | (with_reducible exact solsticekeep_Line.isL0 _ _ _ _ _ _ _)
    | (with_reducible exact solsticekeep_Texts.isF _ _)
    | (with_reducible refine IsLim.ite ?_ ?_)
    | (with_reducible refine IsLim.bind ?_ (fun _ => ?_))
theorem solsticekeep_Line.F_eq (a0_0 : ByteArray) (l0_1 : List (S54)) (a0_2 : ByteArray) (a1_0 : ByteArray) (l1_1 : List (S54)) (a1_2 : ByteArray) : solsticekeep_Line.F a0_0 l0_1 a0_2 a1_0 l1_1 a1_2 = if a0_0.toList = a1_0.toList then (if a0_2.toList = a1_2.toList then (solsticekeep_Line.J0 ((l0_1.length : Int) != (l1_1.length : Int)) a0_0 l0_1 a0_2 a1_0 l1_1 a1_2) else (solsticekeep_Line.J0 true a0_0 l0_1 a0_2 a1_0 l1_1 a1_2)) else (solsticekeep_Line.J0 true a0_0 l0_1 a0_2 a1_0 l1_1 a1_2) := by
  refine IsLim.eq (g := fun k => if a0_0.toList = a1_0.toList then (if a0_2.toList = a1_2.toList then (solsticekeep_Line.j0 k ((l0_1.length : Int) != (l1_1.length : Int)) a0_0 l0_1 a0_2 a1_0 l1_1 a1_2) else (solsticekeep_Line.j0 k true a0_0 l0_1 a0_2 a1_0 l1_1 a1_2)) else (solsticekeep_Line.j0 k true a0_0 l0_1 a0_2 a1_0 l1_1 a1_2)) ?_
  · repeat' first
    | (with_reducible exact IsLim.const _)
    | (with_reducible exact solsticekeep_Line.isJ0 _ _ _ _ _ _ _)
    | (with_reducible refine IsLim.ite ?_ ?_)
    | (with_reducible refine IsLim.bind ?_ (fun _ => ?_))
end Go.Proofs.Ytookjnpmbenheaa.PLin

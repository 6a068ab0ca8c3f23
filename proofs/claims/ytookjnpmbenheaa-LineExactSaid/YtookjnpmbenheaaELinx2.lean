-- A text of the kit's tools for this claim, its remarks left out.
import Derived.Test.YtookjnpmbenheaaBase
import Derived.Test.YtookjnpmbenheaaPLinx2
namespace Go.Proofs.Ytookjnpmbenheaa.PLin
open Go.RowKit Go.Proofs.YtookjnpmbenheaaW.PrintWords Go.Proofs.YtookjnpmbenheaaW.PrintLast Go.Proofs.Ytookjnpmbenheaa.Base
set_option linter.unusedVariables false
noncomputable def solsticekeep_TwinLine.L0 (x4 : Int) (x113000 : ByteArray) (x113001 : List (S54)) (x113002 : ByteArray) (x115000 : ByteArray) (x115001 : List (S54)) (x115002 : ByteArray) : Option (ByteArray × (List (S54)) × ByteArray) := lim fun k => solsticekeep_TwinLine.l0 k x4 x113000 x113001 x113002 x115000 x115001 x115002
noncomputable def solsticekeep_TwinLine.F (a0_0 : ByteArray) (l0_1 : List (S54)) (a0_2 : ByteArray) : Option (ByteArray × (List (S54)) × ByteArray) := lim fun k => solsticekeep_TwinLine.f k a0_0 l0_1 a0_2
theorem solsticekeep_TwinLine.isL0 (x4 : Int) (x113000 : ByteArray) (x113001 : List (S54)) (x113002 : ByteArray) (x115000 : ByteArray) (x115001 : List (S54)) (x115002 : ByteArray) : IsLim (fun k => solsticekeep_TwinLine.l0 k x4 x113000 x113001 x113002 x115000 x115001 x115002) (solsticekeep_TwinLine.L0 x4 x113000 x113001 x113002 x115000 x115001 x115002) := ⟨fun k => (solsticekeep_TwinLine.mono_l k) x4 x113000 x113001 x113002 x115000 x115001 x115002, rfl⟩
theorem solsticekeep_TwinLine.isF (a0_0 : ByteArray) (l0_1 : List (S54)) (a0_2 : ByteArray) : IsLim (fun k => solsticekeep_TwinLine.f k a0_0 l0_1 a0_2) (solsticekeep_TwinLine.F a0_0 l0_1 a0_2) := ⟨fun k => solsticekeep_TwinLine.mono a0_0 l0_1 a0_2 k, rfl⟩
theorem solsticekeep_TwinLine.L0_eq (x4 : Int) (x113000 : ByteArray) (x113001 : List (S54)) (x113002 : ByteArray) (x115000 : ByteArray) (x115001 : List (S54)) (x115002 : ByteArray) : solsticekeep_TwinLine.L0 x4 x113000 x113001 x113002 x115000 x115001 x115002 = if x4 < (x113001.length : Int) then (if 0 ≤ x4 then ((solsticekeep_TwinTexts.f ((rd_T54 x113001 x4).f1)).bind fun t117 => (if x115001.length < 3518437208883 then (solsticekeep_TwinLine.L0 (wrap64 (x4 + 1)) x113000 x113001 x113002 x115000 (x115001 ++ [(⟨(rd_T54 x113001 x4).f0, t117⟩ : S54)]) x115002) else (none))) else (none)) else (some (x115000, x115001, x115002)) := by
 apply IsLim.step (solsticekeep_TwinLine.isL0 x4 x113000 x113001 x113002 x115000 x115001 x115002).mono
 case hf =>
  repeat'
   try intro _
   first
   | (with_reducible exact solsticekeep_TwinLine.isL0 _ _ _ _ _ _ _)
   | (with_reducible apply IsLim.ite)
   | (with_reducible apply IsLim.bind)
   | (apply IsLim.cst; intro _; exact rfl)
 case h => intro k; rw [solsticekeep_TwinLine.l0]
theorem solsticekeep_TwinLine.F_eq (a0_0 : ByteArray) (l0_1 : List (S54)) (a0_2 : ByteArray) : solsticekeep_TwinLine.F a0_0 l0_1 a0_2 = solsticekeep_TwinLine.L0 0 a0_0 l0_1 a0_2 a0_0 ([] : List (S54)) a0_2 := by
 apply IsLim.via
 case hf =>
  repeat'
   try intro _
   first
   | (with_reducible exact solsticekeep_TwinLine.isL0 _ _ _ _ _ _ _)
   | (with_reducible apply IsLim.ite)
   | (with_reducible apply IsLim.bind)
   | (apply IsLim.cst; intro _; exact rfl)
 case h => exact fun _ => rfl
end Go.Proofs.Ytookjnpmbenheaa.PLin

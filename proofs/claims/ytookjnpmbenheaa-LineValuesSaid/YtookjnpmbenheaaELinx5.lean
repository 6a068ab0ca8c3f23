/- Printed functions of the family Lin without a bound on their rounds, and the equation that each meets. No condition. -/
import Derived.Test.YtookjnpmbenheaaBase
import Derived.Test.YtookjnpmbenheaaPLinx5
import Derived.Test.YtookjnpmbenheaaELinx3
import Derived.Test.YtookjnpmbenheaaELinx4
namespace Go.Proofs.Ytookjnpmbenheaa.PLin
open Go.RowKit Go.Proofs.YtookjnpmbenheaaW.PrintWords Go.Proofs.YtookjnpmbenheaaW.PrintLast Go.Proofs.Ytookjnpmbenheaa.Base
set_option linter.unusedVariables false
noncomputable def line_Parse.J0 (x6 : List (S54)) (x7 : ByteArray) (x30 : Bool) (x159000 : ByteArray) (x159002 : ByteArray) : Option (ByteArray × (List (S54)) × ByteArray × Int) := lim fun k => line_Parse.j0 k x6 x7 x30 x159000 x159002
noncomputable def line_Parse.F (a0 : ByteArray) : Option (ByteArray × (List (S54)) × ByteArray × Int) := lim fun k => line_Parse.f k a0
theorem line_Parse.isJ0 (x6 : List (S54)) (x7 : ByteArray) (x30 : Bool) (x159000 : ByteArray) (x159002 : ByteArray) : IsLim (fun k => line_Parse.j0 k x6 x7 x30 x159000 x159002) (line_Parse.J0 x6 x7 x30 x159000 x159002) := ⟨fun k => (line_Parse.mono_l k) x6 x7 x30 x159000 x159002, rfl⟩
theorem line_Parse.isF (a0 : ByteArray) : IsLim (fun k => line_Parse.f k a0) (line_Parse.F a0) := ⟨fun k => line_Parse.mono a0 k, rfl⟩
theorem line_Parse.J0_eq (x6 : List (S54)) (x7 : ByteArray) (x30 : Bool) (x159000 : ByteArray) (x159002 : ByteArray) : line_Parse.J0 x6 x7 x30 x159000 x159002 = if x30 = true then (some ((⟨#[]⟩ : ByteArray), ([] : List (S54)), (⟨#[]⟩ : ByteArray), 18)) else (if 1 ≤ (x7.size : Int) then ((line_Check.F x159000 x6 (x7.extract 1 x7.size)).bind fun t165 => (if t165 = 0 then (some (x159000, x6, x7.extract 1 x7.size, 0)) else (some ((⟨#[]⟩ : ByteArray), ([] : List (S54)), (⟨#[]⟩ : ByteArray), t165)))) else (none)) := by
  refine IsLim.step (line_Parse.isJ0 x6 x7 x30 x159000 x159002).mono (f := fun k => if x30 = true then (some ((⟨#[]⟩ : ByteArray), ([] : List (S54)), (⟨#[]⟩ : ByteArray), 18)) else (if 1 ≤ (x7.size : Int) then ((line_Check.f k x159000 x6 (x7.extract 1 x7.size)).bind fun t165 => (if t165 = 0 then (some (x159000, x6, x7.extract 1 x7.size, 0)) else (some ((⟨#[]⟩ : ByteArray), ([] : List (S54)), (⟨#[]⟩ : ByteArray), t165)))) else (none))) (fun k => by rw [line_Parse.j0]) ?_
  · repeat' first
    | (with_reducible exact IsLim.const _)
    | (with_reducible exact line_Check.isF _ _ _)
    | (with_reducible refine IsLim.ite ?_ ?_)
    | (with_reducible refine IsLim.bind ?_ (fun _ => ?_))
theorem line_Parse.F_eq (a0 : ByteArray) : line_Parse.F a0 = (line_until.F a0 (⟨#[58, 59]⟩ : ByteArray)).bind fun t157 => (if 0 ≤ t157 then (if t157 ≤ (a0.size : Int) then ((line_params.F (a0.extract (t157 : Int).toNat a0.size)).bind fun bt159 => (if bt159.2.2 = true then ((strings_HasPrefix.f bt159.2.1 (⟨#[58]⟩ : ByteArray)).bind fun t164 => (line_Parse.J0 bt159.1 bt159.2.1 (!t164) (a0.extract 0 (t157 : Int).toNat) (⟨#[]⟩ : ByteArray))) else (line_Parse.J0 bt159.1 bt159.2.1 true (a0.extract 0 (t157 : Int).toNat) (⟨#[]⟩ : ByteArray)))) else (none)) else (none)) := by
  refine IsLim.eq (g := fun k => (line_until.f k a0 (⟨#[58, 59]⟩ : ByteArray)).bind fun t157 => (if 0 ≤ t157 then (if t157 ≤ (a0.size : Int) then ((line_params.f k (a0.extract (t157 : Int).toNat a0.size)).bind fun bt159 => (if bt159.2.2 = true then ((strings_HasPrefix.f bt159.2.1 (⟨#[58]⟩ : ByteArray)).bind fun t164 => (line_Parse.j0 k bt159.1 bt159.2.1 (!t164) (a0.extract 0 (t157 : Int).toNat) (⟨#[]⟩ : ByteArray))) else (line_Parse.j0 k bt159.1 bt159.2.1 true (a0.extract 0 (t157 : Int).toNat) (⟨#[]⟩ : ByteArray)))) else (none)) else (none))) ?_
  · repeat' first
    | (with_reducible exact IsLim.const _)
    | (with_reducible exact line_Parse.isJ0 _ _ _ _ _)
    | (with_reducible exact line_params.isF _)
    | (with_reducible exact line_until.isF _ _)
    | (with_reducible refine IsLim.ite ?_ ?_)
    | (with_reducible refine IsLim.bind ?_ (fun _ => ?_))
noncomputable def solsticekeep_Texts.L0 (x0 : List ByteArray) (x1 : List ByteArray) (x5 : Int) : Option (Bool) := lim fun k => solsticekeep_Texts.l0 k x0 x1 x5
noncomputable def solsticekeep_Texts.F (l0 : List ByteArray) (l1 : List ByteArray) : Option (Bool) := lim fun k => solsticekeep_Texts.f k l0 l1
theorem solsticekeep_Texts.isL0 (x0 : List ByteArray) (x1 : List ByteArray) (x5 : Int) : IsLim (fun k => solsticekeep_Texts.l0 k x0 x1 x5) (solsticekeep_Texts.L0 x0 x1 x5) := ⟨fun k => (solsticekeep_Texts.mono_l k) x0 x1 x5, rfl⟩
theorem solsticekeep_Texts.isF (l0 : List ByteArray) (l1 : List ByteArray) : IsLim (fun k => solsticekeep_Texts.f k l0 l1) (solsticekeep_Texts.F l0 l1) := ⟨fun k => solsticekeep_Texts.mono l0 l1 k, rfl⟩
theorem solsticekeep_Texts.L0_eq (x0 : List ByteArray) (x1 : List ByteArray) (x5 : Int) : solsticekeep_Texts.L0 x0 x1 x5 = if x5 < (x0.length : Int) then (if 0 ≤ x5 then (if x5 < (x1.length : Int) then (if (rdOf ByteArray.empty x0 x5).toList = (rdOf ByteArray.empty x1 x5).toList then (solsticekeep_Texts.L0 x0 x1 (wrap64 (x5 + 1))) else (some false)) else (none)) else (none)) else (some true) := by
  refine IsLim.step (solsticekeep_Texts.isL0 x0 x1 x5).mono (f := fun k => if x5 < (x0.length : Int) then (if 0 ≤ x5 then (if x5 < (x1.length : Int) then (if (rdOf ByteArray.empty x0 x5).toList = (rdOf ByteArray.empty x1 x5).toList then (solsticekeep_Texts.l0 k x0 x1 (wrap64 (x5 + 1))) else (some false)) else (none)) else (none)) else (some true)) (fun k => by rw [solsticekeep_Texts.l0]) ?_
  · repeat' first
    | (with_reducible exact IsLim.const _)
    | (with_reducible exact solsticekeep_Texts.isL0 _ _ _)
    | (with_reducible refine IsLim.ite ?_ ?_)
    | (with_reducible refine IsLim.bind ?_ (fun _ => ?_))
theorem solsticekeep_Texts.F_eq (l0 : List ByteArray) (l1 : List ByteArray) : solsticekeep_Texts.F l0 l1 = if (l0.length : Int) = (l1.length : Int) then (solsticekeep_Texts.L0 l0 l1 0) else (some false) := by
  refine IsLim.eq (g := fun k => if (l0.length : Int) = (l1.length : Int) then (solsticekeep_Texts.l0 k l0 l1 0) else (some false)) ?_
  · repeat' first
    | (with_reducible exact IsLim.const _)
    | (with_reducible exact solsticekeep_Texts.isL0 _ _ _)
    | (with_reducible refine IsLim.ite ?_ ?_)
    | (with_reducible refine IsLim.bind ?_ (fun _ => ?_))
end Go.Proofs.Ytookjnpmbenheaa.PLin

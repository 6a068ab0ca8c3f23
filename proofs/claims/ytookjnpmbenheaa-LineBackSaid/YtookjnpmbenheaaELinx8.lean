/- Printed functions of the family Lin without a bound on their rounds, and the equation that each meets. No condition. -/
import Derived.Test.YtookjnpmbenheaaBase
import Derived.Test.YtookjnpmbenheaaPLinx8
import Derived.Test.YtookjnpmbenheaaELinx2
import Derived.Test.YtookjnpmbenheaaELinx4
import Derived.Test.YtookjnpmbenheaaELinx6
import Derived.Test.YtookjnpmbenheaaELinx7
namespace Go.Proofs.Ytookjnpmbenheaa.PLin
open Go.RowKit Go.Proofs.YtookjnpmbenheaaW.PrintWords Go.Proofs.YtookjnpmbenheaaW.PrintLast Go.Proofs.Ytookjnpmbenheaa.Base
set_option linter.unusedVariables false
noncomputable def solsticelaw18_wakes.F  : Option (Bool) := lim fun k => solsticelaw18_wakes.f k
theorem solsticelaw18_wakes.isF  : IsLim (fun k => solsticelaw18_wakes.f k) (solsticelaw18_wakes.F ) := ⟨fun k => solsticelaw18_wakes.mono k, rfl⟩
theorem solsticelaw18_wakes.F_eq  : solsticelaw18_wakes.F  = (line_Parse.F (⟨#[82, 68, 65, 84, 69, 59, 84, 90, 73, 68, 61, 34, 97, 58, 98, 34, 44, 99, 58, 120, 58, 121]⟩ : ByteArray)).bind fun bt184 => ((line_Text.F bt184.1 bt184.2.1 bt184.2.2.1).bind fun bt191 => ((line_Param.F bt184.1 bt184.2.1 bt184.2.2.1 (⟨#[116, 122, 105, 100]⟩ : ByteArray)).bind fun bt193 => ((line_Parse.F (⟨#[82, 68, 65, 84, 69]⟩ : ByteArray)).bind fun bt197 => (if bt184.2.2.2 = 0 then (if bt184.1.toList = ([82, 68, 65, 84, 69] : List UInt8) then (if bt184.2.2.1.toList = ([120, 58, 121] : List UInt8) then (if bt191.2 = 0 then (if bt191.1.toList = ([82, 68, 65, 84, 69, 59, 84, 90, 73, 68, 61, 34, 97, 58, 98, 34, 44, 99, 58, 120, 58, 121] : List UInt8) then (if bt193.2 = true then ((solsticekeep_Texts.F bt193.1 (([(⟨#[97, 58, 98]⟩ : ByteArray), (⟨#[99]⟩ : ByteArray)] : List ByteArray))).bind fun t207 => (if t207 = true then (if bt197.2.2.2 = 18 then ((line_Check.F (⟨#[]⟩ : ByteArray) ([] : List (S54)) (⟨#[]⟩ : ByteArray)).bind fun t208 => (some (t208 == 18))) else (some false)) else (some false))) else (some false)) else (some false)) else (some false)) else (some false)) else (some false)) else (some false))))) := by
  refine IsLim.eq (g := fun k => (line_Parse.f k (⟨#[82, 68, 65, 84, 69, 59, 84, 90, 73, 68, 61, 34, 97, 58, 98, 34, 44, 99, 58, 120, 58, 121]⟩ : ByteArray)).bind fun bt184 => ((line_Text.f k bt184.1 bt184.2.1 bt184.2.2.1).bind fun bt191 => ((line_Param.f k bt184.1 bt184.2.1 bt184.2.2.1 (⟨#[116, 122, 105, 100]⟩ : ByteArray)).bind fun bt193 => ((line_Parse.f k (⟨#[82, 68, 65, 84, 69]⟩ : ByteArray)).bind fun bt197 => (if bt184.2.2.2 = 0 then (if bt184.1.toList = ([82, 68, 65, 84, 69] : List UInt8) then (if bt184.2.2.1.toList = ([120, 58, 121] : List UInt8) then (if bt191.2 = 0 then (if bt191.1.toList = ([82, 68, 65, 84, 69, 59, 84, 90, 73, 68, 61, 34, 97, 58, 98, 34, 44, 99, 58, 120, 58, 121] : List UInt8) then (if bt193.2 = true then ((solsticekeep_Texts.f k bt193.1 (([(⟨#[97, 58, 98]⟩ : ByteArray), (⟨#[99]⟩ : ByteArray)] : List ByteArray))).bind fun t207 => (if t207 = true then (if bt197.2.2.2 = 18 then ((line_Check.f k (⟨#[]⟩ : ByteArray) ([] : List (S54)) (⟨#[]⟩ : ByteArray)).bind fun t208 => (some (t208 == 18))) else (some false)) else (some false))) else (some false)) else (some false)) else (some false)) else (some false)) else (some false)) else (some false)))))) ?_
  · repeat' first
    | (with_reducible exact IsLim.const _)
    | (with_reducible exact line_Check.isF _ _ _)
    | (with_reducible exact line_Param.isF _ _ _ _)
    | (with_reducible exact line_Parse.isF _)
    | (with_reducible exact line_Text.isF _ _ _)
    | (with_reducible exact solsticekeep_Texts.isF _ _)
    | (with_reducible refine IsLim.ite ?_ ?_)
    | (with_reducible refine IsLim.bind ?_ (fun _ => ?_))
end Go.Proofs.Ytookjnpmbenheaa.PLin

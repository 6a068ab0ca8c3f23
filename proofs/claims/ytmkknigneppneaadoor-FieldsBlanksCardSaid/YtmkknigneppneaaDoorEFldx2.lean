/- Printed functions of the family Fld without a bound on their rounds, and the equation that each meets. No condition. -/
import Derived.Test.YtmkknigneppneaaDoorBase
import Derived.Test.YtmkknigneppneaaDoorPFldx2
import Derived.Test.YtmkknigneppneaaDoorEFldx1
namespace Go.Proofs.YtmkknigneppneaaDoor.PFld
open Go.RowKit Go.Proofs.YtmkknigneppneaaDoorW.PrintWords Go.Proofs.YtmkknigneppneaaDoorW.PrintLast Go.Proofs.YtmkknigneppneaaDoor.Base
set_option linter.unusedVariables false
noncomputable def solsticelaw05_wakes.F  : Option (Bool) := lim fun k => solsticelaw05_wakes.f k
theorem solsticelaw05_wakes.isF  : IsLim (fun k => solsticelaw05_wakes.f k) (solsticelaw05_wakes.F ) := ⟨fun k => solsticelaw05_wakes.mono k, rfl⟩
theorem solsticelaw05_wakes.F_eq  : solsticelaw05_wakes.F  = (fields_Split.f (⟨#[97, 32, 34, 98, 32, 99, 34, 100, 32, 35, 32, 101]⟩ : ByteArray)).bind fun bt121 => ((fields_Lines.f (⟨#[120, 10, 10, 121]⟩ : ByteArray)).bind fun bt125 => ((fields_Join.F (([(⟨#[97]⟩ : ByteArray), (⟨#[]⟩ : ByteArray), (⟨#[98, 32, 99]⟩ : ByteArray)] : List ByteArray))).bind fun bt132 => ((fields_Split.f (⟨#[97, 32, 34, 98]⟩ : ByteArray)).bind fun bt134 => (if bt121.2 = 0 then ((solsticekeep_Texts.F bt121.1 (([(⟨#[97]⟩ : ByteArray), (⟨#[98, 32, 99, 100]⟩ : ByteArray)] : List ByteArray))).bind fun t141 => (if t141 = true then (if bt125.2 = 0 then ((solsticekeep_Texts.F bt125.1 (([(⟨#[120]⟩ : ByteArray), (⟨#[]⟩ : ByteArray), (⟨#[121]⟩ : ByteArray)] : List ByteArray))).bind fun t145 => (if t145 = true then (if bt132.2 = 0 then (if bt132.1.toList = ([97, 32, 34, 34, 32, 34, 98, 32, 99, 34] : List UInt8) then (some (bt134.2 == 6)) else (some false)) else (some false)) else (some false))) else (some false)) else (some false))) else (some false))))) := by
  refine IsLim.eq (g := fun k => (fields_Split.f (⟨#[97, 32, 34, 98, 32, 99, 34, 100, 32, 35, 32, 101]⟩ : ByteArray)).bind fun bt121 => ((fields_Lines.f (⟨#[120, 10, 10, 121]⟩ : ByteArray)).bind fun bt125 => ((fields_Join.f k (([(⟨#[97]⟩ : ByteArray), (⟨#[]⟩ : ByteArray), (⟨#[98, 32, 99]⟩ : ByteArray)] : List ByteArray))).bind fun bt132 => ((fields_Split.f (⟨#[97, 32, 34, 98]⟩ : ByteArray)).bind fun bt134 => (if bt121.2 = 0 then ((solsticekeep_Texts.f k bt121.1 (([(⟨#[97]⟩ : ByteArray), (⟨#[98, 32, 99, 100]⟩ : ByteArray)] : List ByteArray))).bind fun t141 => (if t141 = true then (if bt125.2 = 0 then ((solsticekeep_Texts.f k bt125.1 (([(⟨#[120]⟩ : ByteArray), (⟨#[]⟩ : ByteArray), (⟨#[121]⟩ : ByteArray)] : List ByteArray))).bind fun t145 => (if t145 = true then (if bt132.2 = 0 then (if bt132.1.toList = ([97, 32, 34, 34, 32, 34, 98, 32, 99, 34] : List UInt8) then (some (bt134.2 == 6)) else (some false)) else (some false)) else (some false))) else (some false)) else (some false))) else (some false)))))) ?_
  · repeat' first
    | (with_reducible exact IsLim.const _)
    | (with_reducible exact fields_Join.isF _)
    | (with_reducible exact solsticekeep_Texts.isF _ _)
    | (with_reducible refine IsLim.ite ?_ ?_)
    | (with_reducible refine IsLim.bind ?_ (fun _ => ?_))
end Go.Proofs.YtmkknigneppneaaDoor.PFld

/- Printed functions of the family Fld without a bound on their rounds, and the equation that each meets. No condition. -/
import Derived.Test.YtmkknigneppneaaDoorBase
import Derived.Test.YtmkknigneppneaaDoorPFldx4
import Derived.Test.YtmkknigneppneaaDoorEFldx1
import Derived.Test.YtmkknigneppneaaDoorEFldx2
namespace Go.Proofs.YtmkknigneppneaaDoor.PFld
open Go.RowKit Go.Proofs.YtmkknigneppneaaDoorW.PrintWords Go.Proofs.YtmkknigneppneaaDoorW.PrintLast Go.Proofs.YtmkknigneppneaaDoor.Base
set_option linter.unusedVariables false
noncomputable def solsticelaw05_Heavy.L0 (x0 : List ByteArray) (x3 : Int) : Option (Bool) := lim fun k => solsticelaw05_Heavy.l0 k x0 x3
noncomputable def solsticelaw05_Heavy.F (l0 : List ByteArray) : Option (Bool) := lim fun k => solsticelaw05_Heavy.f k l0
theorem solsticelaw05_Heavy.isL0 (x0 : List ByteArray) (x3 : Int) : IsLim (fun k => solsticelaw05_Heavy.l0 k x0 x3) (solsticelaw05_Heavy.L0 x0 x3) := ⟨fun k => (solsticelaw05_Heavy.mono_l k) x0 x3, rfl⟩
theorem solsticelaw05_Heavy.isF (l0 : List ByteArray) : IsLim (fun k => solsticelaw05_Heavy.f k l0) (solsticelaw05_Heavy.F l0) := ⟨fun k => solsticelaw05_Heavy.mono l0 k, rfl⟩
theorem solsticelaw05_Heavy.L0_eq (x0 : List ByteArray) (x3 : Int) : solsticelaw05_Heavy.L0 x0 x3 = if x3 < (x0.length : Int) then (if 0 ≤ x3 then (if ((rdOf ByteArray.empty x0 x3).size : Int) > 800 then (some true) else (solsticelaw05_Heavy.L0 x0 (wrap64 (x3 + 1)))) else (none)) else (some false) := by
  refine IsLim.step (solsticelaw05_Heavy.isL0 x0 x3).mono (f := fun k => if x3 < (x0.length : Int) then (if 0 ≤ x3 then (if ((rdOf ByteArray.empty x0 x3).size : Int) > 800 then (some true) else (solsticelaw05_Heavy.l0 k x0 (wrap64 (x3 + 1)))) else (none)) else (some false)) (fun k => by rw [solsticelaw05_Heavy.l0]) ?_
  · repeat' first
    | (with_reducible exact IsLim.const _)
    | (with_reducible exact solsticelaw05_Heavy.isL0 _ _)
    | (with_reducible refine IsLim.ite ?_ ?_)
    | (with_reducible refine IsLim.bind ?_ (fun _ => ?_))
theorem solsticelaw05_Heavy.F_eq (l0 : List ByteArray) : solsticelaw05_Heavy.F l0 = if (l0.length : Int) > 60 then (some true) else (solsticelaw05_Heavy.L0 l0 0) := by
  refine IsLim.eq (g := fun k => if (l0.length : Int) > 60 then (some true) else (solsticelaw05_Heavy.l0 k l0 0)) ?_
  · repeat' first
    | (with_reducible exact IsLim.const _)
    | (with_reducible exact solsticelaw05_Heavy.isL0 _ _)
    | (with_reducible refine IsLim.ite ?_ ?_)
    | (with_reducible refine IsLim.bind ?_ (fun _ => ?_))
noncomputable def solsticelaw05_FieldsBack.F (l0 : List ByteArray) : Option (Bool) := lim fun k => solsticelaw05_FieldsBack.f k l0
theorem solsticelaw05_FieldsBack.isF (l0 : List ByteArray) : IsLim (fun k => solsticelaw05_FieldsBack.f k l0) (solsticelaw05_FieldsBack.F l0) := ⟨fun k => solsticelaw05_FieldsBack.mono l0 k, rfl⟩
theorem solsticelaw05_FieldsBack.F_eq (l0 : List ByteArray) : solsticelaw05_FieldsBack.F l0 = (solsticelaw05_Heavy.F l0).bind fun t170 => (if t170 = true then (some true) else ((fields_Join.F l0).bind fun bt171 => (if bt171.2 = 0 then ((fields_Split.f bt171.1).bind fun bt173 => (if bt173.2 = 0 then ((solsticekeep_Texts.F bt173.1 l0).bind fun t177 => (if t177 = true then ((solsticelaw05_wakes.F).bind fun t178 => (some t178)) else (some false))) else (some false))) else (if bt171.1.toList = ([] : List UInt8) then ((solsticelaw05_wakes.F).bind fun t179 => (some t179)) else (some false))))) := by
  refine IsLim.eq (g := fun k => (solsticelaw05_Heavy.f k l0).bind fun t170 => (if t170 = true then (some true) else ((fields_Join.f k l0).bind fun bt171 => (if bt171.2 = 0 then ((fields_Split.f bt171.1).bind fun bt173 => (if bt173.2 = 0 then ((solsticekeep_Texts.f k bt173.1 l0).bind fun t177 => (if t177 = true then ((solsticelaw05_wakes.f k).bind fun t178 => (some t178)) else (some false))) else (some false))) else (if bt171.1.toList = ([] : List UInt8) then ((solsticelaw05_wakes.f k).bind fun t179 => (some t179)) else (some false)))))) ?_
  · repeat' first
    | (with_reducible exact IsLim.const _)
    | (with_reducible exact fields_Join.isF _)
    | (with_reducible exact solsticekeep_Texts.isF _ _)
    | (with_reducible exact solsticelaw05_Heavy.isF _)
    | (with_reducible exact solsticelaw05_wakes.isF)
    | (with_reducible refine IsLim.ite ?_ ?_)
    | (with_reducible refine IsLim.bind ?_ (fun _ => ?_))
end Go.Proofs.YtmkknigneppneaaDoor.PFld

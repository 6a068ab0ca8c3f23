/- Printed functions of the family Fol without a bound on their rounds, and the equation that each meets. No condition. -/
import Derived.Test.YtfiiipjglacejaaDoorBase
import Derived.Test.YtfiiipjglacejaaDoorPFolx6
import Derived.Test.YtfiiipjglacejaaDoorEFolx1
import Derived.Test.YtfiiipjglacejaaDoorEFolx2
import Derived.Test.YtfiiipjglacejaaDoorEFolx3
import Derived.Test.YtfiiipjglacejaaDoorEFolx4
namespace Go.Proofs.YtfiiipjglacejaaDoor.PFol
open Go.RowKit Go.Proofs.YtfiiipjglacejaaDoorW.PrintWords Go.Proofs.YtfiiipjglacejaaDoorW.PrintLast Go.Proofs.YtfiiipjglacejaaDoor.Base
set_option linter.unusedVariables false
noncomputable def solsticelaw16_FoldBack.L0 (x0 : List ByteArray) (x3 : ByteArray) (x4 : Int) : Option (Bool) := lim fun k => solsticelaw16_FoldBack.l0 k x0 x3 x4
noncomputable def solsticelaw16_FoldBack.J1 (x0 : List ByteArray) (x3 : ByteArray) (x4 : Int) (x32 : Bool) : Option (Bool) := lim fun k => solsticelaw16_FoldBack.j1 k x0 x3 x4 x32
noncomputable def solsticelaw16_FoldBack.L1 (x0 : List ByteArray) (x3 : ByteArray) (x7 : Int) : Option (Bool) := lim fun k => solsticelaw16_FoldBack.l1 k x0 x3 x7
noncomputable def solsticelaw16_FoldBack.F (l0 : List ByteArray) : Option (Bool) := lim fun k => solsticelaw16_FoldBack.f k l0
theorem solsticelaw16_FoldBack.isL0 (x0 : List ByteArray) (x3 : ByteArray) (x4 : Int) : IsLim (fun k => solsticelaw16_FoldBack.l0 k x0 x3 x4) (solsticelaw16_FoldBack.L0 x0 x3 x4) := ⟨fun k => (solsticelaw16_FoldBack.mono_l k).1 x0 x3 x4, rfl⟩
theorem solsticelaw16_FoldBack.isJ1 (x0 : List ByteArray) (x3 : ByteArray) (x4 : Int) (x32 : Bool) : IsLim (fun k => solsticelaw16_FoldBack.j1 k x0 x3 x4 x32) (solsticelaw16_FoldBack.J1 x0 x3 x4 x32) := ⟨fun k => (solsticelaw16_FoldBack.mono_l k).2.1 x0 x3 x4 x32, rfl⟩
theorem solsticelaw16_FoldBack.isL1 (x0 : List ByteArray) (x3 : ByteArray) (x7 : Int) : IsLim (fun k => solsticelaw16_FoldBack.l1 k x0 x3 x7) (solsticelaw16_FoldBack.L1 x0 x3 x7) := ⟨fun k => (solsticelaw16_FoldBack.mono_l k).2.2 x0 x3 x7, rfl⟩
theorem solsticelaw16_FoldBack.isF (l0 : List ByteArray) : IsLim (fun k => solsticelaw16_FoldBack.f k l0) (solsticelaw16_FoldBack.F l0) := ⟨fun k => solsticelaw16_FoldBack.mono l0 k, rfl⟩
theorem solsticelaw16_FoldBack.L0_eq (x0 : List ByteArray) (x3 : ByteArray) (x4 : Int) : solsticelaw16_FoldBack.L0 x0 x3 x4 = if x4 < (x0.length : Int) then (if 0 ≤ x4 then (if ((rdOf ByteArray.empty x0 x4).size : Int) > 500 then (solsticelaw16_FoldBack.J1 x0 x3 x4 true) else (solsticelaw16_FoldBack.J1 x0 x3 x4 (((rdOf ByteArray.empty x0 x4).size : Int) == 0))) else (none)) else (solsticelaw16_FoldBack.L1 x0 x3 0) := by
  refine IsLim.step (solsticelaw16_FoldBack.isL0 x0 x3 x4).mono (f := fun k => if x4 < (x0.length : Int) then (if 0 ≤ x4 then (if ((rdOf ByteArray.empty x0 x4).size : Int) > 500 then (solsticelaw16_FoldBack.j1 k x0 x3 x4 true) else (solsticelaw16_FoldBack.j1 k x0 x3 x4 (((rdOf ByteArray.empty x0 x4).size : Int) == 0))) else (none)) else (solsticelaw16_FoldBack.l1 k x0 x3 0)) (fun k => by rw [solsticelaw16_FoldBack.l0]) ?_
  · repeat' first
    | (with_reducible exact IsLim.const _)
    | (with_reducible exact solsticelaw16_FoldBack.isJ1 _ _ _ _)
    | (with_reducible exact solsticelaw16_FoldBack.isL1 _ _ _)
    | (with_reducible refine IsLim.ite ?_ ?_)
    | (with_reducible refine IsLim.bind ?_ (fun _ => ?_))
theorem solsticelaw16_FoldBack.J1_eq (x0 : List ByteArray) (x3 : ByteArray) (x4 : Int) (x32 : Bool) : solsticelaw16_FoldBack.J1 x0 x3 x4 x32 = if x32 = true then (some true) else (if 0 ≤ x4 then (if x4 < (x0.length : Int) then ((fold_Line.F (rdOf ByteArray.empty x0 x4)).bind fun bt197 => (if bt197.2 = 0 then (if x3.size + bt197.1.size ≤ 9223372036854775807 then (solsticelaw16_FoldBack.L0 x0 (x3 ++ bt197.1) (wrap64 (x4 + 1))) else (none)) else (if bt197.1.toList = ([] : List UInt8) then ((solsticelaw16_wakes.F).bind fun t199 => (some t199)) else (some false)))) else (none)) else (none)) := by
  refine IsLim.step (solsticelaw16_FoldBack.isJ1 x0 x3 x4 x32).mono (f := fun k => if x32 = true then (some true) else (if 0 ≤ x4 then (if x4 < (x0.length : Int) then ((fold_Line.f k (rdOf ByteArray.empty x0 x4)).bind fun bt197 => (if bt197.2 = 0 then (if x3.size + bt197.1.size ≤ 9223372036854775807 then (solsticelaw16_FoldBack.l0 k x0 (x3 ++ bt197.1) (wrap64 (x4 + 1))) else (none)) else (if bt197.1.toList = ([] : List UInt8) then ((solsticelaw16_wakes.f k).bind fun t199 => (some t199)) else (some false)))) else (none)) else (none))) (fun k => by rw [solsticelaw16_FoldBack.j1]) ?_
  · repeat' first
    | (with_reducible exact IsLim.const _)
    | (with_reducible exact fold_Line.isF _)
    | (with_reducible exact solsticelaw16_FoldBack.isL0 _ _ _)
    | (with_reducible exact solsticelaw16_wakes.isF)
    | (with_reducible refine IsLim.ite ?_ ?_)
    | (with_reducible refine IsLim.bind ?_ (fun _ => ?_))
theorem solsticelaw16_FoldBack.L1_eq (x0 : List ByteArray) (x3 : ByteArray) (x7 : Int) : solsticelaw16_FoldBack.L1 x0 x3 x7 = if x7 < (x0.length : Int) then (if 0 ≤ x7 then (if 0 < ((rdOf ByteArray.empty x0 x7).size : Int) then (if (bt (rdOf ByteArray.empty x0 x7) 0) = 32 then ((solsticelaw16_wakes.F).bind fun t201 => (some t201)) else (if (bt (rdOf ByteArray.empty x0 x7) 0) = 9 then ((solsticelaw16_wakes.F).bind fun t203 => (some t203)) else (solsticelaw16_FoldBack.L1 x0 x3 (wrap64 (x7 + 1))))) else (none)) else (none)) else ((fold_Unfold.F x3).bind fun bt204 => (if bt204.2 = 0 then ((solsticekeep_Texts.F bt204.1 x0).bind fun t208 => (if t208 = true then ((solsticelaw16_wakes.F).bind fun t209 => (some t209)) else (some false))) else (some false))) := by
  refine IsLim.step (solsticelaw16_FoldBack.isL1 x0 x3 x7).mono (f := fun k => if x7 < (x0.length : Int) then (if 0 ≤ x7 then (if 0 < ((rdOf ByteArray.empty x0 x7).size : Int) then (if (bt (rdOf ByteArray.empty x0 x7) 0) = 32 then ((solsticelaw16_wakes.f k).bind fun t201 => (some t201)) else (if (bt (rdOf ByteArray.empty x0 x7) 0) = 9 then ((solsticelaw16_wakes.f k).bind fun t203 => (some t203)) else (solsticelaw16_FoldBack.l1 k x0 x3 (wrap64 (x7 + 1))))) else (none)) else (none)) else ((fold_Unfold.f k x3).bind fun bt204 => (if bt204.2 = 0 then ((solsticekeep_Texts.f k bt204.1 x0).bind fun t208 => (if t208 = true then ((solsticelaw16_wakes.f k).bind fun t209 => (some t209)) else (some false))) else (some false)))) (fun k => by rw [solsticelaw16_FoldBack.l1]) ?_
  · repeat' first
    | (with_reducible exact IsLim.const _)
    | (with_reducible exact fold_Unfold.isF _)
    | (with_reducible exact solsticekeep_Texts.isF _ _)
    | (with_reducible exact solsticelaw16_FoldBack.isL1 _ _ _)
    | (with_reducible exact solsticelaw16_wakes.isF)
    | (with_reducible refine IsLim.ite ?_ ?_)
    | (with_reducible refine IsLim.bind ?_ (fun _ => ?_))
theorem solsticelaw16_FoldBack.F_eq (l0 : List ByteArray) : solsticelaw16_FoldBack.F l0 = if (l0.length : Int) > 20 then (some true) else (solsticelaw16_FoldBack.L0 l0 (⟨#[]⟩ : ByteArray) 0) := by
  refine IsLim.eq (g := fun k => if (l0.length : Int) > 20 then (some true) else (solsticelaw16_FoldBack.l0 k l0 (⟨#[]⟩ : ByteArray) 0)) ?_
  · repeat' first
    | (with_reducible exact IsLim.const _)
    | (with_reducible exact solsticelaw16_FoldBack.isL0 _ _ _)
    | (with_reducible refine IsLim.ite ?_ ?_)
    | (with_reducible refine IsLim.bind ?_ (fun _ => ?_))
end Go.Proofs.YtfiiipjglacejaaDoor.PFol

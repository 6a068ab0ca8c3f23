/- Printed functions of the family Vls without a bound on their rounds, and the equation that each meets. No condition. -/
import Derived.Test.YtligbecmbefclaaDoorBase
import Derived.Test.YtligbecmbefclaaDoorPVlsx8
import Derived.Test.YtligbecmbefclaaDoorEVlsx2
import Derived.Test.YtligbecmbefclaaDoorEVlsx3
import Derived.Test.YtligbecmbefclaaDoorEVlsx6
import Derived.Test.YtligbecmbefclaaDoorEVlsx7
namespace Go.Proofs.YtligbecmbefclaaDoor.PVls
open Go.RowKit Go.Proofs.YtligbecmbefclaaDoorW.PrintWords Go.Proofs.YtligbecmbefclaaDoorW.PrintLast Go.Proofs.YtligbecmbefclaaDoor.Base
set_option linter.unusedVariables false
noncomputable def value_ParseOffset.J0 (x0 : ByteArray) (x18 : Bool) : Option (Int × Int) := lim fun k => value_ParseOffset.j0 k x0 x18
noncomputable def value_ParseOffset.J1 (x0 : ByteArray) (x4 : List Int) (x5 : Bool) : Option (Int × Int) := lim fun k => value_ParseOffset.j1 k x0 x4 x5
noncomputable def value_ParseOffset.J2 (x0 : ByteArray) (x6 : Int) (x75 : Bool) : Option (Int × Int) := lim fun k => value_ParseOffset.j2 k x0 x6 x75
noncomputable def value_ParseOffset.F (a0 : ByteArray) : Option (Int × Int) := lim fun k => value_ParseOffset.f k a0
theorem value_ParseOffset.isJ0 (x0 : ByteArray) (x18 : Bool) : IsLim (fun k => value_ParseOffset.j0 k x0 x18) (value_ParseOffset.J0 x0 x18) := ⟨fun k => (value_ParseOffset.mono_l k).1 x0 x18, rfl⟩
theorem value_ParseOffset.isJ1 (x0 : ByteArray) (x4 : List Int) (x5 : Bool) : IsLim (fun k => value_ParseOffset.j1 k x0 x4 x5) (value_ParseOffset.J1 x0 x4 x5) := ⟨fun k => (value_ParseOffset.mono_l k).2.1 x0 x4 x5, rfl⟩
theorem value_ParseOffset.isJ2 (x0 : ByteArray) (x6 : Int) (x75 : Bool) : IsLim (fun k => value_ParseOffset.j2 k x0 x6 x75) (value_ParseOffset.J2 x0 x6 x75) := ⟨fun k => (value_ParseOffset.mono_l k).2.2 x0 x6 x75, rfl⟩
theorem value_ParseOffset.isF (a0 : ByteArray) : IsLim (fun k => value_ParseOffset.f k a0) (value_ParseOffset.F a0) := ⟨fun k => value_ParseOffset.mono a0 k, rfl⟩
theorem value_ParseOffset.J0_eq (x0 : ByteArray) (x18 : Bool) : value_ParseOffset.J0 x0 x18 = if x18 = true then (some (0, 19)) else (if 1 ≤ (x0.size : Int) then ((value_numbers.F (x0.extract 1 x0.size) (([2, 2] : List Int))).bind fun bt188 => (if bt188.2 = true then (value_ParseOffset.J1 x0 bt188.1 bt188.2) else ((value_numbers.F (x0.extract 1 x0.size) (([2, 2, 2] : List Int))).bind fun bt195 => (value_ParseOffset.J1 x0 bt195.1 bt195.2)))) else (none)) := by
  refine IsLim.step (value_ParseOffset.isJ0 x0 x18).mono (f := fun k => if x18 = true then (some (0, 19)) else (if 1 ≤ (x0.size : Int) then ((value_numbers.f k (x0.extract 1 x0.size) (([2, 2] : List Int))).bind fun bt188 => (if bt188.2 = true then (value_ParseOffset.j1 k x0 bt188.1 bt188.2) else ((value_numbers.f k (x0.extract 1 x0.size) (([2, 2, 2] : List Int))).bind fun bt195 => (value_ParseOffset.j1 k x0 bt195.1 bt195.2)))) else (none))) (fun k => by rw [value_ParseOffset.j0]) ?_
  · repeat' first
    | (with_reducible exact IsLim.const _)
    | (with_reducible exact value_ParseOffset.isJ1 _ _ _)
    | (with_reducible exact value_numbers.isF _ _)
    | (with_reducible refine IsLim.ite ?_ ?_)
    | (with_reducible refine IsLim.bind ?_ (fun _ => ?_))
theorem value_ParseOffset.J1_eq (x0 : ByteArray) (x4 : List Int) (x5 : Bool) : value_ParseOffset.J1 x0 x4 x5 = if x5 = true then (if x4.length < 17592186044416 then ((some (x4 ++ [0] : List Int)).bind fun y199 => (if 0 < (y199.length : Int) then (if 1 < (y199.length : Int) then (if 2 < (y199.length : Int) then (if (rd y199 1) ≥ 60 then (value_ParseOffset.J2 x0 (wrap64 ((wrap64 ((wrap64 ((rd y199 0) * 3600)) + (wrap64 ((rd y199 1) * 60)))) + (rd y199 2))) true) else (if (rd y199 2) ≥ 60 then (value_ParseOffset.J2 x0 (wrap64 ((wrap64 ((wrap64 ((rd y199 0) * 3600)) + (wrap64 ((rd y199 1) * 60)))) + (rd y199 2))) true) else (if (wrap64 ((wrap64 ((wrap64 ((rd y199 0) * 3600)) + (wrap64 ((rd y199 1) * 60)))) + (rd y199 2))) ≥ 86400 then (value_ParseOffset.J2 x0 (wrap64 ((wrap64 ((wrap64 ((rd y199 0) * 3600)) + (wrap64 ((rd y199 1) * 60)))) + (rd y199 2))) true) else (if (wrap64 ((wrap64 ((wrap64 ((rd y199 0) * 3600)) + (wrap64 ((rd y199 1) * 60)))) + (rd y199 2))) = 0 then (if 0 < (x0.size : Int) then (value_ParseOffset.J2 x0 (wrap64 ((wrap64 ((wrap64 ((rd y199 0) * 3600)) + (wrap64 ((rd y199 1) * 60)))) + (rd y199 2))) ((bt x0 0) == 45)) else (none)) else (value_ParseOffset.J2 x0 (wrap64 ((wrap64 ((wrap64 ((rd y199 0) * 3600)) + (wrap64 ((rd y199 1) * 60)))) + (rd y199 2))) false))))) else (none)) else (none)) else (none))) else (none)) else (some (0, 19)) := by
  refine IsLim.step (value_ParseOffset.isJ1 x0 x4 x5).mono (f := fun k => if x5 = true then (if x4.length < 17592186044416 then ((some (x4 ++ [0] : List Int)).bind fun y199 => (if 0 < (y199.length : Int) then (if 1 < (y199.length : Int) then (if 2 < (y199.length : Int) then (if (rd y199 1) ≥ 60 then (value_ParseOffset.j2 k x0 (wrap64 ((wrap64 ((wrap64 ((rd y199 0) * 3600)) + (wrap64 ((rd y199 1) * 60)))) + (rd y199 2))) true) else (if (rd y199 2) ≥ 60 then (value_ParseOffset.j2 k x0 (wrap64 ((wrap64 ((wrap64 ((rd y199 0) * 3600)) + (wrap64 ((rd y199 1) * 60)))) + (rd y199 2))) true) else (if (wrap64 ((wrap64 ((wrap64 ((rd y199 0) * 3600)) + (wrap64 ((rd y199 1) * 60)))) + (rd y199 2))) ≥ 86400 then (value_ParseOffset.j2 k x0 (wrap64 ((wrap64 ((wrap64 ((rd y199 0) * 3600)) + (wrap64 ((rd y199 1) * 60)))) + (rd y199 2))) true) else (if (wrap64 ((wrap64 ((wrap64 ((rd y199 0) * 3600)) + (wrap64 ((rd y199 1) * 60)))) + (rd y199 2))) = 0 then (if 0 < (x0.size : Int) then (value_ParseOffset.j2 k x0 (wrap64 ((wrap64 ((wrap64 ((rd y199 0) * 3600)) + (wrap64 ((rd y199 1) * 60)))) + (rd y199 2))) ((bt x0 0) == 45)) else (none)) else (value_ParseOffset.j2 k x0 (wrap64 ((wrap64 ((wrap64 ((rd y199 0) * 3600)) + (wrap64 ((rd y199 1) * 60)))) + (rd y199 2))) false))))) else (none)) else (none)) else (none))) else (none)) else (some (0, 19))) (fun k => by rw [value_ParseOffset.j1]) ?_
  · repeat' first
    | (with_reducible exact IsLim.const _)
    | (with_reducible exact value_ParseOffset.isJ2 _ _ _)
    | (with_reducible refine IsLim.ite ?_ ?_)
    | (with_reducible refine IsLim.bind ?_ (fun _ => ?_))
theorem value_ParseOffset.J2_eq (x0 : ByteArray) (x6 : Int) (x75 : Bool) : value_ParseOffset.J2 x0 x6 x75 = if x75 = true then (some (0, 19)) else (if 0 < (x0.size : Int) then (if (bt x0 0) = 45 then (some (wrap64 (-x6), 0)) else (some (x6, 0))) else (none)) := by
  refine IsLim.step (value_ParseOffset.isJ2 x0 x6 x75).mono (f := fun k => if x75 = true then (some (0, 19)) else (if 0 < (x0.size : Int) then (if (bt x0 0) = 45 then (some (wrap64 (-x6), 0)) else (some (x6, 0))) else (none))) (fun k => by rw [value_ParseOffset.j2]) ?_
  · repeat' first
    | (with_reducible exact IsLim.const _)
    | (with_reducible refine IsLim.ite ?_ ?_)
    | (with_reducible refine IsLim.bind ?_ (fun _ => ?_))
theorem value_ParseOffset.F_eq (a0 : ByteArray) : value_ParseOffset.F a0 = if a0.toList = ([] : List UInt8) then (value_ParseOffset.J0 a0 true) else (if 0 < (a0.size : Int) then (if (bt a0 0) = 43 then (value_ParseOffset.J0 a0 false) else (value_ParseOffset.J0 a0 ((bt a0 0) != 45))) else (none)) := by
  refine IsLim.eq (g := fun k => if a0.toList = ([] : List UInt8) then (value_ParseOffset.j0 k a0 true) else (if 0 < (a0.size : Int) then (if (bt a0 0) = 43 then (value_ParseOffset.j0 k a0 false) else (value_ParseOffset.j0 k a0 ((bt a0 0) != 45))) else (none))) ?_
  · repeat' first
    | (with_reducible exact IsLim.const _)
    | (with_reducible exact value_ParseOffset.isJ0 _ _)
    | (with_reducible refine IsLim.ite ?_ ?_)
    | (with_reducible refine IsLim.bind ?_ (fun _ => ?_))
noncomputable def solsticelaw20_wakes.F  : Option (Bool) := lim fun k => solsticelaw20_wakes.f k
theorem solsticelaw20_wakes.isF  : IsLim (fun k => solsticelaw20_wakes.f k) (solsticelaw20_wakes.F ) := ⟨fun k => solsticelaw20_wakes.mono k, rfl⟩
theorem solsticelaw20_wakes.F_eq  : solsticelaw20_wakes.F  = (value_Time.F 0 true).bind fun bt207 => ((value_ParseTime.F (⟨#[49, 57, 55, 48, 48, 49, 48, 50, 84, 48, 48, 48, 48, 48, 49]⟩ : ByteArray)).bind fun bt209 => ((value_Offset.F (-5400)).bind fun bt212 => ((value_ParseOffset.F (⟨#[43, 48, 49, 51, 48]⟩ : ByteArray)).bind fun bt214 => ((value_ParseTime.F (⟨#[49, 57, 55, 48, 48, 50, 51, 48, 84, 48, 48, 48, 48, 48, 48]⟩ : ByteArray)).bind fun bt216 => ((value_Times.F (⟨#[49, 57, 55, 48, 48, 49, 48, 49, 84, 48, 48, 48, 48, 48, 48, 44, 49, 57, 55, 48, 48, 49, 48, 50, 84, 48, 48, 48, 48, 48, 48]⟩ : ByteArray)).bind fun bt219 => (if bt207.2 = 0 then (if bt207.1.toList = ([49, 57, 55, 48, 48, 49, 48, 49, 84, 48, 48, 48, 48, 48, 48, 90] : List UInt8) then (if bt209.2.2 = 0 then (if bt209.1 = 86401 then (if bt209.2.1 = true then (some false) else (if bt212.2 = 0 then (if bt212.1.toList = ([45, 48, 49, 51, 48] : List UInt8) then (if bt214.2 = 0 then (if bt214.1 = 5400 then (if bt216.2.2 = 19 then (if bt219.2.2 = 0 then ((solsticekeep_Ints.F bt219.1 (([0, 86400] : List Int))).bind fun t227 => (some t227)) else (some false)) else (some false)) else (some false)) else (some false)) else (some false)) else (some false))) else (some false)) else (some false)) else (some false)) else (some false))))))) := by
  refine IsLim.eq (g := fun k => (value_Time.f k 0 true).bind fun bt207 => ((value_ParseTime.f k (⟨#[49, 57, 55, 48, 48, 49, 48, 50, 84, 48, 48, 48, 48, 48, 49]⟩ : ByteArray)).bind fun bt209 => ((value_Offset.f k (-5400)).bind fun bt212 => ((value_ParseOffset.f k (⟨#[43, 48, 49, 51, 48]⟩ : ByteArray)).bind fun bt214 => ((value_ParseTime.f k (⟨#[49, 57, 55, 48, 48, 50, 51, 48, 84, 48, 48, 48, 48, 48, 48]⟩ : ByteArray)).bind fun bt216 => ((value_Times.f k (⟨#[49, 57, 55, 48, 48, 49, 48, 49, 84, 48, 48, 48, 48, 48, 48, 44, 49, 57, 55, 48, 48, 49, 48, 50, 84, 48, 48, 48, 48, 48, 48]⟩ : ByteArray)).bind fun bt219 => (if bt207.2 = 0 then (if bt207.1.toList = ([49, 57, 55, 48, 48, 49, 48, 49, 84, 48, 48, 48, 48, 48, 48, 90] : List UInt8) then (if bt209.2.2 = 0 then (if bt209.1 = 86401 then (if bt209.2.1 = true then (some false) else (if bt212.2 = 0 then (if bt212.1.toList = ([45, 48, 49, 51, 48] : List UInt8) then (if bt214.2 = 0 then (if bt214.1 = 5400 then (if bt216.2.2 = 19 then (if bt219.2.2 = 0 then ((solsticekeep_Ints.f k bt219.1 (([0, 86400] : List Int))).bind fun t227 => (some t227)) else (some false)) else (some false)) else (some false)) else (some false)) else (some false)) else (some false))) else (some false)) else (some false)) else (some false)) else (some false)))))))) ?_
  · repeat' first
    | (with_reducible exact IsLim.const _)
    | (with_reducible exact solsticekeep_Ints.isF _ _)
    | (with_reducible exact value_Offset.isF _)
    | (with_reducible exact value_ParseOffset.isF _)
    | (with_reducible exact value_ParseTime.isF _)
    | (with_reducible exact value_Time.isF _ _)
    | (with_reducible exact value_Times.isF _)
    | (with_reducible refine IsLim.ite ?_ ?_)
    | (with_reducible refine IsLim.bind ?_ (fun _ => ?_))
end Go.Proofs.YtligbecmbefclaaDoor.PVls

/- Printed functions of the family Val without a bound on their rounds, and the equation that each meets. No condition. -/
import Derived.Test.YtligbecmbefclaaDoorBase
import Derived.Test.YtligbecmbefclaaDoorPValx9
import Derived.Test.YtligbecmbefclaaDoorEValx2
import Derived.Test.YtligbecmbefclaaDoorEValx6
import Derived.Test.YtligbecmbefclaaDoorEValx7
import Derived.Test.YtligbecmbefclaaDoorEValx8
namespace Go.Proofs.YtligbecmbefclaaDoor.PVal
open Go.RowKit Go.Proofs.YtligbecmbefclaaDoorW.PrintWords Go.Proofs.YtligbecmbefclaaDoorW.PrintLast Go.Proofs.YtligbecmbefclaaDoor.Base
set_option linter.unusedVariables false
noncomputable def value_Times.L0 (x2 : List Int) (x3 : Bool) (x11 : List ByteArray) (x12 : Int) (x13 : Int) : Option (List Int × Bool × Int) := lim fun k => value_Times.l0 k x2 x3 x11 x12 x13
noncomputable def value_Times.F (a0 : ByteArray) : Option (List Int × Bool × Int) := lim fun k => value_Times.f k a0
theorem value_Times.isL0 (x2 : List Int) (x3 : Bool) (x11 : List ByteArray) (x12 : Int) (x13 : Int) : IsLim (fun k => value_Times.l0 k x2 x3 x11 x12 x13) (value_Times.L0 x2 x3 x11 x12 x13) := ⟨fun k => (value_Times.mono_l k) x2 x3 x11 x12 x13, rfl⟩
theorem value_Times.isF (a0 : ByteArray) : IsLim (fun k => value_Times.f k a0) (value_Times.F a0) := ⟨fun k => value_Times.mono a0 k, rfl⟩
theorem value_Times.L0_eq (x2 : List Int) (x3 : Bool) (x11 : List ByteArray) (x12 : Int) (x13 : Int) : value_Times.L0 x2 x3 x11 x12 x13 = if x13 < x12 then (if 0 ≤ x13 then (if x13 < (x11.length : Int) then ((value_ParseTime.F (rdOf ByteArray.empty x11 x13)).bind fun bt196 => (if bt196.2.2 = 0 then (if x13 > 0 then (if (bt196.2.1 != x3) = true then (some (([] : List Int), false, 19)) else (if x2.length < 17592186044416 then (value_Times.L0 (x2 ++ [bt196.1]) bt196.2.1 x11 x12 (wrap64 (x13 + 1))) else (none))) else (if x2.length < 17592186044416 then (value_Times.L0 (x2 ++ [bt196.1]) bt196.2.1 x11 x12 (wrap64 (x13 + 1))) else (none))) else (some (([] : List Int), false, 19)))) else (none)) else (none)) else (some (x2, x3, 0)) := by
  refine IsLim.step (value_Times.isL0 x2 x3 x11 x12 x13).mono (f := fun k => if x13 < x12 then (if 0 ≤ x13 then (if x13 < (x11.length : Int) then ((value_ParseTime.f k (rdOf ByteArray.empty x11 x13)).bind fun bt196 => (if bt196.2.2 = 0 then (if x13 > 0 then (if (bt196.2.1 != x3) = true then (some (([] : List Int), false, 19)) else (if x2.length < 17592186044416 then (value_Times.l0 k (x2 ++ [bt196.1]) bt196.2.1 x11 x12 (wrap64 (x13 + 1))) else (none))) else (if x2.length < 17592186044416 then (value_Times.l0 k (x2 ++ [bt196.1]) bt196.2.1 x11 x12 (wrap64 (x13 + 1))) else (none))) else (some (([] : List Int), false, 19)))) else (none)) else (none)) else (some (x2, x3, 0))) (fun k => by rw [value_Times.l0]) ?_
  · repeat' first
    | (with_reducible exact IsLim.const _)
    | (with_reducible exact value_ParseTime.isF _)
    | (with_reducible exact value_Times.isL0 _ _ _ _ _)
    | (with_reducible refine IsLim.ite ?_ ?_)
    | (with_reducible refine IsLim.bind ?_ (fun _ => ?_))
theorem value_Times.F_eq (a0 : ByteArray) : value_Times.F a0 = (strings_Split.f a0 (⟨#[44]⟩ : ByteArray)).bind fun t192 => (value_Times.L0 ([] : List Int) false t192 (t192.length : Int) 0) := by
  refine IsLim.eq (g := fun k => (strings_Split.f a0 (⟨#[44]⟩ : ByteArray)).bind fun t192 => (value_Times.l0 k ([] : List Int) false t192 (t192.length : Int) 0)) ?_
  · repeat' first
    | (with_reducible exact IsLim.const _)
    | (with_reducible exact value_Times.isL0 _ _ _ _ _)
    | (with_reducible refine IsLim.ite ?_ ?_)
    | (with_reducible refine IsLim.bind ?_ (fun _ => ?_))
noncomputable def solsticekeep_Ints.L0 (x0 : List Int) (x1 : List Int) (x5 : Int) : Option (Bool) := lim fun k => solsticekeep_Ints.l0 k x0 x1 x5
noncomputable def solsticekeep_Ints.F (l0 : List Int) (l1 : List Int) : Option (Bool) := lim fun k => solsticekeep_Ints.f k l0 l1
theorem solsticekeep_Ints.isL0 (x0 : List Int) (x1 : List Int) (x5 : Int) : IsLim (fun k => solsticekeep_Ints.l0 k x0 x1 x5) (solsticekeep_Ints.L0 x0 x1 x5) := ⟨fun k => (solsticekeep_Ints.mono_l k) x0 x1 x5, rfl⟩
theorem solsticekeep_Ints.isF (l0 : List Int) (l1 : List Int) : IsLim (fun k => solsticekeep_Ints.f k l0 l1) (solsticekeep_Ints.F l0 l1) := ⟨fun k => solsticekeep_Ints.mono l0 l1 k, rfl⟩
theorem solsticekeep_Ints.L0_eq (x0 : List Int) (x1 : List Int) (x5 : Int) : solsticekeep_Ints.L0 x0 x1 x5 = if x5 < (x0.length : Int) then (if 0 ≤ x5 then (if x5 < (x1.length : Int) then (if (rd x0 x5) = (rd x1 x5) then (solsticekeep_Ints.L0 x0 x1 (wrap64 (x5 + 1))) else (some false)) else (none)) else (none)) else (some true) := by
  refine IsLim.step (solsticekeep_Ints.isL0 x0 x1 x5).mono (f := fun k => if x5 < (x0.length : Int) then (if 0 ≤ x5 then (if x5 < (x1.length : Int) then (if (rd x0 x5) = (rd x1 x5) then (solsticekeep_Ints.l0 k x0 x1 (wrap64 (x5 + 1))) else (some false)) else (none)) else (none)) else (some true)) (fun k => by rw [solsticekeep_Ints.l0]) ?_
  · repeat' first
    | (with_reducible exact IsLim.const _)
    | (with_reducible exact solsticekeep_Ints.isL0 _ _ _)
    | (with_reducible refine IsLim.ite ?_ ?_)
    | (with_reducible refine IsLim.bind ?_ (fun _ => ?_))
theorem solsticekeep_Ints.F_eq (l0 : List Int) (l1 : List Int) : solsticekeep_Ints.F l0 l1 = if (l0.length : Int) = (l1.length : Int) then (solsticekeep_Ints.L0 l0 l1 0) else (some false) := by
  refine IsLim.eq (g := fun k => if (l0.length : Int) = (l1.length : Int) then (solsticekeep_Ints.l0 k l0 l1 0) else (some false)) ?_
  · repeat' first
    | (with_reducible exact IsLim.const _)
    | (with_reducible exact solsticekeep_Ints.isL0 _ _ _)
    | (with_reducible refine IsLim.ite ?_ ?_)
    | (with_reducible refine IsLim.bind ?_ (fun _ => ?_))
noncomputable def solsticelaw20_wakes.F  : Option (Bool) := lim fun k => solsticelaw20_wakes.f k
theorem solsticelaw20_wakes.isF  : IsLim (fun k => solsticelaw20_wakes.f k) (solsticelaw20_wakes.F ) := ⟨fun k => solsticelaw20_wakes.mono k, rfl⟩
theorem solsticelaw20_wakes.F_eq  : solsticelaw20_wakes.F  = (value_Time.F 0 true).bind fun bt207 => ((value_ParseTime.F (⟨#[49, 57, 55, 48, 48, 49, 48, 50, 84, 48, 48, 48, 48, 48, 49]⟩ : ByteArray)).bind fun bt209 => ((value_Offset.F (-5400)).bind fun bt212 => ((value_ParseOffset.F (⟨#[43, 48, 49, 51, 48]⟩ : ByteArray)).bind fun bt214 => ((value_ParseTime.F (⟨#[49, 57, 55, 48, 48, 50, 51, 48, 84, 48, 48, 48, 48, 48, 48]⟩ : ByteArray)).bind fun bt216 => ((value_Times.F (⟨#[49, 57, 55, 48, 48, 49, 48, 49, 84, 48, 48, 48, 48, 48, 48, 44, 49, 57, 55, 48, 48, 49, 48, 50, 84, 48, 48, 48, 48, 48, 48]⟩ : ByteArray)).bind fun bt219 => (if bt207.2 = 0 then (if bt207.1.toList = ([49, 57, 55, 48, 48, 49, 48, 49, 84, 48, 48, 48, 48, 48, 48, 90] : List UInt8) then (if bt209.2.2 = 0 then (if bt209.1 = 86401 then (if bt209.2.1 = true then (some false) else (if bt212.2 = 0 then (if bt212.1.toList = ([45, 48, 49, 51, 48] : List UInt8) then (if bt214.2 = 0 then (if bt214.1 = 5400 then (if bt216.2.2 = 19 then (if bt219.2.2 = 0 then ((solsticekeep_Ints.F bt219.1 (([0, 86400] : List Int))).bind fun t227 => (some t227)) else (some false)) else (some false)) else (some false)) else (some false)) else (some false)) else (some false))) else (some false)) else (some false)) else (some false)) else (some false))))))) := by
  refine IsLim.eq (g := fun k => (value_Time.f k 0 true).bind fun bt207 => ((value_ParseTime.f k (⟨#[49, 57, 55, 48, 48, 49, 48, 50, 84, 48, 48, 48, 48, 48, 49]⟩ : ByteArray)).bind fun bt209 => ((value_Offset.f k (-5400)).bind fun bt212 => ((value_ParseOffset.f k (⟨#[43, 48, 49, 51, 48]⟩ : ByteArray)).bind fun bt214 => ((value_ParseTime.f k (⟨#[49, 57, 55, 48, 48, 50, 51, 48, 84, 48, 48, 48, 48, 48, 48]⟩ : ByteArray)).bind fun bt216 => ((value_Times.f k (⟨#[49, 57, 55, 48, 48, 49, 48, 49, 84, 48, 48, 48, 48, 48, 48, 44, 49, 57, 55, 48, 48, 49, 48, 50, 84, 48, 48, 48, 48, 48, 48]⟩ : ByteArray)).bind fun bt219 => (if bt207.2 = 0 then (if bt207.1.toList = ([49, 57, 55, 48, 48, 49, 48, 49, 84, 48, 48, 48, 48, 48, 48, 90] : List UInt8) then (if bt209.2.2 = 0 then (if bt209.1 = 86401 then (if bt209.2.1 = true then (some false) else (if bt212.2 = 0 then (if bt212.1.toList = ([45, 48, 49, 51, 48] : List UInt8) then (if bt214.2 = 0 then (if bt214.1 = 5400 then (if bt216.2.2 = 19 then (if bt219.2.2 = 0 then ((solsticekeep_Ints.f k bt219.1 (([0, 86400] : List Int))).bind fun t227 => (some t227)) else (some false)) else (some false)) else (some false)) else (some false)) else (some false)) else (some false))) else (some false)) else (some false)) else (some false)) else (some false)))))))) ?_
  · repeat' first
    | (with_reducible exact IsLim.const _)
    | (with_reducible exact solsticekeep_Ints.isF _ _)
    | (with_reducible exact value_Offset.isF _)
    | (with_reducible exact value_ParseOffset.isF _)
    | (with_reducible exact value_ParseTime.isF _)
    | (with_reducible exact value_Time.isF _ _)
    | (with_reducible exact value_Times.isF _)
    | (with_reducible refine IsLim.ite ?_ ?_)
    | (with_reducible refine IsLim.bind ?_ (fun _ => ?_))
noncomputable def solsticeref01_Len.J0 (x1 : Int) (x9 : Bool) : Option (Int) := lim fun k => solsticeref01_Len.j0 k x1 x9
noncomputable def solsticeref01_Len.F (a0 : Int) (a1 : Int) : Option (Int) := lim fun k => solsticeref01_Len.f k a0 a1
theorem solsticeref01_Len.isJ0 (x1 : Int) (x9 : Bool) : IsLim (fun k => solsticeref01_Len.j0 k x1 x9) (solsticeref01_Len.J0 x1 x9) := ⟨fun k => (solsticeref01_Len.mono_l k) x1 x9, rfl⟩
theorem solsticeref01_Len.isF (a0 : Int) (a1 : Int) : IsLim (fun k => solsticeref01_Len.f k a0 a1) (solsticeref01_Len.F a0 a1) := ⟨fun k => solsticeref01_Len.mono a0 a1 k, rfl⟩
theorem solsticeref01_Len.J0_eq (x1 : Int) (x9 : Bool) : solsticeref01_Len.J0 x1 x9 = if x9 = true then (some 29) else (if x1 = 2 then (some 28) else (if x1 = 4 then (some 30) else (if x1 = 6 then (some 30) else (if x1 = 9 then (some 30) else (if x1 = 11 then (some 30) else (some 31)))))) := by
  refine IsLim.step (solsticeref01_Len.isJ0 x1 x9).mono (f := fun k => if x9 = true then (some 29) else (if x1 = 2 then (some 28) else (if x1 = 4 then (some 30) else (if x1 = 6 then (some 30) else (if x1 = 9 then (some 30) else (if x1 = 11 then (some 30) else (some 31))))))) (fun k => by rw [solsticeref01_Len.j0]) ?_
  · repeat' first
    | (with_reducible exact IsLim.const _)
    | (with_reducible refine IsLim.ite ?_ ?_)
    | (with_reducible refine IsLim.bind ?_ (fun _ => ?_))
theorem solsticeref01_Len.F_eq (a0 : Int) (a1 : Int) : solsticeref01_Len.F a0 a1 = (solsticeref01_In.f a1 1 12).bind fun t234 => (if t234 = true then (if a1 = 2 then ((solsticeref01_Long.f a0).bind fun t235 => (solsticeref01_Len.J0 a1 t235)) else (solsticeref01_Len.J0 a1 false)) else (some 0)) := by
  refine IsLim.eq (g := fun k => (solsticeref01_In.f a1 1 12).bind fun t234 => (if t234 = true then (if a1 = 2 then ((solsticeref01_Long.f a0).bind fun t235 => (solsticeref01_Len.j0 k a1 t235)) else (solsticeref01_Len.j0 k a1 false)) else (some 0))) ?_
  · repeat' first
    | (with_reducible exact IsLim.const _)
    | (with_reducible exact solsticeref01_Len.isJ0 _ _)
    | (with_reducible refine IsLim.ite ?_ ?_)
    | (with_reducible refine IsLim.bind ?_ (fun _ => ?_))
end Go.Proofs.YtligbecmbefclaaDoor.PVal

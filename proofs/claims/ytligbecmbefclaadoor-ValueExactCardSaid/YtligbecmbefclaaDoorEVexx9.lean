/- Printed functions of the family Vex without a bound on their rounds, and the equation that each meets. No condition. -/
import Derived.Test.YtligbecmbefclaaDoorBase
import Derived.Test.YtligbecmbefclaaDoorPVexx9
import Derived.Test.YtligbecmbefclaaDoorEVexx6
namespace Go.Proofs.YtligbecmbefclaaDoor.PVex
open Go.RowKit Go.Proofs.YtligbecmbefclaaDoorW.PrintWords Go.Proofs.YtligbecmbefclaaDoorW.PrintLast Go.Proofs.YtligbecmbefclaaDoor.Base
set_option linter.unusedVariables false
noncomputable def value_Times.L0 (x2 : List Int) (x3 : Bool) (x11 : List ByteArray) (x12 : Int) (x13 : Int) : Option (List Int × Bool × Int) := lim fun k => value_Times.l0 k x2 x3 x11 x12 x13
noncomputable def value_Times.F (a0 : ByteArray) : Option (List Int × Bool × Int) := lim fun k => value_Times.f k a0
theorem value_Times.isL0 (x2 : List Int) (x3 : Bool) (x11 : List ByteArray) (x12 : Int) (x13 : Int) : IsLim (fun k => value_Times.l0 k x2 x3 x11 x12 x13) (value_Times.L0 x2 x3 x11 x12 x13) := ⟨fun k => (value_Times.mono_l k) x2 x3 x11 x12 x13, rfl⟩
theorem value_Times.isF (a0 : ByteArray) : IsLim (fun k => value_Times.f k a0) (value_Times.F a0) := ⟨fun k => value_Times.mono a0 k, rfl⟩
theorem value_Times.L0_eq (x2 : List Int) (x3 : Bool) (x11 : List ByteArray) (x12 : Int) (x13 : Int) : value_Times.L0 x2 x3 x11 x12 x13 = if x13 < x12 then (if 0 ≤ x13 then (if x13 < (x11.length : Int) then ((value_ParseTime.F (rdOf ByteArray.empty x11 x13)).bind fun bt196 => (if bt196.2.2 = 0 then (if x13 > 0 then (if (bt196.2.1 != x3) = true then (some (([] : List Int), false, 19)) else (if x2.length < 17592186044416 then (value_Times.L0 (x2 ++ [bt196.1]) bt196.2.1 x11 x12 (wrap64 (x13 + 1))) else (none))) else (if x2.length < 17592186044416 then (value_Times.L0 (x2 ++ [bt196.1]) bt196.2.1 x11 x12 (wrap64 (x13 + 1))) else (none))) else (some (([] : List Int), false, 19)))) else (none)) else (none)) else (some (x2, x3, 0)) := by
  apply IsLim.step (value_Times.isL0 x2 x3 x11 x12 x13).mono
  case hf =>
    repeat'
      try intro _
      first
      | (with_reducible exact value_ParseTime.isF _)
      | (with_reducible exact value_Times.isL0 _ _ _ _ _)
      | (with_reducible apply IsLim.ite)
      | (with_reducible apply IsLim.bind)
      | (apply IsLim.cst; intro _; exact rfl)
  case h => intro k; rw [value_Times.l0]
theorem value_Times.F_eq (a0 : ByteArray) : value_Times.F a0 = (strings_Split.f a0 (⟨#[44]⟩ : ByteArray)).bind fun t192 => (value_Times.L0 ([] : List Int) false t192 (t192.length : Int) 0) := by
  apply IsLim.via
  case hf =>
    repeat'
      try intro _
      first
      | (with_reducible exact value_Times.isL0 _ _ _ _ _)
      | (with_reducible apply IsLim.ite)
      | (with_reducible apply IsLim.bind)
      | (apply IsLim.cst; intro _; exact rfl)
  case h => exact fun _ => rfl
noncomputable def solsticeref01_Digits.J0 (x0 : ByteArray) (x17 : Bool) : Option (Bool) := lim fun k => solsticeref01_Digits.j0 k x0 x17
noncomputable def solsticeref01_Digits.L0 (x0 : ByteArray) (x7 : Int) : Option (Bool) := lim fun k => solsticeref01_Digits.l0 k x0 x7
noncomputable def solsticeref01_Digits.F (a0 : ByteArray) (a1 : Int) (a2 : Int) : Option (Bool) := lim fun k => solsticeref01_Digits.f k a0 a1 a2
theorem solsticeref01_Digits.isJ0 (x0 : ByteArray) (x17 : Bool) : IsLim (fun k => solsticeref01_Digits.j0 k x0 x17) (solsticeref01_Digits.J0 x0 x17) := ⟨fun k => (solsticeref01_Digits.mono_l k).1 x0 x17, rfl⟩
theorem solsticeref01_Digits.isL0 (x0 : ByteArray) (x7 : Int) : IsLim (fun k => solsticeref01_Digits.l0 k x0 x7) (solsticeref01_Digits.L0 x0 x7) := ⟨fun k => (solsticeref01_Digits.mono_l k).2 x0 x7, rfl⟩
theorem solsticeref01_Digits.isF (a0 : ByteArray) (a1 : Int) (a2 : Int) : IsLim (fun k => solsticeref01_Digits.f k a0 a1 a2) (solsticeref01_Digits.F a0 a1 a2) := ⟨fun k => solsticeref01_Digits.mono a0 a1 a2 k, rfl⟩
theorem solsticeref01_Digits.J0_eq (x0 : ByteArray) (x17 : Bool) : solsticeref01_Digits.J0 x0 x17 = if x17 = true then (some false) else (solsticeref01_Digits.L0 x0 0) := by
  apply IsLim.step (solsticeref01_Digits.isJ0 x0 x17).mono
  case hf =>
    repeat'
      try intro _
      first
      | (with_reducible exact solsticeref01_Digits.isL0 _ _)
      | (with_reducible apply IsLim.ite)
      | (with_reducible apply IsLim.bind)
      | (apply IsLim.cst; intro _; exact rfl)
  case h => intro k; rw [solsticeref01_Digits.j0]
theorem solsticeref01_Digits.L0_eq (x0 : ByteArray) (x7 : Int) : solsticeref01_Digits.L0 x0 x7 = if x7 < (x0.size : Int) then (if 0 ≤ x7 then ((solsticeref01_digit.f (bt x0 x7)).bind fun t205 => (if t205 = true then (solsticeref01_Digits.L0 x0 (wrap64 (x7 + 1))) else (some false))) else (none)) else (some true) := by
  apply IsLim.step (solsticeref01_Digits.isL0 x0 x7).mono
  case hf =>
    repeat'
      try intro _
      first
      | (with_reducible exact solsticeref01_Digits.isL0 _ _)
      | (with_reducible apply IsLim.ite)
      | (with_reducible apply IsLim.bind)
      | (apply IsLim.cst; intro _; exact rfl)
  case h => intro k; rw [solsticeref01_Digits.l0]
theorem solsticeref01_Digits.F_eq (a0 : ByteArray) (a1 : Int) (a2 : Int) : solsticeref01_Digits.F a0 a1 a2 = if (a0.size : Int) < a1 then (solsticeref01_Digits.J0 a0 true) else (solsticeref01_Digits.J0 a0 (decide ((a0.size : Int) > a2))) := by
  apply IsLim.via
  case hf =>
    repeat'
      try intro _
      first
      | (with_reducible exact solsticeref01_Digits.isJ0 _ _)
      | (with_reducible apply IsLim.ite)
      | (with_reducible apply IsLim.bind)
      | (apply IsLim.cst; intro _; exact rfl)
  case h => exact fun _ => rfl
noncomputable def solsticeref01_Value.L0 (x0 : ByteArray) (x3 : Int) (x4 : Int) : Option (Int) := lim fun k => solsticeref01_Value.l0 k x0 x3 x4
noncomputable def solsticeref01_Value.F (a0 : ByteArray) : Option (Int) := lim fun k => solsticeref01_Value.f k a0
theorem solsticeref01_Value.isL0 (x0 : ByteArray) (x3 : Int) (x4 : Int) : IsLim (fun k => solsticeref01_Value.l0 k x0 x3 x4) (solsticeref01_Value.L0 x0 x3 x4) := ⟨fun k => (solsticeref01_Value.mono_l k) x0 x3 x4, rfl⟩
theorem solsticeref01_Value.isF (a0 : ByteArray) : IsLim (fun k => solsticeref01_Value.f k a0) (solsticeref01_Value.F a0) := ⟨fun k => solsticeref01_Value.mono a0 k, rfl⟩
theorem solsticeref01_Value.L0_eq (x0 : ByteArray) (x3 : Int) (x4 : Int) : solsticeref01_Value.L0 x0 x3 x4 = if x4 < (x0.size : Int) then (if 0 ≤ x4 then (solsticeref01_Value.L0 x0 (wrap64 ((wrap64 ((wrap64 (10 * x3)) + (wrap64 (bt x0 x4)))) - 48)) (wrap64 (x4 + 1))) else (none)) else (some x3) := by
  apply IsLim.step (solsticeref01_Value.isL0 x0 x3 x4).mono
  case hf =>
    repeat'
      try intro _
      first
      | (with_reducible exact solsticeref01_Value.isL0 _ _ _)
      | (with_reducible apply IsLim.ite)
      | (with_reducible apply IsLim.bind)
      | (apply IsLim.cst; intro _; exact rfl)
  case h => intro k; rw [solsticeref01_Value.l0]
theorem solsticeref01_Value.F_eq (a0 : ByteArray) : solsticeref01_Value.F a0 = solsticeref01_Value.L0 a0 0 0 := by
  apply IsLim.via
  case hf =>
    repeat'
      try intro _
      first
      | (with_reducible exact solsticeref01_Value.isL0 _ _ _)
      | (with_reducible apply IsLim.ite)
      | (with_reducible apply IsLim.bind)
      | (apply IsLim.cst; intro _; exact rfl)
  case h => exact fun _ => rfl
noncomputable def solsticeref01_Len.J0 (x1 : Int) (x9 : Bool) : Option (Int) := lim fun k => solsticeref01_Len.j0 k x1 x9
noncomputable def solsticeref01_Len.F (a0 : Int) (a1 : Int) : Option (Int) := lim fun k => solsticeref01_Len.f k a0 a1
theorem solsticeref01_Len.isJ0 (x1 : Int) (x9 : Bool) : IsLim (fun k => solsticeref01_Len.j0 k x1 x9) (solsticeref01_Len.J0 x1 x9) := ⟨fun k => (solsticeref01_Len.mono_l k) x1 x9, rfl⟩
theorem solsticeref01_Len.isF (a0 : Int) (a1 : Int) : IsLim (fun k => solsticeref01_Len.f k a0 a1) (solsticeref01_Len.F a0 a1) := ⟨fun k => solsticeref01_Len.mono a0 a1 k, rfl⟩
theorem solsticeref01_Len.J0_eq (x1 : Int) (x9 : Bool) : solsticeref01_Len.J0 x1 x9 = if x9 = true then (some 29) else (if x1 = 2 then (some 28) else (if x1 = 4 then (some 30) else (if x1 = 6 then (some 30) else (if x1 = 9 then (some 30) else (if x1 = 11 then (some 30) else (some 31)))))) := by
  apply IsLim.step (solsticeref01_Len.isJ0 x1 x9).mono
  case hf =>
    repeat'
      try intro _
      first
      | (with_reducible apply IsLim.ite)
      | (with_reducible apply IsLim.bind)
      | (apply IsLim.cst; intro _; exact rfl)
  case h => intro k; rw [solsticeref01_Len.j0]
theorem solsticeref01_Len.F_eq (a0 : Int) (a1 : Int) : solsticeref01_Len.F a0 a1 = (solsticeref01_In.f a1 1 12).bind fun t212 => (if t212 = true then (if a1 = 2 then ((solsticeref01_Long.f a0).bind fun t213 => (solsticeref01_Len.J0 a1 t213)) else (solsticeref01_Len.J0 a1 false)) else (some 0)) := by
  apply IsLim.via
  case hf =>
    repeat'
      try intro _
      first
      | (with_reducible exact solsticeref01_Len.isJ0 _ _)
      | (with_reducible apply IsLim.ite)
      | (with_reducible apply IsLim.bind)
      | (apply IsLim.cst; intro _; exact rfl)
  case h => exact fun _ => rfl
noncomputable def solsticeref01_Right.F (a0_0 : Int) (a0_1 : Int) (a0_2 : Int) : Option (Bool) := lim fun k => solsticeref01_Right.f k a0_0 a0_1 a0_2
theorem solsticeref01_Right.isF (a0_0 : Int) (a0_1 : Int) (a0_2 : Int) : IsLim (fun k => solsticeref01_Right.f k a0_0 a0_1 a0_2) (solsticeref01_Right.F a0_0 a0_1 a0_2) := ⟨fun k => solsticeref01_Right.mono a0_0 a0_1 a0_2 k, rfl⟩
theorem solsticeref01_Right.F_eq (a0_0 : Int) (a0_1 : Int) (a0_2 : Int) : solsticeref01_Right.F a0_0 a0_1 a0_2 = (solsticeref01_In.f a0_0 0 10000).bind fun t215 => (if t215 = true then ((solsticeref01_In.f a0_1 1 12).bind fun t216 => (if t216 = true then ((solsticeref01_Len.F a0_0 a0_1).bind fun t217 => ((solsticeref01_In.f a0_2 1 t217).bind fun t218 => (some t218))) else (some false))) else (some false)) := by
  apply IsLim.via
  case hf =>
    repeat'
      try intro _
      first
      | (with_reducible exact solsticeref01_Len.isF _ _)
      | (with_reducible apply IsLim.ite)
      | (with_reducible apply IsLim.bind)
      | (apply IsLim.cst; intro _; exact rfl)
  case h => exact fun _ => rfl
end Go.Proofs.YtligbecmbefclaaDoor.PVex

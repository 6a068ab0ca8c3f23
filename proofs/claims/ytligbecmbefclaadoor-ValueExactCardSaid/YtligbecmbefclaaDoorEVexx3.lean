/- Printed functions of the family Vex without a bound on their rounds, and the equation that each meets. No condition. -/
import Derived.Test.YtligbecmbefclaaDoorBase
import Derived.Test.YtligbecmbefclaaDoorPVexx3
namespace Go.Proofs.YtligbecmbefclaaDoor.PVex
open Go.RowKit Go.Proofs.YtligbecmbefclaaDoorW.PrintWords Go.Proofs.YtligbecmbefclaaDoorW.PrintLast Go.Proofs.YtligbecmbefclaaDoor.Base
set_option linter.unusedVariables false
noncomputable def num_Parse.J0 (x0 : ByteArray) (x13 : Bool) : Option (Int × Bool) := lim fun k => num_Parse.j0 k x0 x13
noncomputable def num_Parse.L0 (x0 : ByteArray) (x4 : Int) (x15 : Int) (x16 : Int) : Option (Int × Bool) := lim fun k => num_Parse.l0 k x0 x4 x15 x16
noncomputable def num_Parse.F (a0 : ByteArray) : Option (Int × Bool) := lim fun k => num_Parse.f k a0
theorem num_Parse.isJ0 (x0 : ByteArray) (x13 : Bool) : IsLim (fun k => num_Parse.j0 k x0 x13) (num_Parse.J0 x0 x13) := ⟨fun k => (num_Parse.mono_l k).1 x0 x13, rfl⟩
theorem num_Parse.isL0 (x0 : ByteArray) (x4 : Int) (x15 : Int) (x16 : Int) : IsLim (fun k => num_Parse.l0 k x0 x4 x15 x16) (num_Parse.L0 x0 x4 x15 x16) := ⟨fun k => (num_Parse.mono_l k).2 x0 x4 x15 x16, rfl⟩
theorem num_Parse.isF (a0 : ByteArray) : IsLim (fun k => num_Parse.f k a0) (num_Parse.F a0) := ⟨fun k => num_Parse.mono a0 k, rfl⟩
theorem num_Parse.J0_eq (x0 : ByteArray) (x13 : Bool) : num_Parse.J0 x0 x13 = if x13 = true then (some (0, false)) else (num_Parse.L0 x0 0 (x0.size : Int) 0) := by
  apply IsLim.step (num_Parse.isJ0 x0 x13).mono
  case hf =>
    repeat'
      try intro _
      first
      | (with_reducible exact num_Parse.isL0 _ _ _ _)
      | (with_reducible apply IsLim.ite)
      | (with_reducible apply IsLim.bind)
      | (apply IsLim.cst; intro _; exact rfl)
  case h => intro k; rw [num_Parse.j0]
theorem num_Parse.L0_eq (x0 : ByteArray) (x4 : Int) (x15 : Int) (x16 : Int) : num_Parse.L0 x0 x4 x15 x16 = if x16 < x15 then (if 0 ≤ x16 then (if x16 < (x0.size : Int) then (if (bt x0 x16) < 48 then (some (0, false)) else (if (bt x0 x16) > 57 then (some (0, false)) else (num_Parse.L0 x0 (wrap64 ((wrap64 (10 * x4)) + (((bt x0 x16) - 48) % 256))) x15 (wrap64 (x16 + 1))))) else (none)) else (none)) else (some (x4, true)) := by
  apply IsLim.step (num_Parse.isL0 x0 x4 x15 x16).mono
  case hf =>
    repeat'
      try intro _
      first
      | (with_reducible exact num_Parse.isL0 _ _ _ _)
      | (with_reducible apply IsLim.ite)
      | (with_reducible apply IsLim.bind)
      | (apply IsLim.cst; intro _; exact rfl)
  case h => intro k; rw [num_Parse.l0]
theorem num_Parse.F_eq (a0 : ByteArray) : num_Parse.F a0 = if (a0.size : Int) < 1 then (num_Parse.J0 a0 true) else (num_Parse.J0 a0 (decide ((a0.size : Int) > 18))) := by
  apply IsLim.via
  case hf =>
    repeat'
      try intro _
      first
      | (with_reducible exact num_Parse.isJ0 _ _)
      | (with_reducible apply IsLim.ite)
      | (with_reducible apply IsLim.bind)
      | (apply IsLim.cst; intro _; exact rfl)
  case h => exact fun _ => rfl
noncomputable def value_numbers.L0 (x0 : ByteArray) (x6 : List Int) (x11 : List Int) (x12 : Int) (x13 : Int) : Option (List Int × Bool) := lim fun k => value_numbers.l0 k x0 x6 x11 x12 x13
noncomputable def value_numbers.F (a0 : ByteArray) (l1 : List Int) : Option (List Int × Bool) := lim fun k => value_numbers.f k a0 l1
theorem value_numbers.isL0 (x0 : ByteArray) (x6 : List Int) (x11 : List Int) (x12 : Int) (x13 : Int) : IsLim (fun k => value_numbers.l0 k x0 x6 x11 x12 x13) (value_numbers.L0 x0 x6 x11 x12 x13) := ⟨fun k => (value_numbers.mono_l k) x0 x6 x11 x12 x13, rfl⟩
theorem value_numbers.isF (a0 : ByteArray) (l1 : List Int) : IsLim (fun k => value_numbers.f k a0 l1) (value_numbers.F a0 l1) := ⟨fun k => value_numbers.mono a0 l1 k, rfl⟩
theorem value_numbers.L0_eq (x0 : ByteArray) (x6 : List Int) (x11 : List Int) (x12 : Int) (x13 : Int) : value_numbers.L0 x0 x6 x11 x12 x13 = if x13 < x12 then (if 0 ≤ x13 then (if x13 < (x11.length : Int) then (if (x0.size : Int) < (rd x11 x13) then (some (([] : List Int), false)) else (if 0 ≤ (rd x11 x13) then (if (rd x11 x13) ≤ (x0.size : Int) then ((num_Parse.F (x0.extract 0 ((rd x11 x13) : Int).toNat)).bind fun bt135 => (if bt135.2 = true then (if x6.length < 17592186044416 then (value_numbers.L0 (x0.extract ((rd x11 x13) : Int).toNat x0.size) (x6 ++ [bt135.1]) x11 x12 (wrap64 (x13 + 1))) else (none)) else (some (([] : List Int), false)))) else (none)) else (none))) else (none)) else (none)) else (some (x6, (x0.toList == ([] : List UInt8)))) := by
  apply IsLim.step (value_numbers.isL0 x0 x6 x11 x12 x13).mono
  case hf =>
    repeat'
      try intro _
      first
      | (with_reducible exact num_Parse.isF _)
      | (with_reducible exact value_numbers.isL0 _ _ _ _ _)
      | (with_reducible apply IsLim.ite)
      | (with_reducible apply IsLim.bind)
      | (apply IsLim.cst; intro _; exact rfl)
  case h => intro k; rw [value_numbers.l0]
theorem value_numbers.F_eq (a0 : ByteArray) (l1 : List Int) : value_numbers.F a0 l1 = value_numbers.L0 a0 ([] : List Int) l1 (l1.length : Int) 0 := by
  apply IsLim.via
  case hf =>
    repeat'
      try intro _
      first
      | (with_reducible exact value_numbers.isL0 _ _ _ _ _)
      | (with_reducible apply IsLim.ite)
      | (with_reducible apply IsLim.bind)
      | (apply IsLim.cst; intro _; exact rfl)
  case h => exact fun _ => rfl
end Go.Proofs.YtligbecmbefclaaDoor.PVex

/- Printed functions of the family Vex without a bound on their rounds, and the equation that each meets. No condition. -/
import Derived.Test.YtligbecmbefclaaDoorBase
import Derived.Test.YtligbecmbefclaaDoorPVexx6
import Derived.Test.YtligbecmbefclaaDoorEVexx3
import Derived.Test.YtligbecmbefclaaDoorEVexx5
namespace Go.Proofs.YtligbecmbefclaaDoor.PVex
open Go.RowKit Go.Proofs.YtligbecmbefclaaDoorW.PrintWords Go.Proofs.YtligbecmbefclaaDoorW.PrintLast Go.Proofs.YtligbecmbefclaaDoor.Base
set_option linter.unusedVariables false
noncomputable def value_ParseTime.J0 (x0 : ByteArray) (x3 : Bool) (x20 : Bool) : Option (Int × Bool × Int) := lim fun k => value_ParseTime.j0 k x0 x3 x20
noncomputable def value_ParseTime.J1 (x3 : Bool) (x5 : List Int) (x56 : Bool) : Option (Int × Bool × Int) := lim fun k => value_ParseTime.j1 k x3 x5 x56
noncomputable def value_ParseTime.F (a0 : ByteArray) : Option (Int × Bool × Int) := lim fun k => value_ParseTime.f k a0
theorem value_ParseTime.isJ0 (x0 : ByteArray) (x3 : Bool) (x20 : Bool) : IsLim (fun k => value_ParseTime.j0 k x0 x3 x20) (value_ParseTime.J0 x0 x3 x20) := ⟨fun k => (value_ParseTime.mono_l k).1 x0 x3 x20, rfl⟩
theorem value_ParseTime.isJ1 (x3 : Bool) (x5 : List Int) (x56 : Bool) : IsLim (fun k => value_ParseTime.j1 k x3 x5 x56) (value_ParseTime.J1 x3 x5 x56) := ⟨fun k => (value_ParseTime.mono_l k).2 x3 x5 x56, rfl⟩
theorem value_ParseTime.isF (a0 : ByteArray) : IsLim (fun k => value_ParseTime.f k a0) (value_ParseTime.F a0) := ⟨fun k => value_ParseTime.mono a0 k, rfl⟩
theorem value_ParseTime.J0_eq (x0 : ByteArray) (x3 : Bool) (x20 : Bool) : value_ParseTime.J0 x0 x3 x20 = if x20 = true then (some (0, false, 19)) else (if 0 ≤ 8 then (if 8 ≤ (x0.size : Int) then (if 9 ≤ (x0.size : Int) then (if (x0.extract 0 8).size + (x0.extract 9 x0.size).size ≤ 9223372036854775807 then ((value_numbers.F ((x0.extract 0 8) ++ (x0.extract 9 x0.size)) (([4, 2, 2, 2, 2, 2] : List Int))).bind fun bt151 => (if bt151.2 = true then (if 0 < (bt151.1.length : Int) then (if (rd bt151.1 0) < 1 then (value_ParseTime.J1 x3 bt151.1 true) else (if 3 < (bt151.1.length : Int) then (if (rd bt151.1 3) ≥ 24 then (value_ParseTime.J1 x3 bt151.1 true) else (if 4 < (bt151.1.length : Int) then (if (rd bt151.1 4) ≥ 60 then (value_ParseTime.J1 x3 bt151.1 true) else (if 5 < (bt151.1.length : Int) then (value_ParseTime.J1 x3 bt151.1 (decide ((rd bt151.1 5) ≥ 60))) else (none))) else (none))) else (none))) else (none)) else (value_ParseTime.J1 x3 bt151.1 true))) else (none)) else (none)) else (none)) else (none)) := by
  apply IsLim.step (value_ParseTime.isJ0 x0 x3 x20).mono
  case hf =>
    repeat'
      try intro _
      first
      | (with_reducible exact value_ParseTime.isJ1 _ _ _)
      | (with_reducible exact value_numbers.isF _ _)
      | (with_reducible apply IsLim.ite)
      | (with_reducible apply IsLim.bind)
      | (apply IsLim.cst; intro _; exact rfl)
  case h => intro k; rw [value_ParseTime.j0]
theorem value_ParseTime.J1_eq (x3 : Bool) (x5 : List Int) (x56 : Bool) : value_ParseTime.J1 x3 x5 x56 = if x56 = true then (some (0, false, 19)) else (if 0 < (x5.length : Int) then (if 1 < (x5.length : Int) then (if 2 < (x5.length : Int) then ((civil_Number.F (rd x5 0) (rd x5 1) (rd x5 2)).bind fun bt162 => (if bt162.2 = 0 then (if 3 < (x5.length : Int) then (if 4 < (x5.length : Int) then (if 5 < (x5.length : Int) then (some (wrap64 ((wrap64 ((wrap64 ((wrap64 (bt162.1 * 86400)) + (wrap64 ((rd x5 3) * 3600)))) + (wrap64 ((rd x5 4) * 60)))) + (rd x5 5)), x3, 0)) else (none)) else (none)) else (none)) else (some (0, false, 19)))) else (none)) else (none)) else (none)) := by
  apply IsLim.step (value_ParseTime.isJ1 x3 x5 x56).mono
  case hf =>
    repeat'
      try intro _
      first
      | (with_reducible exact civil_Number.isF _ _ _)
      | (with_reducible apply IsLim.ite)
      | (with_reducible apply IsLim.bind)
      | (apply IsLim.cst; intro _; exact rfl)
  case h => intro k; rw [value_ParseTime.j1]
theorem value_ParseTime.F_eq (a0 : ByteArray) : value_ParseTime.F a0 = (strings_CutSuffix.f a0 (⟨#[90]⟩ : ByteArray)).bind fun bt146 => (if (bt146.1.size : Int) = 15 then (if 8 < (bt146.1.size : Int) then (value_ParseTime.J0 bt146.1 bt146.2 ((bt bt146.1 8) != 84)) else (none)) else (value_ParseTime.J0 bt146.1 bt146.2 true)) := by
  apply IsLim.via
  case hf =>
    repeat'
      try intro _
      first
      | (with_reducible exact value_ParseTime.isJ0 _ _ _)
      | (with_reducible apply IsLim.ite)
      | (with_reducible apply IsLim.bind)
      | (apply IsLim.cst; intro _; exact rfl)
  case h => exact fun _ => rfl
end Go.Proofs.YtligbecmbefclaaDoor.PVex

/- Printed functions of the family Vex without a bound on their rounds, and the equation that each meets. No condition. -/
import Derived.Test.YtligbecmbefclaaDoorBase
import Derived.Test.YtligbecmbefclaaDoorPVexx7
namespace Go.Proofs.YtligbecmbefclaaDoor.PVex
open Go.RowKit Go.Proofs.YtligbecmbefclaaDoorW.PrintWords Go.Proofs.YtligbecmbefclaaDoorW.PrintLast Go.Proofs.YtligbecmbefclaaDoor.Base
set_option linter.unusedVariables false
noncomputable def value_Offset.J0 (x0 : Int) (x11 : Bool) : Option (ByteArray × Int) := lim fun k => value_Offset.j0 k x0 x11
noncomputable def value_Offset.J1 (x0 : Int) (x4 : ByteArray) : Option (ByteArray × Int) := lim fun k => value_Offset.j1 k x0 x4
noncomputable def value_Offset.F (a0 : Int) : Option (ByteArray × Int) := lim fun k => value_Offset.f k a0
theorem value_Offset.isJ0 (x0 : Int) (x11 : Bool) : IsLim (fun k => value_Offset.j0 k x0 x11) (value_Offset.J0 x0 x11) := ⟨fun k => (value_Offset.mono_l k).1 x0 x11, rfl⟩
theorem value_Offset.isJ1 (x0 : Int) (x4 : ByteArray) : IsLim (fun k => value_Offset.j1 k x0 x4) (value_Offset.J1 x0 x4) := ⟨fun k => (value_Offset.mono_l k).2 x0 x4, rfl⟩
theorem value_Offset.isF (a0 : Int) : IsLim (fun k => value_Offset.f k a0) (value_Offset.F a0) := ⟨fun k => value_Offset.mono a0 k, rfl⟩
theorem value_Offset.J0_eq (x0 : Int) (x11 : Bool) : value_Offset.J0 x0 x11 = if x11 = true then (some ((⟨#[]⟩ : ByteArray), 19)) else (if x0 < 0 then (value_Offset.J1 (wrap64 (-x0)) (⟨#[45]⟩ : ByteArray)) else (value_Offset.J1 x0 (⟨#[43]⟩ : ByteArray))) := by
  apply IsLim.step (value_Offset.isJ0 x0 x11).mono
  case hf =>
    repeat'
      try intro _
      first
      | (with_reducible exact value_Offset.isJ1 _ _)
      | (with_reducible apply IsLim.ite)
      | (with_reducible apply IsLim.bind)
      | (apply IsLim.cst; intro _; exact rfl)
  case h => intro k; rw [value_Offset.j0]
theorem value_Offset.J1_eq (x0 : Int) (x4 : ByteArray) : value_Offset.J1 x0 x4 = (num_Text.f (wrap64 (Int.tdiv x0 3600)) 2).bind fun t167 => (if x4.size + t167.size ≤ 9223372036854775807 then ((num_Text.f (wrap64 (Int.tdiv (Int.tmod x0 3600) 60)) 2).bind fun t168 => (if (x4 ++ t167).size + t168.size ≤ 9223372036854775807 then (if (Int.tmod x0 60) = 0 then (some ((x4 ++ t167) ++ t168, 0)) else ((num_Text.f (Int.tmod x0 60) 2).bind fun t169 => (if ((x4 ++ t167) ++ t168).size + t169.size ≤ 9223372036854775807 then (some (((x4 ++ t167) ++ t168) ++ t169, 0)) else (none)))) else (none))) else (none)) := by
  apply IsLim.step (value_Offset.isJ1 x0 x4).mono
  case hf =>
    repeat'
      try intro _
      first
      | (with_reducible apply IsLim.ite)
      | (with_reducible apply IsLim.bind)
      | (apply IsLim.cst; intro _; exact rfl)
  case h => intro k; rw [value_Offset.j1]
theorem value_Offset.F_eq (a0 : Int) : value_Offset.F a0 = if a0 ≤ (-86400) then (value_Offset.J0 a0 true) else (value_Offset.J0 a0 (decide (a0 ≥ 86400))) := by
  apply IsLim.via
  case hf =>
    repeat'
      try intro _
      first
      | (with_reducible exact value_Offset.isJ0 _ _)
      | (with_reducible apply IsLim.ite)
      | (with_reducible apply IsLim.bind)
      | (apply IsLim.cst; intro _; exact rfl)
  case h => exact fun _ => rfl
end Go.Proofs.YtligbecmbefclaaDoor.PVex

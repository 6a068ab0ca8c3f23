/- Printed functions of the family Vex without a bound on their rounds, and the equation that each meets. No condition. -/
import Derived.Test.YtligbecmbefclaaDoorBase
import Derived.Test.YtligbecmbefclaaDoorPVexx1
namespace Go.Proofs.YtligbecmbefclaaDoor.PVex
open Go.RowKit Go.Proofs.YtligbecmbefclaaDoorW.PrintWords Go.Proofs.YtligbecmbefclaaDoorW.PrintLast Go.Proofs.YtligbecmbefclaaDoor.Base
set_option linter.unusedVariables false
noncomputable def civil_Len.J0 (x0 : Int) (x1 : Int) (x5 : Bool) : Option (Int) := lim fun k => civil_Len.j0 k x0 x1 x5
noncomputable def civil_Len.F (a0 : Int) (a1 : Int) : Option (Int) := lim fun k => civil_Len.f k a0 a1
theorem civil_Len.isJ0 (x0 : Int) (x1 : Int) (x5 : Bool) : IsLim (fun k => civil_Len.j0 k x0 x1 x5) (civil_Len.J0 x0 x1 x5) := ⟨fun k => (civil_Len.mono_l k) x0 x1 x5, rfl⟩
theorem civil_Len.isF (a0 : Int) (a1 : Int) : IsLim (fun k => civil_Len.f k a0 a1) (civil_Len.F a0 a1) := ⟨fun k => civil_Len.mono a0 a1 k, rfl⟩
theorem civil_Len.J0_eq (x0 : Int) (x1 : Int) (x5 : Bool) : civil_Len.J0 x0 x1 x5 = if x5 = true then (some 0) else (if x1 = 2 then ((civil_Long.f x0).bind fun t101 => (if t101 = true then (some 29) else ((some (([31, 28, 31, 30, 31, 30, 31, 31, 30, 31, 30, 31] : List Int) : List Int)).bind fun y102 => (if 0 ≤ (wrap64 (x1 - 1)) then (if (wrap64 (x1 - 1)) < (y102.length : Int) then (some (rd y102 (wrap64 (x1 - 1)))) else (none)) else (none))))) else ((some (([31, 28, 31, 30, 31, 30, 31, 31, 30, 31, 30, 31] : List Int) : List Int)).bind fun y106 => (if 0 ≤ (wrap64 (x1 - 1)) then (if (wrap64 (x1 - 1)) < (y106.length : Int) then (some (rd y106 (wrap64 (x1 - 1)))) else (none)) else (none)))) := by
  apply IsLim.step (civil_Len.isJ0 x0 x1 x5).mono
  case hf =>
    repeat'
      try intro _
      first
      | (with_reducible apply IsLim.ite)
      | (with_reducible apply IsLim.bind)
      | (apply IsLim.cst; intro _; exact rfl)
  case h => intro k; rw [civil_Len.j0]
theorem civil_Len.F_eq (a0 : Int) (a1 : Int) : civil_Len.F a0 a1 = if a1 < 1 then (civil_Len.J0 a0 a1 true) else (civil_Len.J0 a0 a1 (decide (a1 > 12))) := by
  apply IsLim.via
  case hf =>
    repeat'
      try intro _
      first
      | (with_reducible exact civil_Len.isJ0 _ _ _)
      | (with_reducible apply IsLim.ite)
      | (with_reducible apply IsLim.bind)
      | (apply IsLim.cst; intro _; exact rfl)
  case h => exact fun _ => rfl
noncomputable def civil_Date.J0 (x0 : Int) (x11 : Bool) : Option (Int × Int × Int × Int) := lim fun k => civil_Date.j0 k x0 x11
noncomputable def civil_Date.L0 (x0 : Int) (x4 : Int) : Option (Int × Int × Int × Int) := lim fun k => civil_Date.l0 k x0 x4
noncomputable def civil_Date.L1 (x0 : Int) (x4 : Int) : Option (Int × Int × Int × Int) := lim fun k => civil_Date.l1 k x0 x4
noncomputable def civil_Date.L2 (x0 : Int) (x4 : Int) (x5 : Int) : Option (Int × Int × Int × Int) := lim fun k => civil_Date.l2 k x0 x4 x5
noncomputable def civil_Date.F (a0 : Int) : Option (Int × Int × Int × Int) := lim fun k => civil_Date.f k a0
theorem civil_Date.isJ0 (x0 : Int) (x11 : Bool) : IsLim (fun k => civil_Date.j0 k x0 x11) (civil_Date.J0 x0 x11) := ⟨fun k => (civil_Date.mono_l k).1 x0 x11, rfl⟩
theorem civil_Date.isL0 (x0 : Int) (x4 : Int) : IsLim (fun k => civil_Date.l0 k x0 x4) (civil_Date.L0 x0 x4) := ⟨fun k => (civil_Date.mono_l k).2.1 x0 x4, rfl⟩
theorem civil_Date.isL1 (x0 : Int) (x4 : Int) : IsLim (fun k => civil_Date.l1 k x0 x4) (civil_Date.L1 x0 x4) := ⟨fun k => (civil_Date.mono_l k).2.2.1 x0 x4, rfl⟩
theorem civil_Date.isL2 (x0 : Int) (x4 : Int) (x5 : Int) : IsLim (fun k => civil_Date.l2 k x0 x4 x5) (civil_Date.L2 x0 x4 x5) := ⟨fun k => (civil_Date.mono_l k).2.2.2 x0 x4 x5, rfl⟩
theorem civil_Date.isF (a0 : Int) : IsLim (fun k => civil_Date.f k a0) (civil_Date.F a0) := ⟨fun k => civil_Date.mono a0 k, rfl⟩
theorem civil_Date.J0_eq (x0 : Int) (x11 : Bool) : civil_Date.J0 x0 x11 = if x11 = true then (some (0, 0, 0, 23)) else (civil_Date.L0 (wrap64 (x0 + 719528)) (wrap64 (Int.tdiv (wrap64 ((wrap64 (x0 + 719528)) * 400)) 146097))) := by
  apply IsLim.step (civil_Date.isJ0 x0 x11).mono
  case hf =>
    repeat'
      try intro _
      first
      | (with_reducible exact civil_Date.isL0 _ _)
      | (with_reducible apply IsLim.ite)
      | (with_reducible apply IsLim.bind)
      | (apply IsLim.cst; intro _; exact rfl)
  case h => intro k; rw [civil_Date.j0]
theorem civil_Date.L0_eq (x0 : Int) (x4 : Int) : civil_Date.L0 x0 x4 = (civil_ahead.f x4).bind fun t111 => (if t111 > x0 then (civil_Date.L0 x0 (wrap64 (x4 - 1))) else (civil_Date.L1 x0 x4)) := by
  apply IsLim.step (civil_Date.isL0 x0 x4).mono
  case hf =>
    repeat'
      try intro _
      first
      | (with_reducible exact civil_Date.isL0 _ _)
      | (with_reducible exact civil_Date.isL1 _ _)
      | (with_reducible apply IsLim.ite)
      | (with_reducible apply IsLim.bind)
      | (apply IsLim.cst; intro _; exact rfl)
  case h => intro k; rw [civil_Date.l0]
theorem civil_Date.L1_eq (x0 : Int) (x4 : Int) : civil_Date.L1 x0 x4 = (civil_ahead.f (wrap64 (x4 + 1))).bind fun t112 => (if t112 ≤ x0 then (civil_Date.L1 x0 (wrap64 (x4 + 1))) else ((civil_ahead.f x4).bind fun t113 => (civil_Date.L2 (wrap64 (x0 - t113)) x4 1))) := by
  apply IsLim.step (civil_Date.isL1 x0 x4).mono
  case hf =>
    repeat'
      try intro _
      first
      | (with_reducible exact civil_Date.isL1 _ _)
      | (with_reducible exact civil_Date.isL2 _ _ _)
      | (with_reducible apply IsLim.ite)
      | (with_reducible apply IsLim.bind)
      | (apply IsLim.cst; intro _; exact rfl)
  case h => intro k; rw [civil_Date.l1]
theorem civil_Date.L2_eq (x0 : Int) (x4 : Int) (x5 : Int) : civil_Date.L2 x0 x4 x5 = (civil_Len.F x4 x5).bind fun t114 => (if x0 ≥ t114 then ((civil_Len.F x4 x5).bind fun t115 => (civil_Date.L2 (wrap64 (x0 - t115)) x4 (wrap64 (x5 + 1)))) else (some (x4, x5, wrap64 (x0 + 1), 0))) := by
  apply IsLim.step (civil_Date.isL2 x0 x4 x5).mono
  case hf =>
    repeat'
      try intro _
      first
      | (with_reducible exact civil_Date.isL2 _ _ _)
      | (with_reducible exact civil_Len.isF _ _)
      | (with_reducible apply IsLim.ite)
      | (with_reducible apply IsLim.bind)
      | (apply IsLim.cst; intro _; exact rfl)
  case h => intro k; rw [civil_Date.l2]
theorem civil_Date.F_eq (a0 : Int) : civil_Date.F a0 = if a0 < (-719528) then (civil_Date.J0 a0 true) else (civil_Date.J0 a0 (decide (a0 ≥ 2933263))) := by
  apply IsLim.via
  case hf =>
    repeat'
      try intro _
      first
      | (with_reducible exact civil_Date.isJ0 _ _)
      | (with_reducible apply IsLim.ite)
      | (with_reducible apply IsLim.bind)
      | (apply IsLim.cst; intro _; exact rfl)
  case h => exact fun _ => rfl
end Go.Proofs.YtligbecmbefclaaDoor.PVex

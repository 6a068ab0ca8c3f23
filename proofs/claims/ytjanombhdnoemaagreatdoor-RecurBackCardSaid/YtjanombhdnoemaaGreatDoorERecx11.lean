/- Functions of the family Rec without a bound on their rounds, and the equation that each meets. No condition. -/
import Derived.Test.YtjanombhdnoemaaGreatDoorBase
import Derived.Test.YtjanombhdnoemaaGreatDoorPRecx6
import Derived.Test.YtjanombhdnoemaaGreatDoorPRecx2
import Derived.Test.YtjanombhdnoemaaGreatDoorPRecx7
import Derived.Test.YtjanombhdnoemaaGreatDoorPRecx8
import Derived.Test.YtjanombhdnoemaaGreatDoorPRecx10
import Derived.Test.YtjanombhdnoemaaGreatDoorPRecx9
import Derived.Test.YtjanombhdnoemaaGreatDoorPRecx11
/- Functions of the family Rec without a bound on their rounds, and the equation that each meets. No condition. -/
namespace Go.Proofs.YtjanombhdnoemaaGreatDoor.PRec
open Go.RowKit Go.Proofs.YtjanombhdnoemaaGreatDoorW.PrintWords Go.Proofs.YtjanombhdnoemaaGreatDoorW.PrintLast Go.Proofs.YtjanombhdnoemaaGreatDoorW.PrintMore Go.Proofs.YtjanombhdnoemaaGreatDoor.Base
set_option linter.unusedVariables false
noncomputable def civil_Len.J0 (x0 : Int) (x1 : Int) (x5 : Bool) : Option (Int) := lim fun k => civil_Len.j0 k x0 x1 x5
noncomputable def civil_Len.F (a0 : Int) (a1 : Int) : Option (Int) := lim fun k => civil_Len.f k a0 a1
theorem civil_Len.isJ0 (x0 : Int) (x1 : Int) (x5 : Bool) : IsLim (fun k => civil_Len.j0 k x0 x1 x5) (civil_Len.J0 x0 x1 x5) := ⟨fun k => (civil_Len.mono_l k) x0 x1 x5, rfl⟩
theorem civil_Len.isF (a0 : Int) (a1 : Int) : IsLim (fun k => civil_Len.f k a0 a1) (civil_Len.F a0 a1) := ⟨fun k => civil_Len.mono a0 a1 k, rfl⟩
theorem civil_Len.J0_eq (x0 : Int) (x1 : Int) (x5 : Bool) : civil_Len.J0 x0 x1 x5 = if x5 = true then (some 0) else (if x1 = 2 then ((civil_Long.f x0).bind fun t101 => (if t101 = true then (some 29) else ((some (([31, 28, 31, 30, 31, 30, 31, 31, 30, 31, 30, 31] : List Int) : List Int)).bind fun y102 => (if 0 ≤ (wrap64 (x1 - 1)) then (if (wrap64 (x1 - 1)) < (y102.length : Int) then (some (rd y102 (wrap64 (x1 - 1)))) else (none)) else (none))))) else ((some (([31, 28, 31, 30, 31, 30, 31, 31, 30, 31, 30, 31] : List Int) : List Int)).bind fun y106 => (if 0 ≤ (wrap64 (x1 - 1)) then (if (wrap64 (x1 - 1)) < (y106.length : Int) then (some (rd y106 (wrap64 (x1 - 1)))) else (none)) else (none)))) := by
  apply IsLim.step (civil_Len.isJ0 x0 x1 x5).mono
  case hf =>
    repeat'
      try intro _
      first
      | (with_reducible apply IsLim.ite)
      | (with_reducible apply IsLim.bind)
      | (apply IsLim.cst; intro _; exact rfl)
  case h => intro k; rw [civil_Len.j0]
theorem civil_Len.F_eq (a0 : Int) (a1 : Int) : civil_Len.F a0 a1 = if a1 < 1 then (civil_Len.J0 a0 a1 true) else (civil_Len.J0 a0 a1 (decide (a1 > 12))) := by
  apply IsLim.via
  case hf =>
    repeat'
      try intro _
      first
      | (with_reducible exact civil_Len.isJ0 _ _ _)
      | (with_reducible apply IsLim.ite)
      | (with_reducible apply IsLim.bind)
      | (apply IsLim.cst; intro _; exact rfl)
  case h => exact fun _ => rfl
noncomputable def civil_Date.J0 (x0 : Int) (x11 : Bool) : Option (Int × Int × Int × Int) := lim fun k => civil_Date.j0 k x0 x11
noncomputable def civil_Date.L0 (x0 : Int) (x4 : Int) : Option (Int × Int × Int × Int) := lim fun k => civil_Date.l0 k x0 x4
noncomputable def civil_Date.L1 (x0 : Int) (x4 : Int) : Option (Int × Int × Int × Int) := lim fun k => civil_Date.l1 k x0 x4
noncomputable def civil_Date.L2 (x0 : Int) (x4 : Int) (x5 : Int) : Option (Int × Int × Int × Int) := lim fun k => civil_Date.l2 k x0 x4 x5
noncomputable def civil_Date.F (a0 : Int) : Option (Int × Int × Int × Int) := lim fun k => civil_Date.f k a0
theorem civil_Date.isJ0 (x0 : Int) (x11 : Bool) : IsLim (fun k => civil_Date.j0 k x0 x11) (civil_Date.J0 x0 x11) := ⟨fun k => (civil_Date.mono_l k).1 x0 x11, rfl⟩
theorem civil_Date.isL0 (x0 : Int) (x4 : Int) : IsLim (fun k => civil_Date.l0 k x0 x4) (civil_Date.L0 x0 x4) := ⟨fun k => (civil_Date.mono_l k).2.1 x0 x4, rfl⟩
theorem civil_Date.isL1 (x0 : Int) (x4 : Int) : IsLim (fun k => civil_Date.l1 k x0 x4) (civil_Date.L1 x0 x4) := ⟨fun k => (civil_Date.mono_l k).2.2.1 x0 x4, rfl⟩
theorem civil_Date.isL2 (x0 : Int) (x4 : Int) (x5 : Int) : IsLim (fun k => civil_Date.l2 k x0 x4 x5) (civil_Date.L2 x0 x4 x5) := ⟨fun k => (civil_Date.mono_l k).2.2.2 x0 x4 x5, rfl⟩
theorem civil_Date.isF (a0 : Int) : IsLim (fun k => civil_Date.f k a0) (civil_Date.F a0) := ⟨fun k => civil_Date.mono a0 k, rfl⟩
theorem civil_Date.J0_eq (x0 : Int) (x11 : Bool) : civil_Date.J0 x0 x11 = if x11 = true then (some (0, 0, 0, 23)) else (civil_Date.L0 (wrap64 (x0 + 719528)) (wrap64 (Int.tdiv (wrap64 ((wrap64 (x0 + 719528)) * 400)) 146097))) := by
  apply IsLim.step (civil_Date.isJ0 x0 x11).mono
  case hf =>
    repeat'
      try intro _
      first
      | (with_reducible exact civil_Date.isL0 _ _)
      | (with_reducible apply IsLim.ite)
      | (with_reducible apply IsLim.bind)
      | (apply IsLim.cst; intro _; exact rfl)
  case h => intro k; rw [civil_Date.j0]
theorem civil_Date.L0_eq (x0 : Int) (x4 : Int) : civil_Date.L0 x0 x4 = (civil_ahead.f x4).bind fun t111 => (if t111 > x0 then (civil_Date.L0 x0 (wrap64 (x4 - 1))) else (civil_Date.L1 x0 x4)) := by
  apply IsLim.step (civil_Date.isL0 x0 x4).mono
  case hf =>
    repeat'
      try intro _
      first
      | (with_reducible exact civil_Date.isL0 _ _)
      | (with_reducible exact civil_Date.isL1 _ _)
      | (with_reducible apply IsLim.ite)
      | (with_reducible apply IsLim.bind)
      | (apply IsLim.cst; intro _; exact rfl)
  case h => intro k; rw [civil_Date.l0]
theorem civil_Date.L1_eq (x0 : Int) (x4 : Int) : civil_Date.L1 x0 x4 = (civil_ahead.f (wrap64 (x4 + 1))).bind fun t112 => (if t112 ≤ x0 then (civil_Date.L1 x0 (wrap64 (x4 + 1))) else ((civil_ahead.f x4).bind fun t113 => (civil_Date.L2 (wrap64 (x0 - t113)) x4 1))) := by
  apply IsLim.step (civil_Date.isL1 x0 x4).mono
  case hf =>
    repeat'
      try intro _
      first
      | (with_reducible exact civil_Date.isL1 _ _)
      | (with_reducible exact civil_Date.isL2 _ _ _)
      | (with_reducible apply IsLim.ite)
      | (with_reducible apply IsLim.bind)
      | (apply IsLim.cst; intro _; exact rfl)
  case h => intro k; rw [civil_Date.l1]
theorem civil_Date.L2_eq (x0 : Int) (x4 : Int) (x5 : Int) : civil_Date.L2 x0 x4 x5 = (civil_Len.F x4 x5).bind fun t114 => (if x0 ≥ t114 then ((civil_Len.F x4 x5).bind fun t115 => (civil_Date.L2 (wrap64 (x0 - t115)) x4 (wrap64 (x5 + 1)))) else (some (x4, x5, wrap64 (x0 + 1), 0))) := by
  apply IsLim.step (civil_Date.isL2 x0 x4 x5).mono
  case hf =>
    repeat'
      try intro _
      first
      | (with_reducible exact civil_Date.isL2 _ _ _)
      | (with_reducible exact civil_Len.isF _ _)
      | (with_reducible apply IsLim.ite)
      | (with_reducible apply IsLim.bind)
      | (apply IsLim.cst; intro _; exact rfl)
  case h => intro k; rw [civil_Date.l2]
theorem civil_Date.F_eq (a0 : Int) : civil_Date.F a0 = if a0 < (-719528) then (civil_Date.J0 a0 true) else (civil_Date.J0 a0 (decide (a0 ≥ 2933263))) := by
  apply IsLim.via
  case hf =>
    repeat'
      try intro _
      first
      | (with_reducible exact civil_Date.isJ0 _ _)
      | (with_reducible apply IsLim.ite)
      | (with_reducible apply IsLim.bind)
      | (apply IsLim.cst; intro _; exact rfl)
  case h => exact fun _ => rfl
noncomputable def recur_year.F (a0 : Int) : Option (Bool) := lim fun k => recur_year.f k a0
theorem recur_year.isF (a0 : Int) : IsLim (fun k => recur_year.f k a0) (recur_year.F a0) := ⟨fun k => recur_year.mono a0 k, rfl⟩
theorem recur_year.F_eq (a0 : Int) : recur_year.F a0 = (clock_Split.f a0).bind fun bt116 => ((civil_Date.F bt116.1).bind fun bt118 => (if bt118.2.2.2 = 0 then (if bt118.1 ≥ 1 then (some (decide (bt118.1 ≤ 9999))) else (some false)) else (some false))) := by
  apply IsLim.via
  case hf =>
    repeat'
      try intro _
      first
      | (with_reducible exact civil_Date.isF _)
      | (with_reducible apply IsLim.ite)
      | (with_reducible apply IsLim.bind)
      | (apply IsLim.cst; intro _; exact rfl)
  case h => exact fun _ => rfl
end Go.Proofs.YtjanombhdnoemaaGreatDoor.PRec

/- Functions of the family Rec without a bound on their rounds, and the equation that each meets. No condition. -/
/- Functions of the family Rec without a bound on their rounds, and the equation that each meets. No condition. -/
namespace Go.Proofs.YtjanombhdnoemaaGreatDoor.PRec
open Go.RowKit Go.Proofs.YtjanombhdnoemaaGreatDoorW.PrintWords Go.Proofs.YtjanombhdnoemaaGreatDoorW.PrintLast Go.Proofs.YtjanombhdnoemaaGreatDoorW.PrintMore Go.Proofs.YtjanombhdnoemaaGreatDoor.Base
set_option linter.unusedVariables false
noncomputable def value_Time.J0 (x1 : Bool) (x7 : Int) (x32 : Bool) (x141000 : Int) (x141001 : Int) (x141002 : Int) : Option (ByteArray × Int) := lim fun k => value_Time.j0 k x1 x7 x32 x141000 x141001 x141002
noncomputable def value_Time.F (a0 : Int) (a1 : Bool) : Option (ByteArray × Int) := lim fun k => value_Time.f k a0 a1
theorem value_Time.isJ0 (x1 : Bool) (x7 : Int) (x32 : Bool) (x141000 : Int) (x141001 : Int) (x141002 : Int) : IsLim (fun k => value_Time.j0 k x1 x7 x32 x141000 x141001 x141002) (value_Time.J0 x1 x7 x32 x141000 x141001 x141002) := ⟨fun k => (value_Time.mono_l k) x1 x7 x32 x141000 x141001 x141002, rfl⟩
theorem value_Time.isF (a0 : Int) (a1 : Bool) : IsLim (fun k => value_Time.f k a0 a1) (value_Time.F a0 a1) := ⟨fun k => value_Time.mono a0 a1 k, rfl⟩
theorem value_Time.J0_eq (x1 : Bool) (x7 : Int) (x32 : Bool) (x141000 : Int) (x141001 : Int) (x141002 : Int) : value_Time.J0 x1 x7 x32 x141000 x141001 x141002 = if x32 = true then (some ((⟨#[]⟩ : ByteArray), 23)) else ((num_Text.f x141000 4).bind fun t141 => ((num_Text.f x141001 2).bind fun t142 => (if t141.size + t142.size ≤ 9223372036854775807 then ((num_Text.f x141002 2).bind fun t143 => (if (t141 ++ t142).size + t143.size ≤ 9223372036854775807 then (if ((t141 ++ t142) ++ t143).size + 1 ≤ 9223372036854775807 then ((num_Text.f (wrap64 (Int.tdiv x7 3600)) 2).bind fun t144 => (if (((t141 ++ t142) ++ t143) ++ (⟨#[84]⟩ : ByteArray)).size + t144.size ≤ 9223372036854775807 then ((num_Text.f (wrap64 (Int.tdiv (Int.tmod x7 3600) 60)) 2).bind fun t145 => (if ((((t141 ++ t142) ++ t143) ++ (⟨#[84]⟩ : ByteArray)) ++ t144).size + t145.size ≤ 9223372036854775807 then ((num_Text.f (Int.tmod x7 60) 2).bind fun t146 => (if (((((t141 ++ t142) ++ t143) ++ (⟨#[84]⟩ : ByteArray)) ++ t144) ++ t145).size + t146.size ≤ 9223372036854775807 then (if x1 = true then (if ((((((t141 ++ t142) ++ t143) ++ (⟨#[84]⟩ : ByteArray)) ++ t144) ++ t145) ++ t146).size + 1 ≤ 9223372036854775807 then (some (((((((t141 ++ t142) ++ t143) ++ (⟨#[84]⟩ : ByteArray)) ++ t144) ++ t145) ++ t146) ++ (⟨#[90]⟩ : ByteArray), 0)) else (none)) else (some ((((((t141 ++ t142) ++ t143) ++ (⟨#[84]⟩ : ByteArray)) ++ t144) ++ t145) ++ t146, 0))) else (none))) else (none))) else (none))) else (none)) else (none))) else (none)))) := by
  apply IsLim.step (value_Time.isJ0 x1 x7 x32 x141000 x141001 x141002).mono
  case hf =>
    repeat'
      try intro _
      first
      | (with_reducible apply IsLim.ite)
      | (with_reducible apply IsLim.bind)
      | (apply IsLim.cst; intro _; exact rfl)
  case h => intro k; rw [value_Time.j0]
theorem value_Time.F_eq (a0 : Int) (a1 : Bool) : value_Time.F a0 a1 = (clock_Split.f a0).bind fun bt134 => ((civil_Date.F bt134.1).bind fun bt136 => (if bt136.2.2.2 = 0 then (if bt136.1 < 1 then (value_Time.J0 a1 bt134.2 true bt136.1 bt136.2.1 bt136.2.2.1) else (value_Time.J0 a1 bt134.2 (decide (bt136.1 > 9999)) bt136.1 bt136.2.1 bt136.2.2.1)) else (value_Time.J0 a1 bt134.2 true bt136.1 bt136.2.1 bt136.2.2.1))) := by
  apply IsLim.via
  case hf =>
    repeat'
      try intro _
      first
      | (with_reducible exact civil_Date.isF _)
      | (with_reducible exact value_Time.isJ0 _ _ _ _ _ _)
      | (with_reducible apply IsLim.ite)
      | (with_reducible apply IsLim.bind)
      | (apply IsLim.cst; intro _; exact rfl)
  case h => exact fun _ => rfl
end Go.Proofs.YtjanombhdnoemaaGreatDoor.PRec

/- Functions of the family Rec without a bound on their rounds, and the equation that each meets. No condition. -/
namespace Go.Proofs.YtjanombhdnoemaaGreatDoor.PRec
open Go.RowKit Go.Proofs.YtjanombhdnoemaaGreatDoorW.PrintWords Go.Proofs.YtjanombhdnoemaaGreatDoorW.PrintLast Go.Proofs.YtjanombhdnoemaaGreatDoorW.PrintMore Go.Proofs.YtjanombhdnoemaaGreatDoor.Base
set_option linter.unusedVariables false
noncomputable def line_Alike.L0 (x0 : ByteArray) (x1 : ByteArray) (x12 : Int) (x13 : Int) : Option (Bool) := lim fun k => line_Alike.l0 k x0 x1 x12 x13
noncomputable def line_Alike.F (a0 : ByteArray) (a1 : ByteArray) : Option (Bool) := lim fun k => line_Alike.f k a0 a1
theorem line_Alike.isL0 (x0 : ByteArray) (x1 : ByteArray) (x12 : Int) (x13 : Int) : IsLim (fun k => line_Alike.l0 k x0 x1 x12 x13) (line_Alike.L0 x0 x1 x12 x13) := ⟨fun k => (line_Alike.mono_l k) x0 x1 x12 x13, rfl⟩
theorem line_Alike.isF (a0 : ByteArray) (a1 : ByteArray) : IsLim (fun k => line_Alike.f k a0 a1) (line_Alike.F a0 a1) := ⟨fun k => line_Alike.mono a0 a1 k, rfl⟩
theorem line_Alike.L0_eq (x0 : ByteArray) (x1 : ByteArray) (x12 : Int) (x13 : Int) : line_Alike.L0 x0 x1 x12 x13 = if x13 < x12 then (if 0 ≤ x13 then (if x13 < (x0.size : Int) then ((line_small.f (bt x0 x13)).bind fun t153 => (if x13 < (x1.size : Int) then ((line_small.f (bt x1 x13)).bind fun t154 => (if t153 = t154 then (line_Alike.L0 x0 x1 x12 (wrap64 (x13 + 1))) else (some false))) else (none))) else (none)) else (none)) else (some true) := by
  apply IsLim.step (line_Alike.isL0 x0 x1 x12 x13).mono
  case hf =>
    repeat'
      try intro _
      first
      | (with_reducible exact line_Alike.isL0 _ _ _ _)
      | (with_reducible apply IsLim.ite)
      | (with_reducible apply IsLim.bind)
      | (apply IsLim.cst; intro _; exact rfl)
  case h => intro k; rw [line_Alike.l0]
theorem line_Alike.F_eq (a0 : ByteArray) (a1 : ByteArray) : line_Alike.F a0 a1 = if (a0.size : Int) = (a1.size : Int) then (line_Alike.L0 a0 a1 (a0.size : Int) 0) else (some false) := by
  apply IsLim.via
  case hf =>
    repeat'
      try intro _
      first
      | (with_reducible exact line_Alike.isL0 _ _ _ _)
      | (with_reducible apply IsLim.ite)
      | (with_reducible apply IsLim.bind)
      | (apply IsLim.cst; intro _; exact rfl)
  case h => exact fun _ => rfl
noncomputable def num_Parse.J0 (x0 : ByteArray) (x13 : Bool) : Option (Int × Bool) := lim fun k => num_Parse.j0 k x0 x13
noncomputable def num_Parse.L0 (x0 : ByteArray) (x4 : Int) (x15 : Int) (x16 : Int) : Option (Int × Bool) := lim fun k => num_Parse.l0 k x0 x4 x15 x16
noncomputable def num_Parse.F (a0 : ByteArray) : Option (Int × Bool) := lim fun k => num_Parse.f k a0
theorem num_Parse.isJ0 (x0 : ByteArray) (x13 : Bool) : IsLim (fun k => num_Parse.j0 k x0 x13) (num_Parse.J0 x0 x13) := ⟨fun k => (num_Parse.mono_l k).1 x0 x13, rfl⟩
theorem num_Parse.isL0 (x0 : ByteArray) (x4 : Int) (x15 : Int) (x16 : Int) : IsLim (fun k => num_Parse.l0 k x0 x4 x15 x16) (num_Parse.L0 x0 x4 x15 x16) := ⟨fun k => (num_Parse.mono_l k).2 x0 x4 x15 x16, rfl⟩
theorem num_Parse.isF (a0 : ByteArray) : IsLim (fun k => num_Parse.f k a0) (num_Parse.F a0) := ⟨fun k => num_Parse.mono a0 k, rfl⟩
theorem num_Parse.J0_eq (x0 : ByteArray) (x13 : Bool) : num_Parse.J0 x0 x13 = if x13 = true then (some (0, false)) else (num_Parse.L0 x0 0 (x0.size : Int) 0) := by
  apply IsLim.step (num_Parse.isJ0 x0 x13).mono
  case hf =>
    repeat'
      try intro _
      first
      | (with_reducible exact num_Parse.isL0 _ _ _ _)
      | (with_reducible apply IsLim.ite)
      | (with_reducible apply IsLim.bind)
      | (apply IsLim.cst; intro _; exact rfl)
  case h => intro k; rw [num_Parse.j0]
theorem num_Parse.L0_eq (x0 : ByteArray) (x4 : Int) (x15 : Int) (x16 : Int) : num_Parse.L0 x0 x4 x15 x16 = if x16 < x15 then (if 0 ≤ x16 then (if x16 < (x0.size : Int) then (if (bt x0 x16) < 48 then (some (0, false)) else (if (bt x0 x16) > 57 then (some (0, false)) else (num_Parse.L0 x0 (wrap64 ((wrap64 (10 * x4)) + (((bt x0 x16) - 48) % 256))) x15 (wrap64 (x16 + 1))))) else (none)) else (none)) else (some (x4, true)) := by
  apply IsLim.step (num_Parse.isL0 x0 x4 x15 x16).mono
  case hf =>
    repeat'
      try intro _
      first
      | (with_reducible exact num_Parse.isL0 _ _ _ _)
      | (with_reducible apply IsLim.ite)
      | (with_reducible apply IsLim.bind)
      | (apply IsLim.cst; intro _; exact rfl)
  case h => intro k; rw [num_Parse.l0]
theorem num_Parse.F_eq (a0 : ByteArray) : num_Parse.F a0 = if (a0.size : Int) < 1 then (num_Parse.J0 a0 true) else (num_Parse.J0 a0 (decide ((a0.size : Int) > 18))) := by
  apply IsLim.via
  case hf =>
    repeat'
      try intro _
      first
      | (with_reducible exact num_Parse.isJ0 _ _)
      | (with_reducible apply IsLim.ite)
      | (with_reducible apply IsLim.bind)
      | (apply IsLim.cst; intro _; exact rfl)
  case h => exact fun _ => rfl
noncomputable def recur_number.J0 (x0 : ByteArray) (x6 : Bool) (x23 : Bool) : Option (Int × Bool) := lim fun k => recur_number.j0 k x0 x6 x23
noncomputable def recur_number.F (a0 : ByteArray) (a1 : Bool) : Option (Int × Bool) := lim fun k => recur_number.f k a0 a1
theorem recur_number.isJ0 (x0 : ByteArray) (x6 : Bool) (x23 : Bool) : IsLim (fun k => recur_number.j0 k x0 x6 x23) (recur_number.J0 x0 x6 x23) := ⟨fun k => (recur_number.mono_l k) x0 x6 x23, rfl⟩
theorem recur_number.isF (a0 : ByteArray) (a1 : Bool) : IsLim (fun k => recur_number.f k a0 a1) (recur_number.F a0 a1) := ⟨fun k => recur_number.mono a0 a1 k, rfl⟩
theorem recur_number.J0_eq (x0 : ByteArray) (x6 : Bool) (x23 : Bool) : recur_number.J0 x0 x6 x23 = if x23 = true then (if 0 < (x0.size : Int) then (if 1 ≤ (x0.size : Int) then ((num_Parse.F (x0.extract 1 x0.size)).bind fun bt155 => (if (bt x0 0) = 45 then (if bt155.2 = true then (some (wrap64 (-bt155.1), decide (((x0.extract 1 x0.size).size : Int) ≤ 6))) else (some (wrap64 (-bt155.1), false))) else (if bt155.2 = true then (some (bt155.1, decide (((x0.extract 1 x0.size).size : Int) ≤ 6))) else (some (bt155.1, false))))) else (none)) else (none)) else ((num_Parse.F x0).bind fun bt157 => (if x6 = true then (if bt157.2 = true then (some (wrap64 (-bt157.1), decide ((x0.size : Int) ≤ 6))) else (some (wrap64 (-bt157.1), false))) else (if bt157.2 = true then (some (bt157.1, decide ((x0.size : Int) ≤ 6))) else (some (bt157.1, false))))) := by
  apply IsLim.step (recur_number.isJ0 x0 x6 x23).mono
  case hf =>
    repeat'
      try intro _
      first
      | (with_reducible exact num_Parse.isF _)
      | (with_reducible apply IsLim.ite)
      | (with_reducible apply IsLim.bind)
      | (apply IsLim.cst; intro _; exact rfl)
  case h => intro k; rw [recur_number.j0]
theorem recur_number.F_eq (a0 : ByteArray) (a1 : Bool) : recur_number.F a0 a1 = if a1 = true then (if a0.toList = ([] : List UInt8) then (recur_number.J0 a0 false false) else (if 0 < (a0.size : Int) then (if (bt a0 0) = 43 then (recur_number.J0 a0 false true) else (recur_number.J0 a0 false ((bt a0 0) == 45))) else (none))) else (recur_number.J0 a0 false false) := by
  apply IsLim.via
  case hf =>
    repeat'
      try intro _
      first
      | (with_reducible exact recur_number.isJ0 _ _ _)
      | (with_reducible apply IsLim.ite)
      | (with_reducible apply IsLim.bind)
      | (apply IsLim.cst; intro _; exact rfl)
  case h => exact fun _ => rfl
end Go.Proofs.YtjanombhdnoemaaGreatDoor.PRec

namespace Go.Proofs.YtjanombhdnoemaaGreatDoor.PRec
open Go.RowKit Go.Proofs.YtjanombhdnoemaaGreatDoorW.PrintWords Go.Proofs.YtjanombhdnoemaaGreatDoorW.PrintLast Go.Proofs.YtjanombhdnoemaaGreatDoorW.PrintMore Go.Proofs.YtjanombhdnoemaaGreatDoor.Base
set_option linter.unusedVariables false
noncomputable def recur_numbers.L0 (x1 : Bool) (x6 : List Int) (x12 : List ByteArray) (x13 : Int) (x14 : Int) : Option (List Int × Bool) := lim fun k => recur_numbers.l0 k x1 x6 x12 x13 x14
noncomputable def recur_numbers.F (a0 : ByteArray) (a1 : Bool) : Option (List Int × Bool) := lim fun k => recur_numbers.f k a0 a1
theorem recur_numbers.isL0 (x1 : Bool) (x6 : List Int) (x12 : List ByteArray) (x13 : Int) (x14 : Int) : IsLim (fun k => recur_numbers.l0 k x1 x6 x12 x13 x14) (recur_numbers.L0 x1 x6 x12 x13 x14) := ⟨fun k => (recur_numbers.mono_l k) x1 x6 x12 x13 x14, rfl⟩
theorem recur_numbers.isF (a0 : ByteArray) (a1 : Bool) : IsLim (fun k => recur_numbers.f k a0 a1) (recur_numbers.F a0 a1) := ⟨fun k => recur_numbers.mono a0 a1 k, rfl⟩
theorem recur_numbers.L0_eq (x1 : Bool) (x6 : List Int) (x12 : List ByteArray) (x13 : Int) (x14 : Int) : recur_numbers.L0 x1 x6 x12 x13 x14 = if x14 < x13 then (if 0 ≤ x14 then (if x14 < (x12.length : Int) then ((recur_number.F (rdOf ByteArray.empty x12 x14) x1).bind fun bt163 => (if bt163.2 = true then (if x6.length < 17592186044416 then (recur_numbers.L0 x1 (x6 ++ [bt163.1]) x12 x13 (wrap64 (x14 + 1))) else (none)) else (some (([] : List Int), false)))) else (none)) else (none)) else (some (x6, true)) := by
  apply IsLim.step (recur_numbers.isL0 x1 x6 x12 x13 x14).mono
  case hf =>
    repeat'
      try intro _
      first
      | (with_reducible exact recur_number.isF _ _)
      | (with_reducible exact recur_numbers.isL0 _ _ _ _ _)
      | (with_reducible apply IsLim.ite)
      | (with_reducible apply IsLim.bind)
      | (apply IsLim.cst; intro _; exact rfl)
  case h => intro k; rw [recur_numbers.l0]
theorem recur_numbers.F_eq (a0 : ByteArray) (a1 : Bool) : recur_numbers.F a0 a1 = (strings_Split.f a0 (⟨#[44]⟩ : ByteArray)).bind fun t159 => (recur_numbers.L0 a1 ([] : List Int) t159 (t159.length : Int) 0) := by
  apply IsLim.via
  case hf =>
    repeat'
      try intro _
      first
      | (with_reducible exact recur_numbers.isL0 _ _ _ _ _)
      | (with_reducible apply IsLim.ite)
      | (with_reducible apply IsLim.bind)
      | (apply IsLim.cst; intro _; exact rfl)
  case h => exact fun _ => rfl
noncomputable def value_numbers.L0 (x0 : ByteArray) (x6 : List Int) (x11 : List Int) (x12 : Int) (x13 : Int) : Option (List Int × Bool) := lim fun k => value_numbers.l0 k x0 x6 x11 x12 x13
noncomputable def value_numbers.F (a0 : ByteArray) (l1 : List Int) : Option (List Int × Bool) := lim fun k => value_numbers.f k a0 l1
theorem value_numbers.isL0 (x0 : ByteArray) (x6 : List Int) (x11 : List Int) (x12 : Int) (x13 : Int) : IsLim (fun k => value_numbers.l0 k x0 x6 x11 x12 x13) (value_numbers.L0 x0 x6 x11 x12 x13) := ⟨fun k => (value_numbers.mono_l k) x0 x6 x11 x12 x13, rfl⟩
theorem value_numbers.isF (a0 : ByteArray) (l1 : List Int) : IsLim (fun k => value_numbers.f k a0 l1) (value_numbers.F a0 l1) := ⟨fun k => value_numbers.mono a0 l1 k, rfl⟩
theorem value_numbers.L0_eq (x0 : ByteArray) (x6 : List Int) (x11 : List Int) (x12 : Int) (x13 : Int) : value_numbers.L0 x0 x6 x11 x12 x13 = if x13 < x12 then (if 0 ≤ x13 then (if x13 < (x11.length : Int) then (if (x0.size : Int) < (rd x11 x13) then (some (([] : List Int), false)) else (if 0 ≤ (rd x11 x13) then (if (rd x11 x13) ≤ (x0.size : Int) then ((num_Parse.F (x0.extract 0 ((rd x11 x13) : Int).toNat)).bind fun bt172 => (if bt172.2 = true then (if x6.length < 17592186044416 then (value_numbers.L0 (x0.extract ((rd x11 x13) : Int).toNat x0.size) (x6 ++ [bt172.1]) x11 x12 (wrap64 (x13 + 1))) else (none)) else (some (([] : List Int), false)))) else (none)) else (none))) else (none)) else (none)) else (some (x6, (x0.toList == ([] : List UInt8)))) := by
  apply IsLim.step (value_numbers.isL0 x0 x6 x11 x12 x13).mono
  case hf =>
    repeat'
      try intro _
      first
      | (with_reducible exact num_Parse.isF _)
      | (with_reducible exact value_numbers.isL0 _ _ _ _ _)
      | (with_reducible apply IsLim.ite)
      | (with_reducible apply IsLim.bind)
      | (apply IsLim.cst; intro _; exact rfl)
  case h => intro k; rw [value_numbers.l0]
theorem value_numbers.F_eq (a0 : ByteArray) (l1 : List Int) : value_numbers.F a0 l1 = value_numbers.L0 a0 ([] : List Int) l1 (l1.length : Int) 0 := by
  apply IsLim.via
  case hf =>
    repeat'
      try intro _
      first
      | (with_reducible exact value_numbers.isL0 _ _ _ _ _)
      | (with_reducible apply IsLim.ite)
      | (with_reducible apply IsLim.bind)
      | (apply IsLim.cst; intro _; exact rfl)
  case h => exact fun _ => rfl
end Go.Proofs.YtjanombhdnoemaaGreatDoor.PRec

/- Functions of the family Rec without a bound on their rounds, and the equation that each meets. No condition. -/
namespace Go.Proofs.YtjanombhdnoemaaGreatDoor.PRec
open Go.RowKit Go.Proofs.YtjanombhdnoemaaGreatDoorW.PrintWords Go.Proofs.YtjanombhdnoemaaGreatDoorW.PrintLast Go.Proofs.YtjanombhdnoemaaGreatDoorW.PrintMore Go.Proofs.YtjanombhdnoemaaGreatDoor.Base
set_option linter.unusedVariables false
noncomputable def civil_right.F (a0_0 : Int) (a0_1 : Int) (a0_2 : Int) : Option (Bool) := lim fun k => civil_right.f k a0_0 a0_1 a0_2
theorem civil_right.isF (a0_0 : Int) (a0_1 : Int) (a0_2 : Int) : IsLim (fun k => civil_right.f k a0_0 a0_1 a0_2) (civil_right.F a0_0 a0_1 a0_2) := ⟨fun k => civil_right.mono a0_0 a0_1 a0_2 k, rfl⟩
theorem civil_right.F_eq (a0_0 : Int) (a0_1 : Int) (a0_2 : Int) : civil_right.F a0_0 a0_1 a0_2 = if a0_0 ≥ 0 then (if a0_0 ≤ 10000 then (if a0_2 ≥ 1 then ((civil_Len.F a0_0 a0_1).bind fun t178 => (some (decide (a0_2 ≤ t178)))) else (some false)) else (some false)) else (some false) := by
  apply IsLim.via
  case hf =>
    repeat'
      try intro _
      first
      | (with_reducible exact civil_Len.isF _ _)
      | (with_reducible apply IsLim.ite)
      | (with_reducible apply IsLim.bind)
      | (apply IsLim.cst; intro _; exact rfl)
  case h => exact fun _ => rfl
end Go.Proofs.YtjanombhdnoemaaGreatDoor.PRec

namespace Go.Proofs.YtjanombhdnoemaaGreatDoor.PRec
open Go.RowKit Go.Proofs.YtjanombhdnoemaaGreatDoorW.PrintWords Go.Proofs.YtjanombhdnoemaaGreatDoorW.PrintLast Go.Proofs.YtjanombhdnoemaaGreatDoorW.PrintMore Go.Proofs.YtjanombhdnoemaaGreatDoor.Base
set_option linter.unusedVariables false
noncomputable def civil_Number.L0 (x4 : Int) (x5 : Int) (x180000 : Int) (x180001 : Int) (x180002 : Int) : Option (Int × Int) := lim fun k => civil_Number.l0 k x4 x5 x180000 x180001 x180002
noncomputable def civil_Number.F (a0_0 : Int) (a0_1 : Int) (a0_2 : Int) : Option (Int × Int) := lim fun k => civil_Number.f k a0_0 a0_1 a0_2
theorem civil_Number.isL0 (x4 : Int) (x5 : Int) (x180000 : Int) (x180001 : Int) (x180002 : Int) : IsLim (fun k => civil_Number.l0 k x4 x5 x180000 x180001 x180002) (civil_Number.L0 x4 x5 x180000 x180001 x180002) := ⟨fun k => (civil_Number.mono_l k) x4 x5 x180000 x180001 x180002, rfl⟩
theorem civil_Number.isF (a0_0 : Int) (a0_1 : Int) (a0_2 : Int) : IsLim (fun k => civil_Number.f k a0_0 a0_1 a0_2) (civil_Number.F a0_0 a0_1 a0_2) := ⟨fun k => civil_Number.mono a0_0 a0_1 a0_2 k, rfl⟩
theorem civil_Number.L0_eq (x4 : Int) (x5 : Int) (x180000 : Int) (x180001 : Int) (x180002 : Int) : civil_Number.L0 x4 x5 x180000 x180001 x180002 = if x5 < x180001 then ((civil_Len.F x180000 x5).bind fun t182 => (civil_Number.L0 (wrap64 (x4 + t182)) (wrap64 (x5 + 1)) x180000 x180001 x180002)) else (some (x4, 0)) := by
  apply IsLim.step (civil_Number.isL0 x4 x5 x180000 x180001 x180002).mono
  case hf =>
    repeat'
      try intro _
      first
      | (with_reducible exact civil_Len.isF _ _)
      | (with_reducible exact civil_Number.isL0 _ _ _ _ _)
      | (with_reducible apply IsLim.ite)
      | (with_reducible apply IsLim.bind)
      | (apply IsLim.cst; intro _; exact rfl)
  case h => intro k; rw [civil_Number.l0]
theorem civil_Number.F_eq (a0_0 : Int) (a0_1 : Int) (a0_2 : Int) : civil_Number.F a0_0 a0_1 a0_2 = (civil_right.F a0_0 a0_1 a0_2).bind fun t180 => (if t180 = true then ((civil_ahead.f a0_0).bind fun t181 => (civil_Number.L0 (wrap64 ((wrap64 ((wrap64 (t181 - 719528)) + a0_2)) - 1)) 1 a0_0 a0_1 a0_2)) else (some (0, 4))) := by
  apply IsLim.via
  case hf =>
    repeat'
      try intro _
      first
      | (with_reducible exact civil_Number.isL0 _ _ _ _ _)
      | (with_reducible exact civil_right.isF _ _ _)
      | (with_reducible apply IsLim.ite)
      | (with_reducible apply IsLim.bind)
      | (apply IsLim.cst; intro _; exact rfl)
  case h => exact fun _ => rfl
end Go.Proofs.YtjanombhdnoemaaGreatDoor.PRec

/- Functions of the family Rec without a bound on their rounds, and the equation that each meets. No condition. -/
namespace Go.Proofs.YtjanombhdnoemaaGreatDoor.PRec
open Go.RowKit Go.Proofs.YtjanombhdnoemaaGreatDoorW.PrintWords Go.Proofs.YtjanombhdnoemaaGreatDoorW.PrintLast Go.Proofs.YtjanombhdnoemaaGreatDoorW.PrintMore Go.Proofs.YtjanombhdnoemaaGreatDoor.Base
set_option linter.unusedVariables false
noncomputable def value_ParseTime.J0 (x0 : ByteArray) (x3 : Bool) (x20 : Bool) : Option (Int × Bool × Int) := lim fun k => value_ParseTime.j0 k x0 x3 x20
noncomputable def value_ParseTime.J1 (x3 : Bool) (x5 : List Int) (x56 : Bool) : Option (Int × Bool × Int) := lim fun k => value_ParseTime.j1 k x3 x5 x56
noncomputable def value_ParseTime.F (a0 : ByteArray) : Option (Int × Bool × Int) := lim fun k => value_ParseTime.f k a0
theorem value_ParseTime.isJ0 (x0 : ByteArray) (x3 : Bool) (x20 : Bool) : IsLim (fun k => value_ParseTime.j0 k x0 x3 x20) (value_ParseTime.J0 x0 x3 x20) := ⟨fun k => (value_ParseTime.mono_l k).1 x0 x3 x20, rfl⟩
theorem value_ParseTime.isJ1 (x3 : Bool) (x5 : List Int) (x56 : Bool) : IsLim (fun k => value_ParseTime.j1 k x3 x5 x56) (value_ParseTime.J1 x3 x5 x56) := ⟨fun k => (value_ParseTime.mono_l k).2 x3 x5 x56, rfl⟩
theorem value_ParseTime.isF (a0 : ByteArray) : IsLim (fun k => value_ParseTime.f k a0) (value_ParseTime.F a0) := ⟨fun k => value_ParseTime.mono a0 k, rfl⟩
theorem value_ParseTime.J0_eq (x0 : ByteArray) (x3 : Bool) (x20 : Bool) : value_ParseTime.J0 x0 x3 x20 = if x20 = true then (some (0, false, 19)) else (if 0 ≤ 8 then (if 8 ≤ (x0.size : Int) then (if 9 ≤ (x0.size : Int) then (if (x0.extract 0 8).size + (x0.extract 9 x0.size).size ≤ 9223372036854775807 then ((value_numbers.F ((x0.extract 0 8) ++ (x0.extract 9 x0.size)) (([4, 2, 2, 2, 2, 2] : List Int))).bind fun bt188 => (if bt188.2 = true then (if 0 < (bt188.1.length : Int) then (if (rd bt188.1 0) < 1 then (value_ParseTime.J1 x3 bt188.1 true) else (if 3 < (bt188.1.length : Int) then (if (rd bt188.1 3) ≥ 24 then (value_ParseTime.J1 x3 bt188.1 true) else (if 4 < (bt188.1.length : Int) then (if (rd bt188.1 4) ≥ 60 then (value_ParseTime.J1 x3 bt188.1 true) else (if 5 < (bt188.1.length : Int) then (value_ParseTime.J1 x3 bt188.1 (decide ((rd bt188.1 5) ≥ 60))) else (none))) else (none))) else (none))) else (none)) else (value_ParseTime.J1 x3 bt188.1 true))) else (none)) else (none)) else (none)) else (none)) := by
  apply IsLim.step (value_ParseTime.isJ0 x0 x3 x20).mono
  case hf =>
    repeat'
      try intro _
      first
      | (with_reducible exact value_ParseTime.isJ1 _ _ _)
      | (with_reducible exact value_numbers.isF _ _)
      | (with_reducible apply IsLim.ite)
      | (with_reducible apply IsLim.bind)
      | (apply IsLim.cst; intro _; exact rfl)
  case h => intro k; rw [value_ParseTime.j0]
theorem value_ParseTime.J1_eq (x3 : Bool) (x5 : List Int) (x56 : Bool) : value_ParseTime.J1 x3 x5 x56 = if x56 = true then (some (0, false, 19)) else (if 0 < (x5.length : Int) then (if 1 < (x5.length : Int) then (if 2 < (x5.length : Int) then ((civil_Number.F (rd x5 0) (rd x5 1) (rd x5 2)).bind fun bt199 => (if bt199.2 = 0 then (if 3 < (x5.length : Int) then (if 4 < (x5.length : Int) then (if 5 < (x5.length : Int) then (some (wrap64 ((wrap64 ((wrap64 ((wrap64 (bt199.1 * 86400)) + (wrap64 ((rd x5 3) * 3600)))) + (wrap64 ((rd x5 4) * 60)))) + (rd x5 5)), x3, 0)) else (none)) else (none)) else (none)) else (some (0, false, 19)))) else (none)) else (none)) else (none)) := by
  apply IsLim.step (value_ParseTime.isJ1 x3 x5 x56).mono
  case hf =>
    repeat'
      try intro _
      first
      | (with_reducible exact civil_Number.isF _ _ _)
      | (with_reducible apply IsLim.ite)
      | (with_reducible apply IsLim.bind)
      | (apply IsLim.cst; intro _; exact rfl)
  case h => intro k; rw [value_ParseTime.j1]
theorem value_ParseTime.F_eq (a0 : ByteArray) : value_ParseTime.F a0 = (strings_CutSuffix.f a0 (⟨#[90]⟩ : ByteArray)).bind fun bt183 => (if (bt183.1.size : Int) = 15 then (if 8 < (bt183.1.size : Int) then (value_ParseTime.J0 bt183.1 bt183.2 ((bt bt183.1 8) != 84)) else (none)) else (value_ParseTime.J0 bt183.1 bt183.2 true)) := by
  apply IsLim.via
  case hf =>
    repeat'
      try intro _
      first
      | (with_reducible exact value_ParseTime.isJ0 _ _ _)
      | (with_reducible apply IsLim.ite)
      | (with_reducible apply IsLim.bind)
      | (apply IsLim.cst; intro _; exact rfl)
  case h => exact fun _ => rfl
end Go.Proofs.YtjanombhdnoemaaGreatDoor.PRec

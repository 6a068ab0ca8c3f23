/- Functions of the family Rec without a bound on their rounds, and the equation that each meets. No condition. -/
import Derived.Test.YtjanombhdnoemaaGreatDoorBase
import Derived.Test.YtjanombhdnoemaaGreatDoorRecB
import Derived.Test.YtjanombhdnoemaaGreatDoorERecx11
import Derived.Test.YtjanombhdnoemaaGreatDoorRecV
import Derived.Test.YtjanombhdnoemaaGreatDoorPRecx12
/- Functions of the family Rec without a bound on their rounds, and the equation that each meets. No condition. -/
/- Functions of the family Rec without a bound on their rounds, and the equation that each meets. No condition. -/
namespace Go.Proofs.YtjanombhdnoemaaGreatDoor.PRec
open Go.RowKit Go.Proofs.YtjanombhdnoemaaGreatDoorW.PrintWords Go.Proofs.YtjanombhdnoemaaGreatDoorW.PrintLast Go.Proofs.YtjanombhdnoemaaGreatDoorW.PrintMore Go.Proofs.YtjanombhdnoemaaGreatDoor.Base
set_option linter.unusedVariables false
noncomputable def recur_widx.L0 (x0 : List ByteArray) (x1 : ByteArray) (x2 : Int) : Option (Int) := lim fun k => recur_widx.l0 k x0 x1 x2
theorem recur_widx.isL0 (x0 : List ByteArray) (x1 : ByteArray) (x2 : Int) : IsLim (fun k => recur_widx.l0 k x0 x1 x2) (recur_widx.L0 x0 x1 x2) := ⟨fun k => (recur_widx.mono_l k) x0 x1 x2, rfl⟩
theorem recur_widx.L0_eq (x0 : List ByteArray) (x1 : ByteArray) (x2 : Int) : recur_widx.L0 x0 x1 x2 = if x2 < (x0.length : Int) then (if 0 ≤ x2 then ((line_Alike.F (rdOf ByteArray.empty x0 x2) x1).bind fun t1 => (if t1 = true then (some x2) else (recur_widx.L0 x0 x1 (wrap64 (x2 + 1))))) else (none)) else (some (-1)) := by
  apply IsLim.step (recur_widx.isL0 x0 x1 x2).mono
  case hf =>
    repeat'
      try intro _
      first
      | (with_reducible exact line_Alike.isF _ _)
      | (with_reducible exact recur_widx.isL0 _ _ _)
      | (with_reducible apply IsLim.ite)
      | (with_reducible apply IsLim.bind)
      | (apply IsLim.cst; intro _; exact rfl)
  case h => intro k; rw [recur_widx.l0]
noncomputable def recur_word.F (l0 : List ByteArray) (a1 : ByteArray) : Option (Int × Bool) := lim fun k => recur_word.f k l0 a1
theorem recur_word.isF (l0 : List ByteArray) (a1 : ByteArray) : IsLim (fun k => recur_word.f k l0 a1) (recur_word.F l0 a1) := ⟨fun k => recur_word.mono l0 a1 k, rfl⟩
theorem recur_word.F_eq (l0 : List ByteArray) (a1 : ByteArray) : recur_word.F l0 a1 = (recur_widx.L0 l0 a1 0).bind fun t2 => (some (mx t2 0, decide (t2 ≥ 0))) := by
  apply IsLim.via
  case hf =>
    repeat'
      try intro _
      first
      | (with_reducible exact recur_widx.isL0 _ _ _)
      | (with_reducible apply IsLim.ite)
      | (with_reducible apply IsLim.bind)
      | (apply IsLim.cst; intro _; exact rfl)
  case h => exact fun _ => rfl
end Go.Proofs.YtjanombhdnoemaaGreatDoor.PRec

namespace Go.Proofs.YtjanombhdnoemaaGreatDoor.PRec
open Go.RowKit Go.Proofs.YtjanombhdnoemaaGreatDoorW.PrintWords Go.Proofs.YtjanombhdnoemaaGreatDoorW.PrintLast Go.Proofs.YtjanombhdnoemaaGreatDoorW.PrintMore Go.Proofs.YtjanombhdnoemaaGreatDoor.Base
set_option linter.unusedVariables false
noncomputable def recur_byDay.F (a0 : ByteArray) : Option (Int × Int × Bool) := lim fun k => recur_byDay.f k a0
theorem recur_byDay.isF (a0 : ByteArray) : IsLim (fun k => recur_byDay.f k a0) (recur_byDay.F a0) := ⟨fun k => recur_byDay.mono a0 k, rfl⟩
theorem recur_byDay.F_eq (a0 : ByteArray) : recur_byDay.F a0 = if a0.size ≤ 9223372036854775807 then (recur_weekdays.f.bind fun wd => (recur_word.F wd (a0.extract (a0.size - 2) a0.size)).bind fun t => if a0.size - 2 = 0 then some (0, t.1, t.2) else if t.2 = true then ((recur_number.F (a0.extract 0 (a0.size - 2)) true).bind fun t2 => some (t2.1, t.1, if t2.2 = true then t2.1 != 0 else false)) else some (0, t.1, t.2)) else none := by
  apply IsLim.via
  case hf =>
    repeat'
      try intro _
      first
      | (with_reducible exact recur_number.isF _ _)
      | (with_reducible exact recur_word.isF _ _)
      | (with_reducible apply IsLim.ite)
      | (with_reducible apply IsLim.bind)
      | (apply IsLim.cst; intro _; exact rfl)
  case h => exact fun _ => rfl
end Go.Proofs.YtjanombhdnoemaaGreatDoor.PRec

namespace Go.Proofs.YtjanombhdnoemaaGreatDoor.PRec
open Go.RowKit Go.Proofs.YtjanombhdnoemaaGreatDoorW.PrintWords Go.Proofs.YtjanombhdnoemaaGreatDoorW.PrintLast Go.Proofs.YtjanombhdnoemaaGreatDoorW.PrintMore Go.Proofs.YtjanombhdnoemaaGreatDoor.Base
set_option linter.unusedVariables false
noncomputable def recur_byDays.L0 (x4 : List (S38)) (x10 : List ByteArray) (x11 : Int) (x12 : Int) : Option ((List (S38)) × Bool) := lim fun k => recur_byDays.l0 k x4 x10 x11 x12
noncomputable def recur_byDays.F (a0 : ByteArray) : Option ((List (S38)) × Bool) := lim fun k => recur_byDays.f k a0
theorem recur_byDays.isL0 (x4 : List (S38)) (x10 : List ByteArray) (x11 : Int) (x12 : Int) : IsLim (fun k => recur_byDays.l0 k x4 x10 x11 x12) (recur_byDays.L0 x4 x10 x11 x12) := ⟨fun k => (recur_byDays.mono_l k) x4 x10 x11 x12, rfl⟩
theorem recur_byDays.isF (a0 : ByteArray) : IsLim (fun k => recur_byDays.f k a0) (recur_byDays.F a0) := ⟨fun k => recur_byDays.mono a0 k, rfl⟩
theorem recur_byDays.L0_eq (x4 : List (S38)) (x10 : List ByteArray) (x11 : Int) (x12 : Int) : recur_byDays.L0 x4 x10 x11 x12 = if x12 < x11 then (if 0 ≤ x12 then (if x12 < (x10.length : Int) then ((recur_byDay.F (rdOf ByteArray.empty x10 x12)).bind fun bt208 => (if bt208.2.2 = true then (if x4.length < 8796093022208 then (recur_byDays.L0 (x4 ++ [(⟨bt208.1, bt208.2.1⟩ : S38)]) x10 x11 (wrap64 (x12 + 1))) else (none)) else (some (([] : List (S38)), false)))) else (none)) else (none)) else (some (x4, true)) := by
  apply IsLim.step (recur_byDays.isL0 x4 x10 x11 x12).mono
  case hf =>
    repeat'
      try intro _
      first
      | (with_reducible exact recur_byDay.isF _)
      | (with_reducible exact recur_byDays.isL0 _ _ _ _)
      | (with_reducible apply IsLim.ite)
      | (with_reducible apply IsLim.bind)
      | (apply IsLim.cst; intro _; exact rfl)
  case h => intro k; rw [recur_byDays.l0]
theorem recur_byDays.F_eq (a0 : ByteArray) : recur_byDays.F a0 = (strings_Split.f a0 (⟨#[44]⟩ : ByteArray)).bind fun t204 => (recur_byDays.L0 ([] : List (S38)) t204 (t204.length : Int) 0) := by
  apply IsLim.via
  case hf =>
    repeat'
      try intro _
      first
      | (with_reducible exact recur_byDays.isL0 _ _ _ _)
      | (with_reducible apply IsLim.ite)
      | (with_reducible apply IsLim.bind)
      | (apply IsLim.cst; intro _; exact rfl)
  case h => exact fun _ => rfl
noncomputable def solsticekeep_Ints.L0 (x0 : List Int) (x1 : List Int) (x5 : Int) : Option (Bool) := lim fun k => solsticekeep_Ints.l0 k x0 x1 x5
noncomputable def solsticekeep_Ints.F (l0 : List Int) (l1 : List Int) : Option (Bool) := lim fun k => solsticekeep_Ints.f k l0 l1
theorem solsticekeep_Ints.isL0 (x0 : List Int) (x1 : List Int) (x5 : Int) : IsLim (fun k => solsticekeep_Ints.l0 k x0 x1 x5) (solsticekeep_Ints.L0 x0 x1 x5) := ⟨fun k => (solsticekeep_Ints.mono_l k) x0 x1 x5, rfl⟩
theorem solsticekeep_Ints.L0_eq (x0 : List Int) (x1 : List Int) (x5 : Int) : solsticekeep_Ints.L0 x0 x1 x5 = if x5 < (x0.length : Int) then (if 0 ≤ x5 then (if x5 < (x1.length : Int) then (if (rd x0 x5) = (rd x1 x5) then (solsticekeep_Ints.L0 x0 x1 (wrap64 (x5 + 1))) else (some false)) else (none)) else (none)) else (some true) := by
  apply IsLim.step (solsticekeep_Ints.isL0 x0 x1 x5).mono
  case hf =>
    repeat'
      try intro _
      first
      | (with_reducible exact solsticekeep_Ints.isL0 _ _ _)
      | (with_reducible apply IsLim.ite)
      | (with_reducible apply IsLim.bind)
      | (apply IsLim.cst; intro _; exact rfl)
  case h => intro k; rw [solsticekeep_Ints.l0]
theorem solsticekeep_Ints.F_eq (l0 : List Int) (l1 : List Int) : solsticekeep_Ints.F l0 l1 = if (l0.length : Int) = (l1.length : Int) then (solsticekeep_Ints.L0 l0 l1 0) else (some false) := by
  apply IsLim.via
  case hf =>
    repeat'
      try intro _
      first
      | (with_reducible exact solsticekeep_Ints.isL0 _ _ _)
      | (with_reducible apply IsLim.ite)
      | (with_reducible apply IsLim.bind)
      | (apply IsLim.cst; intro _; exact rfl)
  case h => exact fun _ => rfl
end Go.Proofs.YtjanombhdnoemaaGreatDoor.PRec

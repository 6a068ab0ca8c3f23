/- Printed functions of the family Vex without a bound on their rounds, and the equation that each meets. No condition. -/
import Derived.Test.YtligbecmbefclaaDoorBase
import Derived.Test.YtligbecmbefclaaDoorPVexx13
import Derived.Test.YtligbecmbefclaaDoorEVexx11
namespace Go.Proofs.YtligbecmbefclaaDoor.PVex
open Go.RowKit Go.Proofs.YtligbecmbefclaaDoorW.PrintWords Go.Proofs.YtligbecmbefclaaDoorW.PrintLast Go.Proofs.YtligbecmbefclaaDoor.Base
set_option linter.unusedVariables false
noncomputable def solsticeref16_Times.L0 (x0 : ByteArray) (x5 : List Int) (x6 : Bool) (x7 : Int) (x8 : Int) : Option (List Int × Bool × Bool) := lim fun k => solsticeref16_Times.l0 k x0 x5 x6 x7 x8
noncomputable def solsticeref16_Times.J1 (x0 : ByteArray) (x5 : List Int) (x6 : Bool) (x7 : Int) (x8 : Int) (x27 : Bool) : Option (List Int × Bool × Bool) := lim fun k => solsticeref16_Times.j1 k x0 x5 x6 x7 x8 x27
noncomputable def solsticeref16_Times.F (a0 : ByteArray) : Option (List Int × Bool × Bool) := lim fun k => solsticeref16_Times.f k a0
theorem solsticeref16_Times.isL0 (x0 : ByteArray) (x5 : List Int) (x6 : Bool) (x7 : Int) (x8 : Int) : IsLim (fun k => solsticeref16_Times.l0 k x0 x5 x6 x7 x8) (solsticeref16_Times.L0 x0 x5 x6 x7 x8) := ⟨fun k => (solsticeref16_Times.mono_l k).1 x0 x5 x6 x7 x8, rfl⟩
theorem solsticeref16_Times.isJ1 (x0 : ByteArray) (x5 : List Int) (x6 : Bool) (x7 : Int) (x8 : Int) (x27 : Bool) : IsLim (fun k => solsticeref16_Times.j1 k x0 x5 x6 x7 x8 x27) (solsticeref16_Times.J1 x0 x5 x6 x7 x8 x27) := ⟨fun k => (solsticeref16_Times.mono_l k).2 x0 x5 x6 x7 x8 x27, rfl⟩
theorem solsticeref16_Times.isF (a0 : ByteArray) : IsLim (fun k => solsticeref16_Times.f k a0) (solsticeref16_Times.F a0) := ⟨fun k => solsticeref16_Times.mono a0 k, rfl⟩
theorem solsticeref16_Times.L0_eq (x0 : ByteArray) (x5 : List Int) (x6 : Bool) (x7 : Int) (x8 : Int) : solsticeref16_Times.L0 x0 x5 x6 x7 x8 = if x8 ≤ (x0.size : Int) then (if x8 < (x0.size : Int) then (if 0 ≤ x8 then (solsticeref16_Times.J1 x0 x5 x6 x7 x8 ((bt x0 x8) != 44)) else (none)) else (solsticeref16_Times.J1 x0 x5 x6 x7 x8 false)) else (some (x5, x6, true)) := by
  apply IsLim.step (solsticeref16_Times.isL0 x0 x5 x6 x7 x8).mono
  case hf =>
    repeat'
      try intro _
      first
      | (with_reducible exact solsticeref16_Times.isJ1 _ _ _ _ _ _)
      | (with_reducible apply IsLim.ite)
      | (with_reducible apply IsLim.bind)
      | (apply IsLim.cst; intro _; exact rfl)
  case h => intro k; rw [solsticeref16_Times.l0]
theorem solsticeref16_Times.J1_eq (x0 : ByteArray) (x5 : List Int) (x6 : Bool) (x7 : Int) (x8 : Int) (x27 : Bool) : solsticeref16_Times.J1 x0 x5 x6 x7 x8 x27 = if x27 = true then (solsticeref16_Times.L0 x0 x5 x6 x7 (wrap64 (x8 + 1))) else (if 0 ≤ x7 then (if x7 ≤ x8 then (if x8 ≤ (x0.size : Int) then ((solsticeref16_ParseTime.F (x0.extract (x7 : Int).toNat (x8 : Int).toNat)).bind fun bt239 => (if bt239.2.2 = true then (if (x5.length : Int) > 0 then (if (bt239.2.1 != x6) = true then (some (([] : List Int), false, false)) else (if x5.length < 17592186044416 then (solsticeref16_Times.L0 x0 (x5 ++ [bt239.1]) bt239.2.1 (wrap64 (x8 + 1)) (wrap64 (x8 + 1))) else (none))) else (if x5.length < 17592186044416 then (solsticeref16_Times.L0 x0 (x5 ++ [bt239.1]) bt239.2.1 (wrap64 (x8 + 1)) (wrap64 (x8 + 1))) else (none))) else (some (([] : List Int), false, false)))) else (none)) else (none)) else (none)) := by
  apply IsLim.step (solsticeref16_Times.isJ1 x0 x5 x6 x7 x8 x27).mono
  case hf =>
    repeat'
      try intro _
      first
      | (with_reducible exact solsticeref16_ParseTime.isF _)
      | (with_reducible exact solsticeref16_Times.isL0 _ _ _ _ _)
      | (with_reducible apply IsLim.ite)
      | (with_reducible apply IsLim.bind)
      | (apply IsLim.cst; intro _; exact rfl)
  case h => intro k; rw [solsticeref16_Times.j1]
theorem solsticeref16_Times.F_eq (a0 : ByteArray) : solsticeref16_Times.F a0 = solsticeref16_Times.L0 a0 ([] : List Int) false 0 0 := by
  apply IsLim.via
  case hf =>
    repeat'
      try intro _
      first
      | (with_reducible exact solsticeref16_Times.isL0 _ _ _ _ _)
      | (with_reducible apply IsLim.ite)
      | (with_reducible apply IsLim.bind)
      | (apply IsLim.cst; intro _; exact rfl)
  case h => exact fun _ => rfl
noncomputable def solsticekeep_Ints.L0 (x0 : List Int) (x1 : List Int) (x5 : Int) : Option (Bool) := lim fun k => solsticekeep_Ints.l0 k x0 x1 x5
noncomputable def solsticekeep_Ints.F (l0 : List Int) (l1 : List Int) : Option (Bool) := lim fun k => solsticekeep_Ints.f k l0 l1
theorem solsticekeep_Ints.isL0 (x0 : List Int) (x1 : List Int) (x5 : Int) : IsLim (fun k => solsticekeep_Ints.l0 k x0 x1 x5) (solsticekeep_Ints.L0 x0 x1 x5) := ⟨fun k => (solsticekeep_Ints.mono_l k) x0 x1 x5, rfl⟩
theorem solsticekeep_Ints.isF (l0 : List Int) (l1 : List Int) : IsLim (fun k => solsticekeep_Ints.f k l0 l1) (solsticekeep_Ints.F l0 l1) := ⟨fun k => solsticekeep_Ints.mono l0 l1 k, rfl⟩
theorem solsticekeep_Ints.L0_eq (x0 : List Int) (x1 : List Int) (x5 : Int) : solsticekeep_Ints.L0 x0 x1 x5 = if x5 < (x0.length : Int) then (if 0 ≤ x5 then (if x5 < (x1.length : Int) then (if (rd x0 x5) = (rd x1 x5) then (solsticekeep_Ints.L0 x0 x1 (wrap64 (x5 + 1))) else (some false)) else (none)) else (none)) else (some true) := by
  apply IsLim.step (solsticekeep_Ints.isL0 x0 x1 x5).mono
  case hf =>
    repeat'
      try intro _
      first
      | (with_reducible exact solsticekeep_Ints.isL0 _ _ _)
      | (with_reducible apply IsLim.ite)
      | (with_reducible apply IsLim.bind)
      | (apply IsLim.cst; intro _; exact rfl)
  case h => intro k; rw [solsticekeep_Ints.l0]
theorem solsticekeep_Ints.F_eq (l0 : List Int) (l1 : List Int) : solsticekeep_Ints.F l0 l1 = if (l0.length : Int) = (l1.length : Int) then (solsticekeep_Ints.L0 l0 l1 0) else (some false) := by
  apply IsLim.via
  case hf =>
    repeat'
      try intro _
      first
      | (with_reducible exact solsticekeep_Ints.isL0 _ _ _)
      | (with_reducible apply IsLim.ite)
      | (with_reducible apply IsLim.bind)
      | (apply IsLim.cst; intro _; exact rfl)
  case h => exact fun _ => rfl
noncomputable def solsticeref01_Text.J0 (x0 : Int) (x1 : Int) (x13 : Bool) : Option (ByteArray) := lim fun k => solsticeref01_Text.j0 k x0 x1 x13
noncomputable def solsticeref01_Text.J1 (x0 : Int) (x1 : Int) : Option (ByteArray) := lim fun k => solsticeref01_Text.j1 k x0 x1
noncomputable def solsticeref01_Text.L0 (x0 : Int) (x1 : Int) (x5 : ByteArray) : Option (ByteArray) := lim fun k => solsticeref01_Text.l0 k x0 x1 x5
noncomputable def solsticeref01_Text.L1 (x1 : Int) (x5 : ByteArray) : Option (ByteArray) := lim fun k => solsticeref01_Text.l1 k x1 x5
noncomputable def solsticeref01_Text.F (a0 : Int) (a1 : Int) : Option (ByteArray) := lim fun k => solsticeref01_Text.f k a0 a1
theorem solsticeref01_Text.isJ0 (x0 : Int) (x1 : Int) (x13 : Bool) : IsLim (fun k => solsticeref01_Text.j0 k x0 x1 x13) (solsticeref01_Text.J0 x0 x1 x13) := ⟨fun k => (solsticeref01_Text.mono_l k).1 x0 x1 x13, rfl⟩
theorem solsticeref01_Text.isJ1 (x0 : Int) (x1 : Int) : IsLim (fun k => solsticeref01_Text.j1 k x0 x1) (solsticeref01_Text.J1 x0 x1) := ⟨fun k => (solsticeref01_Text.mono_l k).2.1 x0 x1, rfl⟩
theorem solsticeref01_Text.isL0 (x0 : Int) (x1 : Int) (x5 : ByteArray) : IsLim (fun k => solsticeref01_Text.l0 k x0 x1 x5) (solsticeref01_Text.L0 x0 x1 x5) := ⟨fun k => (solsticeref01_Text.mono_l k).2.2.1 x0 x1 x5, rfl⟩
theorem solsticeref01_Text.isL1 (x1 : Int) (x5 : ByteArray) : IsLim (fun k => solsticeref01_Text.l1 k x1 x5) (solsticeref01_Text.L1 x1 x5) := ⟨fun k => (solsticeref01_Text.mono_l k).2.2.2 x1 x5, rfl⟩
theorem solsticeref01_Text.isF (a0 : Int) (a1 : Int) : IsLim (fun k => solsticeref01_Text.f k a0 a1) (solsticeref01_Text.F a0 a1) := ⟨fun k => solsticeref01_Text.mono a0 a1 k, rfl⟩
theorem solsticeref01_Text.J0_eq (x0 : Int) (x1 : Int) (x13 : Bool) : solsticeref01_Text.J0 x0 x1 x13 = if x13 = true then (solsticeref01_Text.J1 x0 0) else (solsticeref01_Text.J1 x0 x1) := by
  apply IsLim.step (solsticeref01_Text.isJ0 x0 x1 x13).mono
  case hf =>
    repeat'
      try intro _
      first
      | (with_reducible exact solsticeref01_Text.isJ1 _ _)
      | (with_reducible apply IsLim.ite)
      | (with_reducible apply IsLim.bind)
      | (apply IsLim.cst; intro _; exact rfl)
  case h => intro k; rw [solsticeref01_Text.j0]
theorem solsticeref01_Text.J1_eq (x0 : Int) (x1 : Int) : solsticeref01_Text.J1 x0 x1 = solsticeref01_Text.L0 x0 x1 (⟨#[]⟩ : ByteArray) := by
  apply IsLim.step (solsticeref01_Text.isJ1 x0 x1).mono
  case hf =>
    repeat'
      try intro _
      first
      | (with_reducible exact solsticeref01_Text.isL0 _ _ _)
      | (with_reducible apply IsLim.ite)
      | (with_reducible apply IsLim.bind)
      | (apply IsLim.cst; intro _; exact rfl)
  case h => intro k; rw [solsticeref01_Text.j1]
theorem solsticeref01_Text.L0_eq (x0 : Int) (x1 : Int) (x5 : ByteArray) : solsticeref01_Text.L0 x0 x1 x5 = if x0 > 0 then ((some (([(wrap64 (48 + (Int.tmod x0 10))) % 256] : List Int) : List Int)).bind fun y250 => (if (strOfNums y250).size + x5.size ≤ 9223372036854775807 then (solsticeref01_Text.L0 (wrap64 (Int.tdiv x0 10)) x1 ((strOfNums y250) ++ x5)) else (none))) else (if (x5.size : Int) = 0 then ((some (([(wrap64 (48 + (Int.tmod x0 10))) % 256] : List Int) : List Int)).bind fun y253 => (if (strOfNums y253).size + x5.size ≤ 9223372036854775807 then (solsticeref01_Text.L0 (wrap64 (Int.tdiv x0 10)) x1 ((strOfNums y253) ++ x5)) else (none))) else (solsticeref01_Text.L1 x1 x5)) := by
  apply IsLim.step (solsticeref01_Text.isL0 x0 x1 x5).mono
  case hf =>
    repeat'
      try intro _
      first
      | (with_reducible exact solsticeref01_Text.isL0 _ _ _)
      | (with_reducible exact solsticeref01_Text.isL1 _ _)
      | (with_reducible apply IsLim.ite)
      | (with_reducible apply IsLim.bind)
      | (apply IsLim.cst; intro _; exact rfl)
  case h => intro k; rw [solsticeref01_Text.l0]
theorem solsticeref01_Text.L1_eq (x1 : Int) (x5 : ByteArray) : solsticeref01_Text.L1 x1 x5 = if (x5.size : Int) < x1 then (if 1 + x5.size ≤ 9223372036854775807 then (solsticeref01_Text.L1 x1 ((⟨#[48]⟩ : ByteArray) ++ x5)) else (none)) else (some x5) := by
  apply IsLim.step (solsticeref01_Text.isL1 x1 x5).mono
  case hf =>
    repeat'
      try intro _
      first
      | (with_reducible exact solsticeref01_Text.isL1 _ _)
      | (with_reducible apply IsLim.ite)
      | (with_reducible apply IsLim.bind)
      | (apply IsLim.cst; intro _; exact rfl)
  case h => intro k; rw [solsticeref01_Text.l1]
theorem solsticeref01_Text.F_eq (a0 : Int) (a1 : Int) : solsticeref01_Text.F a0 a1 = if a0 < 0 then (some (⟨#[]⟩ : ByteArray)) else (if a1 < 0 then (solsticeref01_Text.J0 a0 a1 true) else (solsticeref01_Text.J0 a0 a1 (decide (a1 > 20)))) := by
  apply IsLim.via
  case hf =>
    repeat'
      try intro _
      first
      | (with_reducible exact solsticeref01_Text.isJ0 _ _ _)
      | (with_reducible apply IsLim.ite)
      | (with_reducible apply IsLim.bind)
      | (apply IsLim.cst; intro _; exact rfl)
  case h => exact fun _ => rfl
end Go.Proofs.YtligbecmbefclaaDoor.PVex

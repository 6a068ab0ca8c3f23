/- Printed functions of the family Tre without a bound on their rounds, and the equation that each meets. No condition. -/
import Derived.Test.YtdgeokpbedllaaaDoorBase
import Derived.Test.YtdgeokpbedllaaaDoorPTrex16
namespace Go.Proofs.YtdgeokpbedllaaaDoor.PTre
open Go.RowKit Go.Proofs.YtdgeokpbedllaaaDoorW.PrintWords Go.Proofs.YtdgeokpbedllaaaDoorW.PrintLast Go.Proofs.YtdgeokpbedllaaaDoor.Base
set_option linter.unusedVariables false
noncomputable def solsticekeep_Texts.L0 (x0 : List ByteArray) (x1 : List ByteArray) (x5 : Int) : Option (Bool) := lim fun k => solsticekeep_Texts.l0 k x0 x1 x5
noncomputable def solsticekeep_Texts.F (l0 : List ByteArray) (l1 : List ByteArray) : Option (Bool) := lim fun k => solsticekeep_Texts.f k l0 l1
theorem solsticekeep_Texts.isL0 (x0 : List ByteArray) (x1 : List ByteArray) (x5 : Int) : IsLim (fun k => solsticekeep_Texts.l0 k x0 x1 x5) (solsticekeep_Texts.L0 x0 x1 x5) := ⟨fun k => (solsticekeep_Texts.mono_l k) x0 x1 x5, rfl⟩
theorem solsticekeep_Texts.isF (l0 : List ByteArray) (l1 : List ByteArray) : IsLim (fun k => solsticekeep_Texts.f k l0 l1) (solsticekeep_Texts.F l0 l1) := ⟨fun k => solsticekeep_Texts.mono l0 l1 k, rfl⟩
theorem solsticekeep_Texts.L0_eq (x0 : List ByteArray) (x1 : List ByteArray) (x5 : Int) : solsticekeep_Texts.L0 x0 x1 x5 = if x5 < (x0.length : Int) then (if 0 ≤ x5 then (if x5 < (x1.length : Int) then (if (rdOf ByteArray.empty x0 x5).toList = (rdOf ByteArray.empty x1 x5).toList then (solsticekeep_Texts.L0 x0 x1 (wrap64 (x5 + 1))) else (some false)) else (none)) else (none)) else (some true) := by
  apply IsLim.step (solsticekeep_Texts.isL0 x0 x1 x5).mono
  case hf =>
    repeat'
      try intro _
      first
      | (with_reducible exact solsticekeep_Texts.isL0 _ _ _)
      | (with_reducible apply IsLim.ite)
      | (with_reducible apply IsLim.bind)
      | (apply IsLim.cst; intro _; exact rfl)
  case h => intro k; rw [solsticekeep_Texts.l0]
theorem solsticekeep_Texts.F_eq (l0 : List ByteArray) (l1 : List ByteArray) : solsticekeep_Texts.F l0 l1 = if (l0.length : Int) = (l1.length : Int) then (solsticekeep_Texts.L0 l0 l1 0) else (some false) := by
  apply IsLim.via
  case hf =>
    repeat'
      try intro _
      first
      | (with_reducible exact solsticekeep_Texts.isL0 _ _ _)
      | (with_reducible apply IsLim.ite)
      | (with_reducible apply IsLim.bind)
      | (apply IsLim.cst; intro _; exact rfl)
  case h => exact fun _ => rfl
noncomputable def solsticekeep_Line.J0 (x26 : Bool) (x287000 : ByteArray) (x287001 : List (S70)) (x287002 : ByteArray) (x288000 : ByteArray) (x288001 : List (S70)) (x288002 : ByteArray) : Option (Bool) := lim fun k => solsticekeep_Line.j0 k x26 x287000 x287001 x287002 x288000 x288001 x288002
noncomputable def solsticekeep_Line.L0 (x5 : Int) (x287000 : ByteArray) (x287001 : List (S70)) (x287002 : ByteArray) (x288000 : ByteArray) (x288001 : List (S70)) (x288002 : ByteArray) : Option (Bool) := lim fun k => solsticekeep_Line.l0 k x5 x287000 x287001 x287002 x288000 x288001 x288002
noncomputable def solsticekeep_Line.F (a0_0 : ByteArray) (l0_1 : List (S70)) (a0_2 : ByteArray) (a1_0 : ByteArray) (l1_1 : List (S70)) (a1_2 : ByteArray) : Option (Bool) := lim fun k => solsticekeep_Line.f k a0_0 l0_1 a0_2 a1_0 l1_1 a1_2
theorem solsticekeep_Line.isJ0 (x26 : Bool) (x287000 : ByteArray) (x287001 : List (S70)) (x287002 : ByteArray) (x288000 : ByteArray) (x288001 : List (S70)) (x288002 : ByteArray) : IsLim (fun k => solsticekeep_Line.j0 k x26 x287000 x287001 x287002 x288000 x288001 x288002) (solsticekeep_Line.J0 x26 x287000 x287001 x287002 x288000 x288001 x288002) := ⟨fun k => (solsticekeep_Line.mono_l k).1 x26 x287000 x287001 x287002 x288000 x288001 x288002, rfl⟩
theorem solsticekeep_Line.isL0 (x5 : Int) (x287000 : ByteArray) (x287001 : List (S70)) (x287002 : ByteArray) (x288000 : ByteArray) (x288001 : List (S70)) (x288002 : ByteArray) : IsLim (fun k => solsticekeep_Line.l0 k x5 x287000 x287001 x287002 x288000 x288001 x288002) (solsticekeep_Line.L0 x5 x287000 x287001 x287002 x288000 x288001 x288002) := ⟨fun k => (solsticekeep_Line.mono_l k).2 x5 x287000 x287001 x287002 x288000 x288001 x288002, rfl⟩
theorem solsticekeep_Line.isF (a0_0 : ByteArray) (l0_1 : List (S70)) (a0_2 : ByteArray) (a1_0 : ByteArray) (l1_1 : List (S70)) (a1_2 : ByteArray) : IsLim (fun k => solsticekeep_Line.f k a0_0 l0_1 a0_2 a1_0 l1_1 a1_2) (solsticekeep_Line.F a0_0 l0_1 a0_2 a1_0 l1_1 a1_2) := ⟨fun k => solsticekeep_Line.mono a0_0 l0_1 a0_2 a1_0 l1_1 a1_2 k, rfl⟩
theorem solsticekeep_Line.J0_eq (x26 : Bool) (x287000 : ByteArray) (x287001 : List (S70)) (x287002 : ByteArray) (x288000 : ByteArray) (x288001 : List (S70)) (x288002 : ByteArray) : solsticekeep_Line.J0 x26 x287000 x287001 x287002 x288000 x288001 x288002 = if x26 = true then (some false) else (solsticekeep_Line.L0 0 x287000 x287001 x287002 x288000 x288001 x288002) := by
  apply IsLim.step (solsticekeep_Line.isJ0 x26 x287000 x287001 x287002 x288000 x288001 x288002).mono
  case hf =>
    repeat'
      try intro _
      first
      | (with_reducible exact solsticekeep_Line.isL0 _ _ _ _ _ _ _)
      | (with_reducible apply IsLim.ite)
      | (with_reducible apply IsLim.bind)
      | (apply IsLim.cst; intro _; exact rfl)
  case h => intro k; rw [solsticekeep_Line.j0]
theorem solsticekeep_Line.L0_eq (x5 : Int) (x287000 : ByteArray) (x287001 : List (S70)) (x287002 : ByteArray) (x288000 : ByteArray) (x288001 : List (S70)) (x288002 : ByteArray) : solsticekeep_Line.L0 x5 x287000 x287001 x287002 x288000 x288001 x288002 = if x5 < (x287001.length : Int) then (if 0 ≤ x5 then (if x5 < (x288001.length : Int) then (if ((rd_T70 x287001 x5).f0).toList = ((rd_T70 x288001 x5).f0).toList then ((solsticekeep_Texts.F ((rd_T70 x287001 x5).f1) ((rd_T70 x288001 x5).f1)).bind fun t292 => (if t292 = true then (solsticekeep_Line.L0 (wrap64 (x5 + 1)) x287000 x287001 x287002 x288000 x288001 x288002) else (some false))) else (some false)) else (none)) else (none)) else (some true) := by
  apply IsLim.step (solsticekeep_Line.isL0 x5 x287000 x287001 x287002 x288000 x288001 x288002).mono
  case hf =>
    repeat'
      try intro _
      first
      | (with_reducible exact solsticekeep_Line.isL0 _ _ _ _ _ _ _)
      | (with_reducible exact solsticekeep_Texts.isF _ _)
      | (with_reducible apply IsLim.ite)
      | (with_reducible apply IsLim.bind)
      | (apply IsLim.cst; intro _; exact rfl)
  case h => intro k; rw [solsticekeep_Line.l0]
theorem solsticekeep_Line.F_eq (a0_0 : ByteArray) (l0_1 : List (S70)) (a0_2 : ByteArray) (a1_0 : ByteArray) (l1_1 : List (S70)) (a1_2 : ByteArray) : solsticekeep_Line.F a0_0 l0_1 a0_2 a1_0 l1_1 a1_2 = if a0_0.toList = a1_0.toList then (if a0_2.toList = a1_2.toList then (solsticekeep_Line.J0 ((l0_1.length : Int) != (l1_1.length : Int)) a0_0 l0_1 a0_2 a1_0 l1_1 a1_2) else (solsticekeep_Line.J0 true a0_0 l0_1 a0_2 a1_0 l1_1 a1_2)) else (solsticekeep_Line.J0 true a0_0 l0_1 a0_2 a1_0 l1_1 a1_2) := by
  apply IsLim.via
  case hf =>
    repeat'
      try intro _
      first
      | (with_reducible exact solsticekeep_Line.isJ0 _ _ _ _ _ _ _)
      | (with_reducible apply IsLim.ite)
      | (with_reducible apply IsLim.bind)
      | (apply IsLim.cst; intro _; exact rfl)
  case h => exact fun _ => rfl
end Go.Proofs.YtdgeokpbedllaaaDoor.PTre

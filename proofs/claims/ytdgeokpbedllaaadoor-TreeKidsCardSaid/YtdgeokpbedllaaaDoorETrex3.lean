/- Printed functions of the family Tre without a bound on their rounds, and the equation that each meets. No condition. -/
import Derived.Test.YtdgeokpbedllaaaDoorBase
import Derived.Test.YtdgeokpbedllaaaDoorPTrex3
namespace Go.Proofs.YtdgeokpbedllaaaDoor.PTre
open Go.RowKit Go.Proofs.YtdgeokpbedllaaaDoorW.PrintWords Go.Proofs.YtdgeokpbedllaaaDoorW.PrintLast Go.Proofs.YtdgeokpbedllaaaDoor.Base
set_option linter.unusedVariables false
noncomputable def r16_Alike.L0 (x0 : ByteArray) (x1 : ByteArray) (x5 : Int) : Option (Bool) := lim fun k => r16_Alike.l0 k x0 x1 x5
noncomputable def r16_Alike.F (a0 : ByteArray) (a1 : ByteArray) : Option (Bool) := lim fun k => r16_Alike.f k a0 a1
theorem r16_Alike.isL0 (x0 : ByteArray) (x1 : ByteArray) (x5 : Int) : IsLim (fun k => r16_Alike.l0 k x0 x1 x5) (r16_Alike.L0 x0 x1 x5) := ⟨fun k => (r16_Alike.mono_l k) x0 x1 x5, rfl⟩
theorem r16_Alike.isF (a0 : ByteArray) (a1 : ByteArray) : IsLim (fun k => r16_Alike.f k a0 a1) (r16_Alike.F a0 a1) := ⟨fun k => r16_Alike.mono a0 a1 k, rfl⟩
theorem r16_Alike.L0_eq (x0 : ByteArray) (x1 : ByteArray) (x5 : Int) : r16_Alike.L0 x0 x1 x5 = if x5 < (x0.size : Int) then (if 0 ≤ x5 then ((r16_small.f (bt x0 x5)).bind fun t120 => (if x5 < (x1.size : Int) then ((r16_small.f (bt x1 x5)).bind fun t121 => (if t120 = t121 then (r16_Alike.L0 x0 x1 (wrap64 (x5 + 1))) else (some false))) else (none))) else (none)) else (some true) := by
  apply IsLim.step (r16_Alike.isL0 x0 x1 x5).mono
  case hf =>
    repeat'
      try intro _
      first
      | (with_reducible exact r16_Alike.isL0 _ _ _)
      | (with_reducible apply IsLim.ite)
      | (with_reducible apply IsLim.bind)
      | (apply IsLim.cst; intro _; exact rfl)
  case h => intro k; rw [r16_Alike.l0]
theorem r16_Alike.F_eq (a0 : ByteArray) (a1 : ByteArray) : r16_Alike.F a0 a1 = if (a0.size : Int) = (a1.size : Int) then (r16_Alike.L0 a0 a1 0) else (some false) := by
  apply IsLim.via
  case hf =>
    repeat'
      try intro _
      first
      | (with_reducible exact r16_Alike.isL0 _ _ _)
      | (with_reducible apply IsLim.ite)
      | (with_reducible apply IsLim.bind)
      | (apply IsLim.cst; intro _; exact rfl)
  case h => exact fun _ => rfl
noncomputable def r16_Name.L0 (x0 : ByteArray) (x3 : Int) : Option (Bool) := lim fun k => r16_Name.l0 k x0 x3
noncomputable def r16_Name.F (a0 : ByteArray) : Option (Bool) := lim fun k => r16_Name.f k a0
theorem r16_Name.isL0 (x0 : ByteArray) (x3 : Int) : IsLim (fun k => r16_Name.l0 k x0 x3) (r16_Name.L0 x0 x3) := ⟨fun k => (r16_Name.mono_l k) x0 x3, rfl⟩
theorem r16_Name.isF (a0 : ByteArray) : IsLim (fun k => r16_Name.f k a0) (r16_Name.F a0) := ⟨fun k => r16_Name.mono a0 k, rfl⟩
theorem r16_Name.L0_eq (x0 : ByteArray) (x3 : Int) : r16_Name.L0 x0 x3 = if x3 < (x0.size : Int) then (if 0 ≤ x3 then (if (bt x0 x3) < 65 then (if (bt x0 x3) < 97 then (if (bt x0 x3) < 48 then (if (bt x0 x3) = 45 then (r16_Name.L0 x0 (wrap64 (x3 + 1))) else (some false)) else (if (bt x0 x3) > 57 then (if (bt x0 x3) = 45 then (r16_Name.L0 x0 (wrap64 (x3 + 1))) else (some false)) else (r16_Name.L0 x0 (wrap64 (x3 + 1))))) else (if (bt x0 x3) > 122 then (if (bt x0 x3) < 48 then (if (bt x0 x3) = 45 then (r16_Name.L0 x0 (wrap64 (x3 + 1))) else (some false)) else (if (bt x0 x3) > 57 then (if (bt x0 x3) = 45 then (r16_Name.L0 x0 (wrap64 (x3 + 1))) else (some false)) else (r16_Name.L0 x0 (wrap64 (x3 + 1))))) else (r16_Name.L0 x0 (wrap64 (x3 + 1))))) else (if (bt x0 x3) > 90 then (if (bt x0 x3) < 97 then (if (bt x0 x3) < 48 then (if (bt x0 x3) = 45 then (r16_Name.L0 x0 (wrap64 (x3 + 1))) else (some false)) else (if (bt x0 x3) > 57 then (if (bt x0 x3) = 45 then (r16_Name.L0 x0 (wrap64 (x3 + 1))) else (some false)) else (r16_Name.L0 x0 (wrap64 (x3 + 1))))) else (if (bt x0 x3) > 122 then (if (bt x0 x3) < 48 then (if (bt x0 x3) = 45 then (r16_Name.L0 x0 (wrap64 (x3 + 1))) else (some false)) else (if (bt x0 x3) > 57 then (if (bt x0 x3) = 45 then (r16_Name.L0 x0 (wrap64 (x3 + 1))) else (some false)) else (r16_Name.L0 x0 (wrap64 (x3 + 1))))) else (r16_Name.L0 x0 (wrap64 (x3 + 1))))) else (r16_Name.L0 x0 (wrap64 (x3 + 1))))) else (none)) else (some true) := by
  apply IsLim.step (r16_Name.isL0 x0 x3).mono
  case hf =>
    repeat'
      try intro _
      first
      | (with_reducible exact r16_Name.isL0 _ _)
      | (with_reducible apply IsLim.ite)
      | (with_reducible apply IsLim.bind)
      | (apply IsLim.cst; intro _; exact rfl)
  case h => intro k; rw [r16_Name.l0]
theorem r16_Name.F_eq (a0 : ByteArray) : r16_Name.F a0 = (r16_in.f (a0.size : Int) 1 40).bind fun t122 => (if t122 = true then (r16_Name.L0 a0 0) else (some false)) := by
  apply IsLim.via
  case hf =>
    repeat'
      try intro _
      first
      | (with_reducible exact r16_Name.isL0 _ _)
      | (with_reducible apply IsLim.ite)
      | (with_reducible apply IsLim.bind)
      | (apply IsLim.cst; intro _; exact rfl)
  case h => exact fun _ => rfl
noncomputable def r16_clean.L0 (x0 : ByteArray) (x1 : Bool) (x5 : Int) : Option (Bool) := lim fun k => r16_clean.l0 k x0 x1 x5
noncomputable def r16_clean.F (a0 : ByteArray) (a1 : Bool) : Option (Bool) := lim fun k => r16_clean.f k a0 a1
theorem r16_clean.isL0 (x0 : ByteArray) (x1 : Bool) (x5 : Int) : IsLim (fun k => r16_clean.l0 k x0 x1 x5) (r16_clean.L0 x0 x1 x5) := ⟨fun k => (r16_clean.mono_l k) x0 x1 x5, rfl⟩
theorem r16_clean.isF (a0 : ByteArray) (a1 : Bool) : IsLim (fun k => r16_clean.f k a0 a1) (r16_clean.F a0 a1) := ⟨fun k => r16_clean.mono a0 a1 k, rfl⟩
theorem r16_clean.L0_eq (x0 : ByteArray) (x1 : Bool) (x5 : Int) : r16_clean.L0 x0 x1 x5 = if x5 < (x0.size : Int) then (if 0 ≤ x5 then ((r16_bad.f (bt x0 x5)).bind fun t123 => (if t123 = true then (some false) else (if x1 = true then (if (bt x0 x5) = 34 then (some false) else (r16_clean.L0 x0 x1 (wrap64 (x5 + 1)))) else (r16_clean.L0 x0 x1 (wrap64 (x5 + 1)))))) else (none)) else (some true) := by
  apply IsLim.step (r16_clean.isL0 x0 x1 x5).mono
  case hf =>
    repeat'
      try intro _
      first
      | (with_reducible exact r16_clean.isL0 _ _ _)
      | (with_reducible apply IsLim.ite)
      | (with_reducible apply IsLim.bind)
      | (apply IsLim.cst; intro _; exact rfl)
  case h => intro k; rw [r16_clean.l0]
theorem r16_clean.F_eq (a0 : ByteArray) (a1 : Bool) : r16_clean.F a0 a1 = r16_clean.L0 a0 a1 0 := by
  apply IsLim.via
  case hf =>
    repeat'
      try intro _
      first
      | (with_reducible exact r16_clean.isL0 _ _ _)
      | (with_reducible apply IsLim.ite)
      | (with_reducible apply IsLim.bind)
      | (apply IsLim.cst; intro _; exact rfl)
  case h => exact fun _ => rfl
end Go.Proofs.YtdgeokpbedllaaaDoor.PTre

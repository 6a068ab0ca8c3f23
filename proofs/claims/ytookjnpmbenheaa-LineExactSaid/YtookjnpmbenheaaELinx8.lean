-- A text of the kit's tools for this claim, its remarks left out.
import Derived.Test.YtookjnpmbenheaaBase
import Derived.Test.YtookjnpmbenheaaPLinx8
namespace Go.Proofs.Ytookjnpmbenheaa.PLin
open Go.RowKit Go.Proofs.YtookjnpmbenheaaW.PrintWords Go.Proofs.YtookjnpmbenheaaW.PrintLast Go.Proofs.Ytookjnpmbenheaa.Base
set_option linter.unusedVariables false
noncomputable def solsticeref16_Name.L0 (x0 : ByteArray) (x3 : Int) : Option (Bool) := lim fun k => solsticeref16_Name.l0 k x0 x3
noncomputable def solsticeref16_Name.F (a0 : ByteArray) : Option (Bool) := lim fun k => solsticeref16_Name.f k a0
theorem solsticeref16_Name.isL0 (x0 : ByteArray) (x3 : Int) : IsLim (fun k => solsticeref16_Name.l0 k x0 x3) (solsticeref16_Name.L0 x0 x3) := ⟨fun k => (solsticeref16_Name.mono_l k) x0 x3, rfl⟩
theorem solsticeref16_Name.isF (a0 : ByteArray) : IsLim (fun k => solsticeref16_Name.f k a0) (solsticeref16_Name.F a0) := ⟨fun k => solsticeref16_Name.mono a0 k, rfl⟩
theorem solsticeref16_Name.L0_eq (x0 : ByteArray) (x3 : Int) : solsticeref16_Name.L0 x0 x3 = if x3 < (x0.size : Int) then (if 0 ≤ x3 then (if (bt x0 x3) < 65 then (if (bt x0 x3) < 97 then (if (bt x0 x3) < 48 then (if (bt x0 x3) = 45 then (solsticeref16_Name.L0 x0 (wrap64 (x3 + 1))) else (some false)) else (if (bt x0 x3) > 57 then (if (bt x0 x3) = 45 then (solsticeref16_Name.L0 x0 (wrap64 (x3 + 1))) else (some false)) else (solsticeref16_Name.L0 x0 (wrap64 (x3 + 1))))) else (if (bt x0 x3) > 122 then (if (bt x0 x3) < 48 then (if (bt x0 x3) = 45 then (solsticeref16_Name.L0 x0 (wrap64 (x3 + 1))) else (some false)) else (if (bt x0 x3) > 57 then (if (bt x0 x3) = 45 then (solsticeref16_Name.L0 x0 (wrap64 (x3 + 1))) else (some false)) else (solsticeref16_Name.L0 x0 (wrap64 (x3 + 1))))) else (solsticeref16_Name.L0 x0 (wrap64 (x3 + 1))))) else (if (bt x0 x3) > 90 then (if (bt x0 x3) < 97 then (if (bt x0 x3) < 48 then (if (bt x0 x3) = 45 then (solsticeref16_Name.L0 x0 (wrap64 (x3 + 1))) else (some false)) else (if (bt x0 x3) > 57 then (if (bt x0 x3) = 45 then (solsticeref16_Name.L0 x0 (wrap64 (x3 + 1))) else (some false)) else (solsticeref16_Name.L0 x0 (wrap64 (x3 + 1))))) else (if (bt x0 x3) > 122 then (if (bt x0 x3) < 48 then (if (bt x0 x3) = 45 then (solsticeref16_Name.L0 x0 (wrap64 (x3 + 1))) else (some false)) else (if (bt x0 x3) > 57 then (if (bt x0 x3) = 45 then (solsticeref16_Name.L0 x0 (wrap64 (x3 + 1))) else (some false)) else (solsticeref16_Name.L0 x0 (wrap64 (x3 + 1))))) else (solsticeref16_Name.L0 x0 (wrap64 (x3 + 1))))) else (solsticeref16_Name.L0 x0 (wrap64 (x3 + 1))))) else (none)) else (some true) := by
 apply IsLim.step (solsticeref16_Name.isL0 x0 x3).mono
 case hf =>
  repeat'
   try intro _
   first
   | (with_reducible exact solsticeref16_Name.isL0 _ _)
   | (with_reducible apply IsLim.ite)
   | (with_reducible apply IsLim.bind)
   | (apply IsLim.cst; intro _; exact rfl)
 case h => intro k; rw [solsticeref16_Name.l0]
theorem solsticeref16_Name.F_eq (a0 : ByteArray) : solsticeref16_Name.F a0 = (solsticeref16_in.f (a0.size : Int) 1 40).bind fun t197 => (if t197 = true then (solsticeref16_Name.L0 a0 0) else (some false)) := by
 apply IsLim.via
 case hf =>
  repeat'
   try intro _
   first
   | (with_reducible exact solsticeref16_Name.isL0 _ _)
   | (with_reducible apply IsLim.ite)
   | (with_reducible apply IsLim.bind)
   | (apply IsLim.cst; intro _; exact rfl)
 case h => exact fun _ => rfl
noncomputable def solsticeref16_clean.L0 (x0 : ByteArray) (x1 : Bool) (x5 : Int) : Option (Bool) := lim fun k => solsticeref16_clean.l0 k x0 x1 x5
noncomputable def solsticeref16_clean.F (a0 : ByteArray) (a1 : Bool) : Option (Bool) := lim fun k => solsticeref16_clean.f k a0 a1
theorem solsticeref16_clean.isL0 (x0 : ByteArray) (x1 : Bool) (x5 : Int) : IsLim (fun k => solsticeref16_clean.l0 k x0 x1 x5) (solsticeref16_clean.L0 x0 x1 x5) := ⟨fun k => (solsticeref16_clean.mono_l k) x0 x1 x5, rfl⟩
theorem solsticeref16_clean.isF (a0 : ByteArray) (a1 : Bool) : IsLim (fun k => solsticeref16_clean.f k a0 a1) (solsticeref16_clean.F a0 a1) := ⟨fun k => solsticeref16_clean.mono a0 a1 k, rfl⟩
theorem solsticeref16_clean.L0_eq (x0 : ByteArray) (x1 : Bool) (x5 : Int) : solsticeref16_clean.L0 x0 x1 x5 = if x5 < (x0.size : Int) then (if 0 ≤ x5 then ((solsticeref16_bad.f (bt x0 x5)).bind fun t198 => (if t198 = true then (some false) else (if x1 = true then (if (bt x0 x5) = 34 then (some false) else (solsticeref16_clean.L0 x0 x1 (wrap64 (x5 + 1)))) else (solsticeref16_clean.L0 x0 x1 (wrap64 (x5 + 1)))))) else (none)) else (some true) := by
 apply IsLim.step (solsticeref16_clean.isL0 x0 x1 x5).mono
 case hf =>
  repeat'
   try intro _
   first
   | (with_reducible exact solsticeref16_clean.isL0 _ _ _)
   | (with_reducible apply IsLim.ite)
   | (with_reducible apply IsLim.bind)
   | (apply IsLim.cst; intro _; exact rfl)
 case h => intro k; rw [solsticeref16_clean.l0]
theorem solsticeref16_clean.F_eq (a0 : ByteArray) (a1 : Bool) : solsticeref16_clean.F a0 a1 = solsticeref16_clean.L0 a0 a1 0 := by
 apply IsLim.via
 case hf =>
  repeat'
   try intro _
   first
   | (with_reducible exact solsticeref16_clean.isL0 _ _ _)
   | (with_reducible apply IsLim.ite)
   | (with_reducible apply IsLim.bind)
   | (apply IsLim.cst; intro _; exact rfl)
 case h => exact fun _ => rfl
end Go.Proofs.Ytookjnpmbenheaa.PLin

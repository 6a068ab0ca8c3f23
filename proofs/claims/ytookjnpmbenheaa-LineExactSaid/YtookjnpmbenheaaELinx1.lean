-- A text of the kit's tools for this claim, its remarks left out.
import Derived.Test.YtookjnpmbenheaaBase
import Derived.Test.YtookjnpmbenheaaPLinx1
namespace Go.Proofs.Ytookjnpmbenheaa.PLin
open Go.RowKit Go.Proofs.YtookjnpmbenheaaW.PrintWords Go.Proofs.YtookjnpmbenheaaW.PrintLast Go.Proofs.Ytookjnpmbenheaa.Base
set_option linter.unusedVariables false
noncomputable def solsticekeep_Texts.L0 (x0 : List ByteArray) (x1 : List ByteArray) (x5 : Int) : Option (Bool) := lim fun k => solsticekeep_Texts.l0 k x0 x1 x5
noncomputable def solsticekeep_Texts.F (l0 : List ByteArray) (l1 : List ByteArray) : Option (Bool) := lim fun k => solsticekeep_Texts.f k l0 l1
theorem solsticekeep_Texts.isL0 (x0 : List ByteArray) (x1 : List ByteArray) (x5 : Int) : IsLim (fun k => solsticekeep_Texts.l0 k x0 x1 x5) (solsticekeep_Texts.L0 x0 x1 x5) := ⟨fun k => (solsticekeep_Texts.mono_l k) x0 x1 x5, rfl⟩
theorem solsticekeep_Texts.isF (l0 : List ByteArray) (l1 : List ByteArray) : IsLim (fun k => solsticekeep_Texts.f k l0 l1) (solsticekeep_Texts.F l0 l1) := ⟨fun k => solsticekeep_Texts.mono l0 l1 k, rfl⟩
theorem solsticekeep_Texts.L0_eq (x0 : List ByteArray) (x1 : List ByteArray) (x5 : Int) : solsticekeep_Texts.L0 x0 x1 x5 = if x5 < (x0.length : Int) then (if 0 ≤ x5 then (if x5 < (x1.length : Int) then (if (rdOf ByteArray.empty x0 x5).toList = (rdOf ByteArray.empty x1 x5).toList then (solsticekeep_Texts.L0 x0 x1 (wrap64 (x5 + 1))) else (some false)) else (none)) else (none)) else (some true) := by
 apply IsLim.step (solsticekeep_Texts.isL0 x0 x1 x5).mono
 case hf =>
  repeat'
   try intro _
   first
   | (with_reducible exact solsticekeep_Texts.isL0 _ _ _)
   | (with_reducible apply IsLim.ite)
   | (with_reducible apply IsLim.bind)
   | (apply IsLim.cst; intro _; exact rfl)
 case h => intro k; rw [solsticekeep_Texts.l0]
theorem solsticekeep_Texts.F_eq (l0 : List ByteArray) (l1 : List ByteArray) : solsticekeep_Texts.F l0 l1 = if (l0.length : Int) = (l1.length : Int) then (solsticekeep_Texts.L0 l0 l1 0) else (some false) := by
 apply IsLim.via
 case hf =>
  repeat'
   try intro _
   first
   | (with_reducible exact solsticekeep_Texts.isL0 _ _ _)
   | (with_reducible apply IsLim.ite)
   | (with_reducible apply IsLim.bind)
   | (apply IsLim.cst; intro _; exact rfl)
 case h => exact fun _ => rfl
noncomputable def solsticelaw18_Heavy.J0 (x20 : Bool) (x104000 : ByteArray) (x104001 : List (S54)) (x104002 : ByteArray) : Option (Bool) := lim fun k => solsticelaw18_Heavy.j0 k x20 x104000 x104001 x104002
noncomputable def solsticelaw18_Heavy.L0 (x3 : Int) (x104000 : ByteArray) (x104001 : List (S54)) (x104002 : ByteArray) : Option (Bool) := lim fun k => solsticelaw18_Heavy.l0 k x3 x104000 x104001 x104002
noncomputable def solsticelaw18_Heavy.J2 (x3 : Int) (x45 : Bool) (x104000 : ByteArray) (x104001 : List (S54)) (x104002 : ByteArray) : Option (Bool) := lim fun k => solsticelaw18_Heavy.j2 k x3 x45 x104000 x104001 x104002
noncomputable def solsticelaw18_Heavy.L1 (x3 : Int) (x4 : Int) (x104000 : ByteArray) (x104001 : List (S54)) (x104002 : ByteArray) : Option (Bool) := lim fun k => solsticelaw18_Heavy.l1 k x3 x4 x104000 x104001 x104002
noncomputable def solsticelaw18_Heavy.F (a0_0 : ByteArray) (l0_1 : List (S54)) (a0_2 : ByteArray) : Option (Bool) := lim fun k => solsticelaw18_Heavy.f k a0_0 l0_1 a0_2
theorem solsticelaw18_Heavy.isJ0 (x20 : Bool) (x104000 : ByteArray) (x104001 : List (S54)) (x104002 : ByteArray) : IsLim (fun k => solsticelaw18_Heavy.j0 k x20 x104000 x104001 x104002) (solsticelaw18_Heavy.J0 x20 x104000 x104001 x104002) := ⟨fun k => (solsticelaw18_Heavy.mono_l k).1 x20 x104000 x104001 x104002, rfl⟩
theorem solsticelaw18_Heavy.isL0 (x3 : Int) (x104000 : ByteArray) (x104001 : List (S54)) (x104002 : ByteArray) : IsLim (fun k => solsticelaw18_Heavy.l0 k x3 x104000 x104001 x104002) (solsticelaw18_Heavy.L0 x3 x104000 x104001 x104002) := ⟨fun k => (solsticelaw18_Heavy.mono_l k).2.1 x3 x104000 x104001 x104002, rfl⟩
theorem solsticelaw18_Heavy.isJ2 (x3 : Int) (x45 : Bool) (x104000 : ByteArray) (x104001 : List (S54)) (x104002 : ByteArray) : IsLim (fun k => solsticelaw18_Heavy.j2 k x3 x45 x104000 x104001 x104002) (solsticelaw18_Heavy.J2 x3 x45 x104000 x104001 x104002) := ⟨fun k => (solsticelaw18_Heavy.mono_l k).2.2.1 x3 x45 x104000 x104001 x104002, rfl⟩
theorem solsticelaw18_Heavy.isL1 (x3 : Int) (x4 : Int) (x104000 : ByteArray) (x104001 : List (S54)) (x104002 : ByteArray) : IsLim (fun k => solsticelaw18_Heavy.l1 k x3 x4 x104000 x104001 x104002) (solsticelaw18_Heavy.L1 x3 x4 x104000 x104001 x104002) := ⟨fun k => (solsticelaw18_Heavy.mono_l k).2.2.2 x3 x4 x104000 x104001 x104002, rfl⟩
theorem solsticelaw18_Heavy.isF (a0_0 : ByteArray) (l0_1 : List (S54)) (a0_2 : ByteArray) : IsLim (fun k => solsticelaw18_Heavy.f k a0_0 l0_1 a0_2) (solsticelaw18_Heavy.F a0_0 l0_1 a0_2) := ⟨fun k => solsticelaw18_Heavy.mono a0_0 l0_1 a0_2 k, rfl⟩
theorem solsticelaw18_Heavy.J0_eq (x20 : Bool) (x104000 : ByteArray) (x104001 : List (S54)) (x104002 : ByteArray) : solsticelaw18_Heavy.J0 x20 x104000 x104001 x104002 = if x20 = true then (some true) else (solsticelaw18_Heavy.L0 0 x104000 x104001 x104002) := by
 apply IsLim.step (solsticelaw18_Heavy.isJ0 x20 x104000 x104001 x104002).mono
 case hf =>
  repeat'
   try intro _
   first
   | (with_reducible exact solsticelaw18_Heavy.isL0 _ _ _ _)
   | (with_reducible apply IsLim.ite)
   | (with_reducible apply IsLim.bind)
   | (apply IsLim.cst; intro _; exact rfl)
 case h => intro k; rw [solsticelaw18_Heavy.j0]
theorem solsticelaw18_Heavy.L0_eq (x3 : Int) (x104000 : ByteArray) (x104001 : List (S54)) (x104002 : ByteArray) : solsticelaw18_Heavy.L0 x3 x104000 x104001 x104002 = if x3 < (x104001.length : Int) then (if 0 ≤ x3 then (if (((rd_T54 x104001 x3).f0).size : Int) > 200 then (solsticelaw18_Heavy.J2 x3 true x104000 x104001 x104002) else (solsticelaw18_Heavy.J2 x3 (decide ((((rd_T54 x104001 x3).f1).length : Int) > 20)) x104000 x104001 x104002)) else (none)) else (some false) := by
 apply IsLim.step (solsticelaw18_Heavy.isL0 x3 x104000 x104001 x104002).mono
 case hf =>
  repeat'
   try intro _
   first
   | (with_reducible exact solsticelaw18_Heavy.isJ2 _ _ _ _ _)
   | (with_reducible apply IsLim.ite)
   | (with_reducible apply IsLim.bind)
   | (apply IsLim.cst; intro _; exact rfl)
 case h => intro k; rw [solsticelaw18_Heavy.l0]
theorem solsticelaw18_Heavy.J2_eq (x3 : Int) (x45 : Bool) (x104000 : ByteArray) (x104001 : List (S54)) (x104002 : ByteArray) : solsticelaw18_Heavy.J2 x3 x45 x104000 x104001 x104002 = if x45 = true then (some true) else (solsticelaw18_Heavy.L1 x3 0 x104000 x104001 x104002) := by
 apply IsLim.step (solsticelaw18_Heavy.isJ2 x3 x45 x104000 x104001 x104002).mono
 case hf =>
  repeat'
   try intro _
   first
   | (with_reducible exact solsticelaw18_Heavy.isL1 _ _ _ _ _)
   | (with_reducible apply IsLim.ite)
   | (with_reducible apply IsLim.bind)
   | (apply IsLim.cst; intro _; exact rfl)
 case h => intro k; rw [solsticelaw18_Heavy.j2]
theorem solsticelaw18_Heavy.L1_eq (x3 : Int) (x4 : Int) (x104000 : ByteArray) (x104001 : List (S54)) (x104002 : ByteArray) : solsticelaw18_Heavy.L1 x3 x4 x104000 x104001 x104002 = if 0 ≤ x3 then (if x3 < (x104001.length : Int) then (if x4 < (((rd_T54 x104001 x3).f1).length : Int) then (if 0 ≤ x4 then (if ((rdOf ByteArray.empty ((rd_T54 x104001 x3).f1) x4).size : Int) > 200 then (some true) else (solsticelaw18_Heavy.L1 x3 (wrap64 (x4 + 1)) x104000 x104001 x104002)) else (none)) else (solsticelaw18_Heavy.L0 (wrap64 (x3 + 1)) x104000 x104001 x104002)) else (none)) else (none) := by
 apply IsLim.step (solsticelaw18_Heavy.isL1 x3 x4 x104000 x104001 x104002).mono
 case hf =>
  repeat'
   try intro _
   first
   | (with_reducible exact solsticelaw18_Heavy.isL0 _ _ _ _)
   | (with_reducible exact solsticelaw18_Heavy.isL1 _ _ _ _ _)
   | (with_reducible apply IsLim.ite)
   | (with_reducible apply IsLim.bind)
   | (apply IsLim.cst; intro _; exact rfl)
 case h => intro k; rw [solsticelaw18_Heavy.l1]
theorem solsticelaw18_Heavy.F_eq (a0_0 : ByteArray) (l0_1 : List (S54)) (a0_2 : ByteArray) : solsticelaw18_Heavy.F a0_0 l0_1 a0_2 = if (a0_0.size : Int) > 200 then (solsticelaw18_Heavy.J0 true a0_0 l0_1 a0_2) else (if (a0_2.size : Int) > 500 then (solsticelaw18_Heavy.J0 true a0_0 l0_1 a0_2) else (solsticelaw18_Heavy.J0 (decide ((l0_1.length : Int) > 20)) a0_0 l0_1 a0_2)) := by
 apply IsLim.via
 case hf =>
  repeat'
   try intro _
   first
   | (with_reducible exact solsticelaw18_Heavy.isJ0 _ _ _ _)
   | (with_reducible apply IsLim.ite)
   | (with_reducible apply IsLim.bind)
   | (apply IsLim.cst; intro _; exact rfl)
 case h => exact fun _ => rfl
end Go.Proofs.Ytookjnpmbenheaa.PLin

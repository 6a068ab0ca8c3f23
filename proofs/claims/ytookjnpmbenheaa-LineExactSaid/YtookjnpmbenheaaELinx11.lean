-- A text of the kit's tools for this claim, its remarks left out.
import Derived.Test.YtookjnpmbenheaaBase
import Derived.Test.YtookjnpmbenheaaPLinx11
import Derived.Test.YtookjnpmbenheaaELinx1
namespace Go.Proofs.Ytookjnpmbenheaa.PLin
open Go.RowKit Go.Proofs.YtookjnpmbenheaaW.PrintWords Go.Proofs.YtookjnpmbenheaaW.PrintLast Go.Proofs.Ytookjnpmbenheaa.Base
set_option linter.unusedVariables false
noncomputable def solsticeref16_Alike.L0 (x0 : ByteArray) (x1 : ByteArray) (x5 : Int) : Option (Bool) := lim fun k => solsticeref16_Alike.l0 k x0 x1 x5
noncomputable def solsticeref16_Alike.F (a0 : ByteArray) (a1 : ByteArray) : Option (Bool) := lim fun k => solsticeref16_Alike.f k a0 a1
theorem solsticeref16_Alike.isL0 (x0 : ByteArray) (x1 : ByteArray) (x5 : Int) : IsLim (fun k => solsticeref16_Alike.l0 k x0 x1 x5) (solsticeref16_Alike.L0 x0 x1 x5) := ⟨fun k => (solsticeref16_Alike.mono_l k) x0 x1 x5, rfl⟩
theorem solsticeref16_Alike.isF (a0 : ByteArray) (a1 : ByteArray) : IsLim (fun k => solsticeref16_Alike.f k a0 a1) (solsticeref16_Alike.F a0 a1) := ⟨fun k => solsticeref16_Alike.mono a0 a1 k, rfl⟩
theorem solsticeref16_Alike.L0_eq (x0 : ByteArray) (x1 : ByteArray) (x5 : Int) : solsticeref16_Alike.L0 x0 x1 x5 = if x5 < (x0.size : Int) then (if 0 ≤ x5 then ((solsticeref16_small.f (bt x0 x5)).bind fun t235 => (if x5 < (x1.size : Int) then ((solsticeref16_small.f (bt x1 x5)).bind fun t236 => (if t235 = t236 then (solsticeref16_Alike.L0 x0 x1 (wrap64 (x5 + 1))) else (some false))) else (none))) else (none)) else (some true) := by
 apply IsLim.step (solsticeref16_Alike.isL0 x0 x1 x5).mono
 case hf =>
  repeat'
   try intro _
   first
   | (with_reducible exact solsticeref16_Alike.isL0 _ _ _)
   | (with_reducible apply IsLim.ite)
   | (with_reducible apply IsLim.bind)
   | (apply IsLim.cst; intro _; exact rfl)
 case h => intro k; rw [solsticeref16_Alike.l0]
theorem solsticeref16_Alike.F_eq (a0 : ByteArray) (a1 : ByteArray) : solsticeref16_Alike.F a0 a1 = if (a0.size : Int) = (a1.size : Int) then (solsticeref16_Alike.L0 a0 a1 0) else (some false) := by
 apply IsLim.via
 case hf =>
  repeat'
   try intro _
   first
   | (with_reducible exact solsticeref16_Alike.isL0 _ _ _)
   | (with_reducible apply IsLim.ite)
   | (with_reducible apply IsLim.bind)
   | (apply IsLim.cst; intro _; exact rfl)
 case h => exact fun _ => rfl
noncomputable def solsticeref16_Param.L0 (x1 : ByteArray) (x6 : Int) (x238000 : ByteArray) (x238001 : List (S54)) (x238002 : ByteArray) : Option (List ByteArray × Bool) := lim fun k => solsticeref16_Param.l0 k x1 x6 x238000 x238001 x238002
noncomputable def solsticeref16_Param.F (a0_0 : ByteArray) (l0_1 : List (S54)) (a0_2 : ByteArray) (a1 : ByteArray) : Option (List ByteArray × Bool) := lim fun k => solsticeref16_Param.f k a0_0 l0_1 a0_2 a1
theorem solsticeref16_Param.isL0 (x1 : ByteArray) (x6 : Int) (x238000 : ByteArray) (x238001 : List (S54)) (x238002 : ByteArray) : IsLim (fun k => solsticeref16_Param.l0 k x1 x6 x238000 x238001 x238002) (solsticeref16_Param.L0 x1 x6 x238000 x238001 x238002) := ⟨fun k => (solsticeref16_Param.mono_l k) x1 x6 x238000 x238001 x238002, rfl⟩
theorem solsticeref16_Param.isF (a0_0 : ByteArray) (l0_1 : List (S54)) (a0_2 : ByteArray) (a1 : ByteArray) : IsLim (fun k => solsticeref16_Param.f k a0_0 l0_1 a0_2 a1) (solsticeref16_Param.F a0_0 l0_1 a0_2 a1) := ⟨fun k => solsticeref16_Param.mono a0_0 l0_1 a0_2 a1 k, rfl⟩
theorem solsticeref16_Param.L0_eq (x1 : ByteArray) (x6 : Int) (x238000 : ByteArray) (x238001 : List (S54)) (x238002 : ByteArray) : solsticeref16_Param.L0 x1 x6 x238000 x238001 x238002 = if x6 < (x238001.length : Int) then (if 0 ≤ x6 then ((solsticeref16_Alike.F ((rd_T54 x238001 x6).f0) x1).bind fun t239 => (if t239 = true then (some ((rd_T54 x238001 x6).f1, true)) else (solsticeref16_Param.L0 x1 (wrap64 (x6 + 1)) x238000 x238001 x238002))) else (none)) else (some (([] : List ByteArray), false)) := by
 apply IsLim.step (solsticeref16_Param.isL0 x1 x6 x238000 x238001 x238002).mono
 case hf =>
  repeat'
   try intro _
   first
   | (with_reducible exact solsticeref16_Alike.isF _ _)
   | (with_reducible exact solsticeref16_Param.isL0 _ _ _ _ _)
   | (with_reducible apply IsLim.ite)
   | (with_reducible apply IsLim.bind)
   | (apply IsLim.cst; intro _; exact rfl)
 case h => intro k; rw [solsticeref16_Param.l0]
theorem solsticeref16_Param.F_eq (a0_0 : ByteArray) (l0_1 : List (S54)) (a0_2 : ByteArray) (a1 : ByteArray) : solsticeref16_Param.F a0_0 l0_1 a0_2 a1 = solsticeref16_Param.L0 a1 0 a0_0 l0_1 a0_2 := by
 apply IsLim.via
 case hf =>
  repeat'
   try intro _
   first
   | (with_reducible exact solsticeref16_Param.isL0 _ _ _ _ _)
   | (with_reducible apply IsLim.ite)
   | (with_reducible apply IsLim.bind)
   | (apply IsLim.cst; intro _; exact rfl)
 case h => exact fun _ => rfl
noncomputable def solsticekeep_Line.J0 (x26 : Bool) (x242000 : ByteArray) (x242001 : List (S54)) (x242002 : ByteArray) (x243000 : ByteArray) (x243001 : List (S54)) (x243002 : ByteArray) : Option (Bool) := lim fun k => solsticekeep_Line.j0 k x26 x242000 x242001 x242002 x243000 x243001 x243002
noncomputable def solsticekeep_Line.L0 (x5 : Int) (x242000 : ByteArray) (x242001 : List (S54)) (x242002 : ByteArray) (x243000 : ByteArray) (x243001 : List (S54)) (x243002 : ByteArray) : Option (Bool) := lim fun k => solsticekeep_Line.l0 k x5 x242000 x242001 x242002 x243000 x243001 x243002
noncomputable def solsticekeep_Line.F (a0_0 : ByteArray) (l0_1 : List (S54)) (a0_2 : ByteArray) (a1_0 : ByteArray) (l1_1 : List (S54)) (a1_2 : ByteArray) : Option (Bool) := lim fun k => solsticekeep_Line.f k a0_0 l0_1 a0_2 a1_0 l1_1 a1_2
theorem solsticekeep_Line.isJ0 (x26 : Bool) (x242000 : ByteArray) (x242001 : List (S54)) (x242002 : ByteArray) (x243000 : ByteArray) (x243001 : List (S54)) (x243002 : ByteArray) : IsLim (fun k => solsticekeep_Line.j0 k x26 x242000 x242001 x242002 x243000 x243001 x243002) (solsticekeep_Line.J0 x26 x242000 x242001 x242002 x243000 x243001 x243002) := ⟨fun k => (solsticekeep_Line.mono_l k).1 x26 x242000 x242001 x242002 x243000 x243001 x243002, rfl⟩
theorem solsticekeep_Line.isL0 (x5 : Int) (x242000 : ByteArray) (x242001 : List (S54)) (x242002 : ByteArray) (x243000 : ByteArray) (x243001 : List (S54)) (x243002 : ByteArray) : IsLim (fun k => solsticekeep_Line.l0 k x5 x242000 x242001 x242002 x243000 x243001 x243002) (solsticekeep_Line.L0 x5 x242000 x242001 x242002 x243000 x243001 x243002) := ⟨fun k => (solsticekeep_Line.mono_l k).2 x5 x242000 x242001 x242002 x243000 x243001 x243002, rfl⟩
theorem solsticekeep_Line.isF (a0_0 : ByteArray) (l0_1 : List (S54)) (a0_2 : ByteArray) (a1_0 : ByteArray) (l1_1 : List (S54)) (a1_2 : ByteArray) : IsLim (fun k => solsticekeep_Line.f k a0_0 l0_1 a0_2 a1_0 l1_1 a1_2) (solsticekeep_Line.F a0_0 l0_1 a0_2 a1_0 l1_1 a1_2) := ⟨fun k => solsticekeep_Line.mono a0_0 l0_1 a0_2 a1_0 l1_1 a1_2 k, rfl⟩
theorem solsticekeep_Line.J0_eq (x26 : Bool) (x242000 : ByteArray) (x242001 : List (S54)) (x242002 : ByteArray) (x243000 : ByteArray) (x243001 : List (S54)) (x243002 : ByteArray) : solsticekeep_Line.J0 x26 x242000 x242001 x242002 x243000 x243001 x243002 = if x26 = true then (some false) else (solsticekeep_Line.L0 0 x242000 x242001 x242002 x243000 x243001 x243002) := by
 apply IsLim.step (solsticekeep_Line.isJ0 x26 x242000 x242001 x242002 x243000 x243001 x243002).mono
 case hf =>
  repeat'
   try intro _
   first
   | (with_reducible exact solsticekeep_Line.isL0 _ _ _ _ _ _ _)
   | (with_reducible apply IsLim.ite)
   | (with_reducible apply IsLim.bind)
   | (apply IsLim.cst; intro _; exact rfl)
 case h => intro k; rw [solsticekeep_Line.j0]
theorem solsticekeep_Line.L0_eq (x5 : Int) (x242000 : ByteArray) (x242001 : List (S54)) (x242002 : ByteArray) (x243000 : ByteArray) (x243001 : List (S54)) (x243002 : ByteArray) : solsticekeep_Line.L0 x5 x242000 x242001 x242002 x243000 x243001 x243002 = if x5 < (x242001.length : Int) then (if 0 ≤ x5 then (if x5 < (x243001.length : Int) then (if ((rd_T54 x242001 x5).f0).toList = ((rd_T54 x243001 x5).f0).toList then ((solsticekeep_Texts.F ((rd_T54 x242001 x5).f1) ((rd_T54 x243001 x5).f1)).bind fun t247 => (if t247 = true then (solsticekeep_Line.L0 (wrap64 (x5 + 1)) x242000 x242001 x242002 x243000 x243001 x243002) else (some false))) else (some false)) else (none)) else (none)) else (some true) := by
 apply IsLim.step (solsticekeep_Line.isL0 x5 x242000 x242001 x242002 x243000 x243001 x243002).mono
 case hf =>
  repeat'
   try intro _
   first
   | (with_reducible exact solsticekeep_Line.isL0 _ _ _ _ _ _ _)
   | (with_reducible exact solsticekeep_Texts.isF _ _)
   | (with_reducible apply IsLim.ite)
   | (with_reducible apply IsLim.bind)
   | (apply IsLim.cst; intro _; exact rfl)
 case h => intro k; rw [solsticekeep_Line.l0]
theorem solsticekeep_Line.F_eq (a0_0 : ByteArray) (l0_1 : List (S54)) (a0_2 : ByteArray) (a1_0 : ByteArray) (l1_1 : List (S54)) (a1_2 : ByteArray) : solsticekeep_Line.F a0_0 l0_1 a0_2 a1_0 l1_1 a1_2 = if a0_0.toList = a1_0.toList then (if a0_2.toList = a1_2.toList then (solsticekeep_Line.J0 ((l0_1.length : Int) != (l1_1.length : Int)) a0_0 l0_1 a0_2 a1_0 l1_1 a1_2) else (solsticekeep_Line.J0 true a0_0 l0_1 a0_2 a1_0 l1_1 a1_2)) else (solsticekeep_Line.J0 true a0_0 l0_1 a0_2 a1_0 l1_1 a1_2) := by
 apply IsLim.via
 case hf =>
  repeat'
   try intro _
   first
   | (with_reducible exact solsticekeep_Line.isJ0 _ _ _ _ _ _ _)
   | (with_reducible apply IsLim.ite)
   | (with_reducible apply IsLim.bind)
   | (apply IsLim.cst; intro _; exact rfl)
 case h => exact fun _ => rfl
end Go.Proofs.Ytookjnpmbenheaa.PLin

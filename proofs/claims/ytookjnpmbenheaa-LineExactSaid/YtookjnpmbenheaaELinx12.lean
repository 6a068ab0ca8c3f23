-- A text of the kit's tools for this claim, its remarks left out.
import Derived.Test.YtookjnpmbenheaaBase
import Derived.Test.YtookjnpmbenheaaPLinx12
import Derived.Test.YtookjnpmbenheaaELinx1
import Derived.Test.YtookjnpmbenheaaELinx4
import Derived.Test.YtookjnpmbenheaaELinx5
import Derived.Test.YtookjnpmbenheaaELinx6
import Derived.Test.YtookjnpmbenheaaELinx7
namespace Go.Proofs.Ytookjnpmbenheaa.PLin
open Go.RowKit Go.Proofs.YtookjnpmbenheaaW.PrintWords Go.Proofs.YtookjnpmbenheaaW.PrintLast Go.Proofs.Ytookjnpmbenheaa.Base
set_option linter.unusedVariables false
noncomputable def solsticelaw18_wakes.F  : Option (Bool) := lim fun k => solsticelaw18_wakes.f k
theorem solsticelaw18_wakes.isF  : IsLim (fun k => solsticelaw18_wakes.f k) (solsticelaw18_wakes.F ) := ⟨fun k => solsticelaw18_wakes.mono k, rfl⟩
theorem solsticelaw18_wakes.F_eq  : solsticelaw18_wakes.F  = (line_Parse.F (⟨#[82, 68, 65, 84, 69, 59, 84, 90, 73, 68, 61, 34, 97, 58, 98, 34, 44, 99, 58, 120, 58, 121]⟩ : ByteArray)).bind fun bt248 => ((line_Text.F bt248.1 bt248.2.1 bt248.2.2.1).bind fun bt255 => ((line_Param.F bt248.1 bt248.2.1 bt248.2.2.1 (⟨#[116, 122, 105, 100]⟩ : ByteArray)).bind fun bt257 => ((line_Parse.F (⟨#[82, 68, 65, 84, 69]⟩ : ByteArray)).bind fun bt261 => (if bt248.2.2.2 = 0 then (if bt248.1.toList = ([82, 68, 65, 84, 69] : List UInt8) then (if bt248.2.2.1.toList = ([120, 58, 121] : List UInt8) then (if bt255.2 = 0 then (if bt255.1.toList = ([82, 68, 65, 84, 69, 59, 84, 90, 73, 68, 61, 34, 97, 58, 98, 34, 44, 99, 58, 120, 58, 121] : List UInt8) then (if bt257.2 = true then ((solsticekeep_Texts.F bt257.1 (([(⟨#[97, 58, 98]⟩ : ByteArray), (⟨#[99]⟩ : ByteArray)] : List ByteArray))).bind fun t271 => (if t271 = true then (if bt261.2.2.2 = 18 then ((line_Check.F (⟨#[]⟩ : ByteArray) ([] : List (S54)) (⟨#[]⟩ : ByteArray)).bind fun t272 => (some (t272 == 18))) else (some false)) else (some false))) else (some false)) else (some false)) else (some false)) else (some false)) else (some false)) else (some false))))) := by
 apply IsLim.via
 case hf =>
  repeat'
   try intro _
   first
   | (with_reducible exact line_Check.isF _ _ _)
   | (with_reducible exact line_Param.isF _ _ _ _)
   | (with_reducible exact line_Parse.isF _)
   | (with_reducible exact line_Text.isF _ _ _)
   | (with_reducible exact solsticekeep_Texts.isF _ _)
   | (with_reducible apply IsLim.ite)
   | (with_reducible apply IsLim.bind)
   | (apply IsLim.cst; intro _; exact rfl)
 case h => exact fun _ => rfl
noncomputable def solsticeref16_LineText.L0 (x3 : ByteArray) (x4 : Int) (x274000 : ByteArray) (x274001 : List (S54)) (x274002 : ByteArray) : Option (ByteArray) := lim fun k => solsticeref16_LineText.l0 k x3 x4 x274000 x274001 x274002
noncomputable def solsticeref16_LineText.L1 (x3 : ByteArray) (x4 : Int) (x5 : Int) (x274000 : ByteArray) (x274001 : List (S54)) (x274002 : ByteArray) : Option (ByteArray) := lim fun k => solsticeref16_LineText.l1 k x3 x4 x5 x274000 x274001 x274002
noncomputable def solsticeref16_LineText.J2 (x3 : ByteArray) (x4 : Int) (x5 : Int) (x6 : ByteArray) (x274000 : ByteArray) (x274001 : List (S54)) (x274002 : ByteArray) : Option (ByteArray) := lim fun k => solsticeref16_LineText.j2 k x3 x4 x5 x6 x274000 x274001 x274002
noncomputable def solsticeref16_LineText.L2 (x3 : ByteArray) (x4 : Int) (x5 : Int) (x6 : ByteArray) (x7 : Bool) (x8 : Int) (x274000 : ByteArray) (x274001 : List (S54)) (x274002 : ByteArray) : Option (ByteArray) := lim fun k => solsticeref16_LineText.l2 k x3 x4 x5 x6 x7 x8 x274000 x274001 x274002
noncomputable def solsticeref16_LineText.F (a0_0 : ByteArray) (l0_1 : List (S54)) (a0_2 : ByteArray) : Option (ByteArray) := lim fun k => solsticeref16_LineText.f k a0_0 l0_1 a0_2
theorem solsticeref16_LineText.isL0 (x3 : ByteArray) (x4 : Int) (x274000 : ByteArray) (x274001 : List (S54)) (x274002 : ByteArray) : IsLim (fun k => solsticeref16_LineText.l0 k x3 x4 x274000 x274001 x274002) (solsticeref16_LineText.L0 x3 x4 x274000 x274001 x274002) := ⟨fun k => (solsticeref16_LineText.mono_l k).1 x3 x4 x274000 x274001 x274002, rfl⟩
theorem solsticeref16_LineText.isL1 (x3 : ByteArray) (x4 : Int) (x5 : Int) (x274000 : ByteArray) (x274001 : List (S54)) (x274002 : ByteArray) : IsLim (fun k => solsticeref16_LineText.l1 k x3 x4 x5 x274000 x274001 x274002) (solsticeref16_LineText.L1 x3 x4 x5 x274000 x274001 x274002) := ⟨fun k => (solsticeref16_LineText.mono_l k).2.1 x3 x4 x5 x274000 x274001 x274002, rfl⟩
theorem solsticeref16_LineText.isJ2 (x3 : ByteArray) (x4 : Int) (x5 : Int) (x6 : ByteArray) (x274000 : ByteArray) (x274001 : List (S54)) (x274002 : ByteArray) : IsLim (fun k => solsticeref16_LineText.j2 k x3 x4 x5 x6 x274000 x274001 x274002) (solsticeref16_LineText.J2 x3 x4 x5 x6 x274000 x274001 x274002) := ⟨fun k => (solsticeref16_LineText.mono_l k).2.2.1 x3 x4 x5 x6 x274000 x274001 x274002, rfl⟩
theorem solsticeref16_LineText.isL2 (x3 : ByteArray) (x4 : Int) (x5 : Int) (x6 : ByteArray) (x7 : Bool) (x8 : Int) (x274000 : ByteArray) (x274001 : List (S54)) (x274002 : ByteArray) : IsLim (fun k => solsticeref16_LineText.l2 k x3 x4 x5 x6 x7 x8 x274000 x274001 x274002) (solsticeref16_LineText.L2 x3 x4 x5 x6 x7 x8 x274000 x274001 x274002) := ⟨fun k => (solsticeref16_LineText.mono_l k).2.2.2 x3 x4 x5 x6 x7 x8 x274000 x274001 x274002, rfl⟩
theorem solsticeref16_LineText.isF (a0_0 : ByteArray) (l0_1 : List (S54)) (a0_2 : ByteArray) : IsLim (fun k => solsticeref16_LineText.f k a0_0 l0_1 a0_2) (solsticeref16_LineText.F a0_0 l0_1 a0_2) := ⟨fun k => solsticeref16_LineText.mono a0_0 l0_1 a0_2 k, rfl⟩
theorem solsticeref16_LineText.L0_eq (x3 : ByteArray) (x4 : Int) (x274000 : ByteArray) (x274001 : List (S54)) (x274002 : ByteArray) : solsticeref16_LineText.L0 x3 x4 x274000 x274001 x274002 = if x4 < (x274001.length : Int) then (if x3.size + 1 ≤ 9223372036854775807 then (if 0 ≤ x4 then (if (x3 ++ (⟨#[59]⟩ : ByteArray)).size + ((rd_T54 x274001 x4).f0).size ≤ 9223372036854775807 then (if ((x3 ++ (⟨#[59]⟩ : ByteArray)) ++ ((rd_T54 x274001 x4).f0)).size + 1 ≤ 9223372036854775807 then (solsticeref16_LineText.L1 (((x3 ++ (⟨#[59]⟩ : ByteArray)) ++ ((rd_T54 x274001 x4).f0)) ++ (⟨#[61]⟩ : ByteArray)) x4 0 x274000 x274001 x274002) else (none)) else (none)) else (none)) else (none)) else (if x3.size + 1 ≤ 9223372036854775807 then (if (x3 ++ (⟨#[58]⟩ : ByteArray)).size + x274002.size ≤ 9223372036854775807 then (some ((x3 ++ (⟨#[58]⟩ : ByteArray)) ++ x274002)) else (none)) else (none)) := by
 apply IsLim.step (solsticeref16_LineText.isL0 x3 x4 x274000 x274001 x274002).mono
 case hf =>
  repeat'
   try intro _
   first
   | (with_reducible exact solsticeref16_LineText.isL1 _ _ _ _ _ _)
   | (with_reducible apply IsLim.ite)
   | (with_reducible apply IsLim.bind)
   | (apply IsLim.cst; intro _; exact rfl)
 case h => intro k; rw [solsticeref16_LineText.l0]
theorem solsticeref16_LineText.L1_eq (x3 : ByteArray) (x4 : Int) (x5 : Int) (x274000 : ByteArray) (x274001 : List (S54)) (x274002 : ByteArray) : solsticeref16_LineText.L1 x3 x4 x5 x274000 x274001 x274002 = if 0 ≤ x4 then (if x4 < (x274001.length : Int) then (if x5 < (((rd_T54 x274001 x4).f1).length : Int) then (if 0 ≤ x5 then (if x5 > 0 then (if x3.size + 1 ≤ 9223372036854775807 then (solsticeref16_LineText.J2 (x3 ++ (⟨#[44]⟩ : ByteArray)) x4 x5 (rdOf ByteArray.empty ((rd_T54 x274001 x4).f1) x5) x274000 x274001 x274002) else (none)) else (solsticeref16_LineText.J2 x3 x4 x5 (rdOf ByteArray.empty ((rd_T54 x274001 x4).f1) x5) x274000 x274001 x274002)) else (none)) else (solsticeref16_LineText.L0 x3 (wrap64 (x4 + 1)) x274000 x274001 x274002)) else (none)) else (none) := by
 apply IsLim.step (solsticeref16_LineText.isL1 x3 x4 x5 x274000 x274001 x274002).mono
 case hf =>
  repeat'
   try intro _
   first
   | (with_reducible exact solsticeref16_LineText.isJ2 _ _ _ _ _ _ _)
   | (with_reducible exact solsticeref16_LineText.isL0 _ _ _ _ _)
   | (with_reducible apply IsLim.ite)
   | (with_reducible apply IsLim.bind)
   | (apply IsLim.cst; intro _; exact rfl)
 case h => intro k; rw [solsticeref16_LineText.l1]
theorem solsticeref16_LineText.J2_eq (x3 : ByteArray) (x4 : Int) (x5 : Int) (x6 : ByteArray) (x274000 : ByteArray) (x274001 : List (S54)) (x274002 : ByteArray) : solsticeref16_LineText.J2 x3 x4 x5 x6 x274000 x274001 x274002 = solsticeref16_LineText.L2 x3 x4 x5 x6 false 0 x274000 x274001 x274002 := by
 apply IsLim.step (solsticeref16_LineText.isJ2 x3 x4 x5 x6 x274000 x274001 x274002).mono
 case hf =>
  repeat'
   try intro _
   first
   | (with_reducible exact solsticeref16_LineText.isL2 _ _ _ _ _ _ _ _ _)
   | (with_reducible apply IsLim.ite)
   | (with_reducible apply IsLim.bind)
   | (apply IsLim.cst; intro _; exact rfl)
 case h => intro k; rw [solsticeref16_LineText.j2]
theorem solsticeref16_LineText.L2_eq (x3 : ByteArray) (x4 : Int) (x5 : Int) (x6 : ByteArray) (x7 : Bool) (x8 : Int) (x274000 : ByteArray) (x274001 : List (S54)) (x274002 : ByteArray) : solsticeref16_LineText.L2 x3 x4 x5 x6 x7 x8 x274000 x274001 x274002 = if x8 < (x6.size : Int) then (if x7 = true then (solsticeref16_LineText.L2 x3 x4 x5 x6 true (wrap64 (x8 + 1)) x274000 x274001 x274002) else (if 0 ≤ x8 then (if (bt x6 x8) = 58 then (solsticeref16_LineText.L2 x3 x4 x5 x6 true (wrap64 (x8 + 1)) x274000 x274001 x274002) else (if (bt x6 x8) = 59 then (solsticeref16_LineText.L2 x3 x4 x5 x6 true (wrap64 (x8 + 1)) x274000 x274001 x274002) else (solsticeref16_LineText.L2 x3 x4 x5 x6 ((bt x6 x8) == 44) (wrap64 (x8 + 1)) x274000 x274001 x274002))) else (none))) else (if x7 = true then (if 1 + x6.size ≤ 9223372036854775807 then (if ((⟨#[34]⟩ : ByteArray) ++ x6).size + 1 ≤ 9223372036854775807 then (if x3.size + (((⟨#[34]⟩ : ByteArray) ++ x6) ++ (⟨#[34]⟩ : ByteArray)).size ≤ 9223372036854775807 then (solsticeref16_LineText.L1 (x3 ++ (((⟨#[34]⟩ : ByteArray) ++ x6) ++ (⟨#[34]⟩ : ByteArray))) x4 (wrap64 (x5 + 1)) x274000 x274001 x274002) else (none)) else (none)) else (none)) else (if x3.size + x6.size ≤ 9223372036854775807 then (solsticeref16_LineText.L1 (x3 ++ x6) x4 (wrap64 (x5 + 1)) x274000 x274001 x274002) else (none))) := by
 apply IsLim.step (solsticeref16_LineText.isL2 x3 x4 x5 x6 x7 x8 x274000 x274001 x274002).mono
 case hf =>
  repeat'
   try intro _
   first
   | (with_reducible exact solsticeref16_LineText.isL1 _ _ _ _ _ _)
   | (with_reducible exact solsticeref16_LineText.isL2 _ _ _ _ _ _ _ _ _)
   | (with_reducible apply IsLim.ite)
   | (with_reducible apply IsLim.bind)
   | (apply IsLim.cst; intro _; exact rfl)
 case h => intro k; rw [solsticeref16_LineText.l2]
theorem solsticeref16_LineText.F_eq (a0_0 : ByteArray) (l0_1 : List (S54)) (a0_2 : ByteArray) : solsticeref16_LineText.F a0_0 l0_1 a0_2 = solsticeref16_LineText.L0 a0_0 0 a0_0 l0_1 a0_2 := by
 apply IsLim.via
 case hf =>
  repeat'
   try intro _
   first
   | (with_reducible exact solsticeref16_LineText.isL0 _ _ _ _ _)
   | (with_reducible apply IsLim.ite)
   | (with_reducible apply IsLim.bind)
   | (apply IsLim.cst; intro _; exact rfl)
 case h => exact fun _ => rfl
end Go.Proofs.Ytookjnpmbenheaa.PLin

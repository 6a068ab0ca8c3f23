-- A text of the kit's tools for this claim, its remarks left out.
import Derived.Test.YtookjnpmbenheaaBase
import Derived.Test.YtookjnpmbenheaaPLinx13
import Derived.Test.YtookjnpmbenheaaELinx1
import Derived.Test.YtookjnpmbenheaaELinx2
import Derived.Test.YtookjnpmbenheaaELinx4
import Derived.Test.YtookjnpmbenheaaELinx5
import Derived.Test.YtookjnpmbenheaaELinx6
import Derived.Test.YtookjnpmbenheaaELinx7
import Derived.Test.YtookjnpmbenheaaELinx9
import Derived.Test.YtookjnpmbenheaaELinx10
import Derived.Test.YtookjnpmbenheaaELinx11
import Derived.Test.YtookjnpmbenheaaELinx12
namespace Go.Proofs.Ytookjnpmbenheaa.PLin
open Go.RowKit Go.Proofs.YtookjnpmbenheaaW.PrintWords Go.Proofs.YtookjnpmbenheaaW.PrintLast Go.Proofs.Ytookjnpmbenheaa.Base
set_option linter.unusedVariables false
noncomputable def solsticelaw18_LineExact.J0 (x1 : ByteArray) (x2 : ByteArray) (x30 : Bool) (x279000 : ByteArray) (x279001 : List (S54)) (x279002 : ByteArray) : Option (Bool) := lim fun k => solsticelaw18_LineExact.j0 k x1 x2 x30 x279000 x279001 x279002
noncomputable def solsticelaw18_LineExact.J1 (x8 : ByteArray) (x9 : Int) (x12 : List ByteArray) (x88 : Bool) (x279000 : ByteArray) (x279001 : List (S54)) (x279002 : ByteArray) (x286000 : ByteArray) (x286001 : List (S54)) (x286002 : ByteArray) : Option (Bool) := lim fun k => solsticelaw18_LineExact.j1 k x8 x9 x12 x88 x279000 x279001 x279002 x286000 x286001 x286002
noncomputable def solsticelaw18_LineExact.L0 (x8 : ByteArray) (x9 : Int) (x12 : List ByteArray) (x18 : Int) (x279000 : ByteArray) (x279001 : List (S54)) (x279002 : ByteArray) (x286000 : ByteArray) (x286001 : List (S54)) (x286002 : ByteArray) : Option (Bool) := lim fun k => solsticelaw18_LineExact.l0 k x8 x9 x12 x18 x279000 x279001 x279002 x286000 x286001 x286002
noncomputable def solsticelaw18_LineExact.F (a0_0 : ByteArray) (l0_1 : List (S54)) (a0_2 : ByteArray) (a1 : ByteArray) (a2 : ByteArray) : Option (Bool) := lim fun k => solsticelaw18_LineExact.f k a0_0 l0_1 a0_2 a1 a2
theorem solsticelaw18_LineExact.isJ0 (x1 : ByteArray) (x2 : ByteArray) (x30 : Bool) (x279000 : ByteArray) (x279001 : List (S54)) (x279002 : ByteArray) : IsLim (fun k => solsticelaw18_LineExact.j0 k x1 x2 x30 x279000 x279001 x279002) (solsticelaw18_LineExact.J0 x1 x2 x30 x279000 x279001 x279002) := ⟨fun k => (solsticelaw18_LineExact.mono_l k).1 x1 x2 x30 x279000 x279001 x279002, rfl⟩
theorem solsticelaw18_LineExact.isJ1 (x8 : ByteArray) (x9 : Int) (x12 : List ByteArray) (x88 : Bool) (x279000 : ByteArray) (x279001 : List (S54)) (x279002 : ByteArray) (x286000 : ByteArray) (x286001 : List (S54)) (x286002 : ByteArray) : IsLim (fun k => solsticelaw18_LineExact.j1 k x8 x9 x12 x88 x279000 x279001 x279002 x286000 x286001 x286002) (solsticelaw18_LineExact.J1 x8 x9 x12 x88 x279000 x279001 x279002 x286000 x286001 x286002) := ⟨fun k => (solsticelaw18_LineExact.mono_l k).2.1 x8 x9 x12 x88 x279000 x279001 x279002 x286000 x286001 x286002, rfl⟩
theorem solsticelaw18_LineExact.isL0 (x8 : ByteArray) (x9 : Int) (x12 : List ByteArray) (x18 : Int) (x279000 : ByteArray) (x279001 : List (S54)) (x279002 : ByteArray) (x286000 : ByteArray) (x286001 : List (S54)) (x286002 : ByteArray) : IsLim (fun k => solsticelaw18_LineExact.l0 k x8 x9 x12 x18 x279000 x279001 x279002 x286000 x286001 x286002) (solsticelaw18_LineExact.L0 x8 x9 x12 x18 x279000 x279001 x279002 x286000 x286001 x286002) := ⟨fun k => (solsticelaw18_LineExact.mono_l k).2.2 x8 x9 x12 x18 x279000 x279001 x279002 x286000 x286001 x286002, rfl⟩
theorem solsticelaw18_LineExact.isF (a0_0 : ByteArray) (l0_1 : List (S54)) (a0_2 : ByteArray) (a1 : ByteArray) (a2 : ByteArray) : IsLim (fun k => solsticelaw18_LineExact.f k a0_0 l0_1 a0_2 a1 a2) (solsticelaw18_LineExact.F a0_0 l0_1 a0_2 a1 a2) := ⟨fun k => solsticelaw18_LineExact.mono a0_0 l0_1 a0_2 a1 a2 k, rfl⟩
theorem solsticelaw18_LineExact.J0_eq (x1 : ByteArray) (x2 : ByteArray) (x30 : Bool) (x279000 : ByteArray) (x279001 : List (S54)) (x279002 : ByteArray) : solsticelaw18_LineExact.J0 x1 x2 x30 x279000 x279001 x279002 = if x30 = true then (some true) else ((solsticekeep_TwinLine.F x279000 x279001 x279002).bind fun bt280 => ((line_Text.F bt280.1 bt280.2.1 bt280.2.2).bind fun bt286 => ((line_Parse.F x1).bind fun bt288 => ((line_Param.F bt280.1 bt280.2.1 bt280.2.2 x2).bind fun bt295 => ((solsticeref16_ParseLine.F x1).bind fun bt299 => ((solsticeref16_Param.F x279000 x279001 x279002 x2).bind fun bt306 => ((solsticekeep_Line.F bt288.1 bt288.2.1 bt288.2.2.1 bt299.1 bt299.2.1 bt299.2.2.1).bind fun t310 => (if t310 = true then (if (bt299.2.2.2 != (bt288.2.2.2 == 0)) = true then (solsticelaw18_LineExact.J1 bt286.1 bt286.2 bt295.1 true x279000 x279001 x279002 bt280.1 bt280.2.1 bt280.2.2) else (if bt299.2.2.2 = true then (if (bt295.2 != bt306.2) = true then (solsticelaw18_LineExact.J1 bt286.1 bt286.2 bt295.1 true x279000 x279001 x279002 bt280.1 bt280.2.1 bt280.2.2) else ((solsticekeep_Texts.F bt295.1 bt306.1).bind fun t311 => (solsticelaw18_LineExact.J1 bt286.1 bt286.2 bt295.1 (!t311) x279000 x279001 x279002 bt280.1 bt280.2.1 bt280.2.2))) else (if bt288.2.2.2 = 18 then (if (bt295.2 != bt306.2) = true then (solsticelaw18_LineExact.J1 bt286.1 bt286.2 bt295.1 true x279000 x279001 x279002 bt280.1 bt280.2.1 bt280.2.2) else ((solsticekeep_Texts.F bt295.1 bt306.1).bind fun t312 => (solsticelaw18_LineExact.J1 bt286.1 bt286.2 bt295.1 (!t312) x279000 x279001 x279002 bt280.1 bt280.2.1 bt280.2.2))) else (solsticelaw18_LineExact.J1 bt286.1 bt286.2 bt295.1 true x279000 x279001 x279002 bt280.1 bt280.2.1 bt280.2.2)))) else (solsticelaw18_LineExact.J1 bt286.1 bt286.2 bt295.1 true x279000 x279001 x279002 bt280.1 bt280.2.1 bt280.2.2))))))))) := by
 apply IsLim.step (solsticelaw18_LineExact.isJ0 x1 x2 x30 x279000 x279001 x279002).mono
 case hf =>
  repeat'
   try intro _
   first
   | (with_reducible exact line_Param.isF _ _ _ _)
   | (with_reducible exact line_Parse.isF _)
   | (with_reducible exact line_Text.isF _ _ _)
   | (with_reducible exact solsticekeep_Line.isF _ _ _ _ _ _)
   | (with_reducible exact solsticekeep_Texts.isF _ _)
   | (with_reducible exact solsticekeep_TwinLine.isF _ _ _)
   | (with_reducible exact solsticelaw18_LineExact.isJ1 _ _ _ _ _ _ _ _ _ _)
   | (with_reducible exact solsticeref16_Param.isF _ _ _ _)
   | (with_reducible exact solsticeref16_ParseLine.isF _)
   | (with_reducible apply IsLim.ite)
   | (with_reducible apply IsLim.bind)
   | (apply IsLim.cst; intro _; exact rfl)
 case h => intro k; rw [solsticelaw18_LineExact.j0]
theorem solsticelaw18_LineExact.J1_eq (x8 : ByteArray) (x9 : Int) (x12 : List ByteArray) (x88 : Bool) (x279000 : ByteArray) (x279001 : List (S54)) (x279002 : ByteArray) (x286000 : ByteArray) (x286001 : List (S54)) (x286002 : ByteArray) : solsticelaw18_LineExact.J1 x8 x9 x12 x88 x279000 x279001 x279002 x286000 x286001 x286002 = if x88 = true then (some false) else (solsticelaw18_LineExact.L0 x8 x9 x12 0 x279000 x279001 x279002 x286000 x286001 x286002) := by
 apply IsLim.step (solsticelaw18_LineExact.isJ1 x8 x9 x12 x88 x279000 x279001 x279002 x286000 x286001 x286002).mono
 case hf =>
  repeat'
   try intro _
   first
   | (with_reducible exact solsticelaw18_LineExact.isL0 _ _ _ _ _ _ _ _ _ _)
   | (with_reducible apply IsLim.ite)
   | (with_reducible apply IsLim.bind)
   | (apply IsLim.cst; intro _; exact rfl)
 case h => intro k; rw [solsticelaw18_LineExact.j1]
theorem solsticelaw18_LineExact.L0_eq (x8 : ByteArray) (x9 : Int) (x12 : List ByteArray) (x18 : Int) (x279000 : ByteArray) (x279001 : List (S54)) (x279002 : ByteArray) (x286000 : ByteArray) (x286001 : List (S54)) (x286002 : ByteArray) : solsticelaw18_LineExact.L0 x8 x9 x12 x18 x279000 x279001 x279002 x286000 x286001 x286002 = if x18 < (x12.length : Int) then (if 0 ≤ x18 then (solsticelaw18_LineExact.L0 x8 x9 (x12.set (x18 : Int).toNat (⟨#[111, 116, 104, 101, 114]⟩ : ByteArray)) (wrap64 (x18 + 1)) x279000 x279001 x279002 x286000 x286001 x286002) else (none)) else ((solsticekeep_Line.F x286000 x286001 x286002 x279000 x279001 x279002).bind fun t314 => (if t314 = true then ((solsticeref16_Line.F x279000 x279001 x279002).bind fun t315 => (if t315 = true then ((line_Check.F x286000 x286001 x286002).bind fun t316 => (if t316 = 0 then (if x9 = 0 then ((solsticeref16_LineText.F x279000 x279001 x279002).bind fun t317 => (if x8.toList = t317.toList then ((solsticelaw18_wakes.F).bind fun t318 => (some t318)) else (some false))) else (some false)) else (some false))) else ((line_Check.F x286000 x286001 x286002).bind fun t319 => (if t319 = 18 then (if x9 = 18 then (if x8.toList = ([] : List UInt8) then ((solsticelaw18_wakes.F).bind fun t320 => (some t320)) else (some false)) else (some false)) else (some false))))) else (some false))) := by
 apply IsLim.step (solsticelaw18_LineExact.isL0 x8 x9 x12 x18 x279000 x279001 x279002 x286000 x286001 x286002).mono
 case hf =>
  repeat'
   try intro _
   first
   | (with_reducible exact line_Check.isF _ _ _)
   | (with_reducible exact solsticekeep_Line.isF _ _ _ _ _ _)
   | (with_reducible exact solsticelaw18_LineExact.isL0 _ _ _ _ _ _ _ _ _ _)
   | (with_reducible exact solsticelaw18_wakes.isF)
   | (with_reducible exact solsticeref16_Line.isF _ _ _)
   | (with_reducible exact solsticeref16_LineText.isF _ _ _)
   | (with_reducible apply IsLim.ite)
   | (with_reducible apply IsLim.bind)
   | (apply IsLim.cst; intro _; exact rfl)
 case h => intro k; rw [solsticelaw18_LineExact.l0]
theorem solsticelaw18_LineExact.F_eq (a0_0 : ByteArray) (l0_1 : List (S54)) (a0_2 : ByteArray) (a1 : ByteArray) (a2 : ByteArray) : solsticelaw18_LineExact.F a0_0 l0_1 a0_2 a1 a2 = (solsticelaw18_Heavy.F a0_0 l0_1 a0_2).bind fun t279 => (if t279 = true then (solsticelaw18_LineExact.J0 a1 a2 true a0_0 l0_1 a0_2) else (if (a1.size : Int) > 1000 then (solsticelaw18_LineExact.J0 a1 a2 true a0_0 l0_1 a0_2) else (solsticelaw18_LineExact.J0 a1 a2 (decide ((a2.size : Int) > 200)) a0_0 l0_1 a0_2))) := by
 apply IsLim.via
 case hf =>
  repeat'
   try intro _
   first
   | (with_reducible exact solsticelaw18_Heavy.isF _ _ _)
   | (with_reducible exact solsticelaw18_LineExact.isJ0 _ _ _ _ _ _)
   | (with_reducible apply IsLim.ite)
   | (with_reducible apply IsLim.bind)
   | (apply IsLim.cst; intro _; exact rfl)
 case h => exact fun _ => rfl
end Go.Proofs.Ytookjnpmbenheaa.PLin

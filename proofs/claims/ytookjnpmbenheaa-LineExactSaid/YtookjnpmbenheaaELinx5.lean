-- A text of the kit's tools for this claim, its remarks left out.
import Derived.Test.YtookjnpmbenheaaBase
import Derived.Test.YtookjnpmbenheaaPLinx5
import Derived.Test.YtookjnpmbenheaaELinx4
namespace Go.Proofs.Ytookjnpmbenheaa.PLin
open Go.RowKit Go.Proofs.YtookjnpmbenheaaW.PrintWords Go.Proofs.YtookjnpmbenheaaW.PrintLast Go.Proofs.Ytookjnpmbenheaa.Base
set_option linter.unusedVariables false
noncomputable def line_Text.L0 (x5 : ByteArray) (x19 : List (S54)) (x20 : Int) (x21 : Int) (x143000 : ByteArray) (x143001 : List (S54)) (x143002 : ByteArray) : Option (ByteArray × Int) := lim fun k => line_Text.l0 k x5 x19 x20 x21 x143000 x143001 x143002
noncomputable def line_Text.L1 (x5 : ByteArray) (x8 : List ByteArray) (x19 : List (S54)) (x20 : Int) (x21 : Int) (x26 : List ByteArray) (x27 : Int) (x28 : Int) (x143000 : ByteArray) (x143001 : List (S54)) (x143002 : ByteArray) (x146000 : ByteArray) (x146001 : List ByteArray) : Option (ByteArray × Int) := lim fun k => line_Text.l1 k x5 x8 x19 x20 x21 x26 x27 x28 x143000 x143001 x143002 x146000 x146001
noncomputable def line_Text.F (a0_0 : ByteArray) (l0_1 : List (S54)) (a0_2 : ByteArray) : Option (ByteArray × Int) := lim fun k => line_Text.f k a0_0 l0_1 a0_2
theorem line_Text.isL0 (x5 : ByteArray) (x19 : List (S54)) (x20 : Int) (x21 : Int) (x143000 : ByteArray) (x143001 : List (S54)) (x143002 : ByteArray) : IsLim (fun k => line_Text.l0 k x5 x19 x20 x21 x143000 x143001 x143002) (line_Text.L0 x5 x19 x20 x21 x143000 x143001 x143002) := ⟨fun k => (line_Text.mono_l k).1 x5 x19 x20 x21 x143000 x143001 x143002, rfl⟩
theorem line_Text.isL1 (x5 : ByteArray) (x8 : List ByteArray) (x19 : List (S54)) (x20 : Int) (x21 : Int) (x26 : List ByteArray) (x27 : Int) (x28 : Int) (x143000 : ByteArray) (x143001 : List (S54)) (x143002 : ByteArray) (x146000 : ByteArray) (x146001 : List ByteArray) : IsLim (fun k => line_Text.l1 k x5 x8 x19 x20 x21 x26 x27 x28 x143000 x143001 x143002 x146000 x146001) (line_Text.L1 x5 x8 x19 x20 x21 x26 x27 x28 x143000 x143001 x143002 x146000 x146001) := ⟨fun k => (line_Text.mono_l k).2 x5 x8 x19 x20 x21 x26 x27 x28 x143000 x143001 x143002 x146000 x146001, rfl⟩
theorem line_Text.isF (a0_0 : ByteArray) (l0_1 : List (S54)) (a0_2 : ByteArray) : IsLim (fun k => line_Text.f k a0_0 l0_1 a0_2) (line_Text.F a0_0 l0_1 a0_2) := ⟨fun k => line_Text.mono a0_0 l0_1 a0_2 k, rfl⟩
theorem line_Text.L0_eq (x5 : ByteArray) (x19 : List (S54)) (x20 : Int) (x21 : Int) (x143000 : ByteArray) (x143001 : List (S54)) (x143002 : ByteArray) : line_Text.L0 x5 x19 x20 x21 x143000 x143001 x143002 = if x21 < x20 then (if 0 ≤ x21 then (if x21 < (x19.length : Int) then (line_Text.L1 x5 ([] : List ByteArray) x19 x20 x21 ((rd_T54 x19 x21).f1) (((rd_T54 x19 x21).f1).length : Int) 0 x143000 x143001 x143002 ((rd_T54 x19 x21).f0) ((rd_T54 x19 x21).f1)) else (none)) else (none)) else (if x5.size + 1 ≤ 9223372036854775807 then (if (x5 ++ (⟨#[58]⟩ : ByteArray)).size + x143002.size ≤ 9223372036854775807 then (some ((x5 ++ (⟨#[58]⟩ : ByteArray)) ++ x143002, 0)) else (none)) else (none)) := by
 apply IsLim.step (line_Text.isL0 x5 x19 x20 x21 x143000 x143001 x143002).mono
 case hf =>
  repeat'
   try intro _
   first
   | (with_reducible exact line_Text.isL1 _ _ _ _ _ _ _ _ _ _ _ _ _)
   | (with_reducible apply IsLim.ite)
   | (with_reducible apply IsLim.bind)
   | (apply IsLim.cst; intro _; exact rfl)
 case h => intro k; rw [line_Text.l0]
theorem line_Text.L1_eq (x5 : ByteArray) (x8 : List ByteArray) (x19 : List (S54)) (x20 : Int) (x21 : Int) (x26 : List ByteArray) (x27 : Int) (x28 : Int) (x143000 : ByteArray) (x143001 : List (S54)) (x143002 : ByteArray) (x146000 : ByteArray) (x146001 : List ByteArray) : line_Text.L1 x5 x8 x19 x20 x21 x26 x27 x28 x143000 x143001 x143002 x146000 x146001 = if x28 < x27 then (if 0 ≤ x28 then (if x28 < (x26.length : Int) then ((line_until.F (rdOf ByteArray.empty x26 x28) (⟨#[58, 59, 44]⟩ : ByteArray)).bind fun t147 => (if t147 < ((rdOf ByteArray.empty x26 x28).size : Int) then (if 1 + (rdOf ByteArray.empty x26 x28).size ≤ 9223372036854775807 then (if ((⟨#[34]⟩ : ByteArray) ++ (rdOf ByteArray.empty x26 x28)).size + 1 ≤ 9223372036854775807 then (if x8.length < 8796093022208 then (line_Text.L1 x5 (x8 ++ [((⟨#[34]⟩ : ByteArray) ++ (rdOf ByteArray.empty x26 x28)) ++ (⟨#[34]⟩ : ByteArray)]) x19 x20 x21 x26 x27 (wrap64 (x28 + 1)) x143000 x143001 x143002 x146000 x146001) else (none)) else (none)) else (none)) else (if x8.length < 8796093022208 then (line_Text.L1 x5 (x8 ++ [rdOf ByteArray.empty x26 x28]) x19 x20 x21 x26 x27 (wrap64 (x28 + 1)) x143000 x143001 x143002 x146000 x146001) else (none)))) else (none)) else (none)) else (if 1 + x146000.size ≤ 9223372036854775807 then (if ((⟨#[59]⟩ : ByteArray) ++ x146000).size + 1 ≤ 9223372036854775807 then ((strings_Join.f x8 (⟨#[44]⟩ : ByteArray)).bind fun t154 => (if (((⟨#[59]⟩ : ByteArray) ++ x146000) ++ (⟨#[61]⟩ : ByteArray)).size + t154.size ≤ 9223372036854775807 then (if x5.size + ((((⟨#[59]⟩ : ByteArray) ++ x146000) ++ (⟨#[61]⟩ : ByteArray)) ++ t154).size ≤ 9223372036854775807 then (line_Text.L0 (x5 ++ ((((⟨#[59]⟩ : ByteArray) ++ x146000) ++ (⟨#[61]⟩ : ByteArray)) ++ t154)) x19 x20 (wrap64 (x21 + 1)) x143000 x143001 x143002) else (none)) else (none))) else (none)) else (none)) := by
 apply IsLim.step (line_Text.isL1 x5 x8 x19 x20 x21 x26 x27 x28 x143000 x143001 x143002 x146000 x146001).mono
 case hf =>
  repeat'
   try intro _
   first
   | (with_reducible exact line_Text.isL0 _ _ _ _ _ _ _)
   | (with_reducible exact line_Text.isL1 _ _ _ _ _ _ _ _ _ _ _ _ _)
   | (with_reducible exact line_until.isF _ _)
   | (with_reducible apply IsLim.ite)
   | (with_reducible apply IsLim.bind)
   | (apply IsLim.cst; intro _; exact rfl)
 case h => intro k; rw [line_Text.l1]
theorem line_Text.F_eq (a0_0 : ByteArray) (l0_1 : List (S54)) (a0_2 : ByteArray) : line_Text.F a0_0 l0_1 a0_2 = (line_Check.F a0_0 l0_1 a0_2).bind fun t143 => (if t143 = 0 then (line_Text.L0 a0_0 l0_1 (l0_1.length : Int) 0 a0_0 l0_1 a0_2) else (some ((⟨#[]⟩ : ByteArray), t143))) := by
 apply IsLim.via
 case hf =>
  repeat'
   try intro _
   first
   | (with_reducible exact line_Check.isF _ _ _)
   | (with_reducible exact line_Text.isL0 _ _ _ _ _ _ _)
   | (with_reducible apply IsLim.ite)
   | (with_reducible apply IsLim.bind)
   | (apply IsLim.cst; intro _; exact rfl)
 case h => exact fun _ => rfl
noncomputable def line_next.J0 (x0 : ByteArray) (x12 : Bool) : Option (ByteArray × ByteArray × Bool) := lim fun k => line_next.j0 k x0 x12
noncomputable def line_next.F (a0 : ByteArray) : Option (ByteArray × ByteArray × Bool) := lim fun k => line_next.f k a0
theorem line_next.isJ0 (x0 : ByteArray) (x12 : Bool) : IsLim (fun k => line_next.j0 k x0 x12) (line_next.J0 x0 x12) := ⟨fun k => (line_next.mono_l k) x0 x12, rfl⟩
theorem line_next.isF (a0 : ByteArray) : IsLim (fun k => line_next.f k a0) (line_next.F a0) := ⟨fun k => line_next.mono a0 k, rfl⟩
theorem line_next.J0_eq (x0 : ByteArray) (x12 : Bool) : line_next.J0 x0 x12 = if x12 = true then ((line_until.F x0 (⟨#[58, 59, 44, 34]⟩ : ByteArray)).bind fun t160 => (if 0 ≤ t160 then (if t160 ≤ (x0.size : Int) then (some (x0.extract 0 (t160 : Int).toNat, x0.extract (t160 : Int).toNat x0.size, true)) else (none)) else (none))) else (if 1 ≤ (x0.size : Int) then ((strings_Cut.f (x0.extract 1 x0.size) (⟨#[34]⟩ : ByteArray)).bind fun bt161 => (some (bt161.1, bt161.2.1, bt161.2.2))) else (none)) := by
 apply IsLim.step (line_next.isJ0 x0 x12).mono
 case hf =>
  repeat'
   try intro _
   first
   | (with_reducible exact line_until.isF _ _)
   | (with_reducible apply IsLim.ite)
   | (with_reducible apply IsLim.bind)
   | (apply IsLim.cst; intro _; exact rfl)
 case h => intro k; rw [line_next.j0]
theorem line_next.F_eq (a0 : ByteArray) : line_next.F a0 = if a0.toList = ([] : List UInt8) then (line_next.J0 a0 true) else (if 0 < (a0.size : Int) then (line_next.J0 a0 ((bt a0 0) != 34)) else (none)) := by
 apply IsLim.via
 case hf =>
  repeat'
   try intro _
   first
   | (with_reducible exact line_next.isJ0 _ _)
   | (with_reducible apply IsLim.ite)
   | (with_reducible apply IsLim.bind)
   | (apply IsLim.cst; intro _; exact rfl)
 case h => exact fun _ => rfl
end Go.Proofs.Ytookjnpmbenheaa.PLin

/- Printed functions of the family Esc without a bound on their rounds, and the equation that each meets. No condition. -/
import Derived.Test.YtookjnpmbenheaaBase
import Derived.Test.YtookjnpmbenheaaPEscx6
import Derived.Test.YtookjnpmbenheaaEEscx1
import Derived.Test.YtookjnpmbenheaaEEscx2
import Derived.Test.YtookjnpmbenheaaEEscx3
import Derived.Test.YtookjnpmbenheaaEEscx4
import Derived.Test.YtookjnpmbenheaaEEscx5
namespace Go.Proofs.Ytookjnpmbenheaa.PEsc
open Go.RowKit Go.Proofs.YtookjnpmbenheaaW.PrintWords Go.Proofs.YtookjnpmbenheaaW.PrintLast Go.Proofs.Ytookjnpmbenheaa.Base
set_option linter.unusedVariables false
noncomputable def solsticelaw17_EscapeExact.J0 (x0 : ByteArray) (x1 : List ByteArray) (x34 : Bool) : Option (Bool) := lim fun k => solsticelaw17_EscapeExact.j0 k x0 x1 x34
noncomputable def solsticelaw17_EscapeExact.J1 (x0 : ByteArray) (x1 : List ByteArray) (x10 : ByteArray) (x11 : Int) (x12 : List ByteArray) (x13 : Int) (x90 : Bool) : Option (Bool) := lim fun k => solsticelaw17_EscapeExact.j1 k x0 x1 x10 x11 x12 x13 x90
noncomputable def solsticelaw17_EscapeExact.L0 (x0 : ByteArray) (x1 : List ByteArray) (x10 : ByteArray) (x11 : Int) (x12 : List ByteArray) (x13 : Int) (x18 : ByteArray) (x19 : Int) (x20 : Int) : Option (Bool) := lim fun k => solsticelaw17_EscapeExact.l0 k x0 x1 x10 x11 x12 x13 x18 x19 x20
noncomputable def solsticelaw17_EscapeExact.J3 (x0 : ByteArray) (x1 : List ByteArray) (x10 : ByteArray) (x11 : Int) (x12 : List ByteArray) (x13 : Int) (x18 : ByteArray) (x19 : Int) (x20 : Int) (x21 : ByteArray) (x22 : Int) (x110 : Bool) : Option (Bool) := lim fun k => solsticelaw17_EscapeExact.j3 k x0 x1 x10 x11 x12 x13 x18 x19 x20 x21 x22 x110
noncomputable def solsticelaw17_EscapeExact.J4 (x0 : ByteArray) (x10 : ByteArray) (x11 : Int) (x12 : List ByteArray) (x13 : Int) (x18 : ByteArray) (x19 : Int) (x125 : Bool) : Option (Bool) := lim fun k => solsticelaw17_EscapeExact.j4 k x0 x10 x11 x12 x13 x18 x19 x125
noncomputable def solsticelaw17_EscapeExact.J5 (x0 : ByteArray) (x10 : ByteArray) (x11 : Int) (x12 : List ByteArray) (x13 : Int) (x18 : ByteArray) (x19 : Int) : Option (Bool) := lim fun k => solsticelaw17_EscapeExact.j5 k x0 x10 x11 x12 x13 x18 x19
noncomputable def solsticelaw17_EscapeExact.J6 (x0 : ByteArray) (x12 : List ByteArray) (x13 : Int) (x145 : Bool) : Option (Bool) := lim fun k => solsticelaw17_EscapeExact.j6 k x0 x12 x13 x145
noncomputable def solsticelaw17_EscapeExact.L1 (x12 : List ByteArray) (x13 : Int) (x19 : Int) (x23 : List ByteArray) (x24 : List ByteArray) (x25 : Int) : Option (Bool) := lim fun k => solsticelaw17_EscapeExact.l1 k x12 x13 x19 x23 x24 x25
noncomputable def solsticelaw17_EscapeExact.F (a0 : ByteArray) (l1 : List ByteArray) : Option (Bool) := lim fun k => solsticelaw17_EscapeExact.f k a0 l1
theorem solsticelaw17_EscapeExact.isJ0 (x0 : ByteArray) (x1 : List ByteArray) (x34 : Bool) : IsLim (fun k => solsticelaw17_EscapeExact.j0 k x0 x1 x34) (solsticelaw17_EscapeExact.J0 x0 x1 x34) := ⟨fun k => (solsticelaw17_EscapeExact.mono_l k).1 x0 x1 x34, rfl⟩
theorem solsticelaw17_EscapeExact.isJ1 (x0 : ByteArray) (x1 : List ByteArray) (x10 : ByteArray) (x11 : Int) (x12 : List ByteArray) (x13 : Int) (x90 : Bool) : IsLim (fun k => solsticelaw17_EscapeExact.j1 k x0 x1 x10 x11 x12 x13 x90) (solsticelaw17_EscapeExact.J1 x0 x1 x10 x11 x12 x13 x90) := ⟨fun k => (solsticelaw17_EscapeExact.mono_l k).2.1 x0 x1 x10 x11 x12 x13 x90, rfl⟩
theorem solsticelaw17_EscapeExact.isL0 (x0 : ByteArray) (x1 : List ByteArray) (x10 : ByteArray) (x11 : Int) (x12 : List ByteArray) (x13 : Int) (x18 : ByteArray) (x19 : Int) (x20 : Int) : IsLim (fun k => solsticelaw17_EscapeExact.l0 k x0 x1 x10 x11 x12 x13 x18 x19 x20) (solsticelaw17_EscapeExact.L0 x0 x1 x10 x11 x12 x13 x18 x19 x20) := ⟨fun k => (solsticelaw17_EscapeExact.mono_l k).2.2.1 x0 x1 x10 x11 x12 x13 x18 x19 x20, rfl⟩
theorem solsticelaw17_EscapeExact.isJ3 (x0 : ByteArray) (x1 : List ByteArray) (x10 : ByteArray) (x11 : Int) (x12 : List ByteArray) (x13 : Int) (x18 : ByteArray) (x19 : Int) (x20 : Int) (x21 : ByteArray) (x22 : Int) (x110 : Bool) : IsLim (fun k => solsticelaw17_EscapeExact.j3 k x0 x1 x10 x11 x12 x13 x18 x19 x20 x21 x22 x110) (solsticelaw17_EscapeExact.J3 x0 x1 x10 x11 x12 x13 x18 x19 x20 x21 x22 x110) := ⟨fun k => (solsticelaw17_EscapeExact.mono_l k).2.2.2.1 x0 x1 x10 x11 x12 x13 x18 x19 x20 x21 x22 x110, rfl⟩
theorem solsticelaw17_EscapeExact.isJ4 (x0 : ByteArray) (x10 : ByteArray) (x11 : Int) (x12 : List ByteArray) (x13 : Int) (x18 : ByteArray) (x19 : Int) (x125 : Bool) : IsLim (fun k => solsticelaw17_EscapeExact.j4 k x0 x10 x11 x12 x13 x18 x19 x125) (solsticelaw17_EscapeExact.J4 x0 x10 x11 x12 x13 x18 x19 x125) := ⟨fun k => (solsticelaw17_EscapeExact.mono_l k).2.2.2.2.1 x0 x10 x11 x12 x13 x18 x19 x125, rfl⟩
theorem solsticelaw17_EscapeExact.isJ5 (x0 : ByteArray) (x10 : ByteArray) (x11 : Int) (x12 : List ByteArray) (x13 : Int) (x18 : ByteArray) (x19 : Int) : IsLim (fun k => solsticelaw17_EscapeExact.j5 k x0 x10 x11 x12 x13 x18 x19) (solsticelaw17_EscapeExact.J5 x0 x10 x11 x12 x13 x18 x19) := ⟨fun k => (solsticelaw17_EscapeExact.mono_l k).2.2.2.2.2.1 x0 x10 x11 x12 x13 x18 x19, rfl⟩
theorem solsticelaw17_EscapeExact.isJ6 (x0 : ByteArray) (x12 : List ByteArray) (x13 : Int) (x145 : Bool) : IsLim (fun k => solsticelaw17_EscapeExact.j6 k x0 x12 x13 x145) (solsticelaw17_EscapeExact.J6 x0 x12 x13 x145) := ⟨fun k => (solsticelaw17_EscapeExact.mono_l k).2.2.2.2.2.2.1 x0 x12 x13 x145, rfl⟩
theorem solsticelaw17_EscapeExact.isL1 (x12 : List ByteArray) (x13 : Int) (x19 : Int) (x23 : List ByteArray) (x24 : List ByteArray) (x25 : Int) : IsLim (fun k => solsticelaw17_EscapeExact.l1 k x12 x13 x19 x23 x24 x25) (solsticelaw17_EscapeExact.L1 x12 x13 x19 x23 x24 x25) := ⟨fun k => (solsticelaw17_EscapeExact.mono_l k).2.2.2.2.2.2.2 x12 x13 x19 x23 x24 x25, rfl⟩
theorem solsticelaw17_EscapeExact.isF (a0 : ByteArray) (l1 : List ByteArray) : IsLim (fun k => solsticelaw17_EscapeExact.f k a0 l1) (solsticelaw17_EscapeExact.F a0 l1) := ⟨fun k => solsticelaw17_EscapeExact.mono a0 l1 k, rfl⟩
theorem solsticelaw17_EscapeExact.J0_eq (x0 : ByteArray) (x1 : List ByteArray) (x34 : Bool) : solsticelaw17_EscapeExact.J0 x0 x1 x34 = if x34 = true then (some true) else ((solsticekeep_TwinTexts.f x1).bind fun t243 => ((escape_Put.F x0).bind fun bt246 => ((escape_Get.F x0).bind fun bt248 => ((escape_List.F t243).bind fun bt250 => ((escape_Unlist.F x0).bind fun bt252 => ((solsticeref16_Put.F x0).bind fun bt256 => ((solsticeref16_Get.F x0).bind fun bt258 => (if bt246.2 = bt256.2 then (if bt246.1.toList = bt256.1.toList then (if bt248.2 = bt258.2 then (if bt248.1.toList = bt258.1.toList then ((solsticekeep_Texts.F t243 x1).bind fun t260 => (solsticelaw17_EscapeExact.J1 x0 x1 bt250.1 bt250.2 bt252.1 bt252.2 (!t260))) else (solsticelaw17_EscapeExact.J1 x0 x1 bt250.1 bt250.2 bt252.1 bt252.2 true)) else (solsticelaw17_EscapeExact.J1 x0 x1 bt250.1 bt250.2 bt252.1 bt252.2 true)) else (solsticelaw17_EscapeExact.J1 x0 x1 bt250.1 bt250.2 bt252.1 bt252.2 true)) else (solsticelaw17_EscapeExact.J1 x0 x1 bt250.1 bt250.2 bt252.1 bt252.2 true))))))))) := by
  refine IsLim.step (solsticelaw17_EscapeExact.isJ0 x0 x1 x34).mono (f := fun k => if x34 = true then (some true) else ((solsticekeep_TwinTexts.f x1).bind fun t243 => ((escape_Put.f k x0).bind fun bt246 => ((escape_Get.f k x0).bind fun bt248 => ((escape_List.f k t243).bind fun bt250 => ((escape_Unlist.f k x0).bind fun bt252 => ((solsticeref16_Put.f k x0).bind fun bt256 => ((solsticeref16_Get.f k x0).bind fun bt258 => (if bt246.2 = bt256.2 then (if bt246.1.toList = bt256.1.toList then (if bt248.2 = bt258.2 then (if bt248.1.toList = bt258.1.toList then ((solsticekeep_Texts.f k t243 x1).bind fun t260 => (solsticelaw17_EscapeExact.j1 k x0 x1 bt250.1 bt250.2 bt252.1 bt252.2 (!t260))) else (solsticelaw17_EscapeExact.j1 k x0 x1 bt250.1 bt250.2 bt252.1 bt252.2 true)) else (solsticelaw17_EscapeExact.j1 k x0 x1 bt250.1 bt250.2 bt252.1 bt252.2 true)) else (solsticelaw17_EscapeExact.j1 k x0 x1 bt250.1 bt250.2 bt252.1 bt252.2 true)) else (solsticelaw17_EscapeExact.j1 k x0 x1 bt250.1 bt250.2 bt252.1 bt252.2 true)))))))))) (fun k => by rw [solsticelaw17_EscapeExact.j0]) ?_
  · repeat' first
    | (with_reducible exact IsLim.const _)
    | (with_reducible exact escape_Get.isF _)
    | (with_reducible exact escape_List.isF _)
    | (with_reducible exact escape_Put.isF _)
    | (with_reducible exact escape_Unlist.isF _)
    | (with_reducible exact solsticekeep_Texts.isF _ _)
    | (with_reducible exact solsticelaw17_EscapeExact.isJ1 _ _ _ _ _ _ _)
    | (with_reducible exact solsticeref16_Get.isF _)
    | (with_reducible exact solsticeref16_Put.isF _)
    | (with_reducible refine IsLim.ite ?_ ?_)
    | (with_reducible refine IsLim.bind ?_ (fun _ => ?_))
theorem solsticelaw17_EscapeExact.J1_eq (x0 : ByteArray) (x1 : List ByteArray) (x10 : ByteArray) (x11 : Int) (x12 : List ByteArray) (x13 : Int) (x90 : Bool) : solsticelaw17_EscapeExact.J1 x0 x1 x10 x11 x12 x13 x90 = if x90 = true then (some false) else (solsticelaw17_EscapeExact.L0 x0 x1 x10 x11 x12 x13 (⟨#[]⟩ : ByteArray) 0 0) := by
  refine IsLim.step (solsticelaw17_EscapeExact.isJ1 x0 x1 x10 x11 x12 x13 x90).mono (f := fun k => if x90 = true then (some false) else (solsticelaw17_EscapeExact.l0 k x0 x1 x10 x11 x12 x13 (⟨#[]⟩ : ByteArray) 0 0)) (fun k => by rw [solsticelaw17_EscapeExact.j1]) ?_
  · repeat' first
    | (with_reducible exact IsLim.const _)
    | (with_reducible exact solsticelaw17_EscapeExact.isL0 _ _ _ _ _ _ _ _ _)
    | (with_reducible refine IsLim.ite ?_ ?_)
    | (with_reducible refine IsLim.bind ?_ (fun _ => ?_))
theorem solsticelaw17_EscapeExact.L0_eq (x0 : ByteArray) (x1 : List ByteArray) (x10 : ByteArray) (x11 : Int) (x12 : List ByteArray) (x13 : Int) (x18 : ByteArray) (x19 : Int) (x20 : Int) : solsticelaw17_EscapeExact.L0 x0 x1 x10 x11 x12 x13 x18 x19 x20 = if x20 < (x1.length : Int) then (if 0 ≤ x20 then ((solsticeref16_Put.F (rdOf ByteArray.empty x1 x20)).bind fun bt262 => (if bt262.2 = 0 then (solsticelaw17_EscapeExact.J3 x0 x1 x10 x11 x12 x13 x18 x19 x20 bt262.1 bt262.2 false) else (solsticelaw17_EscapeExact.J3 x0 x1 x10 x11 x12 x13 x18 x19 x20 bt262.1 bt262.2 (x19 == 0)))) else (none)) else (if x19 = 0 then (solsticelaw17_EscapeExact.J4 x0 x10 x11 x12 x13 x18 x19 ((x1.length : Int) == 0)) else (solsticelaw17_EscapeExact.J4 x0 x10 x11 x12 x13 x18 x19 false)) := by
  refine IsLim.step (solsticelaw17_EscapeExact.isL0 x0 x1 x10 x11 x12 x13 x18 x19 x20).mono (f := fun k => if x20 < (x1.length : Int) then (if 0 ≤ x20 then ((solsticeref16_Put.f k (rdOf ByteArray.empty x1 x20)).bind fun bt262 => (if bt262.2 = 0 then (solsticelaw17_EscapeExact.j3 k x0 x1 x10 x11 x12 x13 x18 x19 x20 bt262.1 bt262.2 false) else (solsticelaw17_EscapeExact.j3 k x0 x1 x10 x11 x12 x13 x18 x19 x20 bt262.1 bt262.2 (x19 == 0)))) else (none)) else (if x19 = 0 then (solsticelaw17_EscapeExact.j4 k x0 x10 x11 x12 x13 x18 x19 ((x1.length : Int) == 0)) else (solsticelaw17_EscapeExact.j4 k x0 x10 x11 x12 x13 x18 x19 false))) (fun k => by rw [solsticelaw17_EscapeExact.l0]) ?_
  · repeat' first
    | (with_reducible exact IsLim.const _)
    | (with_reducible exact solsticelaw17_EscapeExact.isJ3 _ _ _ _ _ _ _ _ _ _ _ _)
    | (with_reducible exact solsticelaw17_EscapeExact.isJ4 _ _ _ _ _ _ _ _)
    | (with_reducible exact solsticeref16_Put.isF _)
    | (with_reducible refine IsLim.ite ?_ ?_)
    | (with_reducible refine IsLim.bind ?_ (fun _ => ?_))
theorem solsticelaw17_EscapeExact.J3_eq (x0 : ByteArray) (x1 : List ByteArray) (x10 : ByteArray) (x11 : Int) (x12 : List ByteArray) (x13 : Int) (x18 : ByteArray) (x19 : Int) (x20 : Int) (x21 : ByteArray) (x22 : Int) (x110 : Bool) : solsticelaw17_EscapeExact.J3 x0 x1 x10 x11 x12 x13 x18 x19 x20 x21 x22 x110 = if x110 = true then (if x20 > 0 then (if x18.size + 1 ≤ 9223372036854775807 then (if (x18 ++ (⟨#[44]⟩ : ByteArray)).size + x21.size ≤ 9223372036854775807 then (solsticelaw17_EscapeExact.L0 x0 x1 x10 x11 x12 x13 ((x18 ++ (⟨#[44]⟩ : ByteArray)) ++ x21) x22 (wrap64 (x20 + 1))) else (none)) else (none)) else (if x18.size + x21.size ≤ 9223372036854775807 then (solsticelaw17_EscapeExact.L0 x0 x1 x10 x11 x12 x13 (x18 ++ x21) x22 (wrap64 (x20 + 1))) else (none))) else (if x20 > 0 then (if x18.size + 1 ≤ 9223372036854775807 then (if (x18 ++ (⟨#[44]⟩ : ByteArray)).size + x21.size ≤ 9223372036854775807 then (solsticelaw17_EscapeExact.L0 x0 x1 x10 x11 x12 x13 ((x18 ++ (⟨#[44]⟩ : ByteArray)) ++ x21) x19 (wrap64 (x20 + 1))) else (none)) else (none)) else (if x18.size + x21.size ≤ 9223372036854775807 then (solsticelaw17_EscapeExact.L0 x0 x1 x10 x11 x12 x13 (x18 ++ x21) x19 (wrap64 (x20 + 1))) else (none))) := by
  refine IsLim.step (solsticelaw17_EscapeExact.isJ3 x0 x1 x10 x11 x12 x13 x18 x19 x20 x21 x22 x110).mono (f := fun k => if x110 = true then (if x20 > 0 then (if x18.size + 1 ≤ 9223372036854775807 then (if (x18 ++ (⟨#[44]⟩ : ByteArray)).size + x21.size ≤ 9223372036854775807 then (solsticelaw17_EscapeExact.l0 k x0 x1 x10 x11 x12 x13 ((x18 ++ (⟨#[44]⟩ : ByteArray)) ++ x21) x22 (wrap64 (x20 + 1))) else (none)) else (none)) else (if x18.size + x21.size ≤ 9223372036854775807 then (solsticelaw17_EscapeExact.l0 k x0 x1 x10 x11 x12 x13 (x18 ++ x21) x22 (wrap64 (x20 + 1))) else (none))) else (if x20 > 0 then (if x18.size + 1 ≤ 9223372036854775807 then (if (x18 ++ (⟨#[44]⟩ : ByteArray)).size + x21.size ≤ 9223372036854775807 then (solsticelaw17_EscapeExact.l0 k x0 x1 x10 x11 x12 x13 ((x18 ++ (⟨#[44]⟩ : ByteArray)) ++ x21) x19 (wrap64 (x20 + 1))) else (none)) else (none)) else (if x18.size + x21.size ≤ 9223372036854775807 then (solsticelaw17_EscapeExact.l0 k x0 x1 x10 x11 x12 x13 (x18 ++ x21) x19 (wrap64 (x20 + 1))) else (none)))) (fun k => by rw [solsticelaw17_EscapeExact.j3]) ?_
  · repeat' first
    | (with_reducible exact IsLim.const _)
    | (with_reducible exact solsticelaw17_EscapeExact.isL0 _ _ _ _ _ _ _ _ _)
    | (with_reducible refine IsLim.ite ?_ ?_)
    | (with_reducible refine IsLim.bind ?_ (fun _ => ?_))
theorem solsticelaw17_EscapeExact.J4_eq (x0 : ByteArray) (x10 : ByteArray) (x11 : Int) (x12 : List ByteArray) (x13 : Int) (x18 : ByteArray) (x19 : Int) (x125 : Bool) : solsticelaw17_EscapeExact.J4 x0 x10 x11 x12 x13 x18 x19 x125 = if x125 = true then (solsticelaw17_EscapeExact.J5 x0 x10 x11 x12 x13 x18 2) else (solsticelaw17_EscapeExact.J5 x0 x10 x11 x12 x13 x18 x19) := by
  refine IsLim.step (solsticelaw17_EscapeExact.isJ4 x0 x10 x11 x12 x13 x18 x19 x125).mono (f := fun k => if x125 = true then (solsticelaw17_EscapeExact.j5 k x0 x10 x11 x12 x13 x18 2) else (solsticelaw17_EscapeExact.j5 k x0 x10 x11 x12 x13 x18 x19)) (fun k => by rw [solsticelaw17_EscapeExact.j4]) ?_
  · repeat' first
    | (with_reducible exact IsLim.const _)
    | (with_reducible exact solsticelaw17_EscapeExact.isJ5 _ _ _ _ _ _ _)
    | (with_reducible refine IsLim.ite ?_ ?_)
    | (with_reducible refine IsLim.bind ?_ (fun _ => ?_))
theorem solsticelaw17_EscapeExact.J5_eq (x0 : ByteArray) (x10 : ByteArray) (x11 : Int) (x12 : List ByteArray) (x13 : Int) (x18 : ByteArray) (x19 : Int) : solsticelaw17_EscapeExact.J5 x0 x10 x11 x12 x13 x18 x19 = if x11 = x19 then (if x19 = 0 then (solsticelaw17_EscapeExact.J6 x0 x12 x13 (x10.toList != x18.toList)) else (if x10.toList = ([] : List UInt8) then (solsticelaw17_EscapeExact.J6 x0 x12 x13 false) else (solsticelaw17_EscapeExact.J6 x0 x12 x13 true))) else (solsticelaw17_EscapeExact.J6 x0 x12 x13 true) := by
  refine IsLim.step (solsticelaw17_EscapeExact.isJ5 x0 x10 x11 x12 x13 x18 x19).mono (f := fun k => if x11 = x19 then (if x19 = 0 then (solsticelaw17_EscapeExact.j6 k x0 x12 x13 (x10.toList != x18.toList)) else (if x10.toList = ([] : List UInt8) then (solsticelaw17_EscapeExact.j6 k x0 x12 x13 false) else (solsticelaw17_EscapeExact.j6 k x0 x12 x13 true))) else (solsticelaw17_EscapeExact.j6 k x0 x12 x13 true)) (fun k => by rw [solsticelaw17_EscapeExact.j5]) ?_
  · repeat' first
    | (with_reducible exact IsLim.const _)
    | (with_reducible exact solsticelaw17_EscapeExact.isJ6 _ _ _ _)
    | (with_reducible refine IsLim.ite ?_ ?_)
    | (with_reducible refine IsLim.bind ?_ (fun _ => ?_))
theorem solsticelaw17_EscapeExact.J6_eq (x0 : ByteArray) (x12 : List ByteArray) (x13 : Int) (x145 : Bool) : solsticelaw17_EscapeExact.J6 x0 x12 x13 x145 = if x145 = true then (some false) else ((solsticeref16_Pieces.F x0).bind fun t264 => (solsticelaw17_EscapeExact.L1 x12 x13 0 t264 ([] : List ByteArray) 0)) := by
  refine IsLim.step (solsticelaw17_EscapeExact.isJ6 x0 x12 x13 x145).mono (f := fun k => if x145 = true then (some false) else ((solsticeref16_Pieces.f k x0).bind fun t264 => (solsticelaw17_EscapeExact.l1 k x12 x13 0 t264 ([] : List ByteArray) 0))) (fun k => by rw [solsticelaw17_EscapeExact.j6]) ?_
  · repeat' first
    | (with_reducible exact IsLim.const _)
    | (with_reducible exact solsticelaw17_EscapeExact.isL1 _ _ _ _ _ _)
    | (with_reducible exact solsticeref16_Pieces.isF _)
    | (with_reducible refine IsLim.ite ?_ ?_)
    | (with_reducible refine IsLim.bind ?_ (fun _ => ?_))
theorem solsticelaw17_EscapeExact.L1_eq (x12 : List ByteArray) (x13 : Int) (x19 : Int) (x23 : List ByteArray) (x24 : List ByteArray) (x25 : Int) : solsticelaw17_EscapeExact.L1 x12 x13 x19 x23 x24 x25 = if x25 < (x23.length : Int) then (if 0 ≤ x25 then ((solsticeref16_Get.F (rdOf ByteArray.empty x23 x25)).bind fun bt268 => (if bt268.2 = 0 then (if x24.length < 8796093022208 then (solsticelaw17_EscapeExact.L1 x12 x13 x19 x23 (x24 ++ [bt268.1]) (wrap64 (x25 + 1))) else (none)) else (if x24.length < 8796093022208 then (solsticelaw17_EscapeExact.L1 x12 x13 bt268.2 x23 (x24 ++ [bt268.1]) (wrap64 (x25 + 1))) else (none)))) else (none)) else (if x19 = 0 then (if x13 = 0 then ((solsticekeep_Texts.F x12 x24).bind fun t276 => (if t276 = true then ((solsticelaw17_wakes.F).bind fun t277 => (some t277)) else (some false))) else (some false)) else (if x13 = x19 then (if (x12.length : Int) = 0 then ((solsticelaw17_wakes.F).bind fun t278 => (some t278)) else (some false)) else (some false))) := by
  refine IsLim.step (solsticelaw17_EscapeExact.isL1 x12 x13 x19 x23 x24 x25).mono (f := fun k => if x25 < (x23.length : Int) then (if 0 ≤ x25 then ((solsticeref16_Get.f k (rdOf ByteArray.empty x23 x25)).bind fun bt268 => (if bt268.2 = 0 then (if x24.length < 8796093022208 then (solsticelaw17_EscapeExact.l1 k x12 x13 x19 x23 (x24 ++ [bt268.1]) (wrap64 (x25 + 1))) else (none)) else (if x24.length < 8796093022208 then (solsticelaw17_EscapeExact.l1 k x12 x13 bt268.2 x23 (x24 ++ [bt268.1]) (wrap64 (x25 + 1))) else (none)))) else (none)) else (if x19 = 0 then (if x13 = 0 then ((solsticekeep_Texts.f k x12 x24).bind fun t276 => (if t276 = true then ((solsticelaw17_wakes.f k).bind fun t277 => (some t277)) else (some false))) else (some false)) else (if x13 = x19 then (if (x12.length : Int) = 0 then ((solsticelaw17_wakes.f k).bind fun t278 => (some t278)) else (some false)) else (some false)))) (fun k => by rw [solsticelaw17_EscapeExact.l1]) ?_
  · repeat' first
    | (with_reducible exact IsLim.const _)
    | (with_reducible exact solsticekeep_Texts.isF _ _)
    | (with_reducible exact solsticelaw17_EscapeExact.isL1 _ _ _ _ _ _)
    | (with_reducible exact solsticelaw17_wakes.isF)
    | (with_reducible exact solsticeref16_Get.isF _)
    | (with_reducible refine IsLim.ite ?_ ?_)
    | (with_reducible refine IsLim.bind ?_ (fun _ => ?_))
theorem solsticelaw17_EscapeExact.F_eq (a0 : ByteArray) (l1 : List ByteArray) : solsticelaw17_EscapeExact.F a0 l1 = if (a0.size : Int) > 1000 then (solsticelaw17_EscapeExact.J0 a0 l1 true) else ((solsticelaw05_Heavy.F l1).bind fun t242 => (solsticelaw17_EscapeExact.J0 a0 l1 t242)) := by
  refine IsLim.eq (g := fun k => if (a0.size : Int) > 1000 then (solsticelaw17_EscapeExact.j0 k a0 l1 true) else ((solsticelaw05_Heavy.f k l1).bind fun t242 => (solsticelaw17_EscapeExact.j0 k a0 l1 t242))) ?_
  · repeat' first
    | (with_reducible exact IsLim.const _)
    | (with_reducible exact solsticelaw05_Heavy.isF _)
    | (with_reducible exact solsticelaw17_EscapeExact.isJ0 _ _ _)
    | (with_reducible refine IsLim.ite ?_ ?_)
    | (with_reducible refine IsLim.bind ?_ (fun _ => ?_))
end Go.Proofs.Ytookjnpmbenheaa.PEsc

/- Printed functions of the family Esc without a bound on their rounds, and the equation that each meets. No condition. -/
import Derived.Test.YtookjnpmbenheaaBase
import Derived.Test.YtookjnpmbenheaaPEscx2
import Derived.Test.YtookjnpmbenheaaEEscx1
namespace Go.Proofs.Ytookjnpmbenheaa.PEsc
open Go.RowKit Go.Proofs.YtookjnpmbenheaaW.PrintWords Go.Proofs.YtookjnpmbenheaaW.PrintLast Go.Proofs.Ytookjnpmbenheaa.Base
set_option linter.unusedVariables false
noncomputable def escape_piece.L0 (x0 : ByteArray) (x3 : Int) : Option (Int) := lim fun k => escape_piece.l0 k x0 x3
noncomputable def escape_piece.F (a0 : ByteArray) : Option (Int) := lim fun k => escape_piece.f k a0
theorem escape_piece.isL0 (x0 : ByteArray) (x3 : Int) : IsLim (fun k => escape_piece.l0 k x0 x3) (escape_piece.L0 x0 x3) := ⟨fun k => (escape_piece.mono_l k) x0 x3, rfl⟩
theorem escape_piece.isF (a0 : ByteArray) : IsLim (fun k => escape_piece.f k a0) (escape_piece.F a0) := ⟨fun k => escape_piece.mono a0 k, rfl⟩
theorem escape_piece.L0_eq (x0 : ByteArray) (x3 : Int) : escape_piece.L0 x0 x3 = if x3 < (x0.size : Int) then (if 0 ≤ x3 then (if (bt x0 x3) = 92 then (escape_piece.L0 x0 (wrap64 ((wrap64 (x3 + 1)) + 1))) else (if (bt x0 x3) = 44 then (some x3) else (escape_piece.L0 x0 (wrap64 (x3 + 1))))) else (none)) else (some (x0.size : Int)) := by
  refine IsLim.step (escape_piece.isL0 x0 x3).mono (f := fun k => if x3 < (x0.size : Int) then (if 0 ≤ x3 then (if (bt x0 x3) = 92 then (escape_piece.l0 k x0 (wrap64 ((wrap64 (x3 + 1)) + 1))) else (if (bt x0 x3) = 44 then (some x3) else (escape_piece.l0 k x0 (wrap64 (x3 + 1))))) else (none)) else (some (x0.size : Int))) (fun k => by rw [escape_piece.l0]) ?_
  · repeat' first
    | (with_reducible exact IsLim.const _)
    | (with_reducible exact escape_piece.isL0 _ _)
    | (with_reducible refine IsLim.ite ?_ ?_)
    | (with_reducible refine IsLim.bind ?_ (fun _ => ?_))
theorem escape_piece.F_eq (a0 : ByteArray) : escape_piece.F a0 = escape_piece.L0 a0 0 := by
  refine IsLim.eq (g := fun k => escape_piece.l0 k a0 0) ?_
  · repeat' first
    | (with_reducible exact IsLim.const _)
    | (with_reducible exact escape_piece.isL0 _ _)
    | (with_reducible refine IsLim.ite ?_ ?_)
    | (with_reducible refine IsLim.bind ?_ (fun _ => ?_))
noncomputable def escape_Unlist.L0 (x0 : ByteArray) (x4 : List ByteArray) (x5 : Int) : Option (List ByteArray × Int) := lim fun k => escape_Unlist.l0 k x0 x4 x5
noncomputable def escape_Unlist.F (a0 : ByteArray) : Option (List ByteArray × Int) := lim fun k => escape_Unlist.f k a0
theorem escape_Unlist.isL0 (x0 : ByteArray) (x4 : List ByteArray) (x5 : Int) : IsLim (fun k => escape_Unlist.l0 k x0 x4 x5) (escape_Unlist.L0 x0 x4 x5) := ⟨fun k => (escape_Unlist.mono_l k) x0 x4 x5, rfl⟩
theorem escape_Unlist.isF (a0 : ByteArray) : IsLim (fun k => escape_Unlist.f k a0) (escape_Unlist.F a0) := ⟨fun k => escape_Unlist.mono a0 k, rfl⟩
theorem escape_Unlist.L0_eq (x0 : ByteArray) (x4 : List ByteArray) (x5 : Int) : escape_Unlist.L0 x0 x4 x5 = if x5 ≤ (x0.size : Int) then (if 0 ≤ x5 then ((escape_piece.F (x0.extract (x5 : Int).toNat x0.size)).bind fun t136 => (if x5 ≤ (wrap64 (x5 + t136)) then (if (wrap64 (x5 + t136)) ≤ (x0.size : Int) then ((escape_Get.F (x0.extract (x5 : Int).toNat ((wrap64 (x5 + t136)) : Int).toNat)).bind fun bt137 => (if bt137.2 = 0 then (if x4.length < 8796093022208 then (escape_Unlist.L0 x0 (x4 ++ [bt137.1]) (wrap64 (x5 + (wrap64 (t136 + 1))))) else (none)) else (some (([] : List ByteArray), bt137.2)))) else (none)) else (none))) else (none)) else (some (x4, 0)) := by
  refine IsLim.step (escape_Unlist.isL0 x0 x4 x5).mono (f := fun k => if x5 ≤ (x0.size : Int) then (if 0 ≤ x5 then ((escape_piece.f k (x0.extract (x5 : Int).toNat x0.size)).bind fun t136 => (if x5 ≤ (wrap64 (x5 + t136)) then (if (wrap64 (x5 + t136)) ≤ (x0.size : Int) then ((escape_Get.f k (x0.extract (x5 : Int).toNat ((wrap64 (x5 + t136)) : Int).toNat)).bind fun bt137 => (if bt137.2 = 0 then (if x4.length < 8796093022208 then (escape_Unlist.l0 k x0 (x4 ++ [bt137.1]) (wrap64 (x5 + (wrap64 (t136 + 1))))) else (none)) else (some (([] : List ByteArray), bt137.2)))) else (none)) else (none))) else (none)) else (some (x4, 0))) (fun k => by rw [escape_Unlist.l0]) ?_
  · repeat' first
    | (with_reducible exact IsLim.const _)
    | (with_reducible exact escape_Get.isF _)
    | (with_reducible exact escape_Unlist.isL0 _ _ _)
    | (with_reducible exact escape_piece.isF _)
    | (with_reducible refine IsLim.ite ?_ ?_)
    | (with_reducible refine IsLim.bind ?_ (fun _ => ?_))
theorem escape_Unlist.F_eq (a0 : ByteArray) : escape_Unlist.F a0 = escape_Unlist.L0 a0 ([] : List ByteArray) 0 := by
  refine IsLim.eq (g := fun k => escape_Unlist.l0 k a0 ([] : List ByteArray) 0) ?_
  · repeat' first
    | (with_reducible exact IsLim.const _)
    | (with_reducible exact escape_Unlist.isL0 _ _ _)
    | (with_reducible refine IsLim.ite ?_ ?_)
    | (with_reducible refine IsLim.bind ?_ (fun _ => ?_))
noncomputable def solsticekeep_Texts.L0 (x0 : List ByteArray) (x1 : List ByteArray) (x5 : Int) : Option (Bool) := lim fun k => solsticekeep_Texts.l0 k x0 x1 x5
noncomputable def solsticekeep_Texts.F (l0 : List ByteArray) (l1 : List ByteArray) : Option (Bool) := lim fun k => solsticekeep_Texts.f k l0 l1
theorem solsticekeep_Texts.isL0 (x0 : List ByteArray) (x1 : List ByteArray) (x5 : Int) : IsLim (fun k => solsticekeep_Texts.l0 k x0 x1 x5) (solsticekeep_Texts.L0 x0 x1 x5) := ⟨fun k => (solsticekeep_Texts.mono_l k) x0 x1 x5, rfl⟩
theorem solsticekeep_Texts.isF (l0 : List ByteArray) (l1 : List ByteArray) : IsLim (fun k => solsticekeep_Texts.f k l0 l1) (solsticekeep_Texts.F l0 l1) := ⟨fun k => solsticekeep_Texts.mono l0 l1 k, rfl⟩
theorem solsticekeep_Texts.L0_eq (x0 : List ByteArray) (x1 : List ByteArray) (x5 : Int) : solsticekeep_Texts.L0 x0 x1 x5 = if x5 < (x0.length : Int) then (if 0 ≤ x5 then (if x5 < (x1.length : Int) then (if (rdOf ByteArray.empty x0 x5).toList = (rdOf ByteArray.empty x1 x5).toList then (solsticekeep_Texts.L0 x0 x1 (wrap64 (x5 + 1))) else (some false)) else (none)) else (none)) else (some true) := by
  refine IsLim.step (solsticekeep_Texts.isL0 x0 x1 x5).mono (f := fun k => if x5 < (x0.length : Int) then (if 0 ≤ x5 then (if x5 < (x1.length : Int) then (if (rdOf ByteArray.empty x0 x5).toList = (rdOf ByteArray.empty x1 x5).toList then (solsticekeep_Texts.l0 k x0 x1 (wrap64 (x5 + 1))) else (some false)) else (none)) else (none)) else (some true)) (fun k => by rw [solsticekeep_Texts.l0]) ?_
  · repeat' first
    | (with_reducible exact IsLim.const _)
    | (with_reducible exact solsticekeep_Texts.isL0 _ _ _)
    | (with_reducible refine IsLim.ite ?_ ?_)
    | (with_reducible refine IsLim.bind ?_ (fun _ => ?_))
theorem solsticekeep_Texts.F_eq (l0 : List ByteArray) (l1 : List ByteArray) : solsticekeep_Texts.F l0 l1 = if (l0.length : Int) = (l1.length : Int) then (solsticekeep_Texts.L0 l0 l1 0) else (some false) := by
  refine IsLim.eq (g := fun k => if (l0.length : Int) = (l1.length : Int) then (solsticekeep_Texts.l0 k l0 l1 0) else (some false)) ?_
  · repeat' first
    | (with_reducible exact IsLim.const _)
    | (with_reducible exact solsticekeep_Texts.isL0 _ _ _)
    | (with_reducible refine IsLim.ite ?_ ?_)
    | (with_reducible refine IsLim.bind ?_ (fun _ => ?_))
noncomputable def solsticelaw17_wakes.F  : Option (Bool) := lim fun k => solsticelaw17_wakes.f k 
theorem solsticelaw17_wakes.isF  : IsLim (fun k => solsticelaw17_wakes.f k ) (solsticelaw17_wakes.F ) := ⟨fun k => solsticelaw17_wakes.mono k, rfl⟩
theorem solsticelaw17_wakes.F_eq  : solsticelaw17_wakes.F  = (escape_Put.F (⟨#[97, 44, 98, 10]⟩ : ByteArray)).bind fun bt144 => ((escape_Get.F (⟨#[120, 92, 59, 92, 78]⟩ : ByteArray)).bind fun bt146 => ((escape_Get.F (⟨#[97, 44, 98]⟩ : ByteArray)).bind fun bt148 => ((escape_Unlist.F (⟨#[97, 92, 44, 98, 44, 99]⟩ : ByteArray)).bind fun bt150 => ((escape_List.F (([(⟨#[97]⟩ : ByteArray), (⟨#[98]⟩ : ByteArray)] : List ByteArray))).bind fun bt157 => (if bt144.2 = 0 then (if bt144.1.toList = ([97, 92, 44, 98, 92, 110] : List UInt8) then (if bt146.2 = 0 then (if bt146.1.toList = ([120, 59, 10] : List UInt8) then (if bt148.2 = 3 then (if bt150.2 = 0 then ((solsticekeep_Texts.F bt150.1 (([(⟨#[97, 44, 98]⟩ : ByteArray), (⟨#[99]⟩ : ByteArray)] : List ByteArray))).bind fun t162 => (if t162 = true then (if bt157.2 = 0 then (some (bt157.1.toList == ([97, 44, 98] : List UInt8))) else (some false)) else (some false))) else (some false)) else (some false)) else (some false)) else (some false)) else (some false)) else (some false)))))) := by
  refine IsLim.eq (g := fun k => (escape_Put.f k (⟨#[97, 44, 98, 10]⟩ : ByteArray)).bind fun bt144 => ((escape_Get.f k (⟨#[120, 92, 59, 92, 78]⟩ : ByteArray)).bind fun bt146 => ((escape_Get.f k (⟨#[97, 44, 98]⟩ : ByteArray)).bind fun bt148 => ((escape_Unlist.f k (⟨#[97, 92, 44, 98, 44, 99]⟩ : ByteArray)).bind fun bt150 => ((escape_List.f k (([(⟨#[97]⟩ : ByteArray), (⟨#[98]⟩ : ByteArray)] : List ByteArray))).bind fun bt157 => (if bt144.2 = 0 then (if bt144.1.toList = ([97, 92, 44, 98, 92, 110] : List UInt8) then (if bt146.2 = 0 then (if bt146.1.toList = ([120, 59, 10] : List UInt8) then (if bt148.2 = 3 then (if bt150.2 = 0 then ((solsticekeep_Texts.f k bt150.1 (([(⟨#[97, 44, 98]⟩ : ByteArray), (⟨#[99]⟩ : ByteArray)] : List ByteArray))).bind fun t162 => (if t162 = true then (if bt157.2 = 0 then (some (bt157.1.toList == ([97, 44, 98] : List UInt8))) else (some false)) else (some false))) else (some false)) else (some false)) else (some false)) else (some false)) else (some false)) else (some false))))))) ?_
  · repeat' first
    | (with_reducible exact IsLim.const _)
    | (with_reducible exact escape_Get.isF _)
    | (with_reducible exact escape_List.isF _)
    | (with_reducible exact escape_Put.isF _)
    | (with_reducible exact escape_Unlist.isF _)
    | (with_reducible exact solsticekeep_Texts.isF _ _)
    | (with_reducible refine IsLim.ite ?_ ?_)
    | (with_reducible refine IsLim.bind ?_ (fun _ => ?_))
end Go.Proofs.Ytookjnpmbenheaa.PEsc

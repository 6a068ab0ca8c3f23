/- Printed functions of the family Fmt without a bound on their rounds, and the equation that each meets. No condition. -/
import Derived.Test.YtookjnpmbenheaaDoorBase
import Derived.Test.YtookjnpmbenheaaDoorPFmtx2
namespace Go.Proofs.YtookjnpmbenheaaDoor.PFmt
open Go.RowKit Go.Proofs.YtookjnpmbenheaaDoorW.PrintWords Go.Proofs.YtookjnpmbenheaaDoorW.PrintLast Go.Proofs.YtookjnpmbenheaaDoor.Base
set_option linter.unusedVariables false
noncomputable def zone_Format.J0 (x0 : ByteArray) (x13 : Bool) : Option (Bool) := lim fun k => zone_Format.j0 k x0 x13
noncomputable def zone_Format.L0 (x0 : ByteArray) (x15 : Int) (x16 : Int) : Option (Bool) := lim fun k => zone_Format.l0 k x0 x15 x16
noncomputable def zone_Format.F (a0 : ByteArray) : Option (Bool) := lim fun k => zone_Format.f k a0
theorem zone_Format.isJ0 (x0 : ByteArray) (x13 : Bool) : IsLim (fun k => zone_Format.j0 k x0 x13) (zone_Format.J0 x0 x13) := ⟨fun k => (zone_Format.mono_l k).1 x0 x13, rfl⟩
theorem zone_Format.isL0 (x0 : ByteArray) (x15 : Int) (x16 : Int) : IsLim (fun k => zone_Format.l0 k x0 x15 x16) (zone_Format.L0 x0 x15 x16) := ⟨fun k => (zone_Format.mono_l k).2 x0 x15 x16, rfl⟩
theorem zone_Format.isF (a0 : ByteArray) : IsLim (fun k => zone_Format.f k a0) (zone_Format.F a0) := ⟨fun k => zone_Format.mono a0 k, rfl⟩
theorem zone_Format.J0_eq (x0 : ByteArray) (x13 : Bool) : zone_Format.J0 x0 x13 = if x13 = true then (some false) else (zone_Format.L0 x0 (x0.size : Int) 0) := by
  refine IsLim.step (zone_Format.isJ0 x0 x13).mono (f := fun k => if x13 = true then (some false) else (zone_Format.l0 k x0 (x0.size : Int) 0)) (fun k => by rw [zone_Format.j0]) ?_
  · repeat' first
    | (with_reducible exact IsLim.const _)
    | (with_reducible exact zone_Format.isL0 _ _ _)
    | (with_reducible refine IsLim.ite ?_ ?_)
    | (with_reducible refine IsLim.bind ?_ (fun _ => ?_))
theorem zone_Format.L0_eq (x0 : ByteArray) (x15 : Int) (x16 : Int) : zone_Format.L0 x0 x15 x16 = if x16 < x15 then (if 0 ≤ x16 then (if x16 < (x0.size : Int) then ((zone_sign.f (bt x0 x16)).bind fun t117 => (if t117 = true then (zone_Format.L0 x0 x15 (wrap64 (x16 + 1))) else (some false))) else (none)) else (none)) else ((strings_Count.f x0 (⟨#[47]⟩ : ByteArray)).bind fun t118 => ((strings_IndexByte.f x0 37).bind fun t119 => (if t119 < 0 then (some (decide (t118 ≤ 1))) else (if t118 > 0 then (some false) else ((strings_Count.f x0 (⟨#[37]⟩ : ByteArray)).bind fun t120 => (if t120 > 1 then (some false) else (if (wrap64 (t119 + 1)) ≥ (x0.size : Int) then (some false) else (if 0 ≤ (wrap64 (t119 + 1)) then (if (wrap64 (t119 + 1)) < (x0.size : Int) then (if (bt x0 (wrap64 (t119 + 1))) = 115 then (some true) else (some ((bt x0 (wrap64 (t119 + 1))) == 122))) else (none)) else (none))))))))) := by
  refine IsLim.step (zone_Format.isL0 x0 x15 x16).mono (f := fun k => if x16 < x15 then (if 0 ≤ x16 then (if x16 < (x0.size : Int) then ((zone_sign.f (bt x0 x16)).bind fun t117 => (if t117 = true then (zone_Format.l0 k x0 x15 (wrap64 (x16 + 1))) else (some false))) else (none)) else (none)) else ((strings_Count.f x0 (⟨#[47]⟩ : ByteArray)).bind fun t118 => ((strings_IndexByte.f x0 37).bind fun t119 => (if t119 < 0 then (some (decide (t118 ≤ 1))) else (if t118 > 0 then (some false) else ((strings_Count.f x0 (⟨#[37]⟩ : ByteArray)).bind fun t120 => (if t120 > 1 then (some false) else (if (wrap64 (t119 + 1)) ≥ (x0.size : Int) then (some false) else (if 0 ≤ (wrap64 (t119 + 1)) then (if (wrap64 (t119 + 1)) < (x0.size : Int) then (if (bt x0 (wrap64 (t119 + 1))) = 115 then (some true) else (some ((bt x0 (wrap64 (t119 + 1))) == 122))) else (none)) else (none)))))))))) (fun k => by rw [zone_Format.l0]) ?_
  · repeat' first
    | (with_reducible exact IsLim.const _)
    | (with_reducible exact zone_Format.isL0 _ _ _)
    | (with_reducible refine IsLim.ite ?_ ?_)
    | (with_reducible refine IsLim.bind ?_ (fun _ => ?_))
theorem zone_Format.F_eq (a0 : ByteArray) : zone_Format.F a0 = if (a0.size : Int) < 1 then (zone_Format.J0 a0 true) else (zone_Format.J0 a0 (decide ((a0.size : Int) > 40))) := by
  refine IsLim.eq (g := fun k => if (a0.size : Int) < 1 then (zone_Format.j0 k a0 true) else (zone_Format.j0 k a0 (decide ((a0.size : Int) > 40)))) ?_
  · repeat' first
    | (with_reducible exact IsLim.const _)
    | (with_reducible exact zone_Format.isJ0 _ _)
    | (with_reducible refine IsLim.ite ?_ ?_)
    | (with_reducible refine IsLim.bind ?_ (fun _ => ?_))
noncomputable def rule_all.L0 (x0 : ByteArray) (x1 : ByteArray) (x7 : Int) (x8 : Int) : Option (Bool) := lim fun k => rule_all.l0 k x0 x1 x7 x8
noncomputable def rule_all.F (a0 : ByteArray) (a1 : ByteArray) : Option (Bool) := lim fun k => rule_all.f k a0 a1
theorem rule_all.isL0 (x0 : ByteArray) (x1 : ByteArray) (x7 : Int) (x8 : Int) : IsLim (fun k => rule_all.l0 k x0 x1 x7 x8) (rule_all.L0 x0 x1 x7 x8) := ⟨fun k => (rule_all.mono_l k) x0 x1 x7 x8, rfl⟩
theorem rule_all.isF (a0 : ByteArray) (a1 : ByteArray) : IsLim (fun k => rule_all.f k a0 a1) (rule_all.F a0 a1) := ⟨fun k => rule_all.mono a0 a1 k, rfl⟩
theorem rule_all.L0_eq (x0 : ByteArray) (x1 : ByteArray) (x7 : Int) (x8 : Int) : rule_all.L0 x0 x1 x7 x8 = if x8 < x7 then (if 0 ≤ x8 then (if x8 < (x0.size : Int) then ((rule_sign.f (bt x0 x8) x1).bind fun t126 => (if t126 = true then (rule_all.L0 x0 x1 x7 (wrap64 (x8 + 1))) else (some false))) else (none)) else (none)) else (some true) := by
  refine IsLim.step (rule_all.isL0 x0 x1 x7 x8).mono (f := fun k => if x8 < x7 then (if 0 ≤ x8 then (if x8 < (x0.size : Int) then ((rule_sign.f (bt x0 x8) x1).bind fun t126 => (if t126 = true then (rule_all.l0 k x0 x1 x7 (wrap64 (x8 + 1))) else (some false))) else (none)) else (none)) else (some true)) (fun k => by rw [rule_all.l0]) ?_
  · repeat' first
    | (with_reducible exact IsLim.const _)
    | (with_reducible exact rule_all.isL0 _ _ _ _)
    | (with_reducible refine IsLim.ite ?_ ?_)
    | (with_reducible refine IsLim.bind ?_ (fun _ => ?_))
theorem rule_all.F_eq (a0 : ByteArray) (a1 : ByteArray) : rule_all.F a0 a1 = rule_all.L0 a0 a1 (a0.size : Int) 0 := by
  refine IsLim.eq (g := fun k => rule_all.l0 k a0 a1 (a0.size : Int) 0) ?_
  · repeat' first
    | (with_reducible exact IsLim.const _)
    | (with_reducible exact rule_all.isL0 _ _ _ _)
    | (with_reducible refine IsLim.ite ?_ ?_)
    | (with_reducible refine IsLim.bind ?_ (fun _ => ?_))
noncomputable def rule_Letter.F (a0 : ByteArray) : Option (Bool) := lim fun k => rule_Letter.f k a0
theorem rule_Letter.isF (a0 : ByteArray) : IsLim (fun k => rule_Letter.f k a0) (rule_Letter.F a0) := ⟨fun k => rule_Letter.mono a0 k, rfl⟩
theorem rule_Letter.F_eq (a0 : ByteArray) : rule_Letter.F a0 = if (a0.size : Int) ≤ 6 then ((rule_all.F a0 (⟨#[43, 45]⟩ : ByteArray)).bind fun t127 => (if t127 = true then (some (a0.toList != ([45] : List UInt8))) else (some false))) else (some false) := by
  refine IsLim.eq (g := fun k => if (a0.size : Int) ≤ 6 then ((rule_all.f k a0 (⟨#[43, 45]⟩ : ByteArray)).bind fun t127 => (if t127 = true then (some (a0.toList != ([45] : List UInt8))) else (some false))) else (some false)) ?_
  · repeat' first
    | (with_reducible exact IsLim.const _)
    | (with_reducible exact rule_all.isF _ _)
    | (with_reducible refine IsLim.ite ?_ ?_)
    | (with_reducible refine IsLim.bind ?_ (fun _ => ?_))
end Go.Proofs.YtookjnpmbenheaaDoor.PFmt

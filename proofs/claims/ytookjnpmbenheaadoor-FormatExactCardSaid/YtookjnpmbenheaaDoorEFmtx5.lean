/- Printed functions of the family Fmt without a bound on their rounds, and the equation that each meets. No condition. -/
import Derived.Test.YtookjnpmbenheaaDoorBase
import Derived.Test.YtookjnpmbenheaaDoorPFmtx5
import Derived.Test.YtookjnpmbenheaaDoorEFmtx3
namespace Go.Proofs.YtookjnpmbenheaaDoor.PFmt
open Go.RowKit Go.Proofs.YtookjnpmbenheaaDoorW.PrintWords Go.Proofs.YtookjnpmbenheaaDoorW.PrintLast Go.Proofs.YtookjnpmbenheaaDoor.Base
set_option linter.unusedVariables false
noncomputable def solsticeref09_Format.J0 (x0 : ByteArray) (x13 : Bool) : Option (Bool) := lim fun k => solsticeref09_Format.j0 k x0 x13
noncomputable def solsticeref09_Format.L0 (x0 : ByteArray) (x3 : Int) (x4 : Int) (x5 : Int) : Option (Bool) := lim fun k => solsticeref09_Format.l0 k x0 x3 x4 x5
noncomputable def solsticeref09_Format.F (a0 : ByteArray) : Option (Bool) := lim fun k => solsticeref09_Format.f k a0
theorem solsticeref09_Format.isJ0 (x0 : ByteArray) (x13 : Bool) : IsLim (fun k => solsticeref09_Format.j0 k x0 x13) (solsticeref09_Format.J0 x0 x13) := ⟨fun k => (solsticeref09_Format.mono_l k).1 x0 x13, rfl⟩
theorem solsticeref09_Format.isL0 (x0 : ByteArray) (x3 : Int) (x4 : Int) (x5 : Int) : IsLim (fun k => solsticeref09_Format.l0 k x0 x3 x4 x5) (solsticeref09_Format.L0 x0 x3 x4 x5) := ⟨fun k => (solsticeref09_Format.mono_l k).2 x0 x3 x4 x5, rfl⟩
theorem solsticeref09_Format.isF (a0 : ByteArray) : IsLim (fun k => solsticeref09_Format.f k a0) (solsticeref09_Format.F a0) := ⟨fun k => solsticeref09_Format.mono a0 k, rfl⟩
theorem solsticeref09_Format.J0_eq (x0 : ByteArray) (x13 : Bool) : solsticeref09_Format.J0 x0 x13 = if x13 = true then (some false) else (solsticeref09_Format.L0 x0 0 0 0) := by
  refine IsLim.step (solsticeref09_Format.isJ0 x0 x13).mono (f := fun k => if x13 = true then (some false) else (solsticeref09_Format.l0 k x0 0 0 0)) (fun k => by rw [solsticeref09_Format.j0]) ?_
  · repeat' first
    | (with_reducible exact IsLim.const _)
    | (with_reducible exact solsticeref09_Format.isL0 _ _ _ _)
    | (with_reducible refine IsLim.ite ?_ ?_)
    | (with_reducible refine IsLim.bind ?_ (fun _ => ?_))
theorem solsticeref09_Format.L0_eq (x0 : ByteArray) (x3 : Int) (x4 : Int) (x5 : Int) : solsticeref09_Format.L0 x0 x3 x4 x5 = if x5 < (x0.size : Int) then (if 0 ≤ x5 then (if (bt x0 x5) = 47 then (solsticeref09_Format.L0 x0 (wrap64 (x3 + 1)) x4 (wrap64 (x5 + 1))) else (if (bt x0 x5) = 37 then (if (wrap64 (x5 + 1)) ≥ (x0.size : Int) then (some false) else (if 0 ≤ (wrap64 (x5 + 1)) then (if (wrap64 (x5 + 1)) < (x0.size : Int) then (if (bt x0 (wrap64 (x5 + 1))) = 115 then (solsticeref09_Format.L0 x0 x3 (wrap64 (x4 + 1)) (wrap64 (x5 + 1))) else (if (bt x0 (wrap64 (x5 + 1))) = 122 then (solsticeref09_Format.L0 x0 x3 (wrap64 (x4 + 1)) (wrap64 (x5 + 1))) else (some false))) else (none)) else (none))) else ((solsticeref09_letter.f (bt x0 x5)).bind fun t157 => (if t157 = true then (solsticeref09_Format.L0 x0 x3 x4 (wrap64 (x5 + 1))) else ((solsticeref09_digit.f (bt x0 x5)).bind fun t158 => (if t158 = true then (solsticeref09_Format.L0 x0 x3 x4 (wrap64 (x5 + 1))) else (if (bt x0 x5) = 43 then (solsticeref09_Format.L0 x0 x3 x4 (wrap64 (x5 + 1))) else (if (bt x0 x5) = 45 then (solsticeref09_Format.L0 x0 x3 x4 (wrap64 (x5 + 1))) else (some false))))))))) else (none)) else (some (decide ((wrap64 (x3 + x4)) < 2))) := by
  refine IsLim.step (solsticeref09_Format.isL0 x0 x3 x4 x5).mono (f := fun k => if x5 < (x0.size : Int) then (if 0 ≤ x5 then (if (bt x0 x5) = 47 then (solsticeref09_Format.l0 k x0 (wrap64 (x3 + 1)) x4 (wrap64 (x5 + 1))) else (if (bt x0 x5) = 37 then (if (wrap64 (x5 + 1)) ≥ (x0.size : Int) then (some false) else (if 0 ≤ (wrap64 (x5 + 1)) then (if (wrap64 (x5 + 1)) < (x0.size : Int) then (if (bt x0 (wrap64 (x5 + 1))) = 115 then (solsticeref09_Format.l0 k x0 x3 (wrap64 (x4 + 1)) (wrap64 (x5 + 1))) else (if (bt x0 (wrap64 (x5 + 1))) = 122 then (solsticeref09_Format.l0 k x0 x3 (wrap64 (x4 + 1)) (wrap64 (x5 + 1))) else (some false))) else (none)) else (none))) else ((solsticeref09_letter.f (bt x0 x5)).bind fun t157 => (if t157 = true then (solsticeref09_Format.l0 k x0 x3 x4 (wrap64 (x5 + 1))) else ((solsticeref09_digit.f (bt x0 x5)).bind fun t158 => (if t158 = true then (solsticeref09_Format.l0 k x0 x3 x4 (wrap64 (x5 + 1))) else (if (bt x0 x5) = 43 then (solsticeref09_Format.l0 k x0 x3 x4 (wrap64 (x5 + 1))) else (if (bt x0 x5) = 45 then (solsticeref09_Format.l0 k x0 x3 x4 (wrap64 (x5 + 1))) else (some false))))))))) else (none)) else (some (decide ((wrap64 (x3 + x4)) < 2)))) (fun k => by rw [solsticeref09_Format.l0]) ?_
  · repeat' first
    | (with_reducible exact IsLim.const _)
    | (with_reducible exact solsticeref09_Format.isL0 _ _ _ _)
    | (with_reducible refine IsLim.ite ?_ ?_)
    | (with_reducible refine IsLim.bind ?_ (fun _ => ?_))
theorem solsticeref09_Format.F_eq (a0 : ByteArray) : solsticeref09_Format.F a0 = if (a0.size : Int) < 1 then (solsticeref09_Format.J0 a0 true) else (solsticeref09_Format.J0 a0 (decide ((a0.size : Int) > 40))) := by
  refine IsLim.eq (g := fun k => if (a0.size : Int) < 1 then (solsticeref09_Format.j0 k a0 true) else (solsticeref09_Format.j0 k a0 (decide ((a0.size : Int) > 40)))) ?_
  · repeat' first
    | (with_reducible exact IsLim.const _)
    | (with_reducible exact solsticeref09_Format.isJ0 _ _)
    | (with_reducible refine IsLim.ite ?_ ?_)
    | (with_reducible refine IsLim.bind ?_ (fun _ => ?_))
noncomputable def solsticeref09_Letter.F (a0 : ByteArray) : Option (Bool) := lim fun k => solsticeref09_Letter.f k a0
theorem solsticeref09_Letter.isF (a0 : ByteArray) : IsLim (fun k => solsticeref09_Letter.f k a0) (solsticeref09_Letter.F a0) := ⟨fun k => solsticeref09_Letter.mono a0 k, rfl⟩
theorem solsticeref09_Letter.F_eq (a0 : ByteArray) : solsticeref09_Letter.F a0 = if (a0.size : Int) = 0 then (some true) else (if a0.toList = ([45] : List UInt8) then (some false) else ((solsticeref09_Plain.F a0 6).bind fun t159 => (some t159))) := by
  refine IsLim.eq (g := fun k => if (a0.size : Int) = 0 then (some true) else (if a0.toList = ([45] : List UInt8) then (some false) else ((solsticeref09_Plain.f k a0 6).bind fun t159 => (some t159)))) ?_
  · repeat' first
    | (with_reducible exact IsLim.const _)
    | (with_reducible exact solsticeref09_Plain.isF _ _)
    | (with_reducible refine IsLim.ite ?_ ?_)
    | (with_reducible refine IsLim.bind ?_ (fun _ => ?_))
end Go.Proofs.YtookjnpmbenheaaDoor.PFmt

/- Printed functions of the family Fmt without a bound on their rounds, and the equation that each meets. No condition. -/
import Derived.Test.YtookjnpmbenheaaDoorBase
import Derived.Test.YtookjnpmbenheaaDoorPFmtx6
import Derived.Test.YtookjnpmbenheaaDoorEFmtx3
import Derived.Test.YtookjnpmbenheaaDoorEFmtx4
import Derived.Test.YtookjnpmbenheaaDoorEFmtx5
namespace Go.Proofs.YtookjnpmbenheaaDoor.PFmt
open Go.RowKit Go.Proofs.YtookjnpmbenheaaDoorW.PrintWords Go.Proofs.YtookjnpmbenheaaDoorW.PrintLast Go.Proofs.YtookjnpmbenheaaDoor.Base
set_option linter.unusedVariables false
noncomputable def solsticeref09_Abbr.J0 (x0 : ByteArray) (x1 : ByteArray) (x2 : Int) (x3 : Int) (x24 : Bool) : Option (ByteArray × Bool) := lim fun k => solsticeref09_Abbr.j0 k x0 x1 x2 x3 x24
noncomputable def solsticeref09_Abbr.L0 (x0 : ByteArray) (x1 : ByteArray) (x2 : Int) (x3 : Int) (x10 : ByteArray) (x11 : Int) : Option (ByteArray × Bool) := lim fun k => solsticeref09_Abbr.l0 k x0 x1 x2 x3 x10 x11
noncomputable def solsticeref09_Abbr.J2 (x0 : ByteArray) (x1 : ByteArray) (x2 : Int) (x3 : Int) (x10 : ByteArray) (x11 : Int) (x32 : Bool) : Option (ByteArray × Bool) := lim fun k => solsticeref09_Abbr.j2 k x0 x1 x2 x3 x10 x11 x32
noncomputable def solsticeref09_Abbr.J3 (x0 : ByteArray) (x1 : ByteArray) (x2 : Int) (x3 : Int) (x10 : ByteArray) (x11 : Int) (x53 : Bool) : Option (ByteArray × Bool) := lim fun k => solsticeref09_Abbr.j3 k x0 x1 x2 x3 x10 x11 x53
noncomputable def solsticeref09_Abbr.F (a0 : ByteArray) (a1 : ByteArray) (a2 : Int) (a3 : Int) : Option (ByteArray × Bool) := lim fun k => solsticeref09_Abbr.f k a0 a1 a2 a3
theorem solsticeref09_Abbr.isJ0 (x0 : ByteArray) (x1 : ByteArray) (x2 : Int) (x3 : Int) (x24 : Bool) : IsLim (fun k => solsticeref09_Abbr.j0 k x0 x1 x2 x3 x24) (solsticeref09_Abbr.J0 x0 x1 x2 x3 x24) := ⟨fun k => (solsticeref09_Abbr.mono_l k).1 x0 x1 x2 x3 x24, rfl⟩
theorem solsticeref09_Abbr.isL0 (x0 : ByteArray) (x1 : ByteArray) (x2 : Int) (x3 : Int) (x10 : ByteArray) (x11 : Int) : IsLim (fun k => solsticeref09_Abbr.l0 k x0 x1 x2 x3 x10 x11) (solsticeref09_Abbr.L0 x0 x1 x2 x3 x10 x11) := ⟨fun k => (solsticeref09_Abbr.mono_l k).2.1 x0 x1 x2 x3 x10 x11, rfl⟩
theorem solsticeref09_Abbr.isJ2 (x0 : ByteArray) (x1 : ByteArray) (x2 : Int) (x3 : Int) (x10 : ByteArray) (x11 : Int) (x32 : Bool) : IsLim (fun k => solsticeref09_Abbr.j2 k x0 x1 x2 x3 x10 x11 x32) (solsticeref09_Abbr.J2 x0 x1 x2 x3 x10 x11 x32) := ⟨fun k => (solsticeref09_Abbr.mono_l k).2.2.1 x0 x1 x2 x3 x10 x11 x32, rfl⟩
theorem solsticeref09_Abbr.isJ3 (x0 : ByteArray) (x1 : ByteArray) (x2 : Int) (x3 : Int) (x10 : ByteArray) (x11 : Int) (x53 : Bool) : IsLim (fun k => solsticeref09_Abbr.j3 k x0 x1 x2 x3 x10 x11 x53) (solsticeref09_Abbr.J3 x0 x1 x2 x3 x10 x11 x53) := ⟨fun k => (solsticeref09_Abbr.mono_l k).2.2.2 x0 x1 x2 x3 x10 x11 x53, rfl⟩
theorem solsticeref09_Abbr.isF (a0 : ByteArray) (a1 : ByteArray) (a2 : Int) (a3 : Int) : IsLim (fun k => solsticeref09_Abbr.f k a0 a1 a2 a3) (solsticeref09_Abbr.F a0 a1 a2 a3) := ⟨fun k => solsticeref09_Abbr.mono a0 a1 a2 a3 k, rfl⟩
theorem solsticeref09_Abbr.J0_eq (x0 : ByteArray) (x1 : ByteArray) (x2 : Int) (x3 : Int) (x24 : Bool) : solsticeref09_Abbr.J0 x0 x1 x2 x3 x24 = if x24 = true then (some ((⟨#[]⟩ : ByteArray), false)) else (solsticeref09_Abbr.L0 x0 x1 x2 x3 x0 0) := by
  refine IsLim.step (solsticeref09_Abbr.isJ0 x0 x1 x2 x3 x24).mono (f := fun k => if x24 = true then (some ((⟨#[]⟩ : ByteArray), false)) else (solsticeref09_Abbr.l0 k x0 x1 x2 x3 x0 0)) (fun k => by rw [solsticeref09_Abbr.j0]) ?_
  · repeat' first
    | (with_reducible exact IsLim.const _)
    | (with_reducible exact solsticeref09_Abbr.isL0 _ _ _ _ _ _)
    | (with_reducible refine IsLim.ite ?_ ?_)
    | (with_reducible refine IsLim.bind ?_ (fun _ => ?_))
theorem solsticeref09_Abbr.L0_eq (x0 : ByteArray) (x1 : ByteArray) (x2 : Int) (x3 : Int) (x10 : ByteArray) (x11 : Int) : solsticeref09_Abbr.L0 x0 x1 x2 x3 x10 x11 = if x11 < (x0.size : Int) then (if 0 ≤ x11 then (if (bt x0 x11) = 47 then (solsticeref09_Abbr.J2 x0 x1 x2 x3 x10 x11 (x3 == 0)) else (solsticeref09_Abbr.J2 x0 x1 x2 x3 x10 x11 false)) else (none)) else ((solsticeref09_Plain.F x10 40).bind fun t163 => (if t163 = true then (some (x10, true)) else (some ((⟨#[]⟩ : ByteArray), false)))) := by
  refine IsLim.step (solsticeref09_Abbr.isL0 x0 x1 x2 x3 x10 x11).mono (f := fun k => if x11 < (x0.size : Int) then (if 0 ≤ x11 then (if (bt x0 x11) = 47 then (solsticeref09_Abbr.j2 k x0 x1 x2 x3 x10 x11 (x3 == 0)) else (solsticeref09_Abbr.j2 k x0 x1 x2 x3 x10 x11 false)) else (none)) else ((solsticeref09_Plain.f k x10 40).bind fun t163 => (if t163 = true then (some (x10, true)) else (some ((⟨#[]⟩ : ByteArray), false))))) (fun k => by rw [solsticeref09_Abbr.l0]) ?_
  · repeat' first
    | (with_reducible exact IsLim.const _)
    | (with_reducible exact solsticeref09_Abbr.isJ2 _ _ _ _ _ _ _)
    | (with_reducible exact solsticeref09_Plain.isF _ _)
    | (with_reducible refine IsLim.ite ?_ ?_)
    | (with_reducible refine IsLim.bind ?_ (fun _ => ?_))
theorem solsticeref09_Abbr.J2_eq (x0 : ByteArray) (x1 : ByteArray) (x2 : Int) (x3 : Int) (x10 : ByteArray) (x11 : Int) (x32 : Bool) : solsticeref09_Abbr.J2 x0 x1 x2 x3 x10 x11 x32 = if x32 = true then (if 0 ≤ x11 then (if x11 ≤ (x0.size : Int) then (solsticeref09_Abbr.L0 x0 x1 x2 x3 (x0.extract 0 (x11 : Int).toNat) (wrap64 (x11 + 1))) else (none)) else (none)) else (if 0 ≤ x11 then (if x11 < (x0.size : Int) then (if (bt x0 x11) = 47 then (if 0 ≤ (wrap64 (x11 + 1)) then (if (wrap64 (x11 + 1)) ≤ (x0.size : Int) then (solsticeref09_Abbr.L0 x0 x1 x2 x3 (x0.extract ((wrap64 (x11 + 1)) : Int).toNat x0.size) (wrap64 (x11 + 1))) else (none)) else (none)) else (if (bt x0 x11) = 37 then (if 0 ≤ (wrap64 (x11 + 1)) then (if (wrap64 (x11 + 1)) < (x0.size : Int) then (solsticeref09_Abbr.J3 x0 x1 x2 x3 x10 x11 ((bt x0 (wrap64 (x11 + 1))) == 115)) else (none)) else (none)) else (solsticeref09_Abbr.J3 x0 x1 x2 x3 x10 x11 false))) else (none)) else (none)) := by
  refine IsLim.step (solsticeref09_Abbr.isJ2 x0 x1 x2 x3 x10 x11 x32).mono (f := fun k => if x32 = true then (if 0 ≤ x11 then (if x11 ≤ (x0.size : Int) then (solsticeref09_Abbr.l0 k x0 x1 x2 x3 (x0.extract 0 (x11 : Int).toNat) (wrap64 (x11 + 1))) else (none)) else (none)) else (if 0 ≤ x11 then (if x11 < (x0.size : Int) then (if (bt x0 x11) = 47 then (if 0 ≤ (wrap64 (x11 + 1)) then (if (wrap64 (x11 + 1)) ≤ (x0.size : Int) then (solsticeref09_Abbr.l0 k x0 x1 x2 x3 (x0.extract ((wrap64 (x11 + 1)) : Int).toNat x0.size) (wrap64 (x11 + 1))) else (none)) else (none)) else (if (bt x0 x11) = 37 then (if 0 ≤ (wrap64 (x11 + 1)) then (if (wrap64 (x11 + 1)) < (x0.size : Int) then (solsticeref09_Abbr.j3 k x0 x1 x2 x3 x10 x11 ((bt x0 (wrap64 (x11 + 1))) == 115)) else (none)) else (none)) else (solsticeref09_Abbr.j3 k x0 x1 x2 x3 x10 x11 false))) else (none)) else (none))) (fun k => by rw [solsticeref09_Abbr.j2]) ?_
  · repeat' first
    | (with_reducible exact IsLim.const _)
    | (with_reducible exact solsticeref09_Abbr.isJ3 _ _ _ _ _ _ _)
    | (with_reducible exact solsticeref09_Abbr.isL0 _ _ _ _ _ _)
    | (with_reducible refine IsLim.ite ?_ ?_)
    | (with_reducible refine IsLim.bind ?_ (fun _ => ?_))
theorem solsticeref09_Abbr.J3_eq (x0 : ByteArray) (x1 : ByteArray) (x2 : Int) (x3 : Int) (x10 : ByteArray) (x11 : Int) (x53 : Bool) : solsticeref09_Abbr.J3 x0 x1 x2 x3 x10 x11 x53 = if x53 = true then (if 0 ≤ x11 then (if x11 ≤ (x0.size : Int) then (if (x0.extract 0 (x11 : Int).toNat).size + x1.size ≤ 9223372036854775807 then (if 0 ≤ (wrap64 (x11 + 2)) then (if (wrap64 (x11 + 2)) ≤ (x0.size : Int) then (if ((x0.extract 0 (x11 : Int).toNat) ++ x1).size + (x0.extract ((wrap64 (x11 + 2)) : Int).toNat x0.size).size ≤ 9223372036854775807 then (solsticeref09_Abbr.L0 x0 x1 x2 x3 (((x0.extract 0 (x11 : Int).toNat) ++ x1) ++ (x0.extract ((wrap64 (x11 + 2)) : Int).toNat x0.size)) (wrap64 (x11 + 1))) else (none)) else (none)) else (none)) else (none)) else (none)) else (none)) else (if 0 ≤ x11 then (if x11 < (x0.size : Int) then (if (bt x0 x11) = 37 then (if x11 ≤ (x0.size : Int) then ((solsticeref09_Short.F x2).bind fun t164 => (if (x0.extract 0 (x11 : Int).toNat).size + t164.size ≤ 9223372036854775807 then (if 0 ≤ (wrap64 (x11 + 2)) then (if (wrap64 (x11 + 2)) ≤ (x0.size : Int) then (if ((x0.extract 0 (x11 : Int).toNat) ++ t164).size + (x0.extract ((wrap64 (x11 + 2)) : Int).toNat x0.size).size ≤ 9223372036854775807 then (solsticeref09_Abbr.L0 x0 x1 x2 x3 (((x0.extract 0 (x11 : Int).toNat) ++ t164) ++ (x0.extract ((wrap64 (x11 + 2)) : Int).toNat x0.size)) (wrap64 (x11 + 1))) else (none)) else (none)) else (none)) else (none))) else (none)) else (solsticeref09_Abbr.L0 x0 x1 x2 x3 x10 (wrap64 (x11 + 1)))) else (none)) else (none)) := by
  refine IsLim.step (solsticeref09_Abbr.isJ3 x0 x1 x2 x3 x10 x11 x53).mono (f := fun k => if x53 = true then (if 0 ≤ x11 then (if x11 ≤ (x0.size : Int) then (if (x0.extract 0 (x11 : Int).toNat).size + x1.size ≤ 9223372036854775807 then (if 0 ≤ (wrap64 (x11 + 2)) then (if (wrap64 (x11 + 2)) ≤ (x0.size : Int) then (if ((x0.extract 0 (x11 : Int).toNat) ++ x1).size + (x0.extract ((wrap64 (x11 + 2)) : Int).toNat x0.size).size ≤ 9223372036854775807 then (solsticeref09_Abbr.l0 k x0 x1 x2 x3 (((x0.extract 0 (x11 : Int).toNat) ++ x1) ++ (x0.extract ((wrap64 (x11 + 2)) : Int).toNat x0.size)) (wrap64 (x11 + 1))) else (none)) else (none)) else (none)) else (none)) else (none)) else (none)) else (if 0 ≤ x11 then (if x11 < (x0.size : Int) then (if (bt x0 x11) = 37 then (if x11 ≤ (x0.size : Int) then ((solsticeref09_Short.f k x2).bind fun t164 => (if (x0.extract 0 (x11 : Int).toNat).size + t164.size ≤ 9223372036854775807 then (if 0 ≤ (wrap64 (x11 + 2)) then (if (wrap64 (x11 + 2)) ≤ (x0.size : Int) then (if ((x0.extract 0 (x11 : Int).toNat) ++ t164).size + (x0.extract ((wrap64 (x11 + 2)) : Int).toNat x0.size).size ≤ 9223372036854775807 then (solsticeref09_Abbr.l0 k x0 x1 x2 x3 (((x0.extract 0 (x11 : Int).toNat) ++ t164) ++ (x0.extract ((wrap64 (x11 + 2)) : Int).toNat x0.size)) (wrap64 (x11 + 1))) else (none)) else (none)) else (none)) else (none))) else (none)) else (solsticeref09_Abbr.l0 k x0 x1 x2 x3 x10 (wrap64 (x11 + 1)))) else (none)) else (none))) (fun k => by rw [solsticeref09_Abbr.j3]) ?_
  · repeat' first
    | (with_reducible exact IsLim.const _)
    | (with_reducible exact solsticeref09_Abbr.isL0 _ _ _ _ _ _)
    | (with_reducible exact solsticeref09_Short.isF _)
    | (with_reducible refine IsLim.ite ?_ ?_)
    | (with_reducible refine IsLim.bind ?_ (fun _ => ?_))
theorem solsticeref09_Abbr.F_eq (a0 : ByteArray) (a1 : ByteArray) (a2 : Int) (a3 : Int) : solsticeref09_Abbr.F a0 a1 a2 a3 = (solsticeref09_Format.F a0).bind fun t160 => (if t160 = true then ((solsticeref09_Letter.F a1).bind fun t161 => (if t161 = true then ((solsticeref09_in.f a2 (-172799) 172799).bind fun t162 => (solsticeref09_Abbr.J0 a0 a1 a2 a3 (!t162))) else (solsticeref09_Abbr.J0 a0 a1 a2 a3 true))) else (solsticeref09_Abbr.J0 a0 a1 a2 a3 true)) := by
  refine IsLim.eq (g := fun k => (solsticeref09_Format.f k a0).bind fun t160 => (if t160 = true then ((solsticeref09_Letter.f k a1).bind fun t161 => (if t161 = true then ((solsticeref09_in.f a2 (-172799) 172799).bind fun t162 => (solsticeref09_Abbr.j0 k a0 a1 a2 a3 (!t162))) else (solsticeref09_Abbr.j0 k a0 a1 a2 a3 true))) else (solsticeref09_Abbr.j0 k a0 a1 a2 a3 true))) ?_
  · repeat' first
    | (with_reducible exact IsLim.const _)
    | (with_reducible exact solsticeref09_Abbr.isJ0 _ _ _ _ _)
    | (with_reducible exact solsticeref09_Format.isF _)
    | (with_reducible exact solsticeref09_Letter.isF _)
    | (with_reducible refine IsLim.ite ?_ ?_)
    | (with_reducible refine IsLim.bind ?_ (fun _ => ?_))
end Go.Proofs.YtookjnpmbenheaaDoor.PFmt

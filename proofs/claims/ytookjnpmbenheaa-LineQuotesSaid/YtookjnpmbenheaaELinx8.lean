/- Printed functions of the family Lin without a bound on their rounds, and the equation that each meets. No condition. -/
import Derived.Test.YtookjnpmbenheaaBase
import Derived.Test.YtookjnpmbenheaaPLinx8
import Derived.Test.YtookjnpmbenheaaELinx7
namespace Go.Proofs.Ytookjnpmbenheaa.PLin
open Go.RowKit Go.Proofs.YtookjnpmbenheaaW.PrintWords Go.Proofs.YtookjnpmbenheaaW.PrintLast Go.Proofs.Ytookjnpmbenheaa.Base
set_option linter.unusedVariables false
noncomputable def solsticeref16_Line.J0 (x15 : Bool) (x178000 : ByteArray) (x178001 : List (S54)) (x178002 : ByteArray) : Option (Bool) := lim fun k => solsticeref16_Line.j0 k x15 x178000 x178001 x178002
noncomputable def solsticeref16_Line.L0 (x3 : Int) (x178000 : ByteArray) (x178001 : List (S54)) (x178002 : ByteArray) : Option (Bool) := lim fun k => solsticeref16_Line.l0 k x3 x178000 x178001 x178002
noncomputable def solsticeref16_Line.J2 (x3 : Int) (x37 : Bool) (x178000 : ByteArray) (x178001 : List (S54)) (x178002 : ByteArray) (x182000 : ByteArray) (x182001 : List ByteArray) : Option (Bool) := lim fun k => solsticeref16_Line.j2 k x3 x37 x178000 x178001 x178002 x182000 x182001
noncomputable def solsticeref16_Line.L1 (x3 : Int) (x5 : Int) (x178000 : ByteArray) (x178001 : List (S54)) (x178002 : ByteArray) (x182000 : ByteArray) (x182001 : List ByteArray) : Option (Bool) := lim fun k => solsticeref16_Line.l1 k x3 x5 x178000 x178001 x178002 x182000 x182001
noncomputable def solsticeref16_Line.F (a0_0 : ByteArray) (l0_1 : List (S54)) (a0_2 : ByteArray) : Option (Bool) := lim fun k => solsticeref16_Line.f k a0_0 l0_1 a0_2
theorem solsticeref16_Line.isJ0 (x15 : Bool) (x178000 : ByteArray) (x178001 : List (S54)) (x178002 : ByteArray) : IsLim (fun k => solsticeref16_Line.j0 k x15 x178000 x178001 x178002) (solsticeref16_Line.J0 x15 x178000 x178001 x178002) := ⟨fun k => (solsticeref16_Line.mono_l k).1 x15 x178000 x178001 x178002, rfl⟩
theorem solsticeref16_Line.isL0 (x3 : Int) (x178000 : ByteArray) (x178001 : List (S54)) (x178002 : ByteArray) : IsLim (fun k => solsticeref16_Line.l0 k x3 x178000 x178001 x178002) (solsticeref16_Line.L0 x3 x178000 x178001 x178002) := ⟨fun k => (solsticeref16_Line.mono_l k).2.1 x3 x178000 x178001 x178002, rfl⟩
theorem solsticeref16_Line.isJ2 (x3 : Int) (x37 : Bool) (x178000 : ByteArray) (x178001 : List (S54)) (x178002 : ByteArray) (x182000 : ByteArray) (x182001 : List ByteArray) : IsLim (fun k => solsticeref16_Line.j2 k x3 x37 x178000 x178001 x178002 x182000 x182001) (solsticeref16_Line.J2 x3 x37 x178000 x178001 x178002 x182000 x182001) := ⟨fun k => (solsticeref16_Line.mono_l k).2.2.1 x3 x37 x178000 x178001 x178002 x182000 x182001, rfl⟩
theorem solsticeref16_Line.isL1 (x3 : Int) (x5 : Int) (x178000 : ByteArray) (x178001 : List (S54)) (x178002 : ByteArray) (x182000 : ByteArray) (x182001 : List ByteArray) : IsLim (fun k => solsticeref16_Line.l1 k x3 x5 x178000 x178001 x178002 x182000 x182001) (solsticeref16_Line.L1 x3 x5 x178000 x178001 x178002 x182000 x182001) := ⟨fun k => (solsticeref16_Line.mono_l k).2.2.2 x3 x5 x178000 x178001 x178002 x182000 x182001, rfl⟩
theorem solsticeref16_Line.isF (a0_0 : ByteArray) (l0_1 : List (S54)) (a0_2 : ByteArray) : IsLim (fun k => solsticeref16_Line.f k a0_0 l0_1 a0_2) (solsticeref16_Line.F a0_0 l0_1 a0_2) := ⟨fun k => solsticeref16_Line.mono a0_0 l0_1 a0_2 k, rfl⟩
theorem solsticeref16_Line.J0_eq (x15 : Bool) (x178000 : ByteArray) (x178001 : List (S54)) (x178002 : ByteArray) : solsticeref16_Line.J0 x15 x178000 x178001 x178002 = if x15 = true then (some false) else (solsticeref16_Line.L0 0 x178000 x178001 x178002) := by
  refine IsLim.step (solsticeref16_Line.isJ0 x15 x178000 x178001 x178002).mono (f := fun k => if x15 = true then (some false) else (solsticeref16_Line.l0 k 0 x178000 x178001 x178002)) (fun k => by rw [solsticeref16_Line.j0]) ?_
  · repeat' first
    | (with_reducible exact IsLim.const _)
    | (with_reducible exact solsticeref16_Line.isL0 _ _ _ _)
    | (with_reducible refine IsLim.ite ?_ ?_)
    | (with_reducible refine IsLim.bind ?_ (fun _ => ?_))
theorem solsticeref16_Line.L0_eq (x3 : Int) (x178000 : ByteArray) (x178001 : List (S54)) (x178002 : ByteArray) : solsticeref16_Line.L0 x3 x178000 x178001 x178002 = if x3 < (x178001.length : Int) then (if 0 ≤ x3 then ((solsticeref16_Name.F ((rd_T54 x178001 x3).f0)).bind fun t182 => (if t182 = true then (solsticeref16_Line.J2 x3 ((((rd_T54 x178001 x3).f1).length : Int) == 0) x178000 x178001 x178002 ((rd_T54 x178001 x3).f0) ((rd_T54 x178001 x3).f1)) else (solsticeref16_Line.J2 x3 true x178000 x178001 x178002 ((rd_T54 x178001 x3).f0) ((rd_T54 x178001 x3).f1)))) else (none)) else (some true) := by
  refine IsLim.step (solsticeref16_Line.isL0 x3 x178000 x178001 x178002).mono (f := fun k => if x3 < (x178001.length : Int) then (if 0 ≤ x3 then ((solsticeref16_Name.f k ((rd_T54 x178001 x3).f0)).bind fun t182 => (if t182 = true then (solsticeref16_Line.j2 k x3 ((((rd_T54 x178001 x3).f1).length : Int) == 0) x178000 x178001 x178002 ((rd_T54 x178001 x3).f0) ((rd_T54 x178001 x3).f1)) else (solsticeref16_Line.j2 k x3 true x178000 x178001 x178002 ((rd_T54 x178001 x3).f0) ((rd_T54 x178001 x3).f1)))) else (none)) else (some true)) (fun k => by rw [solsticeref16_Line.l0]) ?_
  · repeat' first
    | (with_reducible exact IsLim.const _)
    | (with_reducible exact solsticeref16_Line.isJ2 _ _ _ _ _ _ _)
    | (with_reducible exact solsticeref16_Name.isF _)
    | (with_reducible refine IsLim.ite ?_ ?_)
    | (with_reducible refine IsLim.bind ?_ (fun _ => ?_))
theorem solsticeref16_Line.J2_eq (x3 : Int) (x37 : Bool) (x178000 : ByteArray) (x178001 : List (S54)) (x178002 : ByteArray) (x182000 : ByteArray) (x182001 : List ByteArray) : solsticeref16_Line.J2 x3 x37 x178000 x178001 x178002 x182000 x182001 = if x37 = true then (some false) else (solsticeref16_Line.L1 x3 0 x178000 x178001 x178002 x182000 x182001) := by
  refine IsLim.step (solsticeref16_Line.isJ2 x3 x37 x178000 x178001 x178002 x182000 x182001).mono (f := fun k => if x37 = true then (some false) else (solsticeref16_Line.l1 k x3 0 x178000 x178001 x178002 x182000 x182001)) (fun k => by rw [solsticeref16_Line.j2]) ?_
  · repeat' first
    | (with_reducible exact IsLim.const _)
    | (with_reducible exact solsticeref16_Line.isL1 _ _ _ _ _ _ _)
    | (with_reducible refine IsLim.ite ?_ ?_)
    | (with_reducible refine IsLim.bind ?_ (fun _ => ?_))
theorem solsticeref16_Line.L1_eq (x3 : Int) (x5 : Int) (x178000 : ByteArray) (x178001 : List (S54)) (x178002 : ByteArray) (x182000 : ByteArray) (x182001 : List ByteArray) : solsticeref16_Line.L1 x3 x5 x178000 x178001 x178002 x182000 x182001 = if x5 < (x182001.length : Int) then (if 0 ≤ x5 then ((solsticeref16_clean.F (rdOf ByteArray.empty x182001 x5) true).bind fun t184 => (if t184 = true then (solsticeref16_Line.L1 x3 (wrap64 (x5 + 1)) x178000 x178001 x178002 x182000 x182001) else (some false))) else (none)) else (solsticeref16_Line.L0 (wrap64 (x3 + 1)) x178000 x178001 x178002) := by
  refine IsLim.step (solsticeref16_Line.isL1 x3 x5 x178000 x178001 x178002 x182000 x182001).mono (f := fun k => if x5 < (x182001.length : Int) then (if 0 ≤ x5 then ((solsticeref16_clean.f k (rdOf ByteArray.empty x182001 x5) true).bind fun t184 => (if t184 = true then (solsticeref16_Line.l1 k x3 (wrap64 (x5 + 1)) x178000 x178001 x178002 x182000 x182001) else (some false))) else (none)) else (solsticeref16_Line.l0 k (wrap64 (x3 + 1)) x178000 x178001 x178002)) (fun k => by rw [solsticeref16_Line.l1]) ?_
  · repeat' first
    | (with_reducible exact IsLim.const _)
    | (with_reducible exact solsticeref16_Line.isL0 _ _ _ _)
    | (with_reducible exact solsticeref16_Line.isL1 _ _ _ _ _ _ _)
    | (with_reducible exact solsticeref16_clean.isF _ _)
    | (with_reducible refine IsLim.ite ?_ ?_)
    | (with_reducible refine IsLim.bind ?_ (fun _ => ?_))
theorem solsticeref16_Line.F_eq (a0_0 : ByteArray) (l0_1 : List (S54)) (a0_2 : ByteArray) : solsticeref16_Line.F a0_0 l0_1 a0_2 = (solsticeref16_Name.F a0_0).bind fun t178 => (if t178 = true then ((solsticeref16_clean.F a0_2 false).bind fun t179 => (solsticeref16_Line.J0 (!t179) a0_0 l0_1 a0_2)) else (solsticeref16_Line.J0 true a0_0 l0_1 a0_2)) := by
  refine IsLim.eq (g := fun k => (solsticeref16_Name.f k a0_0).bind fun t178 => (if t178 = true then ((solsticeref16_clean.f k a0_2 false).bind fun t179 => (solsticeref16_Line.j0 k (!t179) a0_0 l0_1 a0_2)) else (solsticeref16_Line.j0 k true a0_0 l0_1 a0_2))) ?_
  · repeat' first
    | (with_reducible exact IsLim.const _)
    | (with_reducible exact solsticeref16_Line.isJ0 _ _ _ _)
    | (with_reducible exact solsticeref16_Name.isF _)
    | (with_reducible exact solsticeref16_clean.isF _ _)
    | (with_reducible refine IsLim.ite ?_ ?_)
    | (with_reducible refine IsLim.bind ?_ (fun _ => ?_))
end Go.Proofs.Ytookjnpmbenheaa.PLin

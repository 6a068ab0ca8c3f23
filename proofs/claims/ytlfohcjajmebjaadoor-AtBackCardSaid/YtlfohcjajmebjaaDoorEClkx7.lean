/- Printed functions of the family Clk without a bound on their rounds, and the equation that each meets. No condition. -/
import Derived.Test.YtlfohcjajmebjaaDoorBase
import Derived.Test.YtlfohcjajmebjaaDoorPClkx7
import Derived.Test.YtlfohcjajmebjaaDoorEClkx5
import Derived.Test.YtlfohcjajmebjaaDoorEClkx6
namespace Go.Proofs.YtlfohcjajmebjaaDoor.PClk
open Go.RowKit Go.Proofs.YtlfohcjajmebjaaDoorW.PrintWords Go.Proofs.YtlfohcjajmebjaaDoorW.PrintLast Go.Proofs.YtlfohcjajmebjaaDoor.Base
set_option linter.unusedVariables false
noncomputable def solsticeref01_Clock.J0 (x0 : ByteArray) (x4 : Int) (x19 : Bool) : Option (Int × Bool) := lim fun k => solsticeref01_Clock.j0 k x0 x4 x19
noncomputable def solsticeref01_Clock.J1 (x0 : ByteArray) (x4 : Int) : Option (Int × Bool) := lim fun k => solsticeref01_Clock.j1 k x0 x4
noncomputable def solsticeref01_Clock.L0 (x0 : ByteArray) (x4 : Int) (x5 : List ByteArray) (x6 : Int) (x7 : Int) : Option (Int × Bool) := lim fun k => solsticeref01_Clock.l0 k x0 x4 x5 x6 x7
noncomputable def solsticeref01_Clock.J3 (x4 : Int) (x5 : List ByteArray) (x56 : Bool) : Option (Int × Bool) := lim fun k => solsticeref01_Clock.j3 k x4 x5 x56
noncomputable def solsticeref01_Clock.L1 (x4 : Int) (x5 : List ByteArray) (x8 : Int) (x9 : Int) : Option (Int × Bool) := lim fun k => solsticeref01_Clock.l1 k x4 x5 x8 x9
noncomputable def solsticeref01_Clock.J5 (x4 : Int) (x5 : List ByteArray) (x8 : Int) (x9 : Int) (x81 : Bool) : Option (Int × Bool) := lim fun k => solsticeref01_Clock.j5 k x4 x5 x8 x9 x81
noncomputable def solsticeref01_Clock.F (a0 : ByteArray) : Option (Int × Bool) := lim fun k => solsticeref01_Clock.f k a0
theorem solsticeref01_Clock.isJ0 (x0 : ByteArray) (x4 : Int) (x19 : Bool) : IsLim (fun k => solsticeref01_Clock.j0 k x0 x4 x19) (solsticeref01_Clock.J0 x0 x4 x19) := ⟨fun k => (solsticeref01_Clock.mono_l k).1 x0 x4 x19, rfl⟩
theorem solsticeref01_Clock.isJ1 (x0 : ByteArray) (x4 : Int) : IsLim (fun k => solsticeref01_Clock.j1 k x0 x4) (solsticeref01_Clock.J1 x0 x4) := ⟨fun k => (solsticeref01_Clock.mono_l k).2.1 x0 x4, rfl⟩
theorem solsticeref01_Clock.isL0 (x0 : ByteArray) (x4 : Int) (x5 : List ByteArray) (x6 : Int) (x7 : Int) : IsLim (fun k => solsticeref01_Clock.l0 k x0 x4 x5 x6 x7) (solsticeref01_Clock.L0 x0 x4 x5 x6 x7) := ⟨fun k => (solsticeref01_Clock.mono_l k).2.2.1 x0 x4 x5 x6 x7, rfl⟩
theorem solsticeref01_Clock.isJ3 (x4 : Int) (x5 : List ByteArray) (x56 : Bool) : IsLim (fun k => solsticeref01_Clock.j3 k x4 x5 x56) (solsticeref01_Clock.J3 x4 x5 x56) := ⟨fun k => (solsticeref01_Clock.mono_l k).2.2.2.1 x4 x5 x56, rfl⟩
theorem solsticeref01_Clock.isL1 (x4 : Int) (x5 : List ByteArray) (x8 : Int) (x9 : Int) : IsLim (fun k => solsticeref01_Clock.l1 k x4 x5 x8 x9) (solsticeref01_Clock.L1 x4 x5 x8 x9) := ⟨fun k => (solsticeref01_Clock.mono_l k).2.2.2.2.1 x4 x5 x8 x9, rfl⟩
theorem solsticeref01_Clock.isJ5 (x4 : Int) (x5 : List ByteArray) (x8 : Int) (x9 : Int) (x81 : Bool) : IsLim (fun k => solsticeref01_Clock.j5 k x4 x5 x8 x9 x81) (solsticeref01_Clock.J5 x4 x5 x8 x9 x81) := ⟨fun k => (solsticeref01_Clock.mono_l k).2.2.2.2.2 x4 x5 x8 x9 x81, rfl⟩
theorem solsticeref01_Clock.isF (a0 : ByteArray) : IsLim (fun k => solsticeref01_Clock.f k a0) (solsticeref01_Clock.F a0) := ⟨fun k => solsticeref01_Clock.mono a0 k, rfl⟩
theorem solsticeref01_Clock.J0_eq (x0 : ByteArray) (x4 : Int) (x19 : Bool) : solsticeref01_Clock.J0 x0 x4 x19 = if x19 = true then (if 1 ≤ (x0.size : Int) then (solsticeref01_Clock.J1 (x0.extract 1 x0.size) (-1)) else (none)) else (solsticeref01_Clock.J1 x0 x4) := by
  refine IsLim.step (solsticeref01_Clock.isJ0 x0 x4 x19).mono (f := fun k => if x19 = true then (if 1 ≤ (x0.size : Int) then (solsticeref01_Clock.j1 k (x0.extract 1 x0.size) (-1)) else (none)) else (solsticeref01_Clock.j1 k x0 x4)) (fun k => by rw [solsticeref01_Clock.j0]) ?_
  · repeat' first
    | (with_reducible exact IsLim.const _)
    | (with_reducible exact solsticeref01_Clock.isJ1 _ _)
    | (with_reducible refine IsLim.ite ?_ ?_)
    | (with_reducible refine IsLim.bind ?_ (fun _ => ?_))
theorem solsticeref01_Clock.J1_eq (x0 : ByteArray) (x4 : Int) : solsticeref01_Clock.J1 x0 x4 = solsticeref01_Clock.L0 x0 x4 ([] : List ByteArray) 0 0 := by
  refine IsLim.step (solsticeref01_Clock.isJ1 x0 x4).mono (f := fun k => solsticeref01_Clock.l0 k x0 x4 ([] : List ByteArray) 0 0) (fun k => by rw [solsticeref01_Clock.j1]) ?_
  · repeat' first
    | (with_reducible exact IsLim.const _)
    | (with_reducible exact solsticeref01_Clock.isL0 _ _ _ _ _)
    | (with_reducible refine IsLim.ite ?_ ?_)
    | (with_reducible refine IsLim.bind ?_ (fun _ => ?_))
theorem solsticeref01_Clock.L0_eq (x0 : ByteArray) (x4 : Int) (x5 : List ByteArray) (x6 : Int) (x7 : Int) : solsticeref01_Clock.L0 x0 x4 x5 x6 x7 = if x7 ≤ (x0.size : Int) then (if x7 = (x0.size : Int) then (if 0 ≤ x6 then (if x6 ≤ x7 then (if x5.length < 8796093022208 then (solsticeref01_Clock.L0 x0 x4 (x5 ++ [x0.extract (x6 : Int).toNat (x7 : Int).toNat]) (wrap64 (x7 + 1)) (wrap64 (x7 + 1))) else (none)) else (none)) else (none)) else (if 0 ≤ x7 then (if x7 < (x0.size : Int) then (if (bt x0 x7) = 58 then (if 0 ≤ x6 then (if x6 ≤ x7 then (if x5.length < 8796093022208 then (solsticeref01_Clock.L0 x0 x4 (x5 ++ [x0.extract (x6 : Int).toNat (x7 : Int).toNat]) (wrap64 (x7 + 1)) (wrap64 (x7 + 1))) else (none)) else (none)) else (none)) else (solsticeref01_Clock.L0 x0 x4 x5 x6 (wrap64 (x7 + 1)))) else (none)) else (none))) else (if (x5.length : Int) > 3 then (solsticeref01_Clock.J3 x4 x5 true) else (if 0 < (x5.length : Int) then ((solsticeref01_Digits.F (rdOf ByteArray.empty x5 0) 1 3).bind fun t175 => (solsticeref01_Clock.J3 x4 x5 (!t175))) else (none))) := by
  refine IsLim.step (solsticeref01_Clock.isL0 x0 x4 x5 x6 x7).mono (f := fun k => if x7 ≤ (x0.size : Int) then (if x7 = (x0.size : Int) then (if 0 ≤ x6 then (if x6 ≤ x7 then (if x5.length < 8796093022208 then (solsticeref01_Clock.l0 k x0 x4 (x5 ++ [x0.extract (x6 : Int).toNat (x7 : Int).toNat]) (wrap64 (x7 + 1)) (wrap64 (x7 + 1))) else (none)) else (none)) else (none)) else (if 0 ≤ x7 then (if x7 < (x0.size : Int) then (if (bt x0 x7) = 58 then (if 0 ≤ x6 then (if x6 ≤ x7 then (if x5.length < 8796093022208 then (solsticeref01_Clock.l0 k x0 x4 (x5 ++ [x0.extract (x6 : Int).toNat (x7 : Int).toNat]) (wrap64 (x7 + 1)) (wrap64 (x7 + 1))) else (none)) else (none)) else (none)) else (solsticeref01_Clock.l0 k x0 x4 x5 x6 (wrap64 (x7 + 1)))) else (none)) else (none))) else (if (x5.length : Int) > 3 then (solsticeref01_Clock.j3 k x4 x5 true) else (if 0 < (x5.length : Int) then ((solsticeref01_Digits.f k (rdOf ByteArray.empty x5 0) 1 3).bind fun t175 => (solsticeref01_Clock.j3 k x4 x5 (!t175))) else (none)))) (fun k => by rw [solsticeref01_Clock.l0]) ?_
  · repeat' first
    | (with_reducible exact IsLim.const _)
    | (with_reducible exact solsticeref01_Clock.isJ3 _ _ _)
    | (with_reducible exact solsticeref01_Clock.isL0 _ _ _ _ _)
    | (with_reducible exact solsticeref01_Digits.isF _ _ _)
    | (with_reducible refine IsLim.ite ?_ ?_)
    | (with_reducible refine IsLim.bind ?_ (fun _ => ?_))
theorem solsticeref01_Clock.J3_eq (x4 : Int) (x5 : List ByteArray) (x56 : Bool) : solsticeref01_Clock.J3 x4 x5 x56 = if x56 = true then (some (0, false)) else (if 0 < (x5.length : Int) then ((solsticeref01_Value.F (rdOf ByteArray.empty x5 0)).bind fun t177 => (solsticeref01_Clock.L1 x4 x5 (wrap64 (3600 * t177)) 1)) else (none)) := by
  refine IsLim.step (solsticeref01_Clock.isJ3 x4 x5 x56).mono (f := fun k => if x56 = true then (some (0, false)) else (if 0 < (x5.length : Int) then ((solsticeref01_Value.f k (rdOf ByteArray.empty x5 0)).bind fun t177 => (solsticeref01_Clock.l1 k x4 x5 (wrap64 (3600 * t177)) 1)) else (none))) (fun k => by rw [solsticeref01_Clock.j3]) ?_
  · repeat' first
    | (with_reducible exact IsLim.const _)
    | (with_reducible exact solsticeref01_Clock.isL1 _ _ _ _)
    | (with_reducible exact solsticeref01_Value.isF _)
    | (with_reducible refine IsLim.ite ?_ ?_)
    | (with_reducible refine IsLim.bind ?_ (fun _ => ?_))
theorem solsticeref01_Clock.L1_eq (x4 : Int) (x5 : List ByteArray) (x8 : Int) (x9 : Int) : solsticeref01_Clock.L1 x4 x5 x8 x9 = if x9 < (x5.length : Int) then (if 0 ≤ x9 then ((solsticeref01_Digits.F (rdOf ByteArray.empty x5 x9) 2 2).bind fun t179 => (if t179 = true then ((solsticeref01_Value.F (rdOf ByteArray.empty x5 x9)).bind fun t181 => (solsticeref01_Clock.J5 x4 x5 x8 x9 (decide (t181 > 59)))) else (solsticeref01_Clock.J5 x4 x5 x8 x9 true))) else (none)) else (if x8 > 345600 then (some (0, false)) else (some (wrap64 (x4 * x8), true))) := by
  refine IsLim.step (solsticeref01_Clock.isL1 x4 x5 x8 x9).mono (f := fun k => if x9 < (x5.length : Int) then (if 0 ≤ x9 then ((solsticeref01_Digits.f k (rdOf ByteArray.empty x5 x9) 2 2).bind fun t179 => (if t179 = true then ((solsticeref01_Value.f k (rdOf ByteArray.empty x5 x9)).bind fun t181 => (solsticeref01_Clock.j5 k x4 x5 x8 x9 (decide (t181 > 59)))) else (solsticeref01_Clock.j5 k x4 x5 x8 x9 true))) else (none)) else (if x8 > 345600 then (some (0, false)) else (some (wrap64 (x4 * x8), true)))) (fun k => by rw [solsticeref01_Clock.l1]) ?_
  · repeat' first
    | (with_reducible exact IsLim.const _)
    | (with_reducible exact solsticeref01_Clock.isJ5 _ _ _ _ _)
    | (with_reducible exact solsticeref01_Digits.isF _ _ _)
    | (with_reducible exact solsticeref01_Value.isF _)
    | (with_reducible refine IsLim.ite ?_ ?_)
    | (with_reducible refine IsLim.bind ?_ (fun _ => ?_))
theorem solsticeref01_Clock.J5_eq (x4 : Int) (x5 : List ByteArray) (x8 : Int) (x9 : Int) (x81 : Bool) : solsticeref01_Clock.J5 x4 x5 x8 x9 x81 = if x81 = true then (some (0, false)) else (if x9 = 1 then (if 0 ≤ x9 then (if x9 < (x5.length : Int) then ((solsticeref01_Value.F (rdOf ByteArray.empty x5 x9)).bind fun t183 => (solsticeref01_Clock.L1 x4 x5 (wrap64 (x8 + (wrap64 (60 * t183)))) (wrap64 (x9 + 1)))) else (none)) else (none)) else (if 0 ≤ x9 then (if x9 < (x5.length : Int) then ((solsticeref01_Value.F (rdOf ByteArray.empty x5 x9)).bind fun t185 => (solsticeref01_Clock.L1 x4 x5 (wrap64 (x8 + t185)) (wrap64 (x9 + 1)))) else (none)) else (none))) := by
  refine IsLim.step (solsticeref01_Clock.isJ5 x4 x5 x8 x9 x81).mono (f := fun k => if x81 = true then (some (0, false)) else (if x9 = 1 then (if 0 ≤ x9 then (if x9 < (x5.length : Int) then ((solsticeref01_Value.f k (rdOf ByteArray.empty x5 x9)).bind fun t183 => (solsticeref01_Clock.l1 k x4 x5 (wrap64 (x8 + (wrap64 (60 * t183)))) (wrap64 (x9 + 1)))) else (none)) else (none)) else (if 0 ≤ x9 then (if x9 < (x5.length : Int) then ((solsticeref01_Value.f k (rdOf ByteArray.empty x5 x9)).bind fun t185 => (solsticeref01_Clock.l1 k x4 x5 (wrap64 (x8 + t185)) (wrap64 (x9 + 1)))) else (none)) else (none)))) (fun k => by rw [solsticeref01_Clock.j5]) ?_
  · repeat' first
    | (with_reducible exact IsLim.const _)
    | (with_reducible exact solsticeref01_Clock.isL1 _ _ _ _)
    | (with_reducible exact solsticeref01_Value.isF _)
    | (with_reducible refine IsLim.ite ?_ ?_)
    | (with_reducible refine IsLim.bind ?_ (fun _ => ?_))
theorem solsticeref01_Clock.F_eq (a0 : ByteArray) : solsticeref01_Clock.F a0 = if a0.toList = ([45] : List UInt8) then (some (0, true)) else (if (a0.size : Int) > 0 then (if 0 < (a0.size : Int) then (solsticeref01_Clock.J0 a0 1 ((bt a0 0) == 45)) else (none)) else (solsticeref01_Clock.J0 a0 1 false)) := by
  refine IsLim.eq (g := fun k => if a0.toList = ([45] : List UInt8) then (some (0, true)) else (if (a0.size : Int) > 0 then (if 0 < (a0.size : Int) then (solsticeref01_Clock.j0 k a0 1 ((bt a0 0) == 45)) else (none)) else (solsticeref01_Clock.j0 k a0 1 false))) ?_
  · repeat' first
    | (with_reducible exact IsLim.const _)
    | (with_reducible exact solsticeref01_Clock.isJ0 _ _ _)
    | (with_reducible refine IsLim.ite ?_ ?_)
    | (with_reducible refine IsLim.bind ?_ (fun _ => ?_))
end Go.Proofs.YtlfohcjajmebjaaDoor.PClk

/- Printed functions of the family Fol without a bound on their rounds, and the equation that each meets. No condition. -/
import Derived.Test.YtfiiipjglacejaaDoorBase
import Derived.Test.YtfiiipjglacejaaDoorPFolx7
import Derived.Test.YtfiiipjglacejaaDoorEFolx1
import Derived.Test.YtfiiipjglacejaaDoorEFolx4
namespace Go.Proofs.YtfiiipjglacejaaDoor.PFol
open Go.RowKit Go.Proofs.YtfiiipjglacejaaDoorW.PrintWords Go.Proofs.YtfiiipjglacejaaDoorW.PrintLast Go.Proofs.YtfiiipjglacejaaDoor.Base
set_option linter.unusedVariables false
noncomputable def solsticelaw16_signs.L0 (x0 : ByteArray) (x3 : Int) (x4 : Int) : Option (Bool) := lim fun k => solsticelaw16_signs.l0 k x0 x3 x4
noncomputable def solsticelaw16_signs.J1 (x0 : ByteArray) (x4 : Int) (x5 : Int) (x28 : Bool) : Option (Bool) := lim fun k => solsticelaw16_signs.j1 k x0 x4 x5 x28
noncomputable def solsticelaw16_signs.J2 (x0 : ByteArray) (x4 : Int) (x5 : Int) (x35 : Bool) : Option (Bool) := lim fun k => solsticelaw16_signs.j2 k x0 x4 x5 x35
noncomputable def solsticelaw16_signs.F (a0 : ByteArray) : Option (Bool) := lim fun k => solsticelaw16_signs.f k a0
theorem solsticelaw16_signs.isL0 (x0 : ByteArray) (x3 : Int) (x4 : Int) : IsLim (fun k => solsticelaw16_signs.l0 k x0 x3 x4) (solsticelaw16_signs.L0 x0 x3 x4) := ⟨fun k => (solsticelaw16_signs.mono_l k).1 x0 x3 x4, rfl⟩
theorem solsticelaw16_signs.isJ1 (x0 : ByteArray) (x4 : Int) (x5 : Int) (x28 : Bool) : IsLim (fun k => solsticelaw16_signs.j1 k x0 x4 x5 x28) (solsticelaw16_signs.J1 x0 x4 x5 x28) := ⟨fun k => (solsticelaw16_signs.mono_l k).2.1 x0 x4 x5 x28, rfl⟩
theorem solsticelaw16_signs.isJ2 (x0 : ByteArray) (x4 : Int) (x5 : Int) (x35 : Bool) : IsLim (fun k => solsticelaw16_signs.j2 k x0 x4 x5 x35) (solsticelaw16_signs.J2 x0 x4 x5 x35) := ⟨fun k => (solsticelaw16_signs.mono_l k).2.2 x0 x4 x5 x35, rfl⟩
theorem solsticelaw16_signs.isF (a0 : ByteArray) : IsLim (fun k => solsticelaw16_signs.f k a0) (solsticelaw16_signs.F a0) := ⟨fun k => solsticelaw16_signs.mono a0 k, rfl⟩
theorem solsticelaw16_signs.L0_eq (x0 : ByteArray) (x3 : Int) (x4 : Int) : solsticelaw16_signs.L0 x0 x3 x4 = if x4 < (x0.size : Int) then (if 0 ≤ x4 then (if x3 > 0 then (if (bt x0 x4) < 128 then (some false) else (if (bt x0 x4) ≥ 192 then (some false) else (solsticelaw16_signs.L0 x0 (wrap64 (x3 - 1)) (wrap64 (x4 + 1))))) else (if (bt x0 x4) < 128 then (solsticelaw16_signs.L0 x0 x3 (wrap64 (x4 + 1))) else (if (bt x0 x4) ≥ 192 then (solsticelaw16_signs.J1 x0 x4 (bt x0 x4) (decide ((bt x0 x4) < 224))) else (solsticelaw16_signs.J1 x0 x4 (bt x0 x4) false)))) else (none)) else (some (x3 == 0)) := by
  refine IsLim.step (solsticelaw16_signs.isL0 x0 x3 x4).mono (f := fun k => if x4 < (x0.size : Int) then (if 0 ≤ x4 then (if x3 > 0 then (if (bt x0 x4) < 128 then (some false) else (if (bt x0 x4) ≥ 192 then (some false) else (solsticelaw16_signs.l0 k x0 (wrap64 (x3 - 1)) (wrap64 (x4 + 1))))) else (if (bt x0 x4) < 128 then (solsticelaw16_signs.l0 k x0 x3 (wrap64 (x4 + 1))) else (if (bt x0 x4) ≥ 192 then (solsticelaw16_signs.j1 k x0 x4 (bt x0 x4) (decide ((bt x0 x4) < 224))) else (solsticelaw16_signs.j1 k x0 x4 (bt x0 x4) false)))) else (none)) else (some (x3 == 0))) (fun k => by rw [solsticelaw16_signs.l0]) ?_
  · repeat' first
    | (with_reducible exact IsLim.const _)
    | (with_reducible exact solsticelaw16_signs.isJ1 _ _ _ _)
    | (with_reducible exact solsticelaw16_signs.isL0 _ _ _)
    | (with_reducible refine IsLim.ite ?_ ?_)
    | (with_reducible refine IsLim.bind ?_ (fun _ => ?_))
theorem solsticelaw16_signs.J1_eq (x0 : ByteArray) (x4 : Int) (x5 : Int) (x28 : Bool) : solsticelaw16_signs.J1 x0 x4 x5 x28 = if x28 = true then (solsticelaw16_signs.L0 x0 1 (wrap64 (x4 + 1))) else (if x5 ≥ 224 then (solsticelaw16_signs.J2 x0 x4 x5 (decide (x5 < 240))) else (solsticelaw16_signs.J2 x0 x4 x5 false)) := by
  refine IsLim.step (solsticelaw16_signs.isJ1 x0 x4 x5 x28).mono (f := fun k => if x28 = true then (solsticelaw16_signs.l0 k x0 1 (wrap64 (x4 + 1))) else (if x5 ≥ 224 then (solsticelaw16_signs.j2 k x0 x4 x5 (decide (x5 < 240))) else (solsticelaw16_signs.j2 k x0 x4 x5 false))) (fun k => by rw [solsticelaw16_signs.j1]) ?_
  · repeat' first
    | (with_reducible exact IsLim.const _)
    | (with_reducible exact solsticelaw16_signs.isJ2 _ _ _ _)
    | (with_reducible exact solsticelaw16_signs.isL0 _ _ _)
    | (with_reducible refine IsLim.ite ?_ ?_)
    | (with_reducible refine IsLim.bind ?_ (fun _ => ?_))
theorem solsticelaw16_signs.J2_eq (x0 : ByteArray) (x4 : Int) (x5 : Int) (x35 : Bool) : solsticelaw16_signs.J2 x0 x4 x5 x35 = if x35 = true then (solsticelaw16_signs.L0 x0 2 (wrap64 (x4 + 1))) else (if x5 ≥ 240 then (if x5 < 248 then (solsticelaw16_signs.L0 x0 3 (wrap64 (x4 + 1))) else (some false)) else (some false)) := by
  refine IsLim.step (solsticelaw16_signs.isJ2 x0 x4 x5 x35).mono (f := fun k => if x35 = true then (solsticelaw16_signs.l0 k x0 2 (wrap64 (x4 + 1))) else (if x5 ≥ 240 then (if x5 < 248 then (solsticelaw16_signs.l0 k x0 3 (wrap64 (x4 + 1))) else (some false)) else (some false))) (fun k => by rw [solsticelaw16_signs.j2]) ?_
  · repeat' first
    | (with_reducible exact IsLim.const _)
    | (with_reducible exact solsticelaw16_signs.isL0 _ _ _)
    | (with_reducible refine IsLim.ite ?_ ?_)
    | (with_reducible refine IsLim.bind ?_ (fun _ => ?_))
theorem solsticelaw16_signs.F_eq (a0 : ByteArray) : solsticelaw16_signs.F a0 = solsticelaw16_signs.L0 a0 0 0 := by
  refine IsLim.eq (g := fun k => solsticelaw16_signs.l0 k a0 0 0) ?_
  · repeat' first
    | (with_reducible exact IsLim.const _)
    | (with_reducible exact solsticelaw16_signs.isL0 _ _ _)
    | (with_reducible refine IsLim.ite ?_ ?_)
    | (with_reducible refine IsLim.bind ?_ (fun _ => ?_))
noncomputable def solsticelaw16_FoldShort.L0 (x0 : ByteArray) (x3 : ByteArray) (x5 : Int) (x6 : Int) : Option (Bool) := lim fun k => solsticelaw16_FoldShort.l0 k x0 x3 x5 x6
noncomputable def solsticelaw16_FoldShort.J1 (x0 : ByteArray) (x3 : ByteArray) (x6 : Int) (x43 : Bool) : Option (Bool) := lim fun k => solsticelaw16_FoldShort.j1 k x0 x3 x6 x43
noncomputable def solsticelaw16_FoldShort.F (a0 : ByteArray) : Option (Bool) := lim fun k => solsticelaw16_FoldShort.f k a0
theorem solsticelaw16_FoldShort.isL0 (x0 : ByteArray) (x3 : ByteArray) (x5 : Int) (x6 : Int) : IsLim (fun k => solsticelaw16_FoldShort.l0 k x0 x3 x5 x6) (solsticelaw16_FoldShort.L0 x0 x3 x5 x6) := ⟨fun k => (solsticelaw16_FoldShort.mono_l k).1 x0 x3 x5 x6, rfl⟩
theorem solsticelaw16_FoldShort.isJ1 (x0 : ByteArray) (x3 : ByteArray) (x6 : Int) (x43 : Bool) : IsLim (fun k => solsticelaw16_FoldShort.j1 k x0 x3 x6 x43) (solsticelaw16_FoldShort.J1 x0 x3 x6 x43) := ⟨fun k => (solsticelaw16_FoldShort.mono_l k).2 x0 x3 x6 x43, rfl⟩
theorem solsticelaw16_FoldShort.isF (a0 : ByteArray) : IsLim (fun k => solsticelaw16_FoldShort.f k a0) (solsticelaw16_FoldShort.F a0) := ⟨fun k => solsticelaw16_FoldShort.mono a0 k, rfl⟩
theorem solsticelaw16_FoldShort.L0_eq (x0 : ByteArray) (x3 : ByteArray) (x5 : Int) (x6 : Int) : solsticelaw16_FoldShort.L0 x0 x3 x5 x6 = if (wrap64 (x6 + 1)) < (x3.size : Int) then (if 0 ≤ x6 then (if x6 < (x3.size : Int) then (if (bt x3 x6) = 13 then (if 0 ≤ (wrap64 (x6 + 1)) then (if (bt x3 (wrap64 (x6 + 1))) = 10 then (solsticelaw16_FoldShort.J1 x0 x3 x6 (decide ((wrap64 (x6 - x5)) > 75))) else (solsticelaw16_FoldShort.J1 x0 x3 x6 true)) else (none)) else (solsticelaw16_FoldShort.L0 x0 x3 x5 (wrap64 (x6 + 1)))) else (none)) else (none)) else (if x5 = (x3.size : Int) then ((solsticelaw16_wakes.F).bind fun t213 => (some t213)) else (some false)) := by
  refine IsLim.step (solsticelaw16_FoldShort.isL0 x0 x3 x5 x6).mono (f := fun k => if (wrap64 (x6 + 1)) < (x3.size : Int) then (if 0 ≤ x6 then (if x6 < (x3.size : Int) then (if (bt x3 x6) = 13 then (if 0 ≤ (wrap64 (x6 + 1)) then (if (bt x3 (wrap64 (x6 + 1))) = 10 then (solsticelaw16_FoldShort.j1 k x0 x3 x6 (decide ((wrap64 (x6 - x5)) > 75))) else (solsticelaw16_FoldShort.j1 k x0 x3 x6 true)) else (none)) else (solsticelaw16_FoldShort.l0 k x0 x3 x5 (wrap64 (x6 + 1)))) else (none)) else (none)) else (if x5 = (x3.size : Int) then ((solsticelaw16_wakes.f k).bind fun t213 => (some t213)) else (some false))) (fun k => by rw [solsticelaw16_FoldShort.l0]) ?_
  · repeat' first
    | (with_reducible exact IsLim.const _)
    | (with_reducible exact solsticelaw16_FoldShort.isJ1 _ _ _ _)
    | (with_reducible exact solsticelaw16_FoldShort.isL0 _ _ _ _)
    | (with_reducible exact solsticelaw16_wakes.isF)
    | (with_reducible refine IsLim.ite ?_ ?_)
    | (with_reducible refine IsLim.bind ?_ (fun _ => ?_))
theorem solsticelaw16_FoldShort.J1_eq (x0 : ByteArray) (x3 : ByteArray) (x6 : Int) (x43 : Bool) : solsticelaw16_FoldShort.J1 x0 x3 x6 x43 = if x43 = true then (some false) else (if (wrap64 (x6 + 3)) < (x3.size : Int) then (if 0 ≤ (wrap64 (x6 + 3)) then (if (bt x3 (wrap64 (x6 + 3))) ≥ 128 then (if (bt x3 (wrap64 (x6 + 3))) < 192 then ((solsticelaw16_signs.F x0).bind fun t214 => (if t214 = true then (some false) else (solsticelaw16_FoldShort.L0 x0 x3 (wrap64 (x6 + 2)) (wrap64 (x6 + 1))))) else (solsticelaw16_FoldShort.L0 x0 x3 (wrap64 (x6 + 2)) (wrap64 (x6 + 1)))) else (solsticelaw16_FoldShort.L0 x0 x3 (wrap64 (x6 + 2)) (wrap64 (x6 + 1)))) else (none)) else (solsticelaw16_FoldShort.L0 x0 x3 (wrap64 (x6 + 2)) (wrap64 (x6 + 1)))) := by
  refine IsLim.step (solsticelaw16_FoldShort.isJ1 x0 x3 x6 x43).mono (f := fun k => if x43 = true then (some false) else (if (wrap64 (x6 + 3)) < (x3.size : Int) then (if 0 ≤ (wrap64 (x6 + 3)) then (if (bt x3 (wrap64 (x6 + 3))) ≥ 128 then (if (bt x3 (wrap64 (x6 + 3))) < 192 then ((solsticelaw16_signs.f k x0).bind fun t214 => (if t214 = true then (some false) else (solsticelaw16_FoldShort.l0 k x0 x3 (wrap64 (x6 + 2)) (wrap64 (x6 + 1))))) else (solsticelaw16_FoldShort.l0 k x0 x3 (wrap64 (x6 + 2)) (wrap64 (x6 + 1)))) else (solsticelaw16_FoldShort.l0 k x0 x3 (wrap64 (x6 + 2)) (wrap64 (x6 + 1)))) else (none)) else (solsticelaw16_FoldShort.l0 k x0 x3 (wrap64 (x6 + 2)) (wrap64 (x6 + 1))))) (fun k => by rw [solsticelaw16_FoldShort.j1]) ?_
  · repeat' first
    | (with_reducible exact IsLim.const _)
    | (with_reducible exact solsticelaw16_FoldShort.isL0 _ _ _ _)
    | (with_reducible exact solsticelaw16_signs.isF _)
    | (with_reducible refine IsLim.ite ?_ ?_)
    | (with_reducible refine IsLim.bind ?_ (fun _ => ?_))
theorem solsticelaw16_FoldShort.F_eq (a0 : ByteArray) : solsticelaw16_FoldShort.F a0 = if (a0.size : Int) > 3000 then (some true) else ((fold_Line.F a0).bind fun bt210 => (if bt210.2 = 0 then (solsticelaw16_FoldShort.L0 a0 bt210.1 0 0) else (if bt210.2 = 18 then ((solsticelaw16_wakes.F).bind fun t212 => (some t212)) else (some false)))) := by
  refine IsLim.eq (g := fun k => if (a0.size : Int) > 3000 then (some true) else ((fold_Line.f k a0).bind fun bt210 => (if bt210.2 = 0 then (solsticelaw16_FoldShort.l0 k a0 bt210.1 0 0) else (if bt210.2 = 18 then ((solsticelaw16_wakes.f k).bind fun t212 => (some t212)) else (some false))))) ?_
  · repeat' first
    | (with_reducible exact IsLim.const _)
    | (with_reducible exact fold_Line.isF _)
    | (with_reducible exact solsticelaw16_FoldShort.isL0 _ _ _ _)
    | (with_reducible exact solsticelaw16_wakes.isF)
    | (with_reducible refine IsLim.ite ?_ ?_)
    | (with_reducible refine IsLim.bind ?_ (fun _ => ?_))
end Go.Proofs.YtfiiipjglacejaaDoor.PFol

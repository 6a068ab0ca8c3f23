/- Printed functions of the family Fol without a bound on their rounds, and the equation that each meets. No condition. -/
import Derived.Test.YtfiiipjglacejaaDoorBase
import Derived.Test.YtfiiipjglacejaaDoorPFolx5
import Derived.Test.YtfiiipjglacejaaDoorEFolx1
import Derived.Test.YtfiiipjglacejaaDoorEFolx2
import Derived.Test.YtfiiipjglacejaaDoorEFolx3
import Derived.Test.YtfiiipjglacejaaDoorEFolx4
namespace Go.Proofs.YtfiiipjglacejaaDoor.PFol
open Go.RowKit Go.Proofs.YtfiiipjglacejaaDoorW.PrintWords Go.Proofs.YtfiiipjglacejaaDoorW.PrintLast Go.Proofs.YtfiiipjglacejaaDoor.Base
set_option linter.unusedVariables false
noncomputable def solsticelaw16_FoldExact.J0 (x0 : ByteArray) (x1 : ByteArray) (x19 : Bool) : Option (Bool) := lim fun k => solsticelaw16_FoldExact.j0 k x0 x1 x19
noncomputable def solsticelaw16_FoldExact.J1 (x0 : ByteArray) (x5 : ByteArray) (x6 : Int) (x43 : Bool) : Option (Bool) := lim fun k => solsticelaw16_FoldExact.j1 k x0 x5 x6 x43
noncomputable def solsticelaw16_FoldExact.L0 (x0 : ByteArray) (x5 : ByteArray) (x6 : Int) (x11 : Int) : Option (Bool) := lim fun k => solsticelaw16_FoldExact.l0 k x0 x5 x6 x11
noncomputable def solsticelaw16_FoldExact.F (a0 : ByteArray) (a1 : ByteArray) : Option (Bool) := lim fun k => solsticelaw16_FoldExact.f k a0 a1
theorem solsticelaw16_FoldExact.isJ0 (x0 : ByteArray) (x1 : ByteArray) (x19 : Bool) : IsLim (fun k => solsticelaw16_FoldExact.j0 k x0 x1 x19) (solsticelaw16_FoldExact.J0 x0 x1 x19) := ⟨fun k => (solsticelaw16_FoldExact.mono_l k).1 x0 x1 x19, rfl⟩
theorem solsticelaw16_FoldExact.isJ1 (x0 : ByteArray) (x5 : ByteArray) (x6 : Int) (x43 : Bool) : IsLim (fun k => solsticelaw16_FoldExact.j1 k x0 x5 x6 x43) (solsticelaw16_FoldExact.J1 x0 x5 x6 x43) := ⟨fun k => (solsticelaw16_FoldExact.mono_l k).2.1 x0 x5 x6 x43, rfl⟩
theorem solsticelaw16_FoldExact.isL0 (x0 : ByteArray) (x5 : ByteArray) (x6 : Int) (x11 : Int) : IsLim (fun k => solsticelaw16_FoldExact.l0 k x0 x5 x6 x11) (solsticelaw16_FoldExact.L0 x0 x5 x6 x11) := ⟨fun k => (solsticelaw16_FoldExact.mono_l k).2.2 x0 x5 x6 x11, rfl⟩
theorem solsticelaw16_FoldExact.isF (a0 : ByteArray) (a1 : ByteArray) : IsLim (fun k => solsticelaw16_FoldExact.f k a0 a1) (solsticelaw16_FoldExact.F a0 a1) := ⟨fun k => solsticelaw16_FoldExact.mono a0 a1 k, rfl⟩
theorem solsticelaw16_FoldExact.J0_eq (x0 : ByteArray) (x1 : ByteArray) (x19 : Bool) : solsticelaw16_FoldExact.J0 x0 x1 x19 = if x19 = true then (some true) else ((fold_Line.F x0).bind fun bt179 => ((fold_Unfold.F x1).bind fun bt181 => ((solsticeref16_Unfold.F x1).bind fun bt185 => (if bt181.2 = bt185.2 then ((solsticekeep_Texts.F bt181.1 bt185.1).bind fun t189 => (solsticelaw16_FoldExact.J1 x0 bt179.1 bt179.2 (!t189))) else (solsticelaw16_FoldExact.J1 x0 bt179.1 bt179.2 true))))) := by
  refine IsLim.step (solsticelaw16_FoldExact.isJ0 x0 x1 x19).mono (f := fun k => if x19 = true then (some true) else ((fold_Line.f k x0).bind fun bt179 => ((fold_Unfold.f k x1).bind fun bt181 => ((solsticeref16_Unfold.f k x1).bind fun bt185 => (if bt181.2 = bt185.2 then ((solsticekeep_Texts.f k bt181.1 bt185.1).bind fun t189 => (solsticelaw16_FoldExact.j1 k x0 bt179.1 bt179.2 (!t189))) else (solsticelaw16_FoldExact.j1 k x0 bt179.1 bt179.2 true)))))) (fun k => by rw [solsticelaw16_FoldExact.j0]) ?_
  · repeat' first
    | (with_reducible exact IsLim.const _)
    | (with_reducible exact fold_Line.isF _)
    | (with_reducible exact fold_Unfold.isF _)
    | (with_reducible exact solsticekeep_Texts.isF _ _)
    | (with_reducible exact solsticelaw16_FoldExact.isJ1 _ _ _ _)
    | (with_reducible exact solsticeref16_Unfold.isF _)
    | (with_reducible refine IsLim.ite ?_ ?_)
    | (with_reducible refine IsLim.bind ?_ (fun _ => ?_))
theorem solsticelaw16_FoldExact.J1_eq (x0 : ByteArray) (x5 : ByteArray) (x6 : Int) (x43 : Bool) : solsticelaw16_FoldExact.J1 x0 x5 x6 x43 = if x43 = true then (some false) else (solsticelaw16_FoldExact.L0 x0 x5 x6 0) := by
  refine IsLim.step (solsticelaw16_FoldExact.isJ1 x0 x5 x6 x43).mono (f := fun k => if x43 = true then (some false) else (solsticelaw16_FoldExact.l0 k x0 x5 x6 0)) (fun k => by rw [solsticelaw16_FoldExact.j1]) ?_
  · repeat' first
    | (with_reducible exact IsLim.const _)
    | (with_reducible exact solsticelaw16_FoldExact.isL0 _ _ _ _)
    | (with_reducible refine IsLim.ite ?_ ?_)
    | (with_reducible refine IsLim.bind ?_ (fun _ => ?_))
theorem solsticelaw16_FoldExact.L0_eq (x0 : ByteArray) (x5 : ByteArray) (x6 : Int) (x11 : Int) : solsticelaw16_FoldExact.L0 x0 x5 x6 x11 = if x11 < (x0.size : Int) then (if 0 ≤ x11 then (if (bt x0 x11) = 10 then (if x6 = 18 then (if x5.toList = ([] : List UInt8) then ((solsticelaw16_wakes.F).bind fun t190 => (some t190)) else (some false)) else (some false)) else (if (bt x0 x11) = 13 then (if x6 = 18 then (if x5.toList = ([] : List UInt8) then ((solsticelaw16_wakes.F).bind fun t191 => (some t191)) else (some false)) else (some false)) else (solsticelaw16_FoldExact.L0 x0 x5 x6 (wrap64 (x11 + 1))))) else (none)) else (if x6 = 0 then ((solsticeref16_Fold.F x0).bind fun t192 => (if x5.toList = t192.toList then ((solsticelaw16_wakes.F).bind fun t193 => (some t193)) else (some false))) else (some false)) := by
  refine IsLim.step (solsticelaw16_FoldExact.isL0 x0 x5 x6 x11).mono (f := fun k => if x11 < (x0.size : Int) then (if 0 ≤ x11 then (if (bt x0 x11) = 10 then (if x6 = 18 then (if x5.toList = ([] : List UInt8) then ((solsticelaw16_wakes.f k).bind fun t190 => (some t190)) else (some false)) else (some false)) else (if (bt x0 x11) = 13 then (if x6 = 18 then (if x5.toList = ([] : List UInt8) then ((solsticelaw16_wakes.f k).bind fun t191 => (some t191)) else (some false)) else (some false)) else (solsticelaw16_FoldExact.l0 k x0 x5 x6 (wrap64 (x11 + 1))))) else (none)) else (if x6 = 0 then ((solsticeref16_Fold.f k x0).bind fun t192 => (if x5.toList = t192.toList then ((solsticelaw16_wakes.f k).bind fun t193 => (some t193)) else (some false))) else (some false))) (fun k => by rw [solsticelaw16_FoldExact.l0]) ?_
  · repeat' first
    | (with_reducible exact IsLim.const _)
    | (with_reducible exact solsticelaw16_FoldExact.isL0 _ _ _ _)
    | (with_reducible exact solsticelaw16_wakes.isF)
    | (with_reducible exact solsticeref16_Fold.isF _)
    | (with_reducible refine IsLim.ite ?_ ?_)
    | (with_reducible refine IsLim.bind ?_ (fun _ => ?_))
theorem solsticelaw16_FoldExact.F_eq (a0 : ByteArray) (a1 : ByteArray) : solsticelaw16_FoldExact.F a0 a1 = if (a0.size : Int) > 3000 then (solsticelaw16_FoldExact.J0 a0 a1 true) else (solsticelaw16_FoldExact.J0 a0 a1 (decide ((a1.size : Int) > 3000))) := by
  refine IsLim.eq (g := fun k => if (a0.size : Int) > 3000 then (solsticelaw16_FoldExact.j0 k a0 a1 true) else (solsticelaw16_FoldExact.j0 k a0 a1 (decide ((a1.size : Int) > 3000)))) ?_
  · repeat' first
    | (with_reducible exact IsLim.const _)
    | (with_reducible exact solsticelaw16_FoldExact.isJ0 _ _ _)
    | (with_reducible refine IsLim.ite ?_ ?_)
    | (with_reducible refine IsLim.bind ?_ (fun _ => ?_))
end Go.Proofs.YtfiiipjglacejaaDoor.PFol

/- Printed functions of the family Lin without a bound on their rounds, and the equation that each meets. No condition. -/
import Derived.Test.YtookjnpmbenheaaBase
import Derived.Test.YtookjnpmbenheaaPLinx11
import Derived.Test.YtookjnpmbenheaaELinx4
import Derived.Test.YtookjnpmbenheaaELinx5
import Derived.Test.YtookjnpmbenheaaELinx6
import Derived.Test.YtookjnpmbenheaaELinx8
import Derived.Test.YtookjnpmbenheaaELinx10
namespace Go.Proofs.Ytookjnpmbenheaa.PLin
open Go.RowKit Go.Proofs.YtookjnpmbenheaaW.PrintWords Go.Proofs.YtookjnpmbenheaaW.PrintLast Go.Proofs.Ytookjnpmbenheaa.Base
set_option linter.unusedVariables false
noncomputable def solsticelaw18_LineBack.J0 (x16 : Bool) (x239000 : ByteArray) (x239001 : List (S54)) (x239002 : ByteArray) (x240000 : ByteArray) (x240001 : List (S54)) (x240002 : ByteArray) : Option (Bool) := lim fun k => solsticelaw18_LineBack.j0 k x16 x239000 x239001 x239002 x240000 x240001 x240002
noncomputable def solsticelaw18_LineBack.J1 (x5 : ByteArray) (x6 : Int) (x7 : ByteArray) (x8 : Int) (x32 : Bool) (x239000 : ByteArray) (x239001 : List (S54)) (x239002 : ByteArray) (x240000 : ByteArray) (x240001 : List (S54)) (x240002 : ByteArray) : Option (Bool) := lim fun k => solsticelaw18_LineBack.j1 k x5 x6 x7 x8 x32 x239000 x239001 x239002 x240000 x240001 x240002
noncomputable def solsticelaw18_LineBack.F (a0_0 : ByteArray) (l0_1 : List (S54)) (a0_2 : ByteArray) (a1_0 : ByteArray) (l1_1 : List (S54)) (a1_2 : ByteArray) : Option (Bool) := lim fun k => solsticelaw18_LineBack.f k a0_0 l0_1 a0_2 a1_0 l1_1 a1_2
theorem solsticelaw18_LineBack.isJ0 (x16 : Bool) (x239000 : ByteArray) (x239001 : List (S54)) (x239002 : ByteArray) (x240000 : ByteArray) (x240001 : List (S54)) (x240002 : ByteArray) : IsLim (fun k => solsticelaw18_LineBack.j0 k x16 x239000 x239001 x239002 x240000 x240001 x240002) (solsticelaw18_LineBack.J0 x16 x239000 x239001 x239002 x240000 x240001 x240002) := ⟨fun k => (solsticelaw18_LineBack.mono_l k).1 x16 x239000 x239001 x239002 x240000 x240001 x240002, rfl⟩
theorem solsticelaw18_LineBack.isJ1 (x5 : ByteArray) (x6 : Int) (x7 : ByteArray) (x8 : Int) (x32 : Bool) (x239000 : ByteArray) (x239001 : List (S54)) (x239002 : ByteArray) (x240000 : ByteArray) (x240001 : List (S54)) (x240002 : ByteArray) : IsLim (fun k => solsticelaw18_LineBack.j1 k x5 x6 x7 x8 x32 x239000 x239001 x239002 x240000 x240001 x240002) (solsticelaw18_LineBack.J1 x5 x6 x7 x8 x32 x239000 x239001 x239002 x240000 x240001 x240002) := ⟨fun k => (solsticelaw18_LineBack.mono_l k).2 x5 x6 x7 x8 x32 x239000 x239001 x239002 x240000 x240001 x240002, rfl⟩
theorem solsticelaw18_LineBack.isF (a0_0 : ByteArray) (l0_1 : List (S54)) (a0_2 : ByteArray) (a1_0 : ByteArray) (l1_1 : List (S54)) (a1_2 : ByteArray) : IsLim (fun k => solsticelaw18_LineBack.f k a0_0 l0_1 a0_2 a1_0 l1_1 a1_2) (solsticelaw18_LineBack.F a0_0 l0_1 a0_2 a1_0 l1_1 a1_2) := ⟨fun k => solsticelaw18_LineBack.mono a0_0 l0_1 a0_2 a1_0 l1_1 a1_2 k, rfl⟩
theorem solsticelaw18_LineBack.J0_eq (x16 : Bool) (x239000 : ByteArray) (x239001 : List (S54)) (x239002 : ByteArray) (x240000 : ByteArray) (x240001 : List (S54)) (x240002 : ByteArray) : solsticelaw18_LineBack.J0 x16 x239000 x239001 x239002 x240000 x240001 x240002 = if x16 = true then (some true) else ((line_Text.F x239000 x239001 x239002).bind fun bt242 => ((line_Text.F x240000 x240001 x240002).bind fun bt244 => (if bt242.2 = 0 then (solsticelaw18_LineBack.J1 bt242.1 bt242.2 bt244.1 bt244.2 (bt244.2 != 0) x239000 x239001 x239002 x240000 x240001 x240002) else (solsticelaw18_LineBack.J1 bt242.1 bt242.2 bt244.1 bt244.2 true x239000 x239001 x239002 x240000 x240001 x240002)))) := by
  refine IsLim.step (solsticelaw18_LineBack.isJ0 x16 x239000 x239001 x239002 x240000 x240001 x240002).mono (f := fun k => if x16 = true then (some true) else ((line_Text.f k x239000 x239001 x239002).bind fun bt242 => ((line_Text.f k x240000 x240001 x240002).bind fun bt244 => (if bt242.2 = 0 then (solsticelaw18_LineBack.j1 k bt242.1 bt242.2 bt244.1 bt244.2 (bt244.2 != 0) x239000 x239001 x239002 x240000 x240001 x240002) else (solsticelaw18_LineBack.j1 k bt242.1 bt242.2 bt244.1 bt244.2 true x239000 x239001 x239002 x240000 x240001 x240002))))) (fun k => by rw [solsticelaw18_LineBack.j0]) ?_
  · repeat' first
    | (with_reducible exact IsLim.const _)
    | (with_reducible exact line_Text.isF _ _ _)
    | (with_reducible exact solsticelaw18_LineBack.isJ1 _ _ _ _ _ _ _ _ _ _ _)
    | (with_reducible refine IsLim.ite ?_ ?_)
    | (with_reducible refine IsLim.bind ?_ (fun _ => ?_))
theorem solsticelaw18_LineBack.J1_eq (x5 : ByteArray) (x6 : Int) (x7 : ByteArray) (x8 : Int) (x32 : Bool) (x239000 : ByteArray) (x239001 : List (S54)) (x239002 : ByteArray) (x240000 : ByteArray) (x240001 : List (S54)) (x240002 : ByteArray) : solsticelaw18_LineBack.J1 x5 x6 x7 x8 x32 x239000 x239001 x239002 x240000 x240001 x240002 = if x32 = true then (if x6 = 0 then (if x8 = 0 then ((solsticelaw18_wakes.F).bind fun t246 => (some t246)) else (if x7.toList = ([] : List UInt8) then ((solsticelaw18_wakes.F).bind fun t247 => (some t247)) else (some false))) else (if x5.toList = ([] : List UInt8) then (if x8 = 0 then ((solsticelaw18_wakes.F).bind fun t248 => (some t248)) else (if x7.toList = ([] : List UInt8) then ((solsticelaw18_wakes.F).bind fun t249 => (some t249)) else (some false))) else (some false))) else ((line_Parse.F x5).bind fun bt250 => (if bt250.2.2.2 = 0 then ((solsticekeep_Line.F bt250.1 bt250.2.1 bt250.2.2.1 x239000 x239001 x239002).bind fun t257 => (if t257 = true then ((solsticekeep_Line.F x239000 x239001 x239002 x240000 x240001 x240002).bind fun t258 => (if ((x5.toList == x7.toList) == t258) = true then ((solsticelaw18_wakes.F).bind fun t259 => (some t259)) else (some false))) else (some false))) else (some false))) := by
  refine IsLim.step (solsticelaw18_LineBack.isJ1 x5 x6 x7 x8 x32 x239000 x239001 x239002 x240000 x240001 x240002).mono (f := fun k => if x32 = true then (if x6 = 0 then (if x8 = 0 then ((solsticelaw18_wakes.f k).bind fun t246 => (some t246)) else (if x7.toList = ([] : List UInt8) then ((solsticelaw18_wakes.f k).bind fun t247 => (some t247)) else (some false))) else (if x5.toList = ([] : List UInt8) then (if x8 = 0 then ((solsticelaw18_wakes.f k).bind fun t248 => (some t248)) else (if x7.toList = ([] : List UInt8) then ((solsticelaw18_wakes.f k).bind fun t249 => (some t249)) else (some false))) else (some false))) else ((line_Parse.f k x5).bind fun bt250 => (if bt250.2.2.2 = 0 then ((solsticekeep_Line.f k bt250.1 bt250.2.1 bt250.2.2.1 x239000 x239001 x239002).bind fun t257 => (if t257 = true then ((solsticekeep_Line.f k x239000 x239001 x239002 x240000 x240001 x240002).bind fun t258 => (if ((x5.toList == x7.toList) == t258) = true then ((solsticelaw18_wakes.f k).bind fun t259 => (some t259)) else (some false))) else (some false))) else (some false)))) (fun k => by rw [solsticelaw18_LineBack.j1]) ?_
  · repeat' first
    | (with_reducible exact IsLim.const _)
    | (with_reducible exact line_Parse.isF _)
    | (with_reducible exact solsticekeep_Line.isF _ _ _ _ _ _)
    | (with_reducible exact solsticelaw18_wakes.isF)
    | (with_reducible refine IsLim.ite ?_ ?_)
    | (with_reducible refine IsLim.bind ?_ (fun _ => ?_))
theorem solsticelaw18_LineBack.F_eq (a0_0 : ByteArray) (l0_1 : List (S54)) (a0_2 : ByteArray) (a1_0 : ByteArray) (l1_1 : List (S54)) (a1_2 : ByteArray) : solsticelaw18_LineBack.F a0_0 l0_1 a0_2 a1_0 l1_1 a1_2 = (solsticelaw18_Heavy.F a0_0 l0_1 a0_2).bind fun t240 => (if t240 = true then (solsticelaw18_LineBack.J0 true a0_0 l0_1 a0_2 a1_0 l1_1 a1_2) else ((solsticelaw18_Heavy.F a1_0 l1_1 a1_2).bind fun t241 => (solsticelaw18_LineBack.J0 t241 a0_0 l0_1 a0_2 a1_0 l1_1 a1_2))) := by
  refine IsLim.eq (g := fun k => (solsticelaw18_Heavy.f k a0_0 l0_1 a0_2).bind fun t240 => (if t240 = true then (solsticelaw18_LineBack.j0 k true a0_0 l0_1 a0_2 a1_0 l1_1 a1_2) else ((solsticelaw18_Heavy.f k a1_0 l1_1 a1_2).bind fun t241 => (solsticelaw18_LineBack.j0 k t241 a0_0 l0_1 a0_2 a1_0 l1_1 a1_2)))) ?_
  · repeat' first
    | (with_reducible exact IsLim.const _)
    | (with_reducible exact solsticelaw18_Heavy.isF _ _ _)
    | (with_reducible exact solsticelaw18_LineBack.isJ0 _ _ _ _ _ _ _)
    | (with_reducible refine IsLim.ite ?_ ?_)
    | (with_reducible refine IsLim.bind ?_ (fun _ => ?_))
end Go.Proofs.Ytookjnpmbenheaa.PLin

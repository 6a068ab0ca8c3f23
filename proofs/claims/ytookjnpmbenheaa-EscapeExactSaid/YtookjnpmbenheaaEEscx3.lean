/- Printed functions of the family Esc without a bound on their rounds, and the equation that each meets. No condition. -/
import Derived.Test.YtookjnpmbenheaaBase
import Derived.Test.YtookjnpmbenheaaPEscx3
import Derived.Test.YtookjnpmbenheaaEEscx1
import Derived.Test.YtookjnpmbenheaaEEscx2
namespace Go.Proofs.Ytookjnpmbenheaa.PEsc
open Go.RowKit Go.Proofs.YtookjnpmbenheaaW.PrintWords Go.Proofs.YtookjnpmbenheaaW.PrintLast Go.Proofs.Ytookjnpmbenheaa.Base
set_option linter.unusedVariables false
noncomputable def solsticelaw17_EscapeParts.J0 (x0 : ByteArray) (x1 : ByteArray) (x19 : Bool) : Option (Bool) := lim fun k => solsticelaw17_EscapeParts.j0 k x0 x1 x19
noncomputable def solsticelaw17_EscapeParts.J1 (x5 : ByteArray) (x7 : ByteArray) (x9 : ByteArray) (x10 : Int) (x42 : Bool) : Option (Bool) := lim fun k => solsticelaw17_EscapeParts.j1 k x5 x7 x9 x10 x42
noncomputable def solsticelaw17_EscapeParts.L0 (x5 : ByteArray) (x7 : ByteArray) (x9 : ByteArray) (x10 : Int) (x11 : Int) : Option (Bool) := lim fun k => solsticelaw17_EscapeParts.l0 k x5 x7 x9 x10 x11
noncomputable def solsticelaw17_EscapeParts.F (a0 : ByteArray) (a1 : ByteArray) : Option (Bool) := lim fun k => solsticelaw17_EscapeParts.f k a0 a1
theorem solsticelaw17_EscapeParts.isJ0 (x0 : ByteArray) (x1 : ByteArray) (x19 : Bool) : IsLim (fun k => solsticelaw17_EscapeParts.j0 k x0 x1 x19) (solsticelaw17_EscapeParts.J0 x0 x1 x19) := ⟨fun k => (solsticelaw17_EscapeParts.mono_l k).1 x0 x1 x19, rfl⟩
theorem solsticelaw17_EscapeParts.isJ1 (x5 : ByteArray) (x7 : ByteArray) (x9 : ByteArray) (x10 : Int) (x42 : Bool) : IsLim (fun k => solsticelaw17_EscapeParts.j1 k x5 x7 x9 x10 x42) (solsticelaw17_EscapeParts.J1 x5 x7 x9 x10 x42) := ⟨fun k => (solsticelaw17_EscapeParts.mono_l k).2.1 x5 x7 x9 x10 x42, rfl⟩
theorem solsticelaw17_EscapeParts.isL0 (x5 : ByteArray) (x7 : ByteArray) (x9 : ByteArray) (x10 : Int) (x11 : Int) : IsLim (fun k => solsticelaw17_EscapeParts.l0 k x5 x7 x9 x10 x11) (solsticelaw17_EscapeParts.L0 x5 x7 x9 x10 x11) := ⟨fun k => (solsticelaw17_EscapeParts.mono_l k).2.2 x5 x7 x9 x10 x11, rfl⟩
theorem solsticelaw17_EscapeParts.isF (a0 : ByteArray) (a1 : ByteArray) : IsLim (fun k => solsticelaw17_EscapeParts.f k a0 a1) (solsticelaw17_EscapeParts.F a0 a1) := ⟨fun k => solsticelaw17_EscapeParts.mono a0 a1 k, rfl⟩
theorem solsticelaw17_EscapeParts.J0_eq (x0 : ByteArray) (x1 : ByteArray) (x19 : Bool) : solsticelaw17_EscapeParts.J0 x0 x1 x19 = if x19 = true then (some true) else ((escape_Put.F x0).bind fun bt163 => ((escape_Put.F x1).bind fun bt165 => (if x0.size + x1.size ≤ 9223372036854775807 then ((escape_Put.F (x0 ++ x1)).bind fun bt167 => (if bt163.2 = 0 then (solsticelaw17_EscapeParts.J1 bt163.1 bt165.1 bt167.1 bt167.2 (bt165.2 != 0)) else (solsticelaw17_EscapeParts.J1 bt163.1 bt165.1 bt167.1 bt167.2 true))) else (none)))) := by
  refine IsLim.step (solsticelaw17_EscapeParts.isJ0 x0 x1 x19).mono (f := fun k => if x19 = true then (some true) else ((escape_Put.f k x0).bind fun bt163 => ((escape_Put.f k x1).bind fun bt165 => (if x0.size + x1.size ≤ 9223372036854775807 then ((escape_Put.f k (x0 ++ x1)).bind fun bt167 => (if bt163.2 = 0 then (solsticelaw17_EscapeParts.j1 k bt163.1 bt165.1 bt167.1 bt167.2 (bt165.2 != 0)) else (solsticelaw17_EscapeParts.j1 k bt163.1 bt165.1 bt167.1 bt167.2 true))) else (none))))) (fun k => by rw [solsticelaw17_EscapeParts.j0]) ?_
  · repeat' first
    | (with_reducible exact IsLim.const _)
    | (with_reducible exact escape_Put.isF _)
    | (with_reducible exact solsticelaw17_EscapeParts.isJ1 _ _ _ _ _)
    | (with_reducible refine IsLim.ite ?_ ?_)
    | (with_reducible refine IsLim.bind ?_ (fun _ => ?_))
theorem solsticelaw17_EscapeParts.J1_eq (x5 : ByteArray) (x7 : ByteArray) (x9 : ByteArray) (x10 : Int) (x42 : Bool) : solsticelaw17_EscapeParts.J1 x5 x7 x9 x10 x42 = if x42 = true then (if x10 = 3 then (if x9.toList = ([] : List UInt8) then ((solsticelaw17_wakes.F).bind fun t169 => (some t169)) else (some false)) else (some false)) else (solsticelaw17_EscapeParts.L0 x5 x7 x9 x10 0) := by
  refine IsLim.step (solsticelaw17_EscapeParts.isJ1 x5 x7 x9 x10 x42).mono (f := fun k => if x42 = true then (if x10 = 3 then (if x9.toList = ([] : List UInt8) then ((solsticelaw17_wakes.f k).bind fun t169 => (some t169)) else (some false)) else (some false)) else (solsticelaw17_EscapeParts.l0 k x5 x7 x9 x10 0)) (fun k => by rw [solsticelaw17_EscapeParts.j1]) ?_
  · repeat' first
    | (with_reducible exact IsLim.const _)
    | (with_reducible exact solsticelaw17_EscapeParts.isL0 _ _ _ _ _)
    | (with_reducible exact solsticelaw17_wakes.isF)
    | (with_reducible refine IsLim.ite ?_ ?_)
    | (with_reducible refine IsLim.bind ?_ (fun _ => ?_))
theorem solsticelaw17_EscapeParts.L0_eq (x5 : ByteArray) (x7 : ByteArray) (x9 : ByteArray) (x10 : Int) (x11 : Int) : solsticelaw17_EscapeParts.L0 x5 x7 x9 x10 x11 = if x11 < (x9.size : Int) then (if 0 ≤ x11 then (if (bt x9 x11) = 92 then (solsticelaw17_EscapeParts.L0 x5 x7 x9 x10 (wrap64 ((wrap64 (x11 + 1)) + 1))) else (if (bt x9 x11) = 44 then (some false) else (if (bt x9 x11) = 59 then (some false) else (if (bt x9 x11) = 10 then (some false) else (solsticelaw17_EscapeParts.L0 x5 x7 x9 x10 (wrap64 (x11 + 1))))))) else (none)) else (if x10 = 0 then (if x5.size + x7.size ≤ 9223372036854775807 then (if x9.toList = (x5 ++ x7).toList then ((solsticelaw17_wakes.F).bind fun t170 => (some t170)) else (some false)) else (none)) else (some false)) := by
  refine IsLim.step (solsticelaw17_EscapeParts.isL0 x5 x7 x9 x10 x11).mono (f := fun k => if x11 < (x9.size : Int) then (if 0 ≤ x11 then (if (bt x9 x11) = 92 then (solsticelaw17_EscapeParts.l0 k x5 x7 x9 x10 (wrap64 ((wrap64 (x11 + 1)) + 1))) else (if (bt x9 x11) = 44 then (some false) else (if (bt x9 x11) = 59 then (some false) else (if (bt x9 x11) = 10 then (some false) else (solsticelaw17_EscapeParts.l0 k x5 x7 x9 x10 (wrap64 (x11 + 1))))))) else (none)) else (if x10 = 0 then (if x5.size + x7.size ≤ 9223372036854775807 then (if x9.toList = (x5 ++ x7).toList then ((solsticelaw17_wakes.f k).bind fun t170 => (some t170)) else (some false)) else (none)) else (some false))) (fun k => by rw [solsticelaw17_EscapeParts.l0]) ?_
  · repeat' first
    | (with_reducible exact IsLim.const _)
    | (with_reducible exact solsticelaw17_EscapeParts.isL0 _ _ _ _ _)
    | (with_reducible exact solsticelaw17_wakes.isF)
    | (with_reducible refine IsLim.ite ?_ ?_)
    | (with_reducible refine IsLim.bind ?_ (fun _ => ?_))
theorem solsticelaw17_EscapeParts.F_eq (a0 : ByteArray) (a1 : ByteArray) : solsticelaw17_EscapeParts.F a0 a1 = if (a0.size : Int) > 1000 then (solsticelaw17_EscapeParts.J0 a0 a1 true) else (solsticelaw17_EscapeParts.J0 a0 a1 (decide ((a1.size : Int) > 1000))) := by
  refine IsLim.eq (g := fun k => if (a0.size : Int) > 1000 then (solsticelaw17_EscapeParts.j0 k a0 a1 true) else (solsticelaw17_EscapeParts.j0 k a0 a1 (decide ((a1.size : Int) > 1000)))) ?_
  · repeat' first
    | (with_reducible exact IsLim.const _)
    | (with_reducible exact solsticelaw17_EscapeParts.isJ0 _ _ _)
    | (with_reducible refine IsLim.ite ?_ ?_)
    | (with_reducible refine IsLim.bind ?_ (fun _ => ?_))
noncomputable def solsticelaw05_Heavy.L0 (x0 : List ByteArray) (x3 : Int) : Option (Bool) := lim fun k => solsticelaw05_Heavy.l0 k x0 x3
noncomputable def solsticelaw05_Heavy.F (l0 : List ByteArray) : Option (Bool) := lim fun k => solsticelaw05_Heavy.f k l0
theorem solsticelaw05_Heavy.isL0 (x0 : List ByteArray) (x3 : Int) : IsLim (fun k => solsticelaw05_Heavy.l0 k x0 x3) (solsticelaw05_Heavy.L0 x0 x3) := ⟨fun k => (solsticelaw05_Heavy.mono_l k) x0 x3, rfl⟩
theorem solsticelaw05_Heavy.isF (l0 : List ByteArray) : IsLim (fun k => solsticelaw05_Heavy.f k l0) (solsticelaw05_Heavy.F l0) := ⟨fun k => solsticelaw05_Heavy.mono l0 k, rfl⟩
theorem solsticelaw05_Heavy.L0_eq (x0 : List ByteArray) (x3 : Int) : solsticelaw05_Heavy.L0 x0 x3 = if x3 < (x0.length : Int) then (if 0 ≤ x3 then (if ((rdOf ByteArray.empty x0 x3).size : Int) > 800 then (some true) else (solsticelaw05_Heavy.L0 x0 (wrap64 (x3 + 1)))) else (none)) else (some false) := by
  refine IsLim.step (solsticelaw05_Heavy.isL0 x0 x3).mono (f := fun k => if x3 < (x0.length : Int) then (if 0 ≤ x3 then (if ((rdOf ByteArray.empty x0 x3).size : Int) > 800 then (some true) else (solsticelaw05_Heavy.l0 k x0 (wrap64 (x3 + 1)))) else (none)) else (some false)) (fun k => by rw [solsticelaw05_Heavy.l0]) ?_
  · repeat' first
    | (with_reducible exact IsLim.const _)
    | (with_reducible exact solsticelaw05_Heavy.isL0 _ _)
    | (with_reducible refine IsLim.ite ?_ ?_)
    | (with_reducible refine IsLim.bind ?_ (fun _ => ?_))
theorem solsticelaw05_Heavy.F_eq (l0 : List ByteArray) : solsticelaw05_Heavy.F l0 = if (l0.length : Int) > 60 then (some true) else (solsticelaw05_Heavy.L0 l0 0) := by
  refine IsLim.eq (g := fun k => if (l0.length : Int) > 60 then (some true) else (solsticelaw05_Heavy.l0 k l0 0)) ?_
  · repeat' first
    | (with_reducible exact IsLim.const _)
    | (with_reducible exact solsticelaw05_Heavy.isL0 _ _)
    | (with_reducible refine IsLim.ite ?_ ?_)
    | (with_reducible refine IsLim.bind ?_ (fun _ => ?_))
end Go.Proofs.Ytookjnpmbenheaa.PEsc

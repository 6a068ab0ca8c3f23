/- Printed functions of the family Fmt without a bound on their rounds, and the equation that each meets. No condition. -/
import Derived.Test.YtookjnpmbenheaaDoorBase
import Derived.Test.YtookjnpmbenheaaDoorPFmtx9
import Derived.Test.YtookjnpmbenheaaDoorEFmtx1
import Derived.Test.YtookjnpmbenheaaDoorEFmtx7
namespace Go.Proofs.YtookjnpmbenheaaDoor.PFmt
open Go.RowKit Go.Proofs.YtookjnpmbenheaaDoorW.PrintWords Go.Proofs.YtookjnpmbenheaaDoorW.PrintLast Go.Proofs.YtookjnpmbenheaaDoor.Base
set_option linter.unusedVariables false
noncomputable def solsticelaw12_FormatShort.J0 (x0 : Int) (x1 : Int) (x5 : ByteArray) (x6 : Int) (x7 : ByteArray) (x8 : Int) (x9 : Int) : Option (Bool) := lim fun k => solsticelaw12_FormatShort.j0 k x0 x1 x5 x6 x7 x8 x9
noncomputable def solsticelaw12_FormatShort.F (a0 : Int) (a1 : Int) : Option (Bool) := lim fun k => solsticelaw12_FormatShort.f k a0 a1
theorem solsticelaw12_FormatShort.isJ0 (x0 : Int) (x1 : Int) (x5 : ByteArray) (x6 : Int) (x7 : ByteArray) (x8 : Int) (x9 : Int) : IsLim (fun k => solsticelaw12_FormatShort.j0 k x0 x1 x5 x6 x7 x8 x9) (solsticelaw12_FormatShort.J0 x0 x1 x5 x6 x7 x8 x9) := ⟨fun k => (solsticelaw12_FormatShort.mono_l k) x0 x1 x5 x6 x7 x8 x9, rfl⟩
theorem solsticelaw12_FormatShort.isF (a0 : Int) (a1 : Int) : IsLim (fun k => solsticelaw12_FormatShort.f k a0 a1) (solsticelaw12_FormatShort.F a0 a1) := ⟨fun k => solsticelaw12_FormatShort.mono a0 a1 k, rfl⟩
theorem solsticelaw12_FormatShort.J0_eq (x0 : Int) (x1 : Int) (x5 : ByteArray) (x6 : Int) (x7 : ByteArray) (x8 : Int) (x9 : Int) : solsticelaw12_FormatShort.J0 x0 x1 x5 x6 x7 x8 x9 = if (Int.tmod x0 3600) = 0 then (if x6 = 0 then (if x8 = 0 then (if (x5.size : Int) = 3 then (if 0 < (x5.size : Int) then (if (((bt x5 0) == 45) == (decide (x0 < 0))) = true then (if ((x5.toList == x7.toList) == (x0 == x1)) = true then ((format_Right.F x5).bind fun t206 => (if t206 = true then ((solsticelaw12_wakes.F).bind fun t207 => (some t207)) else (some false))) else (some false)) else (some false)) else (none)) else (some false)) else (some false)) else (some false)) else (if x6 = 0 then (if x8 = 0 then (if (x5.size : Int) = x9 then (if 0 < (x5.size : Int) then (if (((bt x5 0) == 45) == (decide (x0 < 0))) = true then (if ((x5.toList == x7.toList) == (x0 == x1)) = true then ((format_Right.F x5).bind fun t208 => (if t208 = true then ((solsticelaw12_wakes.F).bind fun t209 => (some t209)) else (some false))) else (some false)) else (some false)) else (none)) else (some false)) else (some false)) else (some false)) := by
  refine IsLim.step (solsticelaw12_FormatShort.isJ0 x0 x1 x5 x6 x7 x8 x9).mono (f := fun k => if (Int.tmod x0 3600) = 0 then (if x6 = 0 then (if x8 = 0 then (if (x5.size : Int) = 3 then (if 0 < (x5.size : Int) then (if (((bt x5 0) == 45) == (decide (x0 < 0))) = true then (if ((x5.toList == x7.toList) == (x0 == x1)) = true then ((format_Right.f k x5).bind fun t206 => (if t206 = true then ((solsticelaw12_wakes.f k).bind fun t207 => (some t207)) else (some false))) else (some false)) else (some false)) else (none)) else (some false)) else (some false)) else (some false)) else (if x6 = 0 then (if x8 = 0 then (if (x5.size : Int) = x9 then (if 0 < (x5.size : Int) then (if (((bt x5 0) == 45) == (decide (x0 < 0))) = true then (if ((x5.toList == x7.toList) == (x0 == x1)) = true then ((format_Right.f k x5).bind fun t208 => (if t208 = true then ((solsticelaw12_wakes.f k).bind fun t209 => (some t209)) else (some false))) else (some false)) else (some false)) else (none)) else (some false)) else (some false)) else (some false))) (fun k => by rw [solsticelaw12_FormatShort.j0]) ?_
  · repeat' first
    | (with_reducible exact IsLim.const _)
    | (with_reducible exact format_Right.isF _)
    | (with_reducible exact solsticelaw12_wakes.isF)
    | (with_reducible refine IsLim.ite ?_ ?_)
    | (with_reducible refine IsLim.bind ?_ (fun _ => ?_))
theorem solsticelaw12_FormatShort.F_eq (a0 : Int) (a1 : Int) : solsticelaw12_FormatShort.F a0 a1 = (format_Short.F (Int.tmod a0 172800)).bind fun bt202 => ((format_Short.F (Int.tmod a1 172800)).bind fun bt204 => (if (Int.tmod (Int.tmod a0 172800) 60) = 0 then (solsticelaw12_FormatShort.J0 (Int.tmod a0 172800) (Int.tmod a1 172800) bt202.1 bt202.2 bt204.1 bt204.2 5) else (solsticelaw12_FormatShort.J0 (Int.tmod a0 172800) (Int.tmod a1 172800) bt202.1 bt202.2 bt204.1 bt204.2 7))) := by
  refine IsLim.eq (g := fun k => (format_Short.f k (Int.tmod a0 172800)).bind fun bt202 => ((format_Short.f k (Int.tmod a1 172800)).bind fun bt204 => (if (Int.tmod (Int.tmod a0 172800) 60) = 0 then (solsticelaw12_FormatShort.j0 k (Int.tmod a0 172800) (Int.tmod a1 172800) bt202.1 bt202.2 bt204.1 bt204.2 5) else (solsticelaw12_FormatShort.j0 k (Int.tmod a0 172800) (Int.tmod a1 172800) bt202.1 bt202.2 bt204.1 bt204.2 7)))) ?_
  · repeat' first
    | (with_reducible exact IsLim.const _)
    | (with_reducible exact format_Short.isF _)
    | (with_reducible exact solsticelaw12_FormatShort.isJ0 _ _ _ _ _ _ _)
    | (with_reducible refine IsLim.ite ?_ ?_)
    | (with_reducible refine IsLim.bind ?_ (fun _ => ?_))
end Go.Proofs.YtookjnpmbenheaaDoor.PFmt

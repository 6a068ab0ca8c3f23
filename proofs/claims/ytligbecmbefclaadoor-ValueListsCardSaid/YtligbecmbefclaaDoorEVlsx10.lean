/- Printed functions of the family Vls without a bound on their rounds, and the equation that each meets. No condition. -/
import Derived.Test.YtligbecmbefclaaDoorBase
import Derived.Test.YtligbecmbefclaaDoorPVlsx10
import Derived.Test.YtligbecmbefclaaDoorEVlsx2
import Derived.Test.YtligbecmbefclaaDoorEVlsx7
import Derived.Test.YtligbecmbefclaaDoorEVlsx8
import Derived.Test.YtligbecmbefclaaDoorEVlsx9
namespace Go.Proofs.YtligbecmbefclaaDoor.PVls
open Go.RowKit Go.Proofs.YtligbecmbefclaaDoorW.PrintWords Go.Proofs.YtligbecmbefclaaDoorW.PrintLast Go.Proofs.YtligbecmbefclaaDoor.Base
set_option linter.unusedVariables false
noncomputable def solsticelaw20_ValueLists.J0 (x0 : List Int) (x1 : Bool) (x2 : Int) (x32 : Bool) : Option (Bool) := lim fun k => solsticelaw20_ValueLists.j0 k x0 x1 x2 x32
noncomputable def solsticelaw20_ValueLists.L0 (x0 : List Int) (x1 : Bool) (x2 : Int) (x7 : ByteArray) (x8 : ByteArray) (x9 : List Int) (x10 : Int) : Option (Bool) := lim fun k => solsticelaw20_ValueLists.l0 k x0 x1 x2 x7 x8 x9 x10
noncomputable def solsticelaw20_ValueLists.J2 (x0 : List Int) (x1 : Bool) (x2 : Int) (x7 : ByteArray) (x8 : ByteArray) (x9 : List Int) (x10 : Int) (x11 : Int) (x12 : ByteArray) (x14 : ByteArray) (x72 : Bool) : Option (Bool) := lim fun k => solsticelaw20_ValueLists.j2 k x0 x1 x2 x7 x8 x9 x10 x11 x12 x14 x72
noncomputable def solsticelaw20_ValueLists.F (l0 : List Int) (a1 : Bool) (a2 : Int) : Option (Bool) := lim fun k => solsticelaw20_ValueLists.f k l0 a1 a2
theorem solsticelaw20_ValueLists.isJ0 (x0 : List Int) (x1 : Bool) (x2 : Int) (x32 : Bool) : IsLim (fun k => solsticelaw20_ValueLists.j0 k x0 x1 x2 x32) (solsticelaw20_ValueLists.J0 x0 x1 x2 x32) := ⟨fun k => (solsticelaw20_ValueLists.mono_l k).1 x0 x1 x2 x32, rfl⟩
theorem solsticelaw20_ValueLists.isL0 (x0 : List Int) (x1 : Bool) (x2 : Int) (x7 : ByteArray) (x8 : ByteArray) (x9 : List Int) (x10 : Int) : IsLim (fun k => solsticelaw20_ValueLists.l0 k x0 x1 x2 x7 x8 x9 x10) (solsticelaw20_ValueLists.L0 x0 x1 x2 x7 x8 x9 x10) := ⟨fun k => (solsticelaw20_ValueLists.mono_l k).2.1 x0 x1 x2 x7 x8 x9 x10, rfl⟩
theorem solsticelaw20_ValueLists.isJ2 (x0 : List Int) (x1 : Bool) (x2 : Int) (x7 : ByteArray) (x8 : ByteArray) (x9 : List Int) (x10 : Int) (x11 : Int) (x12 : ByteArray) (x14 : ByteArray) (x72 : Bool) : IsLim (fun k => solsticelaw20_ValueLists.j2 k x0 x1 x2 x7 x8 x9 x10 x11 x12 x14 x72) (solsticelaw20_ValueLists.J2 x0 x1 x2 x7 x8 x9 x10 x11 x12 x14 x72) := ⟨fun k => (solsticelaw20_ValueLists.mono_l k).2.2 x0 x1 x2 x7 x8 x9 x10 x11 x12 x14 x72, rfl⟩
theorem solsticelaw20_ValueLists.isF (l0 : List Int) (a1 : Bool) (a2 : Int) : IsLim (fun k => solsticelaw20_ValueLists.f k l0 a1 a2) (solsticelaw20_ValueLists.F l0 a1 a2) := ⟨fun k => solsticelaw20_ValueLists.mono l0 a1 a2 k, rfl⟩
theorem solsticelaw20_ValueLists.J0_eq (x0 : List Int) (x1 : Bool) (x2 : Int) (x32 : Bool) : solsticelaw20_ValueLists.J0 x0 x1 x2 x32 = if x32 = true then (some true) else (if (IntKind.u64.wrap ((x0.length : Int))) = 0 then (none) else (solsticelaw20_ValueLists.L0 x0 x1 (wrap64 (Int.tmod (IntKind.u64.wrap (x2)) (IntKind.u64.wrap ((x0.length : Int))))) (⟨#[]⟩ : ByteArray) (⟨#[]⟩ : ByteArray) ([] : List Int) 0)) := by
  refine IsLim.step (solsticelaw20_ValueLists.isJ0 x0 x1 x2 x32).mono (f := fun k => if x32 = true then (some true) else (if (IntKind.u64.wrap ((x0.length : Int))) = 0 then (none) else (solsticelaw20_ValueLists.l0 k x0 x1 (wrap64 (Int.tmod (IntKind.u64.wrap (x2)) (IntKind.u64.wrap ((x0.length : Int))))) (⟨#[]⟩ : ByteArray) (⟨#[]⟩ : ByteArray) ([] : List Int) 0))) (fun k => by rw [solsticelaw20_ValueLists.j0]) ?_
  · repeat' first
    | (with_reducible exact IsLim.const _)
    | (with_reducible exact solsticelaw20_ValueLists.isL0 _ _ _ _ _ _ _)
    | (with_reducible refine IsLim.ite ?_ ?_)
    | (with_reducible refine IsLim.bind ?_ (fun _ => ?_))
theorem solsticelaw20_ValueLists.L0_eq (x0 : List Int) (x1 : Bool) (x2 : Int) (x7 : ByteArray) (x8 : ByteArray) (x9 : List Int) (x10 : Int) : solsticelaw20_ValueLists.L0 x0 x1 x2 x7 x8 x9 x10 = if x10 < (x0.length : Int) then (if 0 ≤ x10 then ((solsticelaw20_Some.F (rd x0 x10)).bind fun t241 => ((value_Time.F t241 x1).bind fun bt242 => ((value_Time.F t241 (x1 != (x10 == x2))).bind fun bt244 => (if bt242.2 = 0 then (solsticelaw20_ValueLists.J2 x0 x1 x2 x7 x8 x9 x10 t241 bt242.1 bt244.1 (bt244.2 != 0)) else (solsticelaw20_ValueLists.J2 x0 x1 x2 x7 x8 x9 x10 t241 bt242.1 bt244.1 true))))) else (none)) else ((value_Times.F x7).bind fun bt252 => ((value_Times.F x8).bind fun bt257 => (if x7.size + 1 ≤ 9223372036854775807 then ((value_Times.F (x7 ++ (⟨#[44]⟩ : ByteArray))).bind fun bt262 => (if bt252.2.2 = 0 then ((solsticekeep_Ints.F bt252.1 x9).bind fun t267 => (if t267 = true then (if (bt252.2.1 == x1) = true then (if (((x0.length : Int) == 1) == (bt257.2.2 == 0)) = true then (if bt262.2.2 = 19 then ((solsticelaw20_wakes.F).bind fun t268 => (some t268)) else (some false)) else (some false)) else (some false)) else (some false))) else (some false))) else (none)))) := by
  refine IsLim.step (solsticelaw20_ValueLists.isL0 x0 x1 x2 x7 x8 x9 x10).mono (f := fun k => if x10 < (x0.length : Int) then (if 0 ≤ x10 then ((solsticelaw20_Some.f k (rd x0 x10)).bind fun t241 => ((value_Time.f k t241 x1).bind fun bt242 => ((value_Time.f k t241 (x1 != (x10 == x2))).bind fun bt244 => (if bt242.2 = 0 then (solsticelaw20_ValueLists.j2 k x0 x1 x2 x7 x8 x9 x10 t241 bt242.1 bt244.1 (bt244.2 != 0)) else (solsticelaw20_ValueLists.j2 k x0 x1 x2 x7 x8 x9 x10 t241 bt242.1 bt244.1 true))))) else (none)) else ((value_Times.f k x7).bind fun bt252 => ((value_Times.f k x8).bind fun bt257 => (if x7.size + 1 ≤ 9223372036854775807 then ((value_Times.f k (x7 ++ (⟨#[44]⟩ : ByteArray))).bind fun bt262 => (if bt252.2.2 = 0 then ((solsticekeep_Ints.f k bt252.1 x9).bind fun t267 => (if t267 = true then (if (bt252.2.1 == x1) = true then (if (((x0.length : Int) == 1) == (bt257.2.2 == 0)) = true then (if bt262.2.2 = 19 then ((solsticelaw20_wakes.f k).bind fun t268 => (some t268)) else (some false)) else (some false)) else (some false)) else (some false))) else (some false))) else (none))))) (fun k => by rw [solsticelaw20_ValueLists.l0]) ?_
  · repeat' first
    | (with_reducible exact IsLim.const _)
    | (with_reducible exact solsticekeep_Ints.isF _ _)
    | (with_reducible exact solsticelaw20_Some.isF _)
    | (with_reducible exact solsticelaw20_ValueLists.isJ2 _ _ _ _ _ _ _ _ _ _ _)
    | (with_reducible exact solsticelaw20_wakes.isF)
    | (with_reducible exact value_Time.isF _ _)
    | (with_reducible exact value_Times.isF _)
    | (with_reducible refine IsLim.ite ?_ ?_)
    | (with_reducible refine IsLim.bind ?_ (fun _ => ?_))
theorem solsticelaw20_ValueLists.J2_eq (x0 : List Int) (x1 : Bool) (x2 : Int) (x7 : ByteArray) (x8 : ByteArray) (x9 : List Int) (x10 : Int) (x11 : Int) (x12 : ByteArray) (x14 : ByteArray) (x72 : Bool) : solsticelaw20_ValueLists.J2 x0 x1 x2 x7 x8 x9 x10 x11 x12 x14 x72 = if x72 = true then (some false) else (if x10 > 0 then (if x7.size + 1 ≤ 9223372036854775807 then (if x8.size + 1 ≤ 9223372036854775807 then (if (x7 ++ (⟨#[44]⟩ : ByteArray)).size + x12.size ≤ 9223372036854775807 then (if (x8 ++ (⟨#[44]⟩ : ByteArray)).size + x14.size ≤ 9223372036854775807 then (if x9.length < 17592186044416 then (solsticelaw20_ValueLists.L0 x0 x1 x2 ((x7 ++ (⟨#[44]⟩ : ByteArray)) ++ x12) ((x8 ++ (⟨#[44]⟩ : ByteArray)) ++ x14) (x9 ++ [x11]) (wrap64 (x10 + 1))) else (none)) else (none)) else (none)) else (none)) else (none)) else (if x7.size + x12.size ≤ 9223372036854775807 then (if x8.size + x14.size ≤ 9223372036854775807 then (if x9.length < 17592186044416 then (solsticelaw20_ValueLists.L0 x0 x1 x2 (x7 ++ x12) (x8 ++ x14) (x9 ++ [x11]) (wrap64 (x10 + 1))) else (none)) else (none)) else (none))) := by
  refine IsLim.step (solsticelaw20_ValueLists.isJ2 x0 x1 x2 x7 x8 x9 x10 x11 x12 x14 x72).mono (f := fun k => if x72 = true then (some false) else (if x10 > 0 then (if x7.size + 1 ≤ 9223372036854775807 then (if x8.size + 1 ≤ 9223372036854775807 then (if (x7 ++ (⟨#[44]⟩ : ByteArray)).size + x12.size ≤ 9223372036854775807 then (if (x8 ++ (⟨#[44]⟩ : ByteArray)).size + x14.size ≤ 9223372036854775807 then (if x9.length < 17592186044416 then (solsticelaw20_ValueLists.l0 k x0 x1 x2 ((x7 ++ (⟨#[44]⟩ : ByteArray)) ++ x12) ((x8 ++ (⟨#[44]⟩ : ByteArray)) ++ x14) (x9 ++ [x11]) (wrap64 (x10 + 1))) else (none)) else (none)) else (none)) else (none)) else (none)) else (if x7.size + x12.size ≤ 9223372036854775807 then (if x8.size + x14.size ≤ 9223372036854775807 then (if x9.length < 17592186044416 then (solsticelaw20_ValueLists.l0 k x0 x1 x2 (x7 ++ x12) (x8 ++ x14) (x9 ++ [x11]) (wrap64 (x10 + 1))) else (none)) else (none)) else (none)))) (fun k => by rw [solsticelaw20_ValueLists.j2]) ?_
  · repeat' first
    | (with_reducible exact IsLim.const _)
    | (with_reducible exact solsticelaw20_ValueLists.isL0 _ _ _ _ _ _ _)
    | (with_reducible refine IsLim.ite ?_ ?_)
    | (with_reducible refine IsLim.bind ?_ (fun _ => ?_))
theorem solsticelaw20_ValueLists.F_eq (l0 : List Int) (a1 : Bool) (a2 : Int) : solsticelaw20_ValueLists.F l0 a1 a2 = if (l0.length : Int) > 40 then (solsticelaw20_ValueLists.J0 l0 a1 a2 true) else (solsticelaw20_ValueLists.J0 l0 a1 a2 ((l0.length : Int) == 0)) := by
  refine IsLim.eq (g := fun k => if (l0.length : Int) > 40 then (solsticelaw20_ValueLists.j0 k l0 a1 a2 true) else (solsticelaw20_ValueLists.j0 k l0 a1 a2 ((l0.length : Int) == 0))) ?_
  · repeat' first
    | (with_reducible exact IsLim.const _)
    | (with_reducible exact solsticelaw20_ValueLists.isJ0 _ _ _ _)
    | (with_reducible refine IsLim.ite ?_ ?_)
    | (with_reducible refine IsLim.bind ?_ (fun _ => ?_))
end Go.Proofs.YtligbecmbefclaaDoor.PVls

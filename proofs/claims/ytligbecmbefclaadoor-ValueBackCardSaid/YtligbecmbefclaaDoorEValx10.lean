/- Printed functions of the family Val without a bound on their rounds, and the equation that each meets. No condition. -/
import Derived.Test.YtligbecmbefclaaDoorBase
import Derived.Test.YtligbecmbefclaaDoorPValx10
import Derived.Test.YtligbecmbefclaaDoorEValx2
import Derived.Test.YtligbecmbefclaaDoorEValx6
import Derived.Test.YtligbecmbefclaaDoorEValx7
import Derived.Test.YtligbecmbefclaaDoorEValx8
import Derived.Test.YtligbecmbefclaaDoorEValx9
namespace Go.Proofs.YtligbecmbefclaaDoor.PVal
open Go.RowKit Go.Proofs.YtligbecmbefclaaDoorW.PrintWords Go.Proofs.YtligbecmbefclaaDoorW.PrintLast Go.Proofs.YtligbecmbefclaaDoor.Base
set_option linter.unusedVariables false
noncomputable def solsticeref01_Number.L0 (x3 : Int) (x4 : Int) (x5 : Int) (x237000 : Int) (x237001 : Int) (x237002 : Int) : Option (Int) := lim fun k => solsticeref01_Number.l0 k x3 x4 x5 x237000 x237001 x237002
noncomputable def solsticeref01_Number.F (a0_0 : Int) (a0_1 : Int) (a0_2 : Int) : Option (Int) := lim fun k => solsticeref01_Number.f k a0_0 a0_1 a0_2
theorem solsticeref01_Number.isL0 (x3 : Int) (x4 : Int) (x5 : Int) (x237000 : Int) (x237001 : Int) (x237002 : Int) : IsLim (fun k => solsticeref01_Number.l0 k x3 x4 x5 x237000 x237001 x237002) (solsticeref01_Number.L0 x3 x4 x5 x237000 x237001 x237002) := ⟨fun k => (solsticeref01_Number.mono_l k) x3 x4 x5 x237000 x237001 x237002, rfl⟩
theorem solsticeref01_Number.isF (a0_0 : Int) (a0_1 : Int) (a0_2 : Int) : IsLim (fun k => solsticeref01_Number.f k a0_0 a0_1 a0_2) (solsticeref01_Number.F a0_0 a0_1 a0_2) := ⟨fun k => solsticeref01_Number.mono a0_0 a0_1 a0_2 k, rfl⟩
theorem solsticeref01_Number.L0_eq (x3 : Int) (x4 : Int) (x5 : Int) (x237000 : Int) (x237001 : Int) (x237002 : Int) : solsticeref01_Number.L0 x3 x4 x5 x237000 x237001 x237002 = if x5 < x237001 then ((solsticeref01_Len.F x3 x5).bind fun t237 => (solsticeref01_Number.L0 x3 (wrap64 (x4 + t237)) (wrap64 (x5 + 1)) x237000 x237001 x237002)) else (some (wrap64 ((wrap64 ((wrap64 (x4 + x237002)) - 1)) - 719528))) := by
  refine IsLim.step (solsticeref01_Number.isL0 x3 x4 x5 x237000 x237001 x237002).mono (f := fun k => if x5 < x237001 then ((solsticeref01_Len.f k x3 x5).bind fun t237 => (solsticeref01_Number.l0 k x3 (wrap64 (x4 + t237)) (wrap64 (x5 + 1)) x237000 x237001 x237002)) else (some (wrap64 ((wrap64 ((wrap64 (x4 + x237002)) - 1)) - 719528)))) (fun k => by rw [solsticeref01_Number.l0]) ?_
  · repeat' first
    | (with_reducible exact IsLim.const _)
    | (with_reducible exact solsticeref01_Len.isF _ _)
    | (with_reducible exact solsticeref01_Number.isL0 _ _ _ _ _ _)
    | (with_reducible refine IsLim.ite ?_ ?_)
    | (with_reducible refine IsLim.bind ?_ (fun _ => ?_))
theorem solsticeref01_Number.F_eq (a0_0 : Int) (a0_1 : Int) (a0_2 : Int) : solsticeref01_Number.F a0_0 a0_1 a0_2 = solsticeref01_Number.L0 a0_0 (wrap64 ((wrap64 ((wrap64 ((wrap64 (365 * a0_0)) + (wrap64 (Int.tdiv (wrap64 (a0_0 + 3)) 4)))) - (wrap64 (Int.tdiv (wrap64 (a0_0 + 99)) 100)))) + (wrap64 (Int.tdiv (wrap64 (a0_0 + 399)) 400)))) 1 a0_0 a0_1 a0_2 := by
  refine IsLim.eq (g := fun k => solsticeref01_Number.l0 k a0_0 (wrap64 ((wrap64 ((wrap64 ((wrap64 (365 * a0_0)) + (wrap64 (Int.tdiv (wrap64 (a0_0 + 3)) 4)))) - (wrap64 (Int.tdiv (wrap64 (a0_0 + 99)) 100)))) + (wrap64 (Int.tdiv (wrap64 (a0_0 + 399)) 400)))) 1 a0_0 a0_1 a0_2) ?_
  · repeat' first
    | (with_reducible exact IsLim.const _)
    | (with_reducible exact solsticeref01_Number.isL0 _ _ _ _ _ _)
    | (with_reducible refine IsLim.ite ?_ ?_)
    | (with_reducible refine IsLim.bind ?_ (fun _ => ?_))
noncomputable def solsticelaw20_Some.F (a0 : Int) : Option (Int) := lim fun k => solsticelaw20_Some.f k a0
theorem solsticelaw20_Some.isF (a0 : Int) : IsLim (fun k => solsticelaw20_Some.f k a0) (solsticelaw20_Some.F a0) := ⟨fun k => solsticelaw20_Some.mono a0 k, rfl⟩
theorem solsticelaw20_Some.F_eq (a0 : Int) : solsticelaw20_Some.F a0 = (solsticeref01_Number.F 1 1 1).bind fun t238 => ((solsticeref01_Number.F 10000 1 1).bind fun t239 => (if (IntKind.u64.wrap (wrap64 ((wrap64 (86400 * t239)) - (wrap64 (86400 * t238))))) = 0 then (none) else (some (wrap64 ((wrap64 (86400 * t238)) + (wrap64 (Int.tmod (IntKind.u64.wrap (a0)) (IntKind.u64.wrap (wrap64 ((wrap64 (86400 * t239)) - (wrap64 (86400 * t238)))))))))))) := by
  refine IsLim.eq (g := fun k => (solsticeref01_Number.f k 1 1 1).bind fun t238 => ((solsticeref01_Number.f k 10000 1 1).bind fun t239 => (if (IntKind.u64.wrap (wrap64 ((wrap64 (86400 * t239)) - (wrap64 (86400 * t238))))) = 0 then (none) else (some (wrap64 ((wrap64 (86400 * t238)) + (wrap64 (Int.tmod (IntKind.u64.wrap (a0)) (IntKind.u64.wrap (wrap64 ((wrap64 (86400 * t239)) - (wrap64 (86400 * t238))))))))))))) ?_
  · repeat' first
    | (with_reducible exact IsLim.const _)
    | (with_reducible exact solsticeref01_Number.isF _ _ _)
    | (with_reducible refine IsLim.ite ?_ ?_)
    | (with_reducible refine IsLim.bind ?_ (fun _ => ?_))
noncomputable def solsticelaw20_ValueBack.F (a0 : Int) (a1 : Int) (a2 : Int) (a3 : Int) (a4 : Bool) : Option (Bool) := lim fun k => solsticelaw20_ValueBack.f k a0 a1 a2 a3 a4
theorem solsticelaw20_ValueBack.isF (a0 : Int) (a1 : Int) (a2 : Int) (a3 : Int) (a4 : Bool) : IsLim (fun k => solsticelaw20_ValueBack.f k a0 a1 a2 a3 a4) (solsticelaw20_ValueBack.F a0 a1 a2 a3 a4) := ⟨fun k => solsticelaw20_ValueBack.mono a0 a1 a2 a3 a4 k, rfl⟩
theorem solsticelaw20_ValueBack.F_eq (a0 : Int) (a1 : Int) (a2 : Int) (a3 : Int) (a4 : Bool) : solsticelaw20_ValueBack.F a0 a1 a2 a3 a4 = (solsticelaw20_Some.F a0).bind fun t240 => ((solsticelaw20_Some.F a1).bind fun t241 => ((value_Time.F t240 a4).bind fun bt242 => ((value_Time.F t241 a4).bind fun bt244 => ((value_ParseTime.F bt242.1).bind fun bt246 => ((value_Offset.F (Int.tmod a2 86400)).bind fun bt249 => ((value_Offset.F (Int.tmod a3 86400)).bind fun bt251 => ((value_ParseOffset.F bt249.1).bind fun bt253 => (if bt242.2 = 0 then (if bt244.2 = 0 then (if bt246.2.2 = 0 then (if bt249.2 = 0 then (if bt251.2 = 0 then (if bt253.2 = 0 then (if bt246.1 = t240 then (if (bt246.2.1 == a4) = true then (if bt253.1 = (Int.tmod a2 86400) then (if ((bt242.1.toList == bt244.1.toList) == (t240 == t241)) = true then (if ((Op.bytesLess bt242.1.toList bt244.1.toList) == (decide (t240 < t241))) = true then (if ((bt249.1.toList == bt251.1.toList) == ((Int.tmod a2 86400) == (Int.tmod a3 86400))) = true then ((solsticelaw20_wakes.F).bind fun t255 => (some t255)) else (some false)) else (some false)) else (some false)) else (some false)) else (some false)) else (some false)) else (some false)) else (some false)) else (some false)) else (some false)) else (some false)) else (some false))))))))) := by
  refine IsLim.eq (g := fun k => (solsticelaw20_Some.f k a0).bind fun t240 => ((solsticelaw20_Some.f k a1).bind fun t241 => ((value_Time.f k t240 a4).bind fun bt242 => ((value_Time.f k t241 a4).bind fun bt244 => ((value_ParseTime.f k bt242.1).bind fun bt246 => ((value_Offset.f k (Int.tmod a2 86400)).bind fun bt249 => ((value_Offset.f k (Int.tmod a3 86400)).bind fun bt251 => ((value_ParseOffset.f k bt249.1).bind fun bt253 => (if bt242.2 = 0 then (if bt244.2 = 0 then (if bt246.2.2 = 0 then (if bt249.2 = 0 then (if bt251.2 = 0 then (if bt253.2 = 0 then (if bt246.1 = t240 then (if (bt246.2.1 == a4) = true then (if bt253.1 = (Int.tmod a2 86400) then (if ((bt242.1.toList == bt244.1.toList) == (t240 == t241)) = true then (if ((Op.bytesLess bt242.1.toList bt244.1.toList) == (decide (t240 < t241))) = true then (if ((bt249.1.toList == bt251.1.toList) == ((Int.tmod a2 86400) == (Int.tmod a3 86400))) = true then ((solsticelaw20_wakes.f k).bind fun t255 => (some t255)) else (some false)) else (some false)) else (some false)) else (some false)) else (some false)) else (some false)) else (some false)) else (some false)) else (some false)) else (some false)) else (some false)) else (some false)))))))))) ?_
  · repeat' first
    | (with_reducible exact IsLim.const _)
    | (with_reducible exact solsticelaw20_Some.isF _)
    | (with_reducible exact solsticelaw20_wakes.isF)
    | (with_reducible exact value_Offset.isF _)
    | (with_reducible exact value_ParseOffset.isF _)
    | (with_reducible exact value_ParseTime.isF _)
    | (with_reducible exact value_Time.isF _ _)
    | (with_reducible refine IsLim.ite ?_ ?_)
    | (with_reducible refine IsLim.bind ?_ (fun _ => ?_))
noncomputable def solsticelaw20_ValueLists.J0 (x0 : List Int) (x1 : Bool) (x2 : Int) (x32 : Bool) : Option (Bool) := lim fun k => solsticelaw20_ValueLists.j0 k x0 x1 x2 x32
noncomputable def solsticelaw20_ValueLists.L0 (x0 : List Int) (x1 : Bool) (x2 : Int) (x7 : ByteArray) (x8 : ByteArray) (x9 : List Int) (x10 : Int) : Option (Bool) := lim fun k => solsticelaw20_ValueLists.l0 k x0 x1 x2 x7 x8 x9 x10
noncomputable def solsticelaw20_ValueLists.J2 (x0 : List Int) (x1 : Bool) (x2 : Int) (x7 : ByteArray) (x8 : ByteArray) (x9 : List Int) (x10 : Int) (x11 : Int) (x12 : ByteArray) (x14 : ByteArray) (x72 : Bool) : Option (Bool) := lim fun k => solsticelaw20_ValueLists.j2 k x0 x1 x2 x7 x8 x9 x10 x11 x12 x14 x72
noncomputable def solsticelaw20_ValueLists.F (l0 : List Int) (a1 : Bool) (a2 : Int) : Option (Bool) := lim fun k => solsticelaw20_ValueLists.f k l0 a1 a2
theorem solsticelaw20_ValueLists.isJ0 (x0 : List Int) (x1 : Bool) (x2 : Int) (x32 : Bool) : IsLim (fun k => solsticelaw20_ValueLists.j0 k x0 x1 x2 x32) (solsticelaw20_ValueLists.J0 x0 x1 x2 x32) := ⟨fun k => (solsticelaw20_ValueLists.mono_l k).1 x0 x1 x2 x32, rfl⟩
theorem solsticelaw20_ValueLists.isL0 (x0 : List Int) (x1 : Bool) (x2 : Int) (x7 : ByteArray) (x8 : ByteArray) (x9 : List Int) (x10 : Int) : IsLim (fun k => solsticelaw20_ValueLists.l0 k x0 x1 x2 x7 x8 x9 x10) (solsticelaw20_ValueLists.L0 x0 x1 x2 x7 x8 x9 x10) := ⟨fun k => (solsticelaw20_ValueLists.mono_l k).2.1 x0 x1 x2 x7 x8 x9 x10, rfl⟩
theorem solsticelaw20_ValueLists.isJ2 (x0 : List Int) (x1 : Bool) (x2 : Int) (x7 : ByteArray) (x8 : ByteArray) (x9 : List Int) (x10 : Int) (x11 : Int) (x12 : ByteArray) (x14 : ByteArray) (x72 : Bool) : IsLim (fun k => solsticelaw20_ValueLists.j2 k x0 x1 x2 x7 x8 x9 x10 x11 x12 x14 x72) (solsticelaw20_ValueLists.J2 x0 x1 x2 x7 x8 x9 x10 x11 x12 x14 x72) := ⟨fun k => (solsticelaw20_ValueLists.mono_l k).2.2 x0 x1 x2 x7 x8 x9 x10 x11 x12 x14 x72, rfl⟩
theorem solsticelaw20_ValueLists.isF (l0 : List Int) (a1 : Bool) (a2 : Int) : IsLim (fun k => solsticelaw20_ValueLists.f k l0 a1 a2) (solsticelaw20_ValueLists.F l0 a1 a2) := ⟨fun k => solsticelaw20_ValueLists.mono l0 a1 a2 k, rfl⟩
theorem solsticelaw20_ValueLists.J0_eq (x0 : List Int) (x1 : Bool) (x2 : Int) (x32 : Bool) : solsticelaw20_ValueLists.J0 x0 x1 x2 x32 = if x32 = true then (some true) else (if (IntKind.u64.wrap ((x0.length : Int))) = 0 then (none) else (solsticelaw20_ValueLists.L0 x0 x1 (wrap64 (Int.tmod (IntKind.u64.wrap (x2)) (IntKind.u64.wrap ((x0.length : Int))))) (⟨#[]⟩ : ByteArray) (⟨#[]⟩ : ByteArray) ([] : List Int) 0)) := by
  refine IsLim.step (solsticelaw20_ValueLists.isJ0 x0 x1 x2 x32).mono (f := fun k => if x32 = true then (some true) else (if (IntKind.u64.wrap ((x0.length : Int))) = 0 then (none) else (solsticelaw20_ValueLists.l0 k x0 x1 (wrap64 (Int.tmod (IntKind.u64.wrap (x2)) (IntKind.u64.wrap ((x0.length : Int))))) (⟨#[]⟩ : ByteArray) (⟨#[]⟩ : ByteArray) ([] : List Int) 0))) (fun k => by rw [solsticelaw20_ValueLists.j0]) ?_
  · repeat' first
    | (with_reducible exact IsLim.const _)
    | (with_reducible exact solsticelaw20_ValueLists.isL0 _ _ _ _ _ _ _)
    | (with_reducible refine IsLim.ite ?_ ?_)
    | (with_reducible refine IsLim.bind ?_ (fun _ => ?_))
theorem solsticelaw20_ValueLists.L0_eq (x0 : List Int) (x1 : Bool) (x2 : Int) (x7 : ByteArray) (x8 : ByteArray) (x9 : List Int) (x10 : Int) : solsticelaw20_ValueLists.L0 x0 x1 x2 x7 x8 x9 x10 = if x10 < (x0.length : Int) then (if 0 ≤ x10 then ((solsticelaw20_Some.F (rd x0 x10)).bind fun t257 => ((value_Time.F t257 x1).bind fun bt258 => ((value_Time.F t257 (x1 != (x10 == x2))).bind fun bt260 => (if bt258.2 = 0 then (solsticelaw20_ValueLists.J2 x0 x1 x2 x7 x8 x9 x10 t257 bt258.1 bt260.1 (bt260.2 != 0)) else (solsticelaw20_ValueLists.J2 x0 x1 x2 x7 x8 x9 x10 t257 bt258.1 bt260.1 true))))) else (none)) else ((value_Times.F x7).bind fun bt268 => ((value_Times.F x8).bind fun bt273 => (if x7.size + 1 ≤ 9223372036854775807 then ((value_Times.F (x7 ++ (⟨#[44]⟩ : ByteArray))).bind fun bt278 => (if bt268.2.2 = 0 then ((solsticekeep_Ints.F bt268.1 x9).bind fun t283 => (if t283 = true then (if (bt268.2.1 == x1) = true then (if (((x0.length : Int) == 1) == (bt273.2.2 == 0)) = true then (if bt278.2.2 = 19 then ((solsticelaw20_wakes.F).bind fun t284 => (some t284)) else (some false)) else (some false)) else (some false)) else (some false))) else (some false))) else (none)))) := by
  refine IsLim.step (solsticelaw20_ValueLists.isL0 x0 x1 x2 x7 x8 x9 x10).mono (f := fun k => if x10 < (x0.length : Int) then (if 0 ≤ x10 then ((solsticelaw20_Some.f k (rd x0 x10)).bind fun t257 => ((value_Time.f k t257 x1).bind fun bt258 => ((value_Time.f k t257 (x1 != (x10 == x2))).bind fun bt260 => (if bt258.2 = 0 then (solsticelaw20_ValueLists.j2 k x0 x1 x2 x7 x8 x9 x10 t257 bt258.1 bt260.1 (bt260.2 != 0)) else (solsticelaw20_ValueLists.j2 k x0 x1 x2 x7 x8 x9 x10 t257 bt258.1 bt260.1 true))))) else (none)) else ((value_Times.f k x7).bind fun bt268 => ((value_Times.f k x8).bind fun bt273 => (if x7.size + 1 ≤ 9223372036854775807 then ((value_Times.f k (x7 ++ (⟨#[44]⟩ : ByteArray))).bind fun bt278 => (if bt268.2.2 = 0 then ((solsticekeep_Ints.f k bt268.1 x9).bind fun t283 => (if t283 = true then (if (bt268.2.1 == x1) = true then (if (((x0.length : Int) == 1) == (bt273.2.2 == 0)) = true then (if bt278.2.2 = 19 then ((solsticelaw20_wakes.f k).bind fun t284 => (some t284)) else (some false)) else (some false)) else (some false)) else (some false))) else (some false))) else (none))))) (fun k => by rw [solsticelaw20_ValueLists.l0]) ?_
  · repeat' first
    | (with_reducible exact IsLim.const _)
    | (with_reducible exact solsticekeep_Ints.isF _ _)
    | (with_reducible exact solsticelaw20_Some.isF _)
    | (with_reducible exact solsticelaw20_ValueLists.isJ2 _ _ _ _ _ _ _ _ _ _ _)
    | (with_reducible exact solsticelaw20_wakes.isF)
    | (with_reducible exact value_Time.isF _ _)
    | (with_reducible exact value_Times.isF _)
    | (with_reducible refine IsLim.ite ?_ ?_)
    | (with_reducible refine IsLim.bind ?_ (fun _ => ?_))
theorem solsticelaw20_ValueLists.J2_eq (x0 : List Int) (x1 : Bool) (x2 : Int) (x7 : ByteArray) (x8 : ByteArray) (x9 : List Int) (x10 : Int) (x11 : Int) (x12 : ByteArray) (x14 : ByteArray) (x72 : Bool) : solsticelaw20_ValueLists.J2 x0 x1 x2 x7 x8 x9 x10 x11 x12 x14 x72 = if x72 = true then (some false) else (if x10 > 0 then (if x7.size + 1 ≤ 9223372036854775807 then (if x8.size + 1 ≤ 9223372036854775807 then (if (x7 ++ (⟨#[44]⟩ : ByteArray)).size + x12.size ≤ 9223372036854775807 then (if (x8 ++ (⟨#[44]⟩ : ByteArray)).size + x14.size ≤ 9223372036854775807 then (if x9.length < 17592186044416 then (solsticelaw20_ValueLists.L0 x0 x1 x2 ((x7 ++ (⟨#[44]⟩ : ByteArray)) ++ x12) ((x8 ++ (⟨#[44]⟩ : ByteArray)) ++ x14) (x9 ++ [x11]) (wrap64 (x10 + 1))) else (none)) else (none)) else (none)) else (none)) else (none)) else (if x7.size + x12.size ≤ 9223372036854775807 then (if x8.size + x14.size ≤ 9223372036854775807 then (if x9.length < 17592186044416 then (solsticelaw20_ValueLists.L0 x0 x1 x2 (x7 ++ x12) (x8 ++ x14) (x9 ++ [x11]) (wrap64 (x10 + 1))) else (none)) else (none)) else (none))) := by
  refine IsLim.step (solsticelaw20_ValueLists.isJ2 x0 x1 x2 x7 x8 x9 x10 x11 x12 x14 x72).mono (f := fun k => if x72 = true then (some false) else (if x10 > 0 then (if x7.size + 1 ≤ 9223372036854775807 then (if x8.size + 1 ≤ 9223372036854775807 then (if (x7 ++ (⟨#[44]⟩ : ByteArray)).size + x12.size ≤ 9223372036854775807 then (if (x8 ++ (⟨#[44]⟩ : ByteArray)).size + x14.size ≤ 9223372036854775807 then (if x9.length < 17592186044416 then (solsticelaw20_ValueLists.l0 k x0 x1 x2 ((x7 ++ (⟨#[44]⟩ : ByteArray)) ++ x12) ((x8 ++ (⟨#[44]⟩ : ByteArray)) ++ x14) (x9 ++ [x11]) (wrap64 (x10 + 1))) else (none)) else (none)) else (none)) else (none)) else (none)) else (if x7.size + x12.size ≤ 9223372036854775807 then (if x8.size + x14.size ≤ 9223372036854775807 then (if x9.length < 17592186044416 then (solsticelaw20_ValueLists.l0 k x0 x1 x2 (x7 ++ x12) (x8 ++ x14) (x9 ++ [x11]) (wrap64 (x10 + 1))) else (none)) else (none)) else (none)))) (fun k => by rw [solsticelaw20_ValueLists.j2]) ?_
  · repeat' first
    | (with_reducible exact IsLim.const _)
    | (with_reducible exact solsticelaw20_ValueLists.isL0 _ _ _ _ _ _ _)
    | (with_reducible refine IsLim.ite ?_ ?_)
    | (with_reducible refine IsLim.bind ?_ (fun _ => ?_))
theorem solsticelaw20_ValueLists.F_eq (l0 : List Int) (a1 : Bool) (a2 : Int) : solsticelaw20_ValueLists.F l0 a1 a2 = if (l0.length : Int) > 40 then (solsticelaw20_ValueLists.J0 l0 a1 a2 true) else (solsticelaw20_ValueLists.J0 l0 a1 a2 ((l0.length : Int) == 0)) := by
  refine IsLim.eq (g := fun k => if (l0.length : Int) > 40 then (solsticelaw20_ValueLists.j0 k l0 a1 a2 true) else (solsticelaw20_ValueLists.j0 k l0 a1 a2 ((l0.length : Int) == 0))) ?_
  · repeat' first
    | (with_reducible exact IsLim.const _)
    | (with_reducible exact solsticelaw20_ValueLists.isJ0 _ _ _ _)
    | (with_reducible refine IsLim.ite ?_ ?_)
    | (with_reducible refine IsLim.bind ?_ (fun _ => ?_))
end Go.Proofs.YtligbecmbefclaaDoor.PVal

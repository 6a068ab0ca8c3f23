/- Printed functions of the family Vls without a bound on their rounds, and the equation that each meets. No condition. -/
import Derived.Test.YtligbecmbefclaaDoorBase
import Derived.Test.YtligbecmbefclaaDoorPVlsx9
namespace Go.Proofs.YtligbecmbefclaaDoor.PVls
open Go.RowKit Go.Proofs.YtligbecmbefclaaDoorW.PrintWords Go.Proofs.YtligbecmbefclaaDoorW.PrintLast Go.Proofs.YtligbecmbefclaaDoor.Base
set_option linter.unusedVariables false
noncomputable def solsticeref01_Len.J0 (x1 : Int) (x9 : Bool) : Option (Int) := lim fun k => solsticeref01_Len.j0 k x1 x9
noncomputable def solsticeref01_Len.F (a0 : Int) (a1 : Int) : Option (Int) := lim fun k => solsticeref01_Len.f k a0 a1
theorem solsticeref01_Len.isJ0 (x1 : Int) (x9 : Bool) : IsLim (fun k => solsticeref01_Len.j0 k x1 x9) (solsticeref01_Len.J0 x1 x9) := ⟨fun k => (solsticeref01_Len.mono_l k) x1 x9, rfl⟩
theorem solsticeref01_Len.isF (a0 : Int) (a1 : Int) : IsLim (fun k => solsticeref01_Len.f k a0 a1) (solsticeref01_Len.F a0 a1) := ⟨fun k => solsticeref01_Len.mono a0 a1 k, rfl⟩
theorem solsticeref01_Len.J0_eq (x1 : Int) (x9 : Bool) : solsticeref01_Len.J0 x1 x9 = if x9 = true then (some 29) else (if x1 = 2 then (some 28) else (if x1 = 4 then (some 30) else (if x1 = 6 then (some 30) else (if x1 = 9 then (some 30) else (if x1 = 11 then (some 30) else (some 31)))))) := by
  refine IsLim.step (solsticeref01_Len.isJ0 x1 x9).mono (f := fun k => if x9 = true then (some 29) else (if x1 = 2 then (some 28) else (if x1 = 4 then (some 30) else (if x1 = 6 then (some 30) else (if x1 = 9 then (some 30) else (if x1 = 11 then (some 30) else (some 31))))))) (fun k => by rw [solsticeref01_Len.j0]) ?_
  · repeat' first
    | (with_reducible exact IsLim.const _)
    | (with_reducible refine IsLim.ite ?_ ?_)
    | (with_reducible refine IsLim.bind ?_ (fun _ => ?_))
theorem solsticeref01_Len.F_eq (a0 : Int) (a1 : Int) : solsticeref01_Len.F a0 a1 = (solsticeref01_In.f a1 1 12).bind fun t234 => (if t234 = true then (if a1 = 2 then ((solsticeref01_Long.f a0).bind fun t235 => (solsticeref01_Len.J0 a1 t235)) else (solsticeref01_Len.J0 a1 false)) else (some 0)) := by
  refine IsLim.eq (g := fun k => (solsticeref01_In.f a1 1 12).bind fun t234 => (if t234 = true then (if a1 = 2 then ((solsticeref01_Long.f a0).bind fun t235 => (solsticeref01_Len.j0 k a1 t235)) else (solsticeref01_Len.j0 k a1 false)) else (some 0))) ?_
  · repeat' first
    | (with_reducible exact IsLim.const _)
    | (with_reducible exact solsticeref01_Len.isJ0 _ _)
    | (with_reducible refine IsLim.ite ?_ ?_)
    | (with_reducible refine IsLim.bind ?_ (fun _ => ?_))
noncomputable def solsticeref01_Number.L0 (x3 : Int) (x4 : Int) (x5 : Int) (x237000 : Int) (x237001 : Int) (x237002 : Int) : Option (Int) := lim fun k => solsticeref01_Number.l0 k x3 x4 x5 x237000 x237001 x237002
noncomputable def solsticeref01_Number.F (a0_0 : Int) (a0_1 : Int) (a0_2 : Int) : Option (Int) := lim fun k => solsticeref01_Number.f k a0_0 a0_1 a0_2
theorem solsticeref01_Number.isL0 (x3 : Int) (x4 : Int) (x5 : Int) (x237000 : Int) (x237001 : Int) (x237002 : Int) : IsLim (fun k => solsticeref01_Number.l0 k x3 x4 x5 x237000 x237001 x237002) (solsticeref01_Number.L0 x3 x4 x5 x237000 x237001 x237002) := ⟨fun k => (solsticeref01_Number.mono_l k) x3 x4 x5 x237000 x237001 x237002, rfl⟩
theorem solsticeref01_Number.isF (a0_0 : Int) (a0_1 : Int) (a0_2 : Int) : IsLim (fun k => solsticeref01_Number.f k a0_0 a0_1 a0_2) (solsticeref01_Number.F a0_0 a0_1 a0_2) := ⟨fun k => solsticeref01_Number.mono a0_0 a0_1 a0_2 k, rfl⟩
theorem solsticeref01_Number.L0_eq (x3 : Int) (x4 : Int) (x5 : Int) (x237000 : Int) (x237001 : Int) (x237002 : Int) : solsticeref01_Number.L0 x3 x4 x5 x237000 x237001 x237002 = if x5 < x237001 then ((solsticeref01_Len.F x3 x5).bind fun t237 => (solsticeref01_Number.L0 x3 (wrap64 (x4 + t237)) (wrap64 (x5 + 1)) x237000 x237001 x237002)) else (some (wrap64 ((wrap64 ((wrap64 (x4 + x237002)) - 1)) - 719528))) := by
  refine IsLim.step (solsticeref01_Number.isL0 x3 x4 x5 x237000 x237001 x237002).mono (f := fun k => if x5 < x237001 then ((solsticeref01_Len.f k x3 x5).bind fun t237 => (solsticeref01_Number.l0 k x3 (wrap64 (x4 + t237)) (wrap64 (x5 + 1)) x237000 x237001 x237002)) else (some (wrap64 ((wrap64 ((wrap64 (x4 + x237002)) - 1)) - 719528)))) (fun k => by rw [solsticeref01_Number.l0]) ?_
  · repeat' first
    | (with_reducible exact IsLim.const _)
    | (with_reducible exact solsticeref01_Len.isF _ _)
    | (with_reducible exact solsticeref01_Number.isL0 _ _ _ _ _ _)
    | (with_reducible refine IsLim.ite ?_ ?_)
    | (with_reducible refine IsLim.bind ?_ (fun _ => ?_))
theorem solsticeref01_Number.F_eq (a0_0 : Int) (a0_1 : Int) (a0_2 : Int) : solsticeref01_Number.F a0_0 a0_1 a0_2 = solsticeref01_Number.L0 a0_0 (wrap64 ((wrap64 ((wrap64 ((wrap64 (365 * a0_0)) + (wrap64 (Int.tdiv (wrap64 (a0_0 + 3)) 4)))) - (wrap64 (Int.tdiv (wrap64 (a0_0 + 99)) 100)))) + (wrap64 (Int.tdiv (wrap64 (a0_0 + 399)) 400)))) 1 a0_0 a0_1 a0_2 := by
  refine IsLim.eq (g := fun k => solsticeref01_Number.l0 k a0_0 (wrap64 ((wrap64 ((wrap64 ((wrap64 (365 * a0_0)) + (wrap64 (Int.tdiv (wrap64 (a0_0 + 3)) 4)))) - (wrap64 (Int.tdiv (wrap64 (a0_0 + 99)) 100)))) + (wrap64 (Int.tdiv (wrap64 (a0_0 + 399)) 400)))) 1 a0_0 a0_1 a0_2) ?_
  · repeat' first
    | (with_reducible exact IsLim.const _)
    | (with_reducible exact solsticeref01_Number.isL0 _ _ _ _ _ _)
    | (with_reducible refine IsLim.ite ?_ ?_)
    | (with_reducible refine IsLim.bind ?_ (fun _ => ?_))
noncomputable def solsticelaw20_Some.F (a0 : Int) : Option (Int) := lim fun k => solsticelaw20_Some.f k a0
theorem solsticelaw20_Some.isF (a0 : Int) : IsLim (fun k => solsticelaw20_Some.f k a0) (solsticelaw20_Some.F a0) := ⟨fun k => solsticelaw20_Some.mono a0 k, rfl⟩
theorem solsticelaw20_Some.F_eq (a0 : Int) : solsticelaw20_Some.F a0 = (solsticeref01_Number.F 1 1 1).bind fun t238 => ((solsticeref01_Number.F 10000 1 1).bind fun t239 => (if (IntKind.u64.wrap (wrap64 ((wrap64 (86400 * t239)) - (wrap64 (86400 * t238))))) = 0 then (none) else (some (wrap64 ((wrap64 (86400 * t238)) + (wrap64 (Int.tmod (IntKind.u64.wrap (a0)) (IntKind.u64.wrap (wrap64 ((wrap64 (86400 * t239)) - (wrap64 (86400 * t238)))))))))))) := by
  refine IsLim.eq (g := fun k => (solsticeref01_Number.f k 1 1 1).bind fun t238 => ((solsticeref01_Number.f k 10000 1 1).bind fun t239 => (if (IntKind.u64.wrap (wrap64 ((wrap64 (86400 * t239)) - (wrap64 (86400 * t238))))) = 0 then (none) else (some (wrap64 ((wrap64 (86400 * t238)) + (wrap64 (Int.tmod (IntKind.u64.wrap (a0)) (IntKind.u64.wrap (wrap64 ((wrap64 (86400 * t239)) - (wrap64 (86400 * t238))))))))))))) ?_
  · repeat' first
    | (with_reducible exact IsLim.const _)
    | (with_reducible exact solsticeref01_Number.isF _ _ _)
    | (with_reducible refine IsLim.ite ?_ ?_)
    | (with_reducible refine IsLim.bind ?_ (fun _ => ?_))
end Go.Proofs.YtligbecmbefclaaDoor.PVls

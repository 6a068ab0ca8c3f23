/- Printed functions of the family Num without a bound on their rounds, and the equation that each meets. No condition. -/
import Derived.Test.YtlfohcjajmebjaaDoorBase
import Derived.Test.YtlfohcjajmebjaaDoorPNumx6
import Derived.Test.YtlfohcjajmebjaaDoorENumx1
import Derived.Test.YtlfohcjajmebjaaDoorENumx3
namespace Go.Proofs.YtlfohcjajmebjaaDoor.PNum
open Go.RowKit Go.Proofs.YtlfohcjajmebjaaDoorW.PrintWords Go.Proofs.YtlfohcjajmebjaaDoorW.PrintLast Go.Proofs.YtlfohcjajmebjaaDoor.Base
set_option linter.unusedVariables false
noncomputable def solsticelaw01_NumBack.J0 (x0 : Int) (x1 : Int) : Option (Bool) := lim fun k => solsticelaw01_NumBack.j0 k x0 x1
noncomputable def solsticelaw01_NumBack.J1 (x0 : Int) (x1 : Int) : Option (Bool) := lim fun k => solsticelaw01_NumBack.j1 k x0 x1
noncomputable def solsticelaw01_NumBack.J2 (x0 : Int) (x1 : Int) (x16 : Int) (x91 : Bool) : Option (Bool) := lim fun k => solsticelaw01_NumBack.j2 k x0 x1 x16 x91
noncomputable def solsticelaw01_NumBack.F (a0 : Int) (a1 : Int) : Option (Bool) := lim fun k => solsticelaw01_NumBack.f k a0 a1
theorem solsticelaw01_NumBack.isJ0 (x0 : Int) (x1 : Int) : IsLim (fun k => solsticelaw01_NumBack.j0 k x0 x1) (solsticelaw01_NumBack.J0 x0 x1) := ⟨fun k => (solsticelaw01_NumBack.mono_l k).1 x0 x1, rfl⟩
theorem solsticelaw01_NumBack.isJ1 (x0 : Int) (x1 : Int) : IsLim (fun k => solsticelaw01_NumBack.j1 k x0 x1) (solsticelaw01_NumBack.J1 x0 x1) := ⟨fun k => (solsticelaw01_NumBack.mono_l k).2.1 x0 x1, rfl⟩
theorem solsticelaw01_NumBack.isJ2 (x0 : Int) (x1 : Int) (x16 : Int) (x91 : Bool) : IsLim (fun k => solsticelaw01_NumBack.j2 k x0 x1 x16 x91) (solsticelaw01_NumBack.J2 x0 x1 x16 x91) := ⟨fun k => (solsticelaw01_NumBack.mono_l k).2.2 x0 x1 x16 x91, rfl⟩
theorem solsticelaw01_NumBack.isF (a0 : Int) (a1 : Int) : IsLim (fun k => solsticelaw01_NumBack.f k a0 a1) (solsticelaw01_NumBack.F a0 a1) := ⟨fun k => solsticelaw01_NumBack.mono a0 a1 k, rfl⟩
theorem solsticelaw01_NumBack.J0_eq (x0 : Int) (x1 : Int) : solsticelaw01_NumBack.J0 x0 x1 = (num_Add.f x0 x1).bind fun bt181 => (if bt181.2 = true then ((num_Add.f bt181.1 (wrap64 (-x0))).bind fun bt183 => (if bt183.2 = true then (if bt183.1 = x1 then (solsticelaw01_NumBack.J1 x0 x1) else (some false)) else (some false))) else (solsticelaw01_NumBack.J1 x0 x1)) := by
  refine IsLim.step (solsticelaw01_NumBack.isJ0 x0 x1).mono (f := fun k => (num_Add.f x0 x1).bind fun bt181 => (if bt181.2 = true then ((num_Add.f bt181.1 (wrap64 (-x0))).bind fun bt183 => (if bt183.2 = true then (if bt183.1 = x1 then (solsticelaw01_NumBack.j1 k x0 x1) else (some false)) else (some false))) else (solsticelaw01_NumBack.j1 k x0 x1))) (fun k => by rw [solsticelaw01_NumBack.j0]) ?_
  · repeat' first
    | (with_reducible exact IsLim.const _)
    | (with_reducible exact solsticelaw01_NumBack.isJ1 _ _)
    | (with_reducible refine IsLim.ite ?_ ?_)
    | (with_reducible refine IsLim.bind ?_ (fun _ => ?_))
theorem solsticelaw01_NumBack.J1_eq (x0 : Int) (x1 : Int) : solsticelaw01_NumBack.J1 x0 x1 = (num_Mul.F x0 x1).bind fun bt185 => (if bt185.2 = true then (solsticelaw01_NumBack.J2 x0 x1 bt185.1 (decide (x1 > 0))) else (solsticelaw01_NumBack.J2 x0 x1 bt185.1 false)) := by
  refine IsLim.step (solsticelaw01_NumBack.isJ1 x0 x1).mono (f := fun k => (num_Mul.f k x0 x1).bind fun bt185 => (if bt185.2 = true then (solsticelaw01_NumBack.j2 k x0 x1 bt185.1 (decide (x1 > 0))) else (solsticelaw01_NumBack.j2 k x0 x1 bt185.1 false))) (fun k => by rw [solsticelaw01_NumBack.j1]) ?_
  · repeat' first
    | (with_reducible exact IsLim.const _)
    | (with_reducible exact num_Mul.isF _ _)
    | (with_reducible exact solsticelaw01_NumBack.isJ2 _ _ _ _)
    | (with_reducible refine IsLim.ite ?_ ?_)
    | (with_reducible refine IsLim.bind ?_ (fun _ => ?_))
theorem solsticelaw01_NumBack.J2_eq (x0 : Int) (x1 : Int) (x16 : Int) (x91 : Bool) : solsticelaw01_NumBack.J2 x0 x1 x16 x91 = if x91 = true then ((num_Div.F x16 x1).bind fun bt187 => (if bt187.2.2 = true then (if bt187.1 = x0 then (if bt187.2.1 = 0 then ((solsticelaw01_wakes.F).bind fun t190 => (some t190)) else (some false)) else (some false)) else (some false))) else ((solsticelaw01_wakes.F).bind fun t191 => (some t191)) := by
  refine IsLim.step (solsticelaw01_NumBack.isJ2 x0 x1 x16 x91).mono (f := fun k => if x91 = true then ((num_Div.f k x16 x1).bind fun bt187 => (if bt187.2.2 = true then (if bt187.1 = x0 then (if bt187.2.1 = 0 then ((solsticelaw01_wakes.f k).bind fun t190 => (some t190)) else (some false)) else (some false)) else (some false))) else ((solsticelaw01_wakes.f k).bind fun t191 => (some t191))) (fun k => by rw [solsticelaw01_NumBack.j2]) ?_
  · repeat' first
    | (with_reducible exact IsLim.const _)
    | (with_reducible exact num_Div.isF _ _)
    | (with_reducible exact solsticelaw01_wakes.isF)
    | (with_reducible refine IsLim.ite ?_ ?_)
    | (with_reducible refine IsLim.bind ?_ (fun _ => ?_))
theorem solsticelaw01_NumBack.F_eq (a0 : Int) (a1 : Int) : solsticelaw01_NumBack.F a0 a1 = (num_Div.F a0 a1).bind fun bt174 => (if bt174.2.2 = true then ((num_Mul.F bt174.1 a1).bind fun bt177 => ((num_Add.f bt177.1 bt174.2.1).bind fun bt179 => (if bt177.2 = true then (if bt179.2 = true then (if bt179.1 = a0 then (if bt174.2.1 < 0 then (some false) else (if bt174.2.1 ≥ a1 then (some false) else (solsticelaw01_NumBack.J0 a0 a1))) else (some false)) else (some false)) else (if bt174.2.1 < 0 then (some false) else (if bt174.2.1 ≥ a1 then (some false) else (solsticelaw01_NumBack.J0 a0 a1)))))) else (solsticelaw01_NumBack.J0 a0 a1)) := by
  refine IsLim.eq (g := fun k => (num_Div.f k a0 a1).bind fun bt174 => (if bt174.2.2 = true then ((num_Mul.f k bt174.1 a1).bind fun bt177 => ((num_Add.f bt177.1 bt174.2.1).bind fun bt179 => (if bt177.2 = true then (if bt179.2 = true then (if bt179.1 = a0 then (if bt174.2.1 < 0 then (some false) else (if bt174.2.1 ≥ a1 then (some false) else (solsticelaw01_NumBack.j0 k a0 a1))) else (some false)) else (some false)) else (if bt174.2.1 < 0 then (some false) else (if bt174.2.1 ≥ a1 then (some false) else (solsticelaw01_NumBack.j0 k a0 a1)))))) else (solsticelaw01_NumBack.j0 k a0 a1))) ?_
  · repeat' first
    | (with_reducible exact IsLim.const _)
    | (with_reducible exact num_Div.isF _ _)
    | (with_reducible exact num_Mul.isF _ _)
    | (with_reducible exact solsticelaw01_NumBack.isJ0 _ _)
    | (with_reducible refine IsLim.ite ?_ ?_)
    | (with_reducible refine IsLim.bind ?_ (fun _ => ?_))
noncomputable def solsticelaw01_NumEdges.F (a0 : Int) : Option (Bool) := lim fun k => solsticelaw01_NumEdges.f k a0
theorem solsticelaw01_NumEdges.isF (a0 : Int) : IsLim (fun k => solsticelaw01_NumEdges.f k a0) (solsticelaw01_NumEdges.F a0) := ⟨fun k => solsticelaw01_NumEdges.mono a0 k, rfl⟩
theorem solsticelaw01_NumEdges.F_eq (a0 : Int) : solsticelaw01_NumEdges.F a0 = (num_Add.f (wrap64 (4611686018427387904 - (wrap64 (1 + (wrap64 (Int.tmod (IntKind.u64.wrap (a0)) 1000000)))))) (wrap64 (1 + (wrap64 (Int.tmod (IntKind.u64.wrap (a0)) 1000000))))).bind fun bt192 => ((num_Add.f (wrap64 (4611686018427387904 - (wrap64 (1 + (wrap64 (Int.tmod (IntKind.u64.wrap (a0)) 1000000)))))) (wrap64 ((wrap64 (1 + (wrap64 (Int.tmod (IntKind.u64.wrap (a0)) 1000000)))) + 1))).bind fun bt194 => ((num_Add.f (wrap64 ((wrap64 (1 + (wrap64 (Int.tmod (IntKind.u64.wrap (a0)) 1000000)))) - 4611686018427387904)) (wrap64 (-(wrap64 (1 + (wrap64 (Int.tmod (IntKind.u64.wrap (a0)) 1000000))))))).bind fun bt196 => ((num_Add.f (wrap64 ((wrap64 (1 + (wrap64 (Int.tmod (IntKind.u64.wrap (a0)) 1000000)))) - 4611686018427387904)) (wrap64 ((wrap64 (-(wrap64 (1 + (wrap64 (Int.tmod (IntKind.u64.wrap (a0)) 1000000)))))) - 1))).bind fun bt198 => (if (wrap64 (1 + (wrap64 (Int.tmod (IntKind.u64.wrap (a0)) 1000000)))) = 0 then (none) else ((num_Mul.F (wrap64 ((wrap64 (Int.tdiv (4611686018427387904 : Int) (wrap64 (1 + (wrap64 (Int.tmod (IntKind.u64.wrap (a0)) 1000000)))))) + 1)) (wrap64 (1 + (wrap64 (Int.tmod (IntKind.u64.wrap (a0)) 1000000))))).bind fun bt200 => ((num_Mul.F (wrap64 (Int.tdiv (4611686018427387904 : Int) (wrap64 (1 + (wrap64 (Int.tmod (IntKind.u64.wrap (a0)) 1000000)))))) (wrap64 (1 + (wrap64 (Int.tmod (IntKind.u64.wrap (a0)) 1000000))))).bind fun bt202 => (if bt192.2 = true then (if bt192.1 = 4611686018427387904 then (if bt194.2 = true then (some false) else (if bt196.2 = true then (if bt196.1 = (-4611686018427387904) then (if bt198.2 = true then (some false) else (if bt200.2 = true then (some false) else (if bt202.2 = true then (if bt202.1 ≤ 4611686018427387904 then ((solsticelaw01_wakes.F).bind fun t204 => (some t204)) else (some false)) else (some false)))) else (some false)) else (some false))) else (some false)) else (some false)))))))) := by
  refine IsLim.eq (g := fun k => (num_Add.f (wrap64 (4611686018427387904 - (wrap64 (1 + (wrap64 (Int.tmod (IntKind.u64.wrap (a0)) 1000000)))))) (wrap64 (1 + (wrap64 (Int.tmod (IntKind.u64.wrap (a0)) 1000000))))).bind fun bt192 => ((num_Add.f (wrap64 (4611686018427387904 - (wrap64 (1 + (wrap64 (Int.tmod (IntKind.u64.wrap (a0)) 1000000)))))) (wrap64 ((wrap64 (1 + (wrap64 (Int.tmod (IntKind.u64.wrap (a0)) 1000000)))) + 1))).bind fun bt194 => ((num_Add.f (wrap64 ((wrap64 (1 + (wrap64 (Int.tmod (IntKind.u64.wrap (a0)) 1000000)))) - 4611686018427387904)) (wrap64 (-(wrap64 (1 + (wrap64 (Int.tmod (IntKind.u64.wrap (a0)) 1000000))))))).bind fun bt196 => ((num_Add.f (wrap64 ((wrap64 (1 + (wrap64 (Int.tmod (IntKind.u64.wrap (a0)) 1000000)))) - 4611686018427387904)) (wrap64 ((wrap64 (-(wrap64 (1 + (wrap64 (Int.tmod (IntKind.u64.wrap (a0)) 1000000)))))) - 1))).bind fun bt198 => (if (wrap64 (1 + (wrap64 (Int.tmod (IntKind.u64.wrap (a0)) 1000000)))) = 0 then (none) else ((num_Mul.f k (wrap64 ((wrap64 (Int.tdiv (4611686018427387904 : Int) (wrap64 (1 + (wrap64 (Int.tmod (IntKind.u64.wrap (a0)) 1000000)))))) + 1)) (wrap64 (1 + (wrap64 (Int.tmod (IntKind.u64.wrap (a0)) 1000000))))).bind fun bt200 => ((num_Mul.f k (wrap64 (Int.tdiv (4611686018427387904 : Int) (wrap64 (1 + (wrap64 (Int.tmod (IntKind.u64.wrap (a0)) 1000000)))))) (wrap64 (1 + (wrap64 (Int.tmod (IntKind.u64.wrap (a0)) 1000000))))).bind fun bt202 => (if bt192.2 = true then (if bt192.1 = 4611686018427387904 then (if bt194.2 = true then (some false) else (if bt196.2 = true then (if bt196.1 = (-4611686018427387904) then (if bt198.2 = true then (some false) else (if bt200.2 = true then (some false) else (if bt202.2 = true then (if bt202.1 ≤ 4611686018427387904 then ((solsticelaw01_wakes.f k).bind fun t204 => (some t204)) else (some false)) else (some false)))) else (some false)) else (some false))) else (some false)) else (some false))))))))) ?_
  · repeat' first
    | (with_reducible exact IsLim.const _)
    | (with_reducible exact num_Mul.isF _ _)
    | (with_reducible exact solsticelaw01_wakes.isF)
    | (with_reducible refine IsLim.ite ?_ ?_)
    | (with_reducible refine IsLim.bind ?_ (fun _ => ?_))
end Go.Proofs.YtlfohcjajmebjaaDoor.PNum

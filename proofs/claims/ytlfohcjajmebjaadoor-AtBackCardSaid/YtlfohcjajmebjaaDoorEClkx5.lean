/- Printed functions of the family Clk without a bound on their rounds, and the equation that each meets. No condition. -/
import Derived.Test.YtlfohcjajmebjaaDoorBase
import Derived.Test.YtlfohcjajmebjaaDoorPClkx5
import Derived.Test.YtlfohcjajmebjaaDoorEClkx3
import Derived.Test.YtlfohcjajmebjaaDoorEClkx4
namespace Go.Proofs.YtlfohcjajmebjaaDoor.PClk
open Go.RowKit Go.Proofs.YtlfohcjajmebjaaDoorW.PrintWords Go.Proofs.YtlfohcjajmebjaaDoorW.PrintLast Go.Proofs.YtlfohcjajmebjaaDoor.Base
set_option linter.unusedVariables false
noncomputable def solsticelaw08_AtBack.J0 (x2 : Int) (x47 : Bool) (x145000 : Int) (x145001 : Int) : Option (Bool) := lim fun k => solsticelaw08_AtBack.j0 k x2 x47 x145000 x145001
noncomputable def solsticelaw08_AtBack.F (a0 : Int) (a1 : Int) (a2 : Int) : Option (Bool) := lim fun k => solsticelaw08_AtBack.f k a0 a1 a2
theorem solsticelaw08_AtBack.isJ0 (x2 : Int) (x47 : Bool) (x145000 : Int) (x145001 : Int) : IsLim (fun k => solsticelaw08_AtBack.j0 k x2 x47 x145000 x145001) (solsticelaw08_AtBack.J0 x2 x47 x145000 x145001) := ⟨fun k => (solsticelaw08_AtBack.mono_l k) x2 x47 x145000 x145001, rfl⟩
theorem solsticelaw08_AtBack.isF (a0 : Int) (a1 : Int) (a2 : Int) : IsLim (fun k => solsticelaw08_AtBack.f k a0 a1 a2) (solsticelaw08_AtBack.F a0 a1 a2) := ⟨fun k => solsticelaw08_AtBack.mono a0 a1 a2 k, rfl⟩
theorem solsticelaw08_AtBack.J0_eq (x2 : Int) (x47 : Bool) (x145000 : Int) (x145001 : Int) : solsticelaw08_AtBack.J0 x2 x47 x145000 x145001 = if x47 = true then (some false) else ((atform_Text.F x145000 1).bind fun bt151 => ((some (([(⟨#[]⟩ : ByteArray), (⟨#[119]⟩ : ByteArray), (⟨#[87]⟩ : ByteArray), (⟨#[115]⟩ : ByteArray), (⟨#[83]⟩ : ByteArray), (⟨#[117]⟩ : ByteArray), (⟨#[85]⟩ : ByteArray), (⟨#[103]⟩ : ByteArray), (⟨#[71]⟩ : ByteArray), (⟨#[122]⟩ : ByteArray), (⟨#[90]⟩ : ByteArray)] : List ByteArray) : List ByteArray)).bind fun y153 => (if 0 ≤ (wrap64 (Int.tmod (IntKind.u64.wrap (x2)) 11)) then (if (wrap64 (Int.tmod (IntKind.u64.wrap (x2)) 11)) < (y153.length : Int) then (if bt151.1.size + (rdOf ByteArray.empty y153 (wrap64 (Int.tmod (IntKind.u64.wrap (x2)) 11))).size ≤ 9223372036854775807 then ((atform_Parse.F (bt151.1 ++ (rdOf ByteArray.empty y153 (wrap64 (Int.tmod (IntKind.u64.wrap (x2)) 11))))).bind fun bt157 => (if (wrap64 (Int.tmod (IntKind.u64.wrap (x2)) 11)) > 2 then (if (wrap64 (Int.tmod (IntKind.u64.wrap (x2)) 11)) > 4 then (if bt151.2 = 0 then (if bt157.2.2 = 0 then (if bt157.1 = x145000 then (if bt157.2.1 = 3 then ((solsticelaw08_wakes.F).bind fun t161 => (some t161)) else (some false)) else (some false)) else (some false)) else (some false)) else (if bt151.2 = 0 then (if bt157.2.2 = 0 then (if bt157.1 = x145000 then (if bt157.2.1 = 2 then ((solsticelaw08_wakes.F).bind fun t162 => (some t162)) else (some false)) else (some false)) else (some false)) else (some false))) else (if (wrap64 (Int.tmod (IntKind.u64.wrap (x2)) 11)) > 4 then (if bt151.2 = 0 then (if bt157.2.2 = 0 then (if bt157.1 = x145000 then (if bt157.2.1 = 3 then ((solsticelaw08_wakes.F).bind fun t163 => (some t163)) else (some false)) else (some false)) else (some false)) else (some false)) else (if bt151.2 = 0 then (if bt157.2.2 = 0 then (if bt157.1 = x145000 then (if bt157.2.1 = 1 then ((solsticelaw08_wakes.F).bind fun t164 => (some t164)) else (some false)) else (some false)) else (some false)) else (some false))))) else (none)) else (none)) else (none)))) := by
  refine IsLim.step (solsticelaw08_AtBack.isJ0 x2 x47 x145000 x145001).mono (f := fun k => if x47 = true then (some false) else ((atform_Text.f k x145000 1).bind fun bt151 => ((some (([(⟨#[]⟩ : ByteArray), (⟨#[119]⟩ : ByteArray), (⟨#[87]⟩ : ByteArray), (⟨#[115]⟩ : ByteArray), (⟨#[83]⟩ : ByteArray), (⟨#[117]⟩ : ByteArray), (⟨#[85]⟩ : ByteArray), (⟨#[103]⟩ : ByteArray), (⟨#[71]⟩ : ByteArray), (⟨#[122]⟩ : ByteArray), (⟨#[90]⟩ : ByteArray)] : List ByteArray) : List ByteArray)).bind fun y153 => (if 0 ≤ (wrap64 (Int.tmod (IntKind.u64.wrap (x2)) 11)) then (if (wrap64 (Int.tmod (IntKind.u64.wrap (x2)) 11)) < (y153.length : Int) then (if bt151.1.size + (rdOf ByteArray.empty y153 (wrap64 (Int.tmod (IntKind.u64.wrap (x2)) 11))).size ≤ 9223372036854775807 then ((atform_Parse.f k (bt151.1 ++ (rdOf ByteArray.empty y153 (wrap64 (Int.tmod (IntKind.u64.wrap (x2)) 11))))).bind fun bt157 => (if (wrap64 (Int.tmod (IntKind.u64.wrap (x2)) 11)) > 2 then (if (wrap64 (Int.tmod (IntKind.u64.wrap (x2)) 11)) > 4 then (if bt151.2 = 0 then (if bt157.2.2 = 0 then (if bt157.1 = x145000 then (if bt157.2.1 = 3 then ((solsticelaw08_wakes.f k).bind fun t161 => (some t161)) else (some false)) else (some false)) else (some false)) else (some false)) else (if bt151.2 = 0 then (if bt157.2.2 = 0 then (if bt157.1 = x145000 then (if bt157.2.1 = 2 then ((solsticelaw08_wakes.f k).bind fun t162 => (some t162)) else (some false)) else (some false)) else (some false)) else (some false))) else (if (wrap64 (Int.tmod (IntKind.u64.wrap (x2)) 11)) > 4 then (if bt151.2 = 0 then (if bt157.2.2 = 0 then (if bt157.1 = x145000 then (if bt157.2.1 = 3 then ((solsticelaw08_wakes.f k).bind fun t163 => (some t163)) else (some false)) else (some false)) else (some false)) else (some false)) else (if bt151.2 = 0 then (if bt157.2.2 = 0 then (if bt157.1 = x145000 then (if bt157.2.1 = 1 then ((solsticelaw08_wakes.f k).bind fun t164 => (some t164)) else (some false)) else (some false)) else (some false)) else (some false))))) else (none)) else (none)) else (none))))) (fun k => by rw [solsticelaw08_AtBack.j0]) ?_
  · repeat' first
    | (with_reducible exact IsLim.const _)
    | (with_reducible exact atform_Parse.isF _)
    | (with_reducible exact atform_Text.isF _ _)
    | (with_reducible exact solsticelaw08_wakes.isF)
    | (with_reducible refine IsLim.ite ?_ ?_)
    | (with_reducible refine IsLim.bind ?_ (fun _ => ?_))
theorem solsticelaw08_AtBack.F_eq (a0 : Int) (a1 : Int) (a2 : Int) : solsticelaw08_AtBack.F a0 a1 a2 = (atform_Text.F (Int.tmod a0 345601) (wrap64 (1 + (wrap64 (Int.tmod (IntKind.u64.wrap (a1)) 3))))).bind fun bt145 => ((atform_Parse.F bt145.1).bind fun bt147 => (if bt145.2 = 0 then (if bt147.2.2 = 0 then (solsticelaw08_AtBack.J0 a2 (!(bt147.1 == (Int.tmod a0 345601)) || (!(bt147.2.1 == (wrap64 (1 + (wrap64 (Int.tmod (IntKind.u64.wrap (a1)) 3))))))) (Int.tmod a0 345601) (wrap64 (1 + (wrap64 (Int.tmod (IntKind.u64.wrap (a1)) 3))))) else (solsticelaw08_AtBack.J0 a2 true (Int.tmod a0 345601) (wrap64 (1 + (wrap64 (Int.tmod (IntKind.u64.wrap (a1)) 3)))))) else (solsticelaw08_AtBack.J0 a2 true (Int.tmod a0 345601) (wrap64 (1 + (wrap64 (Int.tmod (IntKind.u64.wrap (a1)) 3))))))) := by
  refine IsLim.eq (g := fun k => (atform_Text.f k (Int.tmod a0 345601) (wrap64 (1 + (wrap64 (Int.tmod (IntKind.u64.wrap (a1)) 3))))).bind fun bt145 => ((atform_Parse.f k bt145.1).bind fun bt147 => (if bt145.2 = 0 then (if bt147.2.2 = 0 then (solsticelaw08_AtBack.j0 k a2 (!(bt147.1 == (Int.tmod a0 345601)) || (!(bt147.2.1 == (wrap64 (1 + (wrap64 (Int.tmod (IntKind.u64.wrap (a1)) 3))))))) (Int.tmod a0 345601) (wrap64 (1 + (wrap64 (Int.tmod (IntKind.u64.wrap (a1)) 3))))) else (solsticelaw08_AtBack.j0 k a2 true (Int.tmod a0 345601) (wrap64 (1 + (wrap64 (Int.tmod (IntKind.u64.wrap (a1)) 3)))))) else (solsticelaw08_AtBack.j0 k a2 true (Int.tmod a0 345601) (wrap64 (1 + (wrap64 (Int.tmod (IntKind.u64.wrap (a1)) 3)))))))) ?_
  · repeat' first
    | (with_reducible exact IsLim.const _)
    | (with_reducible exact atform_Parse.isF _)
    | (with_reducible exact atform_Text.isF _ _)
    | (with_reducible exact solsticelaw08_AtBack.isJ0 _ _ _ _)
    | (with_reducible refine IsLim.ite ?_ ?_)
    | (with_reducible refine IsLim.bind ?_ (fun _ => ?_))
noncomputable def clock_Join.J0 (x7 : Int) (x8 : Int) (x28 : Bool) : Option (Int × Bool) := lim fun k => clock_Join.j0 k x7 x8 x28
noncomputable def clock_Join.F (a0 : Int) (a1 : Int) : Option (Int × Bool) := lim fun k => clock_Join.f k a0 a1
theorem clock_Join.isJ0 (x7 : Int) (x8 : Int) (x28 : Bool) : IsLim (fun k => clock_Join.j0 k x7 x8 x28) (clock_Join.J0 x7 x8 x28) := ⟨fun k => (clock_Join.mono_l k) x7 x8 x28, rfl⟩
theorem clock_Join.isF (a0 : Int) (a1 : Int) : IsLim (fun k => clock_Join.f k a0 a1) (clock_Join.F a0 a1) := ⟨fun k => clock_Join.mono a0 a1 k, rfl⟩
theorem clock_Join.J0_eq (x7 : Int) (x8 : Int) (x28 : Bool) : clock_Join.J0 x7 x8 x28 = if x28 = true then (some (0, false)) else (if x8 > (wrap64 (Int.tdiv (wrap64 (4611686018427387904 - x7)) 86400)) then (some (0, false)) else (if x8 < (wrap64 (-(wrap64 (Int.tdiv (wrap64 (4611686018427387904 + x7)) 86400)))) then (some (0, false)) else (some (wrap64 ((wrap64 (x8 * 86400)) + x7), true)))) := by
  refine IsLim.step (clock_Join.isJ0 x7 x8 x28).mono (f := fun k => if x28 = true then (some (0, false)) else (if x8 > (wrap64 (Int.tdiv (wrap64 (4611686018427387904 - x7)) 86400)) then (some (0, false)) else (if x8 < (wrap64 (-(wrap64 (Int.tdiv (wrap64 (4611686018427387904 + x7)) 86400)))) then (some (0, false)) else (some (wrap64 ((wrap64 (x8 * 86400)) + x7), true))))) (fun k => by rw [clock_Join.j0]) ?_
  · repeat' first
    | (with_reducible exact IsLim.const _)
    | (with_reducible refine IsLim.ite ?_ ?_)
    | (with_reducible refine IsLim.bind ?_ (fun _ => ?_))
theorem clock_Join.F_eq (a0 : Int) (a1 : Int) : clock_Join.F a0 a1 = (clock_Split.f a1).bind fun bt165 => (if ((decide (a0 ≥ 0)) == (decide (bt165.1 ≥ 0))) = true then (clock_Join.J0 bt165.2 (wrap64 (a0 + bt165.1)) ((decide ((wrap64 (a0 + bt165.1)) ≥ 0)) != (decide (a0 ≥ 0)))) else (clock_Join.J0 bt165.2 (wrap64 (a0 + bt165.1)) false)) := by
  refine IsLim.eq (g := fun k => (clock_Split.f a1).bind fun bt165 => (if ((decide (a0 ≥ 0)) == (decide (bt165.1 ≥ 0))) = true then (clock_Join.j0 k bt165.2 (wrap64 (a0 + bt165.1)) ((decide ((wrap64 (a0 + bt165.1)) ≥ 0)) != (decide (a0 ≥ 0)))) else (clock_Join.j0 k bt165.2 (wrap64 (a0 + bt165.1)) false))) ?_
  · repeat' first
    | (with_reducible exact IsLim.const _)
    | (with_reducible exact clock_Join.isJ0 _ _ _)
    | (with_reducible refine IsLim.ite ?_ ?_)
    | (with_reducible refine IsLim.bind ?_ (fun _ => ?_))
noncomputable def solsticeref01_Digits.J0 (x0 : ByteArray) (x17 : Bool) : Option (Bool) := lim fun k => solsticeref01_Digits.j0 k x0 x17
noncomputable def solsticeref01_Digits.L0 (x0 : ByteArray) (x7 : Int) : Option (Bool) := lim fun k => solsticeref01_Digits.l0 k x0 x7
noncomputable def solsticeref01_Digits.F (a0 : ByteArray) (a1 : Int) (a2 : Int) : Option (Bool) := lim fun k => solsticeref01_Digits.f k a0 a1 a2
theorem solsticeref01_Digits.isJ0 (x0 : ByteArray) (x17 : Bool) : IsLim (fun k => solsticeref01_Digits.j0 k x0 x17) (solsticeref01_Digits.J0 x0 x17) := ⟨fun k => (solsticeref01_Digits.mono_l k).1 x0 x17, rfl⟩
theorem solsticeref01_Digits.isL0 (x0 : ByteArray) (x7 : Int) : IsLim (fun k => solsticeref01_Digits.l0 k x0 x7) (solsticeref01_Digits.L0 x0 x7) := ⟨fun k => (solsticeref01_Digits.mono_l k).2 x0 x7, rfl⟩
theorem solsticeref01_Digits.isF (a0 : ByteArray) (a1 : Int) (a2 : Int) : IsLim (fun k => solsticeref01_Digits.f k a0 a1 a2) (solsticeref01_Digits.F a0 a1 a2) := ⟨fun k => solsticeref01_Digits.mono a0 a1 a2 k, rfl⟩
theorem solsticeref01_Digits.J0_eq (x0 : ByteArray) (x17 : Bool) : solsticeref01_Digits.J0 x0 x17 = if x17 = true then (some false) else (solsticeref01_Digits.L0 x0 0) := by
  refine IsLim.step (solsticeref01_Digits.isJ0 x0 x17).mono (f := fun k => if x17 = true then (some false) else (solsticeref01_Digits.l0 k x0 0)) (fun k => by rw [solsticeref01_Digits.j0]) ?_
  · repeat' first
    | (with_reducible exact IsLim.const _)
    | (with_reducible exact solsticeref01_Digits.isL0 _ _)
    | (with_reducible refine IsLim.ite ?_ ?_)
    | (with_reducible refine IsLim.bind ?_ (fun _ => ?_))
theorem solsticeref01_Digits.L0_eq (x0 : ByteArray) (x7 : Int) : solsticeref01_Digits.L0 x0 x7 = if x7 < (x0.size : Int) then (if 0 ≤ x7 then ((solsticeref01_digit.f (bt x0 x7)).bind fun t167 => (if t167 = true then (solsticeref01_Digits.L0 x0 (wrap64 (x7 + 1))) else (some false))) else (none)) else (some true) := by
  refine IsLim.step (solsticeref01_Digits.isL0 x0 x7).mono (f := fun k => if x7 < (x0.size : Int) then (if 0 ≤ x7 then ((solsticeref01_digit.f (bt x0 x7)).bind fun t167 => (if t167 = true then (solsticeref01_Digits.l0 k x0 (wrap64 (x7 + 1))) else (some false))) else (none)) else (some true)) (fun k => by rw [solsticeref01_Digits.l0]) ?_
  · repeat' first
    | (with_reducible exact IsLim.const _)
    | (with_reducible exact solsticeref01_Digits.isL0 _ _)
    | (with_reducible refine IsLim.ite ?_ ?_)
    | (with_reducible refine IsLim.bind ?_ (fun _ => ?_))
theorem solsticeref01_Digits.F_eq (a0 : ByteArray) (a1 : Int) (a2 : Int) : solsticeref01_Digits.F a0 a1 a2 = if (a0.size : Int) < a1 then (solsticeref01_Digits.J0 a0 true) else (solsticeref01_Digits.J0 a0 (decide ((a0.size : Int) > a2))) := by
  refine IsLim.eq (g := fun k => if (a0.size : Int) < a1 then (solsticeref01_Digits.j0 k a0 true) else (solsticeref01_Digits.j0 k a0 (decide ((a0.size : Int) > a2)))) ?_
  · repeat' first
    | (with_reducible exact IsLim.const _)
    | (with_reducible exact solsticeref01_Digits.isJ0 _ _)
    | (with_reducible refine IsLim.ite ?_ ?_)
    | (with_reducible refine IsLim.bind ?_ (fun _ => ?_))
end Go.Proofs.YtlfohcjajmebjaaDoor.PClk

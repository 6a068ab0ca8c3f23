-- Remarks left out.
import Derived.Test.YtlfohcjajmebjaaDoorBase
import Derived.Test.YtlfohcjajmebjaaDoorPClkx9
import Derived.Test.YtlfohcjajmebjaaDoorEClkx2
import Derived.Test.YtlfohcjajmebjaaDoorEClkx3
namespace Go.Proofs.YtlfohcjajmebjaaDoor.PClk
open Go.RowKit Go.Proofs.YtlfohcjajmebjaaDoorW.PrintWords Go.Proofs.YtlfohcjajmebjaaDoorW.PrintLast Go.Proofs.YtlfohcjajmebjaaDoor.Base
set_option linter.unusedVariables false
noncomputable def atform_kind.J0 (x3 : Int) (x4 : Bool) : Option (Int) := lim fun k => atform_kind.j0 k x3 x4
noncomputable def atform_kind.J1 (x3 : Int) (x7 : Bool) : Option (Int) := lim fun k => atform_kind.j1 k x3 x7
noncomputable def atform_kind.F (a0 : Int) : Option (Int) := lim fun k => atform_kind.f k a0
theorem atform_kind.isJ0 (x3 : Int) (x4 : Bool) : IsLim (fun k => atform_kind.j0 k x3 x4) (atform_kind.J0 x3 x4) := ⟨fun k => (atform_kind.mono_l k).1 x3 x4, rfl⟩
theorem atform_kind.isJ1 (x3 : Int) (x7 : Bool) : IsLim (fun k => atform_kind.j1 k x3 x7) (atform_kind.J1 x3 x7) := ⟨fun k => (atform_kind.mono_l k).2 x3 x7, rfl⟩
theorem atform_kind.isF (a0 : Int) : IsLim (fun k => atform_kind.f k a0) (atform_kind.F a0) := ⟨fun k => atform_kind.mono a0 k, rfl⟩
theorem atform_kind.J0_eq (x3 : Int) (x4 : Bool) : atform_kind.J0 x3 x4 = if x4 = true then (some 1) else (if x3 = 115 then (atform_kind.J1 x3 (x3 == 115)) else (atform_kind.J1 x3 (x3 == 83))) := by
 refine IsLim.step (atform_kind.isJ0 x3 x4).mono (f := fun k => if x4 = true then (some 1) else (if x3 = 115 then (atform_kind.j1 k x3 (x3 == 115)) else (atform_kind.j1 k x3 (x3 == 83)))) (fun k => by rw [atform_kind.j0]) ?_
 ·repeat' first
  | (with_reducible exact IsLim.const _)
  | (with_reducible exact atform_kind.isJ1 _ _)
  | (with_reducible refine IsLim.ite ?_ ?_)
  | (with_reducible refine IsLim.bind ?_ (fun _ => ?_))
theorem atform_kind.J1_eq (x3 : Int) (x7 : Bool) : atform_kind.J1 x3 x7 = if x7 = true then (some 2) else (if x3 = 117 then (some 3) else (if x3 = 85 then (some 3) else (if x3 = 103 then (some 3) else (if x3 = 71 then (some 3) else (if x3 = 122 then (some 3) else (if x3 = 90 then (some 3) else (some 0))))))) := by
 refine IsLim.step (atform_kind.isJ1 x3 x7).mono (f := fun k => if x7 = true then (some 2) else (if x3 = 117 then (some 3) else (if x3 = 85 then (some 3) else (if x3 = 103 then (some 3) else (if x3 = 71 then (some 3) else (if x3 = 122 then (some 3) else (if x3 = 90 then (some 3) else (some 0)))))))) (fun k => by rw [atform_kind.j1]) ?_
 ·repeat' first
  | (with_reducible exact IsLim.const _)
  | (with_reducible refine IsLim.ite ?_ ?_)
  | (with_reducible refine IsLim.bind ?_ (fun _ => ?_))
theorem atform_kind.F_eq (a0 : Int) : atform_kind.F a0 = if a0 = 119 then (atform_kind.J0 a0 (a0 == 119)) else (atform_kind.J0 a0 (a0 == 87)) := by
 refine IsLim.eq (g := fun k => if a0 = 119 then (atform_kind.j0 k a0 (a0 == 119)) else (atform_kind.j0 k a0 (a0 == 87))) ?_
 ·repeat' first
  | (with_reducible exact IsLim.const _)
  | (with_reducible exact atform_kind.isJ0 _ _)
  | (with_reducible refine IsLim.ite ?_ ?_)
  | (with_reducible refine IsLim.bind ?_ (fun _ => ?_))
noncomputable def atform_Parse.J0 (x0 : ByteArray) (x4 : Int) (x5 : Int) (x19 : Bool) : Option (Int × Int × Int) := lim fun k => atform_Parse.j0 k x0 x4 x5 x19
noncomputable def atform_Parse.F (a0 : ByteArray) : Option (Int × Int × Int) := lim fun k => atform_Parse.f k a0
theorem atform_Parse.isJ0 (x0 : ByteArray) (x4 : Int) (x5 : Int) (x19 : Bool) : IsLim (fun k => atform_Parse.j0 k x0 x4 x5 x19) (atform_Parse.J0 x0 x4 x5 x19) := ⟨fun k => (atform_Parse.mono_l k) x0 x4 x5 x19, rfl⟩
theorem atform_Parse.isF (a0 : ByteArray) : IsLim (fun k => atform_Parse.f k a0) (atform_Parse.F a0) := ⟨fun k => atform_Parse.mono a0 k, rfl⟩
theorem atform_Parse.J0_eq (x0 : ByteArray) (x4 : Int) (x5 : Int) (x19 : Bool) : atform_Parse.J0 x0 x4 x5 x19 = if x19 = true then (if 0 ≤ (wrap64 (x5 - 1)) then (if (wrap64 (x5 - 1)) < (x0.size : Int) then ((atform_kind.F (bt x0 (wrap64 (x5 - 1)))).bind fun t202 => (if (wrap64 (x5 - 1)) ≤ (x0.size : Int) then ((clock_Parse.F (x0.extract 0 ((wrap64 (x5 - 1)) : Int).toNat)).bind fun bt203 => (if bt203.2 = 0 then (some (bt203.1, t202, 0)) else (some (0, 0, 9)))) else (none))) else (none)) else (none)) else ((clock_Parse.F x0).bind fun bt205 => (if bt205.2 = 0 then (some (bt205.1, x4, 0)) else (some (0, 0, 9)))) := by
 refine IsLim.step (atform_Parse.isJ0 x0 x4 x5 x19).mono (f := fun k => if x19 = true then (if 0 ≤ (wrap64 (x5 - 1)) then (if (wrap64 (x5 - 1)) < (x0.size : Int) then ((atform_kind.f k (bt x0 (wrap64 (x5 - 1)))).bind fun t202 => (if (wrap64 (x5 - 1)) ≤ (x0.size : Int) then ((clock_Parse.f k (x0.extract 0 ((wrap64 (x5 - 1)) : Int).toNat)).bind fun bt203 => (if bt203.2 = 0 then (some (bt203.1, t202, 0)) else (some (0, 0, 9)))) else (none))) else (none)) else (none)) else ((clock_Parse.f k x0).bind fun bt205 => (if bt205.2 = 0 then (some (bt205.1, x4, 0)) else (some (0, 0, 9))))) (fun k => by rw [atform_Parse.j0]) ?_
 ·repeat' first
  | (with_reducible exact IsLim.const _)
  | (with_reducible exact atform_kind.isF _)
  | (with_reducible exact clock_Parse.isF _)
  | (with_reducible refine IsLim.ite ?_ ?_)
  | (with_reducible refine IsLim.bind ?_ (fun _ => ?_))
theorem atform_Parse.F_eq (a0 : ByteArray) : atform_Parse.F a0 = if (a0.size : Int) > 0 then (if 0 ≤ (wrap64 ((a0.size : Int) - 1)) then (if (wrap64 ((a0.size : Int) - 1)) < (a0.size : Int) then ((atform_kind.F (bt a0 (wrap64 ((a0.size : Int) - 1)))).bind fun t201 => (atform_Parse.J0 a0 1 (a0.size : Int) (t201 != 0))) else (none)) else (none)) else (atform_Parse.J0 a0 1 (a0.size : Int) false) := by
 refine IsLim.eq (g := fun k => if (a0.size : Int) > 0 then (if 0 ≤ (wrap64 ((a0.size : Int) - 1)) then (if (wrap64 ((a0.size : Int) - 1)) < (a0.size : Int) then ((atform_kind.f k (bt a0 (wrap64 ((a0.size : Int) - 1)))).bind fun t201 => (atform_Parse.j0 k a0 1 (a0.size : Int) (t201 != 0))) else (none)) else (none)) else (atform_Parse.j0 k a0 1 (a0.size : Int) false)) ?_
 ·repeat' first
  | (with_reducible exact IsLim.const _)
  | (with_reducible exact atform_Parse.isJ0 _ _ _ _)
  | (with_reducible exact atform_kind.isF _)
  | (with_reducible refine IsLim.ite ?_ ?_)
  | (with_reducible refine IsLim.bind ?_ (fun _ => ?_))
noncomputable def atform_Text.F (a0_0 : Int) (a0_1 : Int) : Option (ByteArray × Int) := lim fun k => atform_Text.f k a0_0 a0_1
theorem atform_Text.isF (a0_0 : Int) (a0_1 : Int) : IsLim (fun k => atform_Text.f k a0_0 a0_1) (atform_Text.F a0_0 a0_1) := ⟨fun k => atform_Text.mono a0_0 a0_1 k, rfl⟩
theorem atform_Text.F_eq (a0_0 : Int) (a0_1 : Int) : atform_Text.F a0_0 a0_1 = (atform_Check.f a0_0 a0_1).bind fun t211 => (if t211 = 0 then ((clock_Text.F a0_0).bind fun bt212 => (if a0_1 = 2 then (if bt212.1.size + 1 ≤ 9223372036854775807 then (some (bt212.1 ++ (⟨#[115]⟩ : ByteArray), 0)) else (none)) else (if a0_1 = 3 then (if bt212.1.size + 1 ≤ 9223372036854775807 then (some (bt212.1 ++ (⟨#[117]⟩ : ByteArray), 0)) else (none)) else (some (bt212.1, 0))))) else (some ((⟨#[]⟩ : ByteArray), t211))) := by
 refine IsLim.eq (g := fun k => (atform_Check.f a0_0 a0_1).bind fun t211 => (if t211 = 0 then ((clock_Text.f k a0_0).bind fun bt212 => (if a0_1 = 2 then (if bt212.1.size + 1 ≤ 9223372036854775807 then (some (bt212.1 ++ (⟨#[115]⟩ : ByteArray), 0)) else (none)) else (if a0_1 = 3 then (if bt212.1.size + 1 ≤ 9223372036854775807 then (some (bt212.1 ++ (⟨#[117]⟩ : ByteArray), 0)) else (none)) else (some (bt212.1, 0))))) else (some ((⟨#[]⟩ : ByteArray), t211)))) ?_
 ·repeat' first
  | (with_reducible exact IsLim.const _)
  | (with_reducible exact clock_Text.isF _)
  | (with_reducible refine IsLim.ite ?_ ?_)
  | (with_reducible refine IsLim.bind ?_ (fun _ => ?_))
noncomputable def atform_Utc.J0 (x0 : Int) (x1 : Int) (x2 : Int) (x3 : Int) (x27 : Bool) : Option (Int × Bool) := lim fun k => atform_Utc.j0 k x0 x1 x2 x3 x27
noncomputable def atform_Utc.F (a0 : Int) (a1 : Int) (a2 : Int) (a3 : Int) : Option (Int × Bool) := lim fun k => atform_Utc.f k a0 a1 a2 a3
theorem atform_Utc.isJ0 (x0 : Int) (x1 : Int) (x2 : Int) (x3 : Int) (x27 : Bool) : IsLim (fun k => atform_Utc.j0 k x0 x1 x2 x3 x27) (atform_Utc.J0 x0 x1 x2 x3 x27) := ⟨fun k => (atform_Utc.mono_l k) x0 x1 x2 x3 x27, rfl⟩
theorem atform_Utc.isF (a0 : Int) (a1 : Int) (a2 : Int) (a3 : Int) : IsLim (fun k => atform_Utc.f k a0 a1 a2 a3) (atform_Utc.F a0 a1 a2 a3) := ⟨fun k => atform_Utc.mono a0 a1 a2 a3 k, rfl⟩
theorem atform_Utc.J0_eq (x0 : Int) (x1 : Int) (x2 : Int) (x3 : Int) (x27 : Bool) : atform_Utc.J0 x0 x1 x2 x3 x27 = if x27 = true then (some (0, false)) else (if x1 = 1 then (some (wrap64 ((wrap64 (x0 - x2)) - x3), true)) else (if x1 = 2 then (some (wrap64 (x0 - x2), true)) else (some (x0, true)))) := by
 refine IsLim.step (atform_Utc.isJ0 x0 x1 x2 x3 x27).mono (f := fun k => if x27 = true then (some (0, false)) else (if x1 = 1 then (some (wrap64 ((wrap64 (x0 - x2)) - x3), true)) else (if x1 = 2 then (some (wrap64 (x0 - x2), true)) else (some (x0, true))))) (fun k => by rw [atform_Utc.j0]) ?_
 ·repeat' first
  | (with_reducible exact IsLim.const _)
  | (with_reducible refine IsLim.ite ?_ ?_)
  | (with_reducible refine IsLim.bind ?_ (fun _ => ?_))
theorem atform_Utc.F_eq (a0 : Int) (a1 : Int) (a2 : Int) (a3 : Int) : atform_Utc.F a0 a1 a2 a3 = (atform_right.f a1).bind fun t214 => (if t214 = true then ((atform_in.f a0 4611686018427387904).bind fun t215 => (if t215 = true then ((atform_in.f a2 345600).bind fun t216 => (if t216 = true then ((atform_in.f a3 345600).bind fun t217 => (atform_Utc.J0 a0 a1 a2 a3 (!t217))) else (atform_Utc.J0 a0 a1 a2 a3 true))) else (atform_Utc.J0 a0 a1 a2 a3 true))) else (atform_Utc.J0 a0 a1 a2 a3 true)) := by
 refine IsLim.eq (g := fun k => (atform_right.f a1).bind fun t214 => (if t214 = true then ((atform_in.f a0 4611686018427387904).bind fun t215 => (if t215 = true then ((atform_in.f a2 345600).bind fun t216 => (if t216 = true then ((atform_in.f a3 345600).bind fun t217 => (atform_Utc.j0 k a0 a1 a2 a3 (!t217))) else (atform_Utc.j0 k a0 a1 a2 a3 true))) else (atform_Utc.j0 k a0 a1 a2 a3 true))) else (atform_Utc.j0 k a0 a1 a2 a3 true))) ?_
 ·repeat' first
  | (with_reducible exact IsLim.const _)
  | (with_reducible exact atform_Utc.isJ0 _ _ _ _ _)
  | (with_reducible refine IsLim.ite ?_ ?_)
  | (with_reducible refine IsLim.bind ?_ (fun _ => ?_))
end Go.Proofs.YtlfohcjajmebjaaDoor.PClk

/- Printed functions of the family Clk without a bound on their rounds, and the equation that each meets. No condition. -/
import Derived.Test.YtlfohcjajmebjaaDoorBase
import Derived.Test.YtlfohcjajmebjaaDoorPClkx2
namespace Go.Proofs.YtlfohcjajmebjaaDoor.PClk
open Go.RowKit Go.Proofs.YtlfohcjajmebjaaDoorW.PrintWords Go.Proofs.YtlfohcjajmebjaaDoorW.PrintLast Go.Proofs.YtlfohcjajmebjaaDoor.Base
set_option linter.unusedVariables false
noncomputable def num_Parse.J0 (x0 : ByteArray) (x13 : Bool) : Option (Int × Bool) := lim fun k => num_Parse.j0 k x0 x13
noncomputable def num_Parse.L0 (x0 : ByteArray) (x4 : Int) (x15 : Int) (x16 : Int) : Option (Int × Bool) := lim fun k => num_Parse.l0 k x0 x4 x15 x16
noncomputable def num_Parse.F (a0 : ByteArray) : Option (Int × Bool) := lim fun k => num_Parse.f k a0
theorem num_Parse.isJ0 (x0 : ByteArray) (x13 : Bool) : IsLim (fun k => num_Parse.j0 k x0 x13) (num_Parse.J0 x0 x13) := ⟨fun k => (num_Parse.mono_l k).1 x0 x13, rfl⟩
theorem num_Parse.isL0 (x0 : ByteArray) (x4 : Int) (x15 : Int) (x16 : Int) : IsLim (fun k => num_Parse.l0 k x0 x4 x15 x16) (num_Parse.L0 x0 x4 x15 x16) := ⟨fun k => (num_Parse.mono_l k).2 x0 x4 x15 x16, rfl⟩
theorem num_Parse.isF (a0 : ByteArray) : IsLim (fun k => num_Parse.f k a0) (num_Parse.F a0) := ⟨fun k => num_Parse.mono a0 k, rfl⟩
theorem num_Parse.J0_eq (x0 : ByteArray) (x13 : Bool) : num_Parse.J0 x0 x13 = if x13 = true then (some (0, false)) else (num_Parse.L0 x0 0 (x0.size : Int) 0) := by
  refine IsLim.step (num_Parse.isJ0 x0 x13).mono (f := fun k => if x13 = true then (some (0, false)) else (num_Parse.l0 k x0 0 (x0.size : Int) 0)) (fun k => by rw [num_Parse.j0]) ?_
  · repeat' first
    | (with_reducible exact IsLim.const _)
    | (with_reducible exact num_Parse.isL0 _ _ _ _)
    | (with_reducible refine IsLim.ite ?_ ?_)
    | (with_reducible refine IsLim.bind ?_ (fun _ => ?_))
theorem num_Parse.L0_eq (x0 : ByteArray) (x4 : Int) (x15 : Int) (x16 : Int) : num_Parse.L0 x0 x4 x15 x16 = if x16 < x15 then (if 0 ≤ x16 then (if x16 < (x0.size : Int) then (if (bt x0 x16) < 48 then (some (0, false)) else (if (bt x0 x16) > 57 then (some (0, false)) else (num_Parse.L0 x0 (wrap64 ((wrap64 (10 * x4)) + (((bt x0 x16) - 48) % 256))) x15 (wrap64 (x16 + 1))))) else (none)) else (none)) else (some (x4, true)) := by
  refine IsLim.step (num_Parse.isL0 x0 x4 x15 x16).mono (f := fun k => if x16 < x15 then (if 0 ≤ x16 then (if x16 < (x0.size : Int) then (if (bt x0 x16) < 48 then (some (0, false)) else (if (bt x0 x16) > 57 then (some (0, false)) else (num_Parse.l0 k x0 (wrap64 ((wrap64 (10 * x4)) + (((bt x0 x16) - 48) % 256))) x15 (wrap64 (x16 + 1))))) else (none)) else (none)) else (some (x4, true))) (fun k => by rw [num_Parse.l0]) ?_
  · repeat' first
    | (with_reducible exact IsLim.const _)
    | (with_reducible exact num_Parse.isL0 _ _ _ _)
    | (with_reducible refine IsLim.ite ?_ ?_)
    | (with_reducible refine IsLim.bind ?_ (fun _ => ?_))
theorem num_Parse.F_eq (a0 : ByteArray) : num_Parse.F a0 = if (a0.size : Int) < 1 then (num_Parse.J0 a0 true) else (num_Parse.J0 a0 (decide ((a0.size : Int) > 18))) := by
  refine IsLim.eq (g := fun k => if (a0.size : Int) < 1 then (num_Parse.j0 k a0 true) else (num_Parse.j0 k a0 (decide ((a0.size : Int) > 18)))) ?_
  · repeat' first
    | (with_reducible exact IsLim.const _)
    | (with_reducible exact num_Parse.isJ0 _ _)
    | (with_reducible refine IsLim.ite ?_ ?_)
    | (with_reducible refine IsLim.bind ?_ (fun _ => ?_))
noncomputable def clock_part.F (a0 : ByteArray) (a1 : Int) : Option (Int × Bool) := lim fun k => clock_part.f k a0 a1
theorem clock_part.isF (a0 : ByteArray) (a1 : Int) : IsLim (fun k => clock_part.f k a0 a1) (clock_part.F a0 a1) := ⟨fun k => clock_part.mono a0 a1 k, rfl⟩
theorem clock_part.F_eq (a0 : ByteArray) (a1 : Int) : clock_part.F a0 a1 = (num_Parse.F a0).bind fun bt101 => (if a1 = 0 then (if bt101.2 = true then (some (bt101.1, decide ((a0.size : Int) ≤ 3))) else (some (bt101.1, false))) else (if bt101.2 = true then (if (a0.size : Int) = 2 then (some (bt101.1, decide (bt101.1 < 60))) else (some (bt101.1, false))) else (some (bt101.1, false)))) := by
  refine IsLim.eq (g := fun k => (num_Parse.f k a0).bind fun bt101 => (if a1 = 0 then (if bt101.2 = true then (some (bt101.1, decide ((a0.size : Int) ≤ 3))) else (some (bt101.1, false))) else (if bt101.2 = true then (if (a0.size : Int) = 2 then (some (bt101.1, decide (bt101.1 < 60))) else (some (bt101.1, false))) else (some (bt101.1, false))))) ?_
  · repeat' first
    | (with_reducible exact IsLim.const _)
    | (with_reducible exact num_Parse.isF _)
    | (with_reducible refine IsLim.ite ?_ ?_)
    | (with_reducible refine IsLim.bind ?_ (fun _ => ?_))
noncomputable def clock_Parse.L0 (x5 : Bool) (x7 : Int) (x8 : Int) (x25 : List ByteArray) (x26 : Int) (x27 : Int) : Option (Int × Int) := lim fun k => clock_Parse.l0 k x5 x7 x8 x25 x26 x27
noncomputable def clock_Parse.F (a0 : ByteArray) : Option (Int × Int) := lim fun k => clock_Parse.f k a0
theorem clock_Parse.isL0 (x5 : Bool) (x7 : Int) (x8 : Int) (x25 : List ByteArray) (x26 : Int) (x27 : Int) : IsLim (fun k => clock_Parse.l0 k x5 x7 x8 x25 x26 x27) (clock_Parse.L0 x5 x7 x8 x25 x26 x27) := ⟨fun k => (clock_Parse.mono_l k) x5 x7 x8 x25 x26 x27, rfl⟩
theorem clock_Parse.isF (a0 : ByteArray) : IsLim (fun k => clock_Parse.f k a0) (clock_Parse.F a0) := ⟨fun k => clock_Parse.mono a0 k, rfl⟩
theorem clock_Parse.L0_eq (x5 : Bool) (x7 : Int) (x8 : Int) (x25 : List ByteArray) (x26 : Int) (x27 : Int) : clock_Parse.L0 x5 x7 x8 x25 x26 x27 = if x27 < x26 then (if 0 ≤ x27 then (if x27 < (x25.length : Int) then ((clock_part.F (rdOf ByteArray.empty x25 x27) x27).bind fun bt109 => (if bt109.2 = true then (clock_Parse.L0 x5 (wrap64 (x7 + (wrap64 (bt109.1 * x8)))) (wrap64 (Int.tdiv x8 60)) x25 x26 (wrap64 (x27 + 1))) else (some (0, 5)))) else (none)) else (none)) else (if x7 > 345600 then (some (0, 5)) else (if x5 = true then (some (wrap64 (-x7), 0)) else (some (x7, 0)))) := by
  refine IsLim.step (clock_Parse.isL0 x5 x7 x8 x25 x26 x27).mono (f := fun k => if x27 < x26 then (if 0 ≤ x27 then (if x27 < (x25.length : Int) then ((clock_part.f k (rdOf ByteArray.empty x25 x27) x27).bind fun bt109 => (if bt109.2 = true then (clock_Parse.l0 k x5 (wrap64 (x7 + (wrap64 (bt109.1 * x8)))) (wrap64 (Int.tdiv x8 60)) x25 x26 (wrap64 (x27 + 1))) else (some (0, 5)))) else (none)) else (none)) else (if x7 > 345600 then (some (0, 5)) else (if x5 = true then (some (wrap64 (-x7), 0)) else (some (x7, 0))))) (fun k => by rw [clock_Parse.l0]) ?_
  · repeat' first
    | (with_reducible exact IsLim.const _)
    | (with_reducible exact clock_Parse.isL0 _ _ _ _ _ _)
    | (with_reducible exact clock_part.isF _ _)
    | (with_reducible refine IsLim.ite ?_ ?_)
    | (with_reducible refine IsLim.bind ?_ (fun _ => ?_))
theorem clock_Parse.F_eq (a0 : ByteArray) : clock_Parse.F a0 = if a0.toList = ([45] : List UInt8) then (some (0, 0)) else ((strings_CutPrefix.f a0 (⟨#[45]⟩ : ByteArray)).bind fun bt103 => ((strings_Split.f bt103.1 (⟨#[58]⟩ : ByteArray)).bind fun t105 => (if (t105.length : Int) > 3 then (some (0, 5)) else (clock_Parse.L0 bt103.2 0 3600 t105 (t105.length : Int) 0)))) := by
  refine IsLim.eq (g := fun k => if a0.toList = ([45] : List UInt8) then (some (0, 0)) else ((strings_CutPrefix.f a0 (⟨#[45]⟩ : ByteArray)).bind fun bt103 => ((strings_Split.f bt103.1 (⟨#[58]⟩ : ByteArray)).bind fun t105 => (if (t105.length : Int) > 3 then (some (0, 5)) else (clock_Parse.l0 k bt103.2 0 3600 t105 (t105.length : Int) 0))))) ?_
  · repeat' first
    | (with_reducible exact IsLim.const _)
    | (with_reducible exact clock_Parse.isL0 _ _ _ _ _ _)
    | (with_reducible refine IsLim.ite ?_ ?_)
    | (with_reducible refine IsLim.bind ?_ (fun _ => ?_))
noncomputable def atform_kind.J0 (x3 : Int) (x4 : Bool) : Option (Int) := lim fun k => atform_kind.j0 k x3 x4
noncomputable def atform_kind.J1 (x3 : Int) (x7 : Bool) : Option (Int) := lim fun k => atform_kind.j1 k x3 x7
noncomputable def atform_kind.F (a0 : Int) : Option (Int) := lim fun k => atform_kind.f k a0
theorem atform_kind.isJ0 (x3 : Int) (x4 : Bool) : IsLim (fun k => atform_kind.j0 k x3 x4) (atform_kind.J0 x3 x4) := ⟨fun k => (atform_kind.mono_l k).1 x3 x4, rfl⟩
theorem atform_kind.isJ1 (x3 : Int) (x7 : Bool) : IsLim (fun k => atform_kind.j1 k x3 x7) (atform_kind.J1 x3 x7) := ⟨fun k => (atform_kind.mono_l k).2 x3 x7, rfl⟩
theorem atform_kind.isF (a0 : Int) : IsLim (fun k => atform_kind.f k a0) (atform_kind.F a0) := ⟨fun k => atform_kind.mono a0 k, rfl⟩
theorem atform_kind.J0_eq (x3 : Int) (x4 : Bool) : atform_kind.J0 x3 x4 = if x4 = true then (some 1) else (if x3 = 115 then (atform_kind.J1 x3 (x3 == 115)) else (atform_kind.J1 x3 (x3 == 83))) := by
  refine IsLim.step (atform_kind.isJ0 x3 x4).mono (f := fun k => if x4 = true then (some 1) else (if x3 = 115 then (atform_kind.j1 k x3 (x3 == 115)) else (atform_kind.j1 k x3 (x3 == 83)))) (fun k => by rw [atform_kind.j0]) ?_
  · repeat' first
    | (with_reducible exact IsLim.const _)
    | (with_reducible exact atform_kind.isJ1 _ _)
    | (with_reducible refine IsLim.ite ?_ ?_)
    | (with_reducible refine IsLim.bind ?_ (fun _ => ?_))
theorem atform_kind.J1_eq (x3 : Int) (x7 : Bool) : atform_kind.J1 x3 x7 = if x7 = true then (some 2) else (if x3 = 117 then (some 3) else (if x3 = 85 then (some 3) else (if x3 = 103 then (some 3) else (if x3 = 71 then (some 3) else (if x3 = 122 then (some 3) else (if x3 = 90 then (some 3) else (some 0))))))) := by
  refine IsLim.step (atform_kind.isJ1 x3 x7).mono (f := fun k => if x7 = true then (some 2) else (if x3 = 117 then (some 3) else (if x3 = 85 then (some 3) else (if x3 = 103 then (some 3) else (if x3 = 71 then (some 3) else (if x3 = 122 then (some 3) else (if x3 = 90 then (some 3) else (some 0)))))))) (fun k => by rw [atform_kind.j1]) ?_
  · repeat' first
    | (with_reducible exact IsLim.const _)
    | (with_reducible refine IsLim.ite ?_ ?_)
    | (with_reducible refine IsLim.bind ?_ (fun _ => ?_))
theorem atform_kind.F_eq (a0 : Int) : atform_kind.F a0 = if a0 = 119 then (atform_kind.J0 a0 (a0 == 119)) else (atform_kind.J0 a0 (a0 == 87)) := by
  refine IsLim.eq (g := fun k => if a0 = 119 then (atform_kind.j0 k a0 (a0 == 119)) else (atform_kind.j0 k a0 (a0 == 87))) ?_
  · repeat' first
    | (with_reducible exact IsLim.const _)
    | (with_reducible exact atform_kind.isJ0 _ _)
    | (with_reducible refine IsLim.ite ?_ ?_)
    | (with_reducible refine IsLim.bind ?_ (fun _ => ?_))
end Go.Proofs.YtlfohcjajmebjaaDoor.PClk

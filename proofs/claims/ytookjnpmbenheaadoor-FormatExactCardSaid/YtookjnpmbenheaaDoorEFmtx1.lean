/- Printed functions of the family Fmt without a bound on their rounds, and the equation that each meets. No condition. -/
import Derived.Test.YtookjnpmbenheaaDoorBase
import Derived.Test.YtookjnpmbenheaaDoorPFmtx1
namespace Go.Proofs.YtookjnpmbenheaaDoor.PFmt
open Go.RowKit Go.Proofs.YtookjnpmbenheaaDoorW.PrintWords Go.Proofs.YtookjnpmbenheaaDoorW.PrintLast Go.Proofs.YtookjnpmbenheaaDoor.Base
set_option linter.unusedVariables false
noncomputable def format_Short.J0 (x0 : Int) (x4 : ByteArray) : Option (ByteArray × Int) := lim fun k => format_Short.j0 k x0 x4
noncomputable def format_Short.F (a0 : Int) : Option (ByteArray × Int) := lim fun k => format_Short.f k a0
theorem format_Short.isJ0 (x0 : Int) (x4 : ByteArray) : IsLim (fun k => format_Short.j0 k x0 x4) (format_Short.J0 x0 x4) := ⟨fun k => (format_Short.mono_l k) x0 x4, rfl⟩
theorem format_Short.isF (a0 : Int) : IsLim (fun k => format_Short.f k a0) (format_Short.F a0) := ⟨fun k => format_Short.mono a0 k, rfl⟩
theorem format_Short.J0_eq (x0 : Int) (x4 : ByteArray) : format_Short.J0 x0 x4 = (num_Text.f (wrap64 (Int.tdiv x0 3600)) 2).bind fun t104 => (if x4.size + t104.size ≤ 9223372036854775807 then (if (Int.tmod x0 3600) = 0 then (if (Int.tmod x0 60) = 0 then (some (x4 ++ t104, 0)) else ((num_Text.f (Int.tmod x0 60) 2).bind fun t105 => (if (x4 ++ t104).size + t105.size ≤ 9223372036854775807 then (some ((x4 ++ t104) ++ t105, 0)) else (none)))) else ((num_Text.f (wrap64 (Int.tdiv (Int.tmod x0 3600) 60)) 2).bind fun t106 => (if (x4 ++ t104).size + t106.size ≤ 9223372036854775807 then (if (Int.tmod x0 60) = 0 then (some ((x4 ++ t104) ++ t106, 0)) else ((num_Text.f (Int.tmod x0 60) 2).bind fun t107 => (if ((x4 ++ t104) ++ t106).size + t107.size ≤ 9223372036854775807 then (some (((x4 ++ t104) ++ t106) ++ t107, 0)) else (none)))) else (none)))) else (none)) := by
  refine IsLim.step (format_Short.isJ0 x0 x4).mono (f := fun k => (num_Text.f (wrap64 (Int.tdiv x0 3600)) 2).bind fun t104 => (if x4.size + t104.size ≤ 9223372036854775807 then (if (Int.tmod x0 3600) = 0 then (if (Int.tmod x0 60) = 0 then (some (x4 ++ t104, 0)) else ((num_Text.f (Int.tmod x0 60) 2).bind fun t105 => (if (x4 ++ t104).size + t105.size ≤ 9223372036854775807 then (some ((x4 ++ t104) ++ t105, 0)) else (none)))) else ((num_Text.f (wrap64 (Int.tdiv (Int.tmod x0 3600) 60)) 2).bind fun t106 => (if (x4 ++ t104).size + t106.size ≤ 9223372036854775807 then (if (Int.tmod x0 60) = 0 then (some ((x4 ++ t104) ++ t106, 0)) else ((num_Text.f (Int.tmod x0 60) 2).bind fun t107 => (if ((x4 ++ t104) ++ t106).size + t107.size ≤ 9223372036854775807 then (some (((x4 ++ t104) ++ t106) ++ t107, 0)) else (none)))) else (none)))) else (none))) (fun k => by rw [format_Short.j0]) ?_
  · repeat' first
    | (with_reducible exact IsLim.const _)
    | (with_reducible refine IsLim.ite ?_ ?_)
    | (with_reducible refine IsLim.bind ?_ (fun _ => ?_))
theorem format_Short.F_eq (a0 : Int) : format_Short.F a0 = (format_below.f a0).bind fun t103 => (if t103 = true then (if a0 < 0 then (format_Short.J0 (wrap64 (-a0)) (⟨#[45]⟩ : ByteArray)) else (format_Short.J0 a0 (⟨#[43]⟩ : ByteArray))) else (some ((⟨#[]⟩ : ByteArray), 5))) := by
  refine IsLim.eq (g := fun k => (format_below.f a0).bind fun t103 => (if t103 = true then (if a0 < 0 then (format_Short.j0 k (wrap64 (-a0)) (⟨#[45]⟩ : ByteArray)) else (format_Short.j0 k a0 (⟨#[43]⟩ : ByteArray))) else (some ((⟨#[]⟩ : ByteArray), 5)))) ?_
  · repeat' first
    | (with_reducible exact IsLim.const _)
    | (with_reducible exact format_Short.isJ0 _ _)
    | (with_reducible refine IsLim.ite ?_ ?_)
    | (with_reducible refine IsLim.bind ?_ (fun _ => ?_))
noncomputable def format_Right.L0 (x0 : ByteArray) (x5 : Int) (x6 : Int) : Option (Bool) := lim fun k => format_Right.l0 k x0 x5 x6
noncomputable def format_Right.F (a0 : ByteArray) : Option (Bool) := lim fun k => format_Right.f k a0
theorem format_Right.isL0 (x0 : ByteArray) (x5 : Int) (x6 : Int) : IsLim (fun k => format_Right.l0 k x0 x5 x6) (format_Right.L0 x0 x5 x6) := ⟨fun k => (format_Right.mono_l k) x0 x5 x6, rfl⟩
theorem format_Right.isF (a0 : ByteArray) : IsLim (fun k => format_Right.f k a0) (format_Right.F a0) := ⟨fun k => format_Right.mono a0 k, rfl⟩
theorem format_Right.L0_eq (x0 : ByteArray) (x5 : Int) (x6 : Int) : format_Right.L0 x0 x5 x6 = if x6 < x5 then (if 0 ≤ x6 then (if x6 < (x0.size : Int) then ((format_sign.f (bt x0 x6)).bind fun t108 => (if t108 = true then (format_Right.L0 x0 x5 (wrap64 (x6 + 1))) else (some false))) else (none)) else (none)) else (if (x0.size : Int) ≥ 1 then (some (decide ((x0.size : Int) ≤ 40))) else (some false)) := by
  refine IsLim.step (format_Right.isL0 x0 x5 x6).mono (f := fun k => if x6 < x5 then (if 0 ≤ x6 then (if x6 < (x0.size : Int) then ((format_sign.f (bt x0 x6)).bind fun t108 => (if t108 = true then (format_Right.l0 k x0 x5 (wrap64 (x6 + 1))) else (some false))) else (none)) else (none)) else (if (x0.size : Int) ≥ 1 then (some (decide ((x0.size : Int) ≤ 40))) else (some false))) (fun k => by rw [format_Right.l0]) ?_
  · repeat' first
    | (with_reducible exact IsLim.const _)
    | (with_reducible exact format_Right.isL0 _ _ _)
    | (with_reducible refine IsLim.ite ?_ ?_)
    | (with_reducible refine IsLim.bind ?_ (fun _ => ?_))
theorem format_Right.F_eq (a0 : ByteArray) : format_Right.F a0 = format_Right.L0 a0 (a0.size : Int) 0 := by
  refine IsLim.eq (g := fun k => format_Right.l0 k a0 (a0.size : Int) 0) ?_
  · repeat' first
    | (with_reducible exact IsLim.const _)
    | (with_reducible exact format_Right.isL0 _ _ _)
    | (with_reducible refine IsLim.ite ?_ ?_)
    | (with_reducible refine IsLim.bind ?_ (fun _ => ?_))
end Go.Proofs.YtookjnpmbenheaaDoor.PFmt

/- Printed functions of the family Fmt without a bound on their rounds, and the equation that each meets. No condition. -/
import Derived.Test.YtookjnpmbenheaaDoorBase
import Derived.Test.YtookjnpmbenheaaDoorPFmtx3
import Derived.Test.YtookjnpmbenheaaDoorEFmtx1
import Derived.Test.YtookjnpmbenheaaDoorEFmtx2
namespace Go.Proofs.YtookjnpmbenheaaDoor.PFmt
open Go.RowKit Go.Proofs.YtookjnpmbenheaaDoorW.PrintWords Go.Proofs.YtookjnpmbenheaaDoorW.PrintLast Go.Proofs.YtookjnpmbenheaaDoor.Base
set_option linter.unusedVariables false
noncomputable def format_Name.J0 (x0 : ByteArray) (x1 : ByteArray) (x2 : Int) (x3 : Int) (x28 : Bool) : Option (ByteArray × Int) := lim fun k => format_Name.j0 k x0 x1 x2 x3 x28
noncomputable def format_Name.J1 (x0 : ByteArray) (x1 : ByteArray) (x2 : Int) (x10 : ByteArray) (x11 : ByteArray) (x12 : ByteArray) (x13 : Bool) (x36 : Bool) : Option (ByteArray × Int) := lim fun k => format_Name.j1 k x0 x1 x2 x10 x11 x12 x13 x36
noncomputable def format_Name.F (a0 : ByteArray) (a1 : ByteArray) (a2 : Int) (a3 : Int) : Option (ByteArray × Int) := lim fun k => format_Name.f k a0 a1 a2 a3
theorem format_Name.isJ0 (x0 : ByteArray) (x1 : ByteArray) (x2 : Int) (x3 : Int) (x28 : Bool) : IsLim (fun k => format_Name.j0 k x0 x1 x2 x3 x28) (format_Name.J0 x0 x1 x2 x3 x28) := ⟨fun k => (format_Name.mono_l k).1 x0 x1 x2 x3 x28, rfl⟩
theorem format_Name.isJ1 (x0 : ByteArray) (x1 : ByteArray) (x2 : Int) (x10 : ByteArray) (x11 : ByteArray) (x12 : ByteArray) (x13 : Bool) (x36 : Bool) : IsLim (fun k => format_Name.j1 k x0 x1 x2 x10 x11 x12 x13 x36) (format_Name.J1 x0 x1 x2 x10 x11 x12 x13 x36) := ⟨fun k => (format_Name.mono_l k).2 x0 x1 x2 x10 x11 x12 x13 x36, rfl⟩
theorem format_Name.isF (a0 : ByteArray) (a1 : ByteArray) (a2 : Int) (a3 : Int) : IsLim (fun k => format_Name.f k a0 a1 a2 a3) (format_Name.F a0 a1 a2 a3) := ⟨fun k => format_Name.mono a0 a1 a2 a3 k, rfl⟩
theorem format_Name.J0_eq (x0 : ByteArray) (x1 : ByteArray) (x2 : Int) (x3 : Int) (x28 : Bool) : format_Name.J0 x0 x1 x2 x3 x28 = if x28 = true then (some ((⟨#[]⟩ : ByteArray), 16)) else ((strings_Cut.f x0 (⟨#[47]⟩ : ByteArray)).bind fun bt131 => (if bt131.2.2 = true then (format_Name.J1 x0 x1 x2 x0 bt131.1 bt131.2.1 bt131.2.2 (x3 == 0)) else (format_Name.J1 x0 x1 x2 x0 bt131.1 bt131.2.1 bt131.2.2 false))) := by
  refine IsLim.step (format_Name.isJ0 x0 x1 x2 x3 x28).mono (f := fun k => if x28 = true then (some ((⟨#[]⟩ : ByteArray), 16)) else ((strings_Cut.f x0 (⟨#[47]⟩ : ByteArray)).bind fun bt131 => (if bt131.2.2 = true then (format_Name.j1 k x0 x1 x2 x0 bt131.1 bt131.2.1 bt131.2.2 (x3 == 0)) else (format_Name.j1 k x0 x1 x2 x0 bt131.1 bt131.2.1 bt131.2.2 false)))) (fun k => by rw [format_Name.j0]) ?_
  · repeat' first
    | (with_reducible exact IsLim.const _)
    | (with_reducible exact format_Name.isJ1 _ _ _ _ _ _ _ _)
    | (with_reducible refine IsLim.ite ?_ ?_)
    | (with_reducible refine IsLim.bind ?_ (fun _ => ?_))
theorem format_Name.J1_eq (x0 : ByteArray) (x1 : ByteArray) (x2 : Int) (x10 : ByteArray) (x11 : ByteArray) (x12 : ByteArray) (x13 : Bool) (x36 : Bool) : format_Name.J1 x0 x1 x2 x10 x11 x12 x13 x36 = if x36 = true then ((format_Right.F x11).bind fun t134 => (if t134 = true then (some (x11, 0)) else (some ((⟨#[]⟩ : ByteArray), 16)))) else (if x13 = true then ((format_Right.F x12).bind fun t135 => (if t135 = true then (some (x12, 0)) else (some ((⟨#[]⟩ : ByteArray), 16)))) else ((strings_Contains.f x0 (⟨#[37, 115]⟩ : ByteArray)).bind fun t136 => (if t136 = true then ((strings_Replace.f x0 (⟨#[37, 115]⟩ : ByteArray) x1 1).bind fun t137 => ((format_Right.F t137).bind fun t138 => (if t138 = true then (some (t137, 0)) else (some ((⟨#[]⟩ : ByteArray), 16))))) else ((strings_Contains.f x0 (⟨#[37, 122]⟩ : ByteArray)).bind fun t139 => (if t139 = true then ((format_Short.F x2).bind fun bt140 => ((strings_Replace.f x0 (⟨#[37, 122]⟩ : ByteArray) bt140.1 1).bind fun t142 => ((format_Right.F t142).bind fun t143 => (if t143 = true then (some (t142, 0)) else (some ((⟨#[]⟩ : ByteArray), 16)))))) else ((format_Right.F x10).bind fun t144 => (if t144 = true then (some (x10, 0)) else (some ((⟨#[]⟩ : ByteArray), 16))))))))) := by
  refine IsLim.step (format_Name.isJ1 x0 x1 x2 x10 x11 x12 x13 x36).mono (f := fun k => if x36 = true then ((format_Right.f k x11).bind fun t134 => (if t134 = true then (some (x11, 0)) else (some ((⟨#[]⟩ : ByteArray), 16)))) else (if x13 = true then ((format_Right.f k x12).bind fun t135 => (if t135 = true then (some (x12, 0)) else (some ((⟨#[]⟩ : ByteArray), 16)))) else ((strings_Contains.f x0 (⟨#[37, 115]⟩ : ByteArray)).bind fun t136 => (if t136 = true then ((strings_Replace.f x0 (⟨#[37, 115]⟩ : ByteArray) x1 1).bind fun t137 => ((format_Right.f k t137).bind fun t138 => (if t138 = true then (some (t137, 0)) else (some ((⟨#[]⟩ : ByteArray), 16))))) else ((strings_Contains.f x0 (⟨#[37, 122]⟩ : ByteArray)).bind fun t139 => (if t139 = true then ((format_Short.f k x2).bind fun bt140 => ((strings_Replace.f x0 (⟨#[37, 122]⟩ : ByteArray) bt140.1 1).bind fun t142 => ((format_Right.f k t142).bind fun t143 => (if t143 = true then (some (t142, 0)) else (some ((⟨#[]⟩ : ByteArray), 16)))))) else ((format_Right.f k x10).bind fun t144 => (if t144 = true then (some (x10, 0)) else (some ((⟨#[]⟩ : ByteArray), 16)))))))))) (fun k => by rw [format_Name.j1]) ?_
  · repeat' first
    | (with_reducible exact IsLim.const _)
    | (with_reducible exact format_Right.isF _)
    | (with_reducible exact format_Short.isF _)
    | (with_reducible refine IsLim.ite ?_ ?_)
    | (with_reducible refine IsLim.bind ?_ (fun _ => ?_))
theorem format_Name.F_eq (a0 : ByteArray) (a1 : ByteArray) (a2 : Int) (a3 : Int) : format_Name.F a0 a1 a2 a3 = (zone_Format.F a0).bind fun t128 => (if t128 = true then ((rule_Letter.F a1).bind fun t129 => (if t129 = true then ((format_below.f a2).bind fun t130 => (format_Name.J0 a0 a1 a2 a3 (!t130))) else (format_Name.J0 a0 a1 a2 a3 true))) else (format_Name.J0 a0 a1 a2 a3 true)) := by
  refine IsLim.eq (g := fun k => (zone_Format.f k a0).bind fun t128 => (if t128 = true then ((rule_Letter.f k a1).bind fun t129 => (if t129 = true then ((format_below.f a2).bind fun t130 => (format_Name.j0 k a0 a1 a2 a3 (!t130))) else (format_Name.j0 k a0 a1 a2 a3 true))) else (format_Name.j0 k a0 a1 a2 a3 true))) ?_
  · repeat' first
    | (with_reducible exact IsLim.const _)
    | (with_reducible exact format_Name.isJ0 _ _ _ _ _)
    | (with_reducible exact rule_Letter.isF _)
    | (with_reducible exact zone_Format.isF _)
    | (with_reducible refine IsLim.ite ?_ ?_)
    | (with_reducible refine IsLim.bind ?_ (fun _ => ?_))
noncomputable def solsticeref09_Plain.J0 (x0 : ByteArray) (x14 : Bool) : Option (Bool) := lim fun k => solsticeref09_Plain.j0 k x0 x14
noncomputable def solsticeref09_Plain.L0 (x0 : ByteArray) (x5 : Int) : Option (Bool) := lim fun k => solsticeref09_Plain.l0 k x0 x5
noncomputable def solsticeref09_Plain.F (a0 : ByteArray) (a1 : Int) : Option (Bool) := lim fun k => solsticeref09_Plain.f k a0 a1
theorem solsticeref09_Plain.isJ0 (x0 : ByteArray) (x14 : Bool) : IsLim (fun k => solsticeref09_Plain.j0 k x0 x14) (solsticeref09_Plain.J0 x0 x14) := ⟨fun k => (solsticeref09_Plain.mono_l k).1 x0 x14, rfl⟩
theorem solsticeref09_Plain.isL0 (x0 : ByteArray) (x5 : Int) : IsLim (fun k => solsticeref09_Plain.l0 k x0 x5) (solsticeref09_Plain.L0 x0 x5) := ⟨fun k => (solsticeref09_Plain.mono_l k).2 x0 x5, rfl⟩
theorem solsticeref09_Plain.isF (a0 : ByteArray) (a1 : Int) : IsLim (fun k => solsticeref09_Plain.f k a0 a1) (solsticeref09_Plain.F a0 a1) := ⟨fun k => solsticeref09_Plain.mono a0 a1 k, rfl⟩
theorem solsticeref09_Plain.J0_eq (x0 : ByteArray) (x14 : Bool) : solsticeref09_Plain.J0 x0 x14 = if x14 = true then (some false) else (solsticeref09_Plain.L0 x0 0) := by
  refine IsLim.step (solsticeref09_Plain.isJ0 x0 x14).mono (f := fun k => if x14 = true then (some false) else (solsticeref09_Plain.l0 k x0 0)) (fun k => by rw [solsticeref09_Plain.j0]) ?_
  · repeat' first
    | (with_reducible exact IsLim.const _)
    | (with_reducible exact solsticeref09_Plain.isL0 _ _)
    | (with_reducible refine IsLim.ite ?_ ?_)
    | (with_reducible refine IsLim.bind ?_ (fun _ => ?_))
theorem solsticeref09_Plain.L0_eq (x0 : ByteArray) (x5 : Int) : solsticeref09_Plain.L0 x0 x5 = if x5 < (x0.size : Int) then (if 0 ≤ x5 then ((solsticeref09_letter.f (bt x0 x5)).bind fun t145 => (if t145 = true then (solsticeref09_Plain.L0 x0 (wrap64 (x5 + 1))) else ((solsticeref09_digit.f (bt x0 x5)).bind fun t146 => (if t146 = true then (solsticeref09_Plain.L0 x0 (wrap64 (x5 + 1))) else (if (bt x0 x5) = 43 then (solsticeref09_Plain.L0 x0 (wrap64 (x5 + 1))) else (if (bt x0 x5) = 45 then (solsticeref09_Plain.L0 x0 (wrap64 (x5 + 1))) else (some false))))))) else (none)) else (some true) := by
  refine IsLim.step (solsticeref09_Plain.isL0 x0 x5).mono (f := fun k => if x5 < (x0.size : Int) then (if 0 ≤ x5 then ((solsticeref09_letter.f (bt x0 x5)).bind fun t145 => (if t145 = true then (solsticeref09_Plain.l0 k x0 (wrap64 (x5 + 1))) else ((solsticeref09_digit.f (bt x0 x5)).bind fun t146 => (if t146 = true then (solsticeref09_Plain.l0 k x0 (wrap64 (x5 + 1))) else (if (bt x0 x5) = 43 then (solsticeref09_Plain.l0 k x0 (wrap64 (x5 + 1))) else (if (bt x0 x5) = 45 then (solsticeref09_Plain.l0 k x0 (wrap64 (x5 + 1))) else (some false))))))) else (none)) else (some true)) (fun k => by rw [solsticeref09_Plain.l0]) ?_
  · repeat' first
    | (with_reducible exact IsLim.const _)
    | (with_reducible exact solsticeref09_Plain.isL0 _ _)
    | (with_reducible refine IsLim.ite ?_ ?_)
    | (with_reducible refine IsLim.bind ?_ (fun _ => ?_))
theorem solsticeref09_Plain.F_eq (a0 : ByteArray) (a1 : Int) : solsticeref09_Plain.F a0 a1 = if (a0.size : Int) < 1 then (solsticeref09_Plain.J0 a0 true) else (solsticeref09_Plain.J0 a0 (decide ((a0.size : Int) > a1))) := by
  refine IsLim.eq (g := fun k => if (a0.size : Int) < 1 then (solsticeref09_Plain.j0 k a0 true) else (solsticeref09_Plain.j0 k a0 (decide ((a0.size : Int) > a1)))) ?_
  · repeat' first
    | (with_reducible exact IsLim.const _)
    | (with_reducible exact solsticeref09_Plain.isJ0 _ _)
    | (with_reducible refine IsLim.ite ?_ ?_)
    | (with_reducible refine IsLim.bind ?_ (fun _ => ?_))
end Go.Proofs.YtookjnpmbenheaaDoor.PFmt

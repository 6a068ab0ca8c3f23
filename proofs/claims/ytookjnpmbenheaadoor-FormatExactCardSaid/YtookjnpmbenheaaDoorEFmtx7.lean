/- Printed functions of the family Fmt without a bound on their rounds, and the equation that each meets. No condition. -/
import Derived.Test.YtookjnpmbenheaaDoorBase
import Derived.Test.YtookjnpmbenheaaDoorPFmtx7
import Derived.Test.YtookjnpmbenheaaDoorEFmtx1
import Derived.Test.YtookjnpmbenheaaDoorEFmtx3
import Derived.Test.YtookjnpmbenheaaDoorEFmtx4
import Derived.Test.YtookjnpmbenheaaDoorEFmtx6
namespace Go.Proofs.YtookjnpmbenheaaDoor.PFmt
open Go.RowKit Go.Proofs.YtookjnpmbenheaaDoorW.PrintWords Go.Proofs.YtookjnpmbenheaaDoorW.PrintLast Go.Proofs.YtookjnpmbenheaaDoor.Base
set_option linter.unusedVariables false
noncomputable def solsticelaw12_wakes.F  : Option (Bool) := lim fun k => solsticelaw12_wakes.f k
theorem solsticelaw12_wakes.isF  : IsLim (fun k => solsticelaw12_wakes.f k) (solsticelaw12_wakes.F ) := ⟨fun k => solsticelaw12_wakes.mono k, rfl⟩
theorem solsticelaw12_wakes.F_eq  : solsticelaw12_wakes.F  = (format_Name.F (⟨#[67, 69, 37, 115, 84]⟩ : ByteArray) (⟨#[83]⟩ : ByteArray) 7200 3600).bind fun bt165 => ((format_Name.F (⟨#[65, 47, 66]⟩ : ByteArray) (⟨#[]⟩ : ByteArray) 0 0).bind fun bt167 => ((format_Short.F (-5400)).bind fun bt169 => ((format_Name.F (⟨#[37, 115]⟩ : ByteArray) (⟨#[]⟩ : ByteArray) 0 0).bind fun bt171 => (if bt165.2 = 0 then (if bt165.1.toList = ([67, 69, 83, 84] : List UInt8) then (if bt167.2 = 0 then (if bt167.1.toList = ([65] : List UInt8) then (if bt169.2 = 0 then (if bt169.1.toList = ([45, 48, 49, 51, 48] : List UInt8) then (if bt171.2 = 16 then ((format_Right.F (⟨#[43, 48, 51]⟩ : ByteArray)).bind fun t173 => (some t173)) else (some false)) else (some false)) else (some false)) else (some false)) else (some false)) else (some false)) else (some false))))) := by
  refine IsLim.eq (g := fun k => (format_Name.f k (⟨#[67, 69, 37, 115, 84]⟩ : ByteArray) (⟨#[83]⟩ : ByteArray) 7200 3600).bind fun bt165 => ((format_Name.f k (⟨#[65, 47, 66]⟩ : ByteArray) (⟨#[]⟩ : ByteArray) 0 0).bind fun bt167 => ((format_Short.f k (-5400)).bind fun bt169 => ((format_Name.f k (⟨#[37, 115]⟩ : ByteArray) (⟨#[]⟩ : ByteArray) 0 0).bind fun bt171 => (if bt165.2 = 0 then (if bt165.1.toList = ([67, 69, 83, 84] : List UInt8) then (if bt167.2 = 0 then (if bt167.1.toList = ([65] : List UInt8) then (if bt169.2 = 0 then (if bt169.1.toList = ([45, 48, 49, 51, 48] : List UInt8) then (if bt171.2 = 16 then ((format_Right.f k (⟨#[43, 48, 51]⟩ : ByteArray)).bind fun t173 => (some t173)) else (some false)) else (some false)) else (some false)) else (some false)) else (some false)) else (some false)) else (some false)))))) ?_
  · repeat' first
    | (with_reducible exact IsLim.const _)
    | (with_reducible exact format_Name.isF _ _ _ _)
    | (with_reducible exact format_Right.isF _)
    | (with_reducible exact format_Short.isF _)
    | (with_reducible refine IsLim.ite ?_ ?_)
    | (with_reducible refine IsLim.bind ?_ (fun _ => ?_))
noncomputable def solsticelaw12_FormatExact.J0 (x0 : ByteArray) (x1 : ByteArray) (x2 : Int) (x3 : Int) (x22 : Bool) : Option (Bool) := lim fun k => solsticelaw12_FormatExact.j0 k x0 x1 x2 x3 x22
noncomputable def solsticelaw12_FormatExact.J1 (x2 : Int) (x11 : ByteArray) (x12 : Int) (x72 : Bool) : Option (Bool) := lim fun k => solsticelaw12_FormatExact.j1 k x2 x11 x12 x72
noncomputable def solsticelaw12_FormatExact.J2 (x2 : Int) (x11 : ByteArray) (x12 : Int) (x78 : Bool) : Option (Bool) := lim fun k => solsticelaw12_FormatExact.j2 k x2 x11 x12 x78
noncomputable def solsticelaw12_FormatExact.F (a0 : ByteArray) (a1 : ByteArray) (a2 : Int) (a3 : Int) : Option (Bool) := lim fun k => solsticelaw12_FormatExact.f k a0 a1 a2 a3
theorem solsticelaw12_FormatExact.isJ0 (x0 : ByteArray) (x1 : ByteArray) (x2 : Int) (x3 : Int) (x22 : Bool) : IsLim (fun k => solsticelaw12_FormatExact.j0 k x0 x1 x2 x3 x22) (solsticelaw12_FormatExact.J0 x0 x1 x2 x3 x22) := ⟨fun k => (solsticelaw12_FormatExact.mono_l k).1 x0 x1 x2 x3 x22, rfl⟩
theorem solsticelaw12_FormatExact.isJ1 (x2 : Int) (x11 : ByteArray) (x12 : Int) (x72 : Bool) : IsLim (fun k => solsticelaw12_FormatExact.j1 k x2 x11 x12 x72) (solsticelaw12_FormatExact.J1 x2 x11 x12 x72) := ⟨fun k => (solsticelaw12_FormatExact.mono_l k).2.1 x2 x11 x12 x72, rfl⟩
theorem solsticelaw12_FormatExact.isJ2 (x2 : Int) (x11 : ByteArray) (x12 : Int) (x78 : Bool) : IsLim (fun k => solsticelaw12_FormatExact.j2 k x2 x11 x12 x78) (solsticelaw12_FormatExact.J2 x2 x11 x12 x78) := ⟨fun k => (solsticelaw12_FormatExact.mono_l k).2.2 x2 x11 x12 x78, rfl⟩
theorem solsticelaw12_FormatExact.isF (a0 : ByteArray) (a1 : ByteArray) (a2 : Int) (a3 : Int) : IsLim (fun k => solsticelaw12_FormatExact.f k a0 a1 a2 a3) (solsticelaw12_FormatExact.F a0 a1 a2 a3) := ⟨fun k => solsticelaw12_FormatExact.mono a0 a1 a2 a3 k, rfl⟩
theorem solsticelaw12_FormatExact.J0_eq (x0 : ByteArray) (x1 : ByteArray) (x2 : Int) (x3 : Int) (x22 : Bool) : solsticelaw12_FormatExact.J0 x0 x1 x2 x3 x22 = if x22 = true then (some true) else ((format_Name.F x0 x1 x2 x3).bind fun bt174 => ((format_Short.F x2).bind fun bt176 => ((solsticeref09_Abbr.F x0 x1 x2 x3).bind fun bt178 => (if bt178.2 = true then (if bt174.2 = 0 then (if bt174.1.toList = bt178.1.toList then ((format_Right.F x0).bind fun t180 => ((solsticeref09_Plain.F x0 40).bind fun t181 => (solsticelaw12_FormatExact.J1 x2 bt176.1 bt176.2 (t180 != t181)))) else (solsticelaw12_FormatExact.J1 x2 bt176.1 bt176.2 true)) else (solsticelaw12_FormatExact.J1 x2 bt176.1 bt176.2 true)) else (if bt174.2 = 16 then (if bt174.1.toList = ([] : List UInt8) then ((format_Right.F x0).bind fun t182 => ((solsticeref09_Plain.F x0 40).bind fun t183 => (solsticelaw12_FormatExact.J1 x2 bt176.1 bt176.2 (t182 != t183)))) else (solsticelaw12_FormatExact.J1 x2 bt176.1 bt176.2 true)) else (solsticelaw12_FormatExact.J1 x2 bt176.1 bt176.2 true)))))) := by
  refine IsLim.step (solsticelaw12_FormatExact.isJ0 x0 x1 x2 x3 x22).mono (f := fun k => if x22 = true then (some true) else ((format_Name.f k x0 x1 x2 x3).bind fun bt174 => ((format_Short.f k x2).bind fun bt176 => ((solsticeref09_Abbr.f k x0 x1 x2 x3).bind fun bt178 => (if bt178.2 = true then (if bt174.2 = 0 then (if bt174.1.toList = bt178.1.toList then ((format_Right.f k x0).bind fun t180 => ((solsticeref09_Plain.f k x0 40).bind fun t181 => (solsticelaw12_FormatExact.j1 k x2 bt176.1 bt176.2 (t180 != t181)))) else (solsticelaw12_FormatExact.j1 k x2 bt176.1 bt176.2 true)) else (solsticelaw12_FormatExact.j1 k x2 bt176.1 bt176.2 true)) else (if bt174.2 = 16 then (if bt174.1.toList = ([] : List UInt8) then ((format_Right.f k x0).bind fun t182 => ((solsticeref09_Plain.f k x0 40).bind fun t183 => (solsticelaw12_FormatExact.j1 k x2 bt176.1 bt176.2 (t182 != t183)))) else (solsticelaw12_FormatExact.j1 k x2 bt176.1 bt176.2 true)) else (solsticelaw12_FormatExact.j1 k x2 bt176.1 bt176.2 true))))))) (fun k => by rw [solsticelaw12_FormatExact.j0]) ?_
  · repeat' first
    | (with_reducible exact IsLim.const _)
    | (with_reducible exact format_Name.isF _ _ _ _)
    | (with_reducible exact format_Right.isF _)
    | (with_reducible exact format_Short.isF _)
    | (with_reducible exact solsticelaw12_FormatExact.isJ1 _ _ _ _)
    | (with_reducible exact solsticeref09_Abbr.isF _ _ _ _)
    | (with_reducible exact solsticeref09_Plain.isF _ _)
    | (with_reducible refine IsLim.ite ?_ ?_)
    | (with_reducible refine IsLim.bind ?_ (fun _ => ?_))
theorem solsticelaw12_FormatExact.J1_eq (x2 : Int) (x11 : ByteArray) (x12 : Int) (x72 : Bool) : solsticelaw12_FormatExact.J1 x2 x11 x12 x72 = if x72 = true then (some false) else (if x2 ≤ (-172800) then (solsticelaw12_FormatExact.J2 x2 x11 x12 true) else (solsticelaw12_FormatExact.J2 x2 x11 x12 (decide (x2 ≥ 172800)))) := by
  refine IsLim.step (solsticelaw12_FormatExact.isJ1 x2 x11 x12 x72).mono (f := fun k => if x72 = true then (some false) else (if x2 ≤ (-172800) then (solsticelaw12_FormatExact.j2 k x2 x11 x12 true) else (solsticelaw12_FormatExact.j2 k x2 x11 x12 (decide (x2 ≥ 172800))))) (fun k => by rw [solsticelaw12_FormatExact.j1]) ?_
  · repeat' first
    | (with_reducible exact IsLim.const _)
    | (with_reducible exact solsticelaw12_FormatExact.isJ2 _ _ _ _)
    | (with_reducible refine IsLim.ite ?_ ?_)
    | (with_reducible refine IsLim.bind ?_ (fun _ => ?_))
theorem solsticelaw12_FormatExact.J2_eq (x2 : Int) (x11 : ByteArray) (x12 : Int) (x78 : Bool) : solsticelaw12_FormatExact.J2 x2 x11 x12 x78 = if x78 = true then (if x12 = 5 then (if x11.toList = ([] : List UInt8) then ((solsticelaw12_wakes.F).bind fun t184 => (some t184)) else (some false)) else (some false)) else (if x12 = 0 then ((solsticeref09_Short.F x2).bind fun t185 => (if x11.toList = t185.toList then ((solsticelaw12_wakes.F).bind fun t186 => (some t186)) else (some false))) else (some false)) := by
  refine IsLim.step (solsticelaw12_FormatExact.isJ2 x2 x11 x12 x78).mono (f := fun k => if x78 = true then (if x12 = 5 then (if x11.toList = ([] : List UInt8) then ((solsticelaw12_wakes.f k).bind fun t184 => (some t184)) else (some false)) else (some false)) else (if x12 = 0 then ((solsticeref09_Short.f k x2).bind fun t185 => (if x11.toList = t185.toList then ((solsticelaw12_wakes.f k).bind fun t186 => (some t186)) else (some false))) else (some false))) (fun k => by rw [solsticelaw12_FormatExact.j2]) ?_
  · repeat' first
    | (with_reducible exact IsLim.const _)
    | (with_reducible exact solsticelaw12_wakes.isF)
    | (with_reducible exact solsticeref09_Short.isF _)
    | (with_reducible refine IsLim.ite ?_ ?_)
    | (with_reducible refine IsLim.bind ?_ (fun _ => ?_))
theorem solsticelaw12_FormatExact.F_eq (a0 : ByteArray) (a1 : ByteArray) (a2 : Int) (a3 : Int) : solsticelaw12_FormatExact.F a0 a1 a2 a3 = if (a0.size : Int) > 200 then (solsticelaw12_FormatExact.J0 a0 a1 a2 a3 true) else (solsticelaw12_FormatExact.J0 a0 a1 a2 a3 (decide ((a1.size : Int) > 200))) := by
  refine IsLim.eq (g := fun k => if (a0.size : Int) > 200 then (solsticelaw12_FormatExact.j0 k a0 a1 a2 a3 true) else (solsticelaw12_FormatExact.j0 k a0 a1 a2 a3 (decide ((a1.size : Int) > 200)))) ?_
  · repeat' first
    | (with_reducible exact IsLim.const _)
    | (with_reducible exact solsticelaw12_FormatExact.isJ0 _ _ _ _ _)
    | (with_reducible refine IsLim.ite ?_ ?_)
    | (with_reducible refine IsLim.bind ?_ (fun _ => ?_))
end Go.Proofs.YtookjnpmbenheaaDoor.PFmt

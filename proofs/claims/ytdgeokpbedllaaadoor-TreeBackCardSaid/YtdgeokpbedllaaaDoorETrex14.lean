/- Printed functions of the family Tre without a bound on their rounds, and the equation that each meets. No condition. -/
import Derived.Test.YtdgeokpbedllaaaDoorBase
import Derived.Test.YtdgeokpbedllaaaDoorPTrex14
import Derived.Test.YtdgeokpbedllaaaDoorETrex7
import Derived.Test.YtdgeokpbedllaaaDoorETrex10
import Derived.Test.YtdgeokpbedllaaaDoorETrex13
namespace Go.Proofs.YtdgeokpbedllaaaDoor.PTre
open Go.RowKit Go.Proofs.YtdgeokpbedllaaaDoorW.PrintWords Go.Proofs.YtdgeokpbedllaaaDoorW.PrintLast Go.Proofs.YtdgeokpbedllaaaDoor.Base
set_option linter.unusedVariables false
noncomputable def line_params.L0 (x0 : ByteArray) (x2 : List (S70)) : Option ((List (S70)) × ByteArray × Bool) := lim fun k => line_params.l0 k x0 x2
noncomputable def line_params.L1 (x2 : List (S70)) (x6 : ByteArray) (x9 : Bool) (x258000 : ByteArray) (x258001 : List ByteArray) : Option ((List (S70)) × ByteArray × Bool) := lim fun k => line_params.l1 k x2 x6 x9 x258000 x258001
noncomputable def line_params.J2 (x2 : List (S70)) (x6 : ByteArray) (x9 : Bool) (x28 : Bool) (x258000 : ByteArray) (x258001 : List ByteArray) : Option ((List (S70)) × ByteArray × Bool) := lim fun k => line_params.j2 k x2 x6 x9 x28 x258000 x258001
noncomputable def line_params.F (a0 : ByteArray) : Option ((List (S70)) × ByteArray × Bool) := lim fun k => line_params.f k a0
theorem line_params.isL0 (x0 : ByteArray) (x2 : List (S70)) : IsLim (fun k => line_params.l0 k x0 x2) (line_params.L0 x0 x2) := ⟨fun k => (line_params.mono_l k).1 x0 x2, rfl⟩
theorem line_params.isL1 (x2 : List (S70)) (x6 : ByteArray) (x9 : Bool) (x258000 : ByteArray) (x258001 : List ByteArray) : IsLim (fun k => line_params.l1 k x2 x6 x9 x258000 x258001) (line_params.L1 x2 x6 x9 x258000 x258001) := ⟨fun k => (line_params.mono_l k).2.1 x2 x6 x9 x258000 x258001, rfl⟩
theorem line_params.isJ2 (x2 : List (S70)) (x6 : ByteArray) (x9 : Bool) (x28 : Bool) (x258000 : ByteArray) (x258001 : List ByteArray) : IsLim (fun k => line_params.j2 k x2 x6 x9 x28 x258000 x258001) (line_params.J2 x2 x6 x9 x28 x258000 x258001) := ⟨fun k => (line_params.mono_l k).2.2 x2 x6 x9 x28 x258000 x258001, rfl⟩
theorem line_params.isF (a0 : ByteArray) : IsLim (fun k => line_params.f k a0) (line_params.F a0) := ⟨fun k => line_params.mono a0 k, rfl⟩
theorem line_params.L0_eq (x0 : ByteArray) (x2 : List (S70)) : line_params.L0 x0 x2 = (strings_HasPrefix.f x0 (⟨#[59]⟩ : ByteArray)).bind fun t253 => (if t253 = true then (if 1 ≤ (x0.size : Int) then ((strings_Cut.f (x0.extract 1 x0.size) (⟨#[61]⟩ : ByteArray)).bind fun bt254 => (if bt254.2.2 = true then (line_params.L1 x2 bt254.2.1 true bt254.1 ([] : List ByteArray)) else (some (([] : List (S70)), (⟨#[]⟩ : ByteArray), false)))) else (none)) else (some (x2, x0, true))) := by
  apply IsLim.step (line_params.isL0 x0 x2).mono
  case hf =>
    repeat'
      try intro _
      first
      | (with_reducible exact line_params.isL1 _ _ _ _ _)
      | (with_reducible apply IsLim.ite)
      | (with_reducible apply IsLim.bind)
      | (apply IsLim.cst; intro _; exact rfl)
  case h => intro k; rw [line_params.l0]
theorem line_params.L1_eq (x2 : List (S70)) (x6 : ByteArray) (x9 : Bool) (x258000 : ByteArray) (x258001 : List ByteArray) : line_params.L1 x2 x6 x9 x258000 x258001 = if x9 = true then (line_params.J2 x2 x6 x9 true x258000 x258001) else ((strings_HasPrefix.f x6 (⟨#[44]⟩ : ByteArray)).bind fun t258 => (line_params.J2 x2 x6 x9 t258 x258000 x258001)) := by
  apply IsLim.step (line_params.isL1 x2 x6 x9 x258000 x258001).mono
  case hf =>
    repeat'
      try intro _
      first
      | (with_reducible exact line_params.isJ2 _ _ _ _ _ _)
      | (with_reducible apply IsLim.ite)
      | (with_reducible apply IsLim.bind)
      | (apply IsLim.cst; intro _; exact rfl)
  case h => intro k; rw [line_params.l1]
theorem line_params.J2_eq (x2 : List (S70)) (x6 : ByteArray) (x9 : Bool) (x28 : Bool) (x258000 : ByteArray) (x258001 : List ByteArray) : line_params.J2 x2 x6 x9 x28 x258000 x258001 = if x28 = true then (if x9 = true then ((line_next.F x6).bind fun bt262 => (if bt262.2.2 = true then (if x258001.length < 8796093022208 then (line_params.L1 x2 bt262.2.1 false x258000 (x258001 ++ [bt262.1])) else (none)) else (some (([] : List (S70)), (⟨#[]⟩ : ByteArray), false)))) else (if 1 ≤ (x6.size : Int) then ((line_next.F (x6.extract 1 x6.size)).bind fun bt268 => (if bt268.2.2 = true then (if x258001.length < 8796093022208 then (line_params.L1 x2 bt268.2.1 false x258000 (x258001 ++ [bt268.1])) else (none)) else (some (([] : List (S70)), (⟨#[]⟩ : ByteArray), false)))) else (none))) else (if x2.length < 3518437208883 then (line_params.L0 x6 (x2 ++ [(⟨x258000, x258001⟩ : S70)])) else (none)) := by
  apply IsLim.step (line_params.isJ2 x2 x6 x9 x28 x258000 x258001).mono
  case hf =>
    repeat'
      try intro _
      first
      | (with_reducible exact line_next.isF _)
      | (with_reducible exact line_params.isL0 _ _)
      | (with_reducible exact line_params.isL1 _ _ _ _ _)
      | (with_reducible apply IsLim.ite)
      | (with_reducible apply IsLim.bind)
      | (apply IsLim.cst; intro _; exact rfl)
  case h => intro k; rw [line_params.j2]
theorem line_params.F_eq (a0 : ByteArray) : line_params.F a0 = line_params.L0 a0 ([] : List (S70)) := by
  apply IsLim.via
  case hf =>
    repeat'
      try intro _
      first
      | (with_reducible exact line_params.isL0 _ _)
      | (with_reducible apply IsLim.ite)
      | (with_reducible apply IsLim.bind)
      | (apply IsLim.cst; intro _; exact rfl)
  case h => exact fun _ => rfl
noncomputable def line_Parse.J0 (x6 : List (S70)) (x7 : ByteArray) (x30 : Bool) (x277000 : ByteArray) (x277002 : ByteArray) : Option (ByteArray × (List (S70)) × ByteArray × Int) := lim fun k => line_Parse.j0 k x6 x7 x30 x277000 x277002
noncomputable def line_Parse.F (a0 : ByteArray) : Option (ByteArray × (List (S70)) × ByteArray × Int) := lim fun k => line_Parse.f k a0
theorem line_Parse.isJ0 (x6 : List (S70)) (x7 : ByteArray) (x30 : Bool) (x277000 : ByteArray) (x277002 : ByteArray) : IsLim (fun k => line_Parse.j0 k x6 x7 x30 x277000 x277002) (line_Parse.J0 x6 x7 x30 x277000 x277002) := ⟨fun k => (line_Parse.mono_l k) x6 x7 x30 x277000 x277002, rfl⟩
theorem line_Parse.isF (a0 : ByteArray) : IsLim (fun k => line_Parse.f k a0) (line_Parse.F a0) := ⟨fun k => line_Parse.mono a0 k, rfl⟩
theorem line_Parse.J0_eq (x6 : List (S70)) (x7 : ByteArray) (x30 : Bool) (x277000 : ByteArray) (x277002 : ByteArray) : line_Parse.J0 x6 x7 x30 x277000 x277002 = if x30 = true then (some ((⟨#[]⟩ : ByteArray), ([] : List (S70)), (⟨#[]⟩ : ByteArray), 18)) else (if 1 ≤ (x7.size : Int) then ((line_Check.F x277000 x6 (x7.extract 1 x7.size)).bind fun t283 => (if t283 = 0 then (some (x277000, x6, x7.extract 1 x7.size, 0)) else (some ((⟨#[]⟩ : ByteArray), ([] : List (S70)), (⟨#[]⟩ : ByteArray), t283)))) else (none)) := by
  apply IsLim.step (line_Parse.isJ0 x6 x7 x30 x277000 x277002).mono
  case hf =>
    repeat'
      try intro _
      first
      | (with_reducible exact line_Check.isF _ _ _)
      | (with_reducible apply IsLim.ite)
      | (with_reducible apply IsLim.bind)
      | (apply IsLim.cst; intro _; exact rfl)
  case h => intro k; rw [line_Parse.j0]
theorem line_Parse.F_eq (a0 : ByteArray) : line_Parse.F a0 = (line_until.F a0 (⟨#[58, 59]⟩ : ByteArray)).bind fun t275 => (if 0 ≤ t275 then (if t275 ≤ (a0.size : Int) then ((line_params.F (a0.extract (t275 : Int).toNat a0.size)).bind fun bt277 => (if bt277.2.2 = true then ((strings_HasPrefix.f bt277.2.1 (⟨#[58]⟩ : ByteArray)).bind fun t282 => (line_Parse.J0 bt277.1 bt277.2.1 (!t282) (a0.extract 0 (t275 : Int).toNat) (⟨#[]⟩ : ByteArray))) else (line_Parse.J0 bt277.1 bt277.2.1 true (a0.extract 0 (t275 : Int).toNat) (⟨#[]⟩ : ByteArray)))) else (none)) else (none)) := by
  apply IsLim.via
  case hf =>
    repeat'
      try intro _
      first
      | (with_reducible exact line_Parse.isJ0 _ _ _ _ _)
      | (with_reducible exact line_params.isF _)
      | (with_reducible exact line_until.isF _ _)
      | (with_reducible apply IsLim.ite)
      | (with_reducible apply IsLim.bind)
      | (apply IsLim.cst; intro _; exact rfl)
  case h => exact fun _ => rfl
end Go.Proofs.YtdgeokpbedllaaaDoor.PTre

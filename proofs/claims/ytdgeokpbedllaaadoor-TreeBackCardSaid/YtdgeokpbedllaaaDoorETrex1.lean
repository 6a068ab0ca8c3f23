/- Printed functions of the family Tre without a bound on their rounds, and the equation that each meets. No condition. -/
import Derived.Test.YtdgeokpbedllaaaDoorBase
import Derived.Test.YtdgeokpbedllaaaDoorPTrex1
namespace Go.Proofs.YtdgeokpbedllaaaDoor.PTre
open Go.RowKit Go.Proofs.YtdgeokpbedllaaaDoorW.PrintWords Go.Proofs.YtdgeokpbedllaaaDoorW.PrintLast Go.Proofs.YtdgeokpbedllaaaDoor.Base
set_option linter.unusedVariables false
noncomputable def solsticelaw18_Heavy.J0 (x20 : Bool) (x102000 : ByteArray) (x102001 : List (S70)) (x102002 : ByteArray) : Option (Bool) := lim fun k => solsticelaw18_Heavy.j0 k x20 x102000 x102001 x102002
noncomputable def solsticelaw18_Heavy.L0 (x3 : Int) (x102000 : ByteArray) (x102001 : List (S70)) (x102002 : ByteArray) : Option (Bool) := lim fun k => solsticelaw18_Heavy.l0 k x3 x102000 x102001 x102002
noncomputable def solsticelaw18_Heavy.J2 (x3 : Int) (x45 : Bool) (x102000 : ByteArray) (x102001 : List (S70)) (x102002 : ByteArray) : Option (Bool) := lim fun k => solsticelaw18_Heavy.j2 k x3 x45 x102000 x102001 x102002
noncomputable def solsticelaw18_Heavy.L1 (x3 : Int) (x4 : Int) (x102000 : ByteArray) (x102001 : List (S70)) (x102002 : ByteArray) : Option (Bool) := lim fun k => solsticelaw18_Heavy.l1 k x3 x4 x102000 x102001 x102002
noncomputable def solsticelaw18_Heavy.F (a0_0 : ByteArray) (l0_1 : List (S70)) (a0_2 : ByteArray) : Option (Bool) := lim fun k => solsticelaw18_Heavy.f k a0_0 l0_1 a0_2
theorem solsticelaw18_Heavy.isJ0 (x20 : Bool) (x102000 : ByteArray) (x102001 : List (S70)) (x102002 : ByteArray) : IsLim (fun k => solsticelaw18_Heavy.j0 k x20 x102000 x102001 x102002) (solsticelaw18_Heavy.J0 x20 x102000 x102001 x102002) := ⟨fun k => (solsticelaw18_Heavy.mono_l k).1 x20 x102000 x102001 x102002, rfl⟩
theorem solsticelaw18_Heavy.isL0 (x3 : Int) (x102000 : ByteArray) (x102001 : List (S70)) (x102002 : ByteArray) : IsLim (fun k => solsticelaw18_Heavy.l0 k x3 x102000 x102001 x102002) (solsticelaw18_Heavy.L0 x3 x102000 x102001 x102002) := ⟨fun k => (solsticelaw18_Heavy.mono_l k).2.1 x3 x102000 x102001 x102002, rfl⟩
theorem solsticelaw18_Heavy.isJ2 (x3 : Int) (x45 : Bool) (x102000 : ByteArray) (x102001 : List (S70)) (x102002 : ByteArray) : IsLim (fun k => solsticelaw18_Heavy.j2 k x3 x45 x102000 x102001 x102002) (solsticelaw18_Heavy.J2 x3 x45 x102000 x102001 x102002) := ⟨fun k => (solsticelaw18_Heavy.mono_l k).2.2.1 x3 x45 x102000 x102001 x102002, rfl⟩
theorem solsticelaw18_Heavy.isL1 (x3 : Int) (x4 : Int) (x102000 : ByteArray) (x102001 : List (S70)) (x102002 : ByteArray) : IsLim (fun k => solsticelaw18_Heavy.l1 k x3 x4 x102000 x102001 x102002) (solsticelaw18_Heavy.L1 x3 x4 x102000 x102001 x102002) := ⟨fun k => (solsticelaw18_Heavy.mono_l k).2.2.2 x3 x4 x102000 x102001 x102002, rfl⟩
theorem solsticelaw18_Heavy.isF (a0_0 : ByteArray) (l0_1 : List (S70)) (a0_2 : ByteArray) : IsLim (fun k => solsticelaw18_Heavy.f k a0_0 l0_1 a0_2) (solsticelaw18_Heavy.F a0_0 l0_1 a0_2) := ⟨fun k => solsticelaw18_Heavy.mono a0_0 l0_1 a0_2 k, rfl⟩
theorem solsticelaw18_Heavy.J0_eq (x20 : Bool) (x102000 : ByteArray) (x102001 : List (S70)) (x102002 : ByteArray) : solsticelaw18_Heavy.J0 x20 x102000 x102001 x102002 = if x20 = true then (some true) else (solsticelaw18_Heavy.L0 0 x102000 x102001 x102002) := by
  apply IsLim.step (solsticelaw18_Heavy.isJ0 x20 x102000 x102001 x102002).mono
  case hf =>
    repeat'
      try intro _
      first
      | (with_reducible exact solsticelaw18_Heavy.isL0 _ _ _ _)
      | (with_reducible apply IsLim.ite)
      | (with_reducible apply IsLim.bind)
      | (apply IsLim.cst; intro _; exact rfl)
  case h => intro k; rw [solsticelaw18_Heavy.j0]
theorem solsticelaw18_Heavy.L0_eq (x3 : Int) (x102000 : ByteArray) (x102001 : List (S70)) (x102002 : ByteArray) : solsticelaw18_Heavy.L0 x3 x102000 x102001 x102002 = if x3 < (x102001.length : Int) then (if 0 ≤ x3 then (if (((rd_T70 x102001 x3).f0).size : Int) > 200 then (solsticelaw18_Heavy.J2 x3 true x102000 x102001 x102002) else (solsticelaw18_Heavy.J2 x3 (decide ((((rd_T70 x102001 x3).f1).length : Int) > 20)) x102000 x102001 x102002)) else (none)) else (some false) := by
  apply IsLim.step (solsticelaw18_Heavy.isL0 x3 x102000 x102001 x102002).mono
  case hf =>
    repeat'
      try intro _
      first
      | (with_reducible exact solsticelaw18_Heavy.isJ2 _ _ _ _ _)
      | (with_reducible apply IsLim.ite)
      | (with_reducible apply IsLim.bind)
      | (apply IsLim.cst; intro _; exact rfl)
  case h => intro k; rw [solsticelaw18_Heavy.l0]
theorem solsticelaw18_Heavy.J2_eq (x3 : Int) (x45 : Bool) (x102000 : ByteArray) (x102001 : List (S70)) (x102002 : ByteArray) : solsticelaw18_Heavy.J2 x3 x45 x102000 x102001 x102002 = if x45 = true then (some true) else (solsticelaw18_Heavy.L1 x3 0 x102000 x102001 x102002) := by
  apply IsLim.step (solsticelaw18_Heavy.isJ2 x3 x45 x102000 x102001 x102002).mono
  case hf =>
    repeat'
      try intro _
      first
      | (with_reducible exact solsticelaw18_Heavy.isL1 _ _ _ _ _)
      | (with_reducible apply IsLim.ite)
      | (with_reducible apply IsLim.bind)
      | (apply IsLim.cst; intro _; exact rfl)
  case h => intro k; rw [solsticelaw18_Heavy.j2]
theorem solsticelaw18_Heavy.L1_eq (x3 : Int) (x4 : Int) (x102000 : ByteArray) (x102001 : List (S70)) (x102002 : ByteArray) : solsticelaw18_Heavy.L1 x3 x4 x102000 x102001 x102002 = if 0 ≤ x3 then (if x3 < (x102001.length : Int) then (if x4 < (((rd_T70 x102001 x3).f1).length : Int) then (if 0 ≤ x4 then (if ((rdOf ByteArray.empty ((rd_T70 x102001 x3).f1) x4).size : Int) > 200 then (some true) else (solsticelaw18_Heavy.L1 x3 (wrap64 (x4 + 1)) x102000 x102001 x102002)) else (none)) else (solsticelaw18_Heavy.L0 (wrap64 (x3 + 1)) x102000 x102001 x102002)) else (none)) else (none) := by
  apply IsLim.step (solsticelaw18_Heavy.isL1 x3 x4 x102000 x102001 x102002).mono
  case hf =>
    repeat'
      try intro _
      first
      | (with_reducible exact solsticelaw18_Heavy.isL0 _ _ _ _)
      | (with_reducible exact solsticelaw18_Heavy.isL1 _ _ _ _ _)
      | (with_reducible apply IsLim.ite)
      | (with_reducible apply IsLim.bind)
      | (apply IsLim.cst; intro _; exact rfl)
  case h => intro k; rw [solsticelaw18_Heavy.l1]
theorem solsticelaw18_Heavy.F_eq (a0_0 : ByteArray) (l0_1 : List (S70)) (a0_2 : ByteArray) : solsticelaw18_Heavy.F a0_0 l0_1 a0_2 = if (a0_0.size : Int) > 200 then (solsticelaw18_Heavy.J0 true a0_0 l0_1 a0_2) else (if (a0_2.size : Int) > 500 then (solsticelaw18_Heavy.J0 true a0_0 l0_1 a0_2) else (solsticelaw18_Heavy.J0 (decide ((l0_1.length : Int) > 20)) a0_0 l0_1 a0_2)) := by
  apply IsLim.via
  case hf =>
    repeat'
      try intro _
      first
      | (with_reducible exact solsticelaw18_Heavy.isJ0 _ _ _ _)
      | (with_reducible apply IsLim.ite)
      | (with_reducible apply IsLim.bind)
      | (apply IsLim.cst; intro _; exact rfl)
  case h => exact fun _ => rfl
end Go.Proofs.YtdgeokpbedllaaaDoor.PTre

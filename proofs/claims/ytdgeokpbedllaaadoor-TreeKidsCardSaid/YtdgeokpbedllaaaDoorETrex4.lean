/- Printed functions of the family Tre without a bound on their rounds, and the equation that each meets. No condition. -/
import Derived.Test.YtdgeokpbedllaaaDoorBase
import Derived.Test.YtdgeokpbedllaaaDoorPTrex4
import Derived.Test.YtdgeokpbedllaaaDoorETrex3
namespace Go.Proofs.YtdgeokpbedllaaaDoor.PTre
open Go.RowKit Go.Proofs.YtdgeokpbedllaaaDoorW.PrintWords Go.Proofs.YtdgeokpbedllaaaDoorW.PrintLast Go.Proofs.YtdgeokpbedllaaaDoor.Base
set_option linter.unusedVariables false
noncomputable def r16_Line.J0 (x15 : Bool) (x125000 : ByteArray) (x125001 : List (S70)) (x125002 : ByteArray) : Option (Bool) := lim fun k => r16_Line.j0 k x15 x125000 x125001 x125002
noncomputable def r16_Line.L0 (x3 : Int) (x125000 : ByteArray) (x125001 : List (S70)) (x125002 : ByteArray) : Option (Bool) := lim fun k => r16_Line.l0 k x3 x125000 x125001 x125002
noncomputable def r16_Line.J2 (x3 : Int) (x37 : Bool) (x125000 : ByteArray) (x125001 : List (S70)) (x125002 : ByteArray) (x129000 : ByteArray) (x129001 : List ByteArray) : Option (Bool) := lim fun k => r16_Line.j2 k x3 x37 x125000 x125001 x125002 x129000 x129001
noncomputable def r16_Line.L1 (x3 : Int) (x5 : Int) (x125000 : ByteArray) (x125001 : List (S70)) (x125002 : ByteArray) (x129000 : ByteArray) (x129001 : List ByteArray) : Option (Bool) := lim fun k => r16_Line.l1 k x3 x5 x125000 x125001 x125002 x129000 x129001
noncomputable def r16_Line.F (a0_0 : ByteArray) (l0_1 : List (S70)) (a0_2 : ByteArray) : Option (Bool) := lim fun k => r16_Line.f k a0_0 l0_1 a0_2
theorem r16_Line.isJ0 (x15 : Bool) (x125000 : ByteArray) (x125001 : List (S70)) (x125002 : ByteArray) : IsLim (fun k => r16_Line.j0 k x15 x125000 x125001 x125002) (r16_Line.J0 x15 x125000 x125001 x125002) := ⟨fun k => (r16_Line.mono_l k).1 x15 x125000 x125001 x125002, rfl⟩
theorem r16_Line.isL0 (x3 : Int) (x125000 : ByteArray) (x125001 : List (S70)) (x125002 : ByteArray) : IsLim (fun k => r16_Line.l0 k x3 x125000 x125001 x125002) (r16_Line.L0 x3 x125000 x125001 x125002) := ⟨fun k => (r16_Line.mono_l k).2.1 x3 x125000 x125001 x125002, rfl⟩
theorem r16_Line.isJ2 (x3 : Int) (x37 : Bool) (x125000 : ByteArray) (x125001 : List (S70)) (x125002 : ByteArray) (x129000 : ByteArray) (x129001 : List ByteArray) : IsLim (fun k => r16_Line.j2 k x3 x37 x125000 x125001 x125002 x129000 x129001) (r16_Line.J2 x3 x37 x125000 x125001 x125002 x129000 x129001) := ⟨fun k => (r16_Line.mono_l k).2.2.1 x3 x37 x125000 x125001 x125002 x129000 x129001, rfl⟩
theorem r16_Line.isL1 (x3 : Int) (x5 : Int) (x125000 : ByteArray) (x125001 : List (S70)) (x125002 : ByteArray) (x129000 : ByteArray) (x129001 : List ByteArray) : IsLim (fun k => r16_Line.l1 k x3 x5 x125000 x125001 x125002 x129000 x129001) (r16_Line.L1 x3 x5 x125000 x125001 x125002 x129000 x129001) := ⟨fun k => (r16_Line.mono_l k).2.2.2 x3 x5 x125000 x125001 x125002 x129000 x129001, rfl⟩
theorem r16_Line.isF (a0_0 : ByteArray) (l0_1 : List (S70)) (a0_2 : ByteArray) : IsLim (fun k => r16_Line.f k a0_0 l0_1 a0_2) (r16_Line.F a0_0 l0_1 a0_2) := ⟨fun k => r16_Line.mono a0_0 l0_1 a0_2 k, rfl⟩
theorem r16_Line.J0_eq (x15 : Bool) (x125000 : ByteArray) (x125001 : List (S70)) (x125002 : ByteArray) : r16_Line.J0 x15 x125000 x125001 x125002 = if x15 = true then (some false) else (r16_Line.L0 0 x125000 x125001 x125002) := by
  apply IsLim.step (r16_Line.isJ0 x15 x125000 x125001 x125002).mono
  case hf =>
    repeat'
      try intro _
      first
      | (with_reducible exact r16_Line.isL0 _ _ _ _)
      | (with_reducible apply IsLim.ite)
      | (with_reducible apply IsLim.bind)
      | (apply IsLim.cst; intro _; exact rfl)
  case h => intro k; rw [r16_Line.j0]
theorem r16_Line.L0_eq (x3 : Int) (x125000 : ByteArray) (x125001 : List (S70)) (x125002 : ByteArray) : r16_Line.L0 x3 x125000 x125001 x125002 = if x3 < (x125001.length : Int) then (if 0 ≤ x3 then ((r16_Name.F ((rd_T70 x125001 x3).f0)).bind fun t129 => (if t129 = true then (r16_Line.J2 x3 ((((rd_T70 x125001 x3).f1).length : Int) == 0) x125000 x125001 x125002 ((rd_T70 x125001 x3).f0) ((rd_T70 x125001 x3).f1)) else (r16_Line.J2 x3 true x125000 x125001 x125002 ((rd_T70 x125001 x3).f0) ((rd_T70 x125001 x3).f1)))) else (none)) else (some true) := by
  apply IsLim.step (r16_Line.isL0 x3 x125000 x125001 x125002).mono
  case hf =>
    repeat'
      try intro _
      first
      | (with_reducible exact r16_Line.isJ2 _ _ _ _ _ _ _)
      | (with_reducible exact r16_Name.isF _)
      | (with_reducible apply IsLim.ite)
      | (with_reducible apply IsLim.bind)
      | (apply IsLim.cst; intro _; exact rfl)
  case h => intro k; rw [r16_Line.l0]
theorem r16_Line.J2_eq (x3 : Int) (x37 : Bool) (x125000 : ByteArray) (x125001 : List (S70)) (x125002 : ByteArray) (x129000 : ByteArray) (x129001 : List ByteArray) : r16_Line.J2 x3 x37 x125000 x125001 x125002 x129000 x129001 = if x37 = true then (some false) else (r16_Line.L1 x3 0 x125000 x125001 x125002 x129000 x129001) := by
  apply IsLim.step (r16_Line.isJ2 x3 x37 x125000 x125001 x125002 x129000 x129001).mono
  case hf =>
    repeat'
      try intro _
      first
      | (with_reducible exact r16_Line.isL1 _ _ _ _ _ _ _)
      | (with_reducible apply IsLim.ite)
      | (with_reducible apply IsLim.bind)
      | (apply IsLim.cst; intro _; exact rfl)
  case h => intro k; rw [r16_Line.j2]
theorem r16_Line.L1_eq (x3 : Int) (x5 : Int) (x125000 : ByteArray) (x125001 : List (S70)) (x125002 : ByteArray) (x129000 : ByteArray) (x129001 : List ByteArray) : r16_Line.L1 x3 x5 x125000 x125001 x125002 x129000 x129001 = if x5 < (x129001.length : Int) then (if 0 ≤ x5 then ((r16_clean.F (rdOf ByteArray.empty x129001 x5) true).bind fun t131 => (if t131 = true then (r16_Line.L1 x3 (wrap64 (x5 + 1)) x125000 x125001 x125002 x129000 x129001) else (some false))) else (none)) else (r16_Line.L0 (wrap64 (x3 + 1)) x125000 x125001 x125002) := by
  apply IsLim.step (r16_Line.isL1 x3 x5 x125000 x125001 x125002 x129000 x129001).mono
  case hf =>
    repeat'
      try intro _
      first
      | (with_reducible exact r16_Line.isL0 _ _ _ _)
      | (with_reducible exact r16_Line.isL1 _ _ _ _ _ _ _)
      | (with_reducible exact r16_clean.isF _ _)
      | (with_reducible apply IsLim.ite)
      | (with_reducible apply IsLim.bind)
      | (apply IsLim.cst; intro _; exact rfl)
  case h => intro k; rw [r16_Line.l1]
theorem r16_Line.F_eq (a0_0 : ByteArray) (l0_1 : List (S70)) (a0_2 : ByteArray) : r16_Line.F a0_0 l0_1 a0_2 = (r16_Name.F a0_0).bind fun t125 => (if t125 = true then ((r16_clean.F a0_2 false).bind fun t126 => (r16_Line.J0 (!t126) a0_0 l0_1 a0_2)) else (r16_Line.J0 true a0_0 l0_1 a0_2)) := by
  apply IsLim.via
  case hf =>
    repeat'
      try intro _
      first
      | (with_reducible exact r16_Line.isJ0 _ _ _ _)
      | (with_reducible exact r16_Name.isF _)
      | (with_reducible exact r16_clean.isF _ _)
      | (with_reducible apply IsLim.ite)
      | (with_reducible apply IsLim.bind)
      | (apply IsLim.cst; intro _; exact rfl)
  case h => exact fun _ => rfl
end Go.Proofs.YtdgeokpbedllaaaDoor.PTre

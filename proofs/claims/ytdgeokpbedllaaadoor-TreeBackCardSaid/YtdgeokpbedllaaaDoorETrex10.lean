/- Printed functions of the family Tre without a bound on their rounds, and the equation that each meets. No condition. -/
import Derived.Test.YtdgeokpbedllaaaDoorBase
import Derived.Test.YtdgeokpbedllaaaDoorPTrex10
import Derived.Test.YtdgeokpbedllaaaDoorETrex7
namespace Go.Proofs.YtdgeokpbedllaaaDoor.PTre
open Go.RowKit Go.Proofs.YtdgeokpbedllaaaDoorW.PrintWords Go.Proofs.YtdgeokpbedllaaaDoorW.PrintLast Go.Proofs.YtdgeokpbedllaaaDoor.Base
set_option linter.unusedVariables false
noncomputable def line_until.L0 (x0 : ByteArray) (x1 : ByteArray) (x7 : Int) (x8 : Int) : Option (Int) := lim fun k => line_until.l0 k x0 x1 x7 x8
noncomputable def line_until.F (a0 : ByteArray) (a1 : ByteArray) : Option (Int) := lim fun k => line_until.f k a0 a1
theorem line_until.isL0 (x0 : ByteArray) (x1 : ByteArray) (x7 : Int) (x8 : Int) : IsLim (fun k => line_until.l0 k x0 x1 x7 x8) (line_until.L0 x0 x1 x7 x8) := ⟨fun k => (line_until.mono_l k) x0 x1 x7 x8, rfl⟩
theorem line_until.isF (a0 : ByteArray) (a1 : ByteArray) : IsLim (fun k => line_until.f k a0 a1) (line_until.F a0 a1) := ⟨fun k => line_until.mono a0 a1 k, rfl⟩
theorem line_until.L0_eq (x0 : ByteArray) (x1 : ByteArray) (x7 : Int) (x8 : Int) : line_until.L0 x0 x1 x7 x8 = if x8 < x7 then (if 0 ≤ x8 then (if x8 < (x0.size : Int) then ((strings_IndexByte.f x1 (bt x0 x8)).bind fun t202 => (if t202 ≥ 0 then (some x8) else (line_until.L0 x0 x1 x7 (wrap64 (x8 + 1))))) else (none)) else (none)) else (some (x0.size : Int)) := by
  apply IsLim.step (line_until.isL0 x0 x1 x7 x8).mono
  case hf =>
    repeat'
      try intro _
      first
      | (with_reducible exact line_until.isL0 _ _ _ _)
      | (with_reducible apply IsLim.ite)
      | (with_reducible apply IsLim.bind)
      | (apply IsLim.cst; intro _; exact rfl)
  case h => intro k; rw [line_until.l0]
theorem line_until.F_eq (a0 : ByteArray) (a1 : ByteArray) : line_until.F a0 a1 = line_until.L0 a0 a1 (a0.size : Int) 0 := by
  apply IsLim.via
  case hf =>
    repeat'
      try intro _
      first
      | (with_reducible exact line_until.isL0 _ _ _ _)
      | (with_reducible apply IsLim.ite)
      | (with_reducible apply IsLim.bind)
      | (apply IsLim.cst; intro _; exact rfl)
  case h => exact fun _ => rfl
noncomputable def line_Text.L0 (x5 : ByteArray) (x19 : List (S70)) (x20 : Int) (x21 : Int) (x204000 : ByteArray) (x204001 : List (S70)) (x204002 : ByteArray) : Option (ByteArray × Int) := lim fun k => line_Text.l0 k x5 x19 x20 x21 x204000 x204001 x204002
noncomputable def line_Text.L1 (x5 : ByteArray) (x8 : List ByteArray) (x19 : List (S70)) (x20 : Int) (x21 : Int) (x26 : List ByteArray) (x27 : Int) (x28 : Int) (x204000 : ByteArray) (x204001 : List (S70)) (x204002 : ByteArray) (x207000 : ByteArray) (x207001 : List ByteArray) : Option (ByteArray × Int) := lim fun k => line_Text.l1 k x5 x8 x19 x20 x21 x26 x27 x28 x204000 x204001 x204002 x207000 x207001
noncomputable def line_Text.F (a0_0 : ByteArray) (l0_1 : List (S70)) (a0_2 : ByteArray) : Option (ByteArray × Int) := lim fun k => line_Text.f k a0_0 l0_1 a0_2
theorem line_Text.isL0 (x5 : ByteArray) (x19 : List (S70)) (x20 : Int) (x21 : Int) (x204000 : ByteArray) (x204001 : List (S70)) (x204002 : ByteArray) : IsLim (fun k => line_Text.l0 k x5 x19 x20 x21 x204000 x204001 x204002) (line_Text.L0 x5 x19 x20 x21 x204000 x204001 x204002) := ⟨fun k => (line_Text.mono_l k).1 x5 x19 x20 x21 x204000 x204001 x204002, rfl⟩
theorem line_Text.isL1 (x5 : ByteArray) (x8 : List ByteArray) (x19 : List (S70)) (x20 : Int) (x21 : Int) (x26 : List ByteArray) (x27 : Int) (x28 : Int) (x204000 : ByteArray) (x204001 : List (S70)) (x204002 : ByteArray) (x207000 : ByteArray) (x207001 : List ByteArray) : IsLim (fun k => line_Text.l1 k x5 x8 x19 x20 x21 x26 x27 x28 x204000 x204001 x204002 x207000 x207001) (line_Text.L1 x5 x8 x19 x20 x21 x26 x27 x28 x204000 x204001 x204002 x207000 x207001) := ⟨fun k => (line_Text.mono_l k).2 x5 x8 x19 x20 x21 x26 x27 x28 x204000 x204001 x204002 x207000 x207001, rfl⟩
theorem line_Text.isF (a0_0 : ByteArray) (l0_1 : List (S70)) (a0_2 : ByteArray) : IsLim (fun k => line_Text.f k a0_0 l0_1 a0_2) (line_Text.F a0_0 l0_1 a0_2) := ⟨fun k => line_Text.mono a0_0 l0_1 a0_2 k, rfl⟩
theorem line_Text.L0_eq (x5 : ByteArray) (x19 : List (S70)) (x20 : Int) (x21 : Int) (x204000 : ByteArray) (x204001 : List (S70)) (x204002 : ByteArray) : line_Text.L0 x5 x19 x20 x21 x204000 x204001 x204002 = if x21 < x20 then (if 0 ≤ x21 then (if x21 < (x19.length : Int) then (line_Text.L1 x5 ([] : List ByteArray) x19 x20 x21 ((rd_T70 x19 x21).f1) (((rd_T70 x19 x21).f1).length : Int) 0 x204000 x204001 x204002 ((rd_T70 x19 x21).f0) ((rd_T70 x19 x21).f1)) else (none)) else (none)) else (if x5.size + 1 ≤ 9223372036854775807 then (if (x5 ++ (⟨#[58]⟩ : ByteArray)).size + x204002.size ≤ 9223372036854775807 then (some ((x5 ++ (⟨#[58]⟩ : ByteArray)) ++ x204002, 0)) else (none)) else (none)) := by
  apply IsLim.step (line_Text.isL0 x5 x19 x20 x21 x204000 x204001 x204002).mono
  case hf =>
    repeat'
      try intro _
      first
      | (with_reducible exact line_Text.isL1 _ _ _ _ _ _ _ _ _ _ _ _ _)
      | (with_reducible apply IsLim.ite)
      | (with_reducible apply IsLim.bind)
      | (apply IsLim.cst; intro _; exact rfl)
  case h => intro k; rw [line_Text.l0]
theorem line_Text.L1_eq (x5 : ByteArray) (x8 : List ByteArray) (x19 : List (S70)) (x20 : Int) (x21 : Int) (x26 : List ByteArray) (x27 : Int) (x28 : Int) (x204000 : ByteArray) (x204001 : List (S70)) (x204002 : ByteArray) (x207000 : ByteArray) (x207001 : List ByteArray) : line_Text.L1 x5 x8 x19 x20 x21 x26 x27 x28 x204000 x204001 x204002 x207000 x207001 = if x28 < x27 then (if 0 ≤ x28 then (if x28 < (x26.length : Int) then ((line_until.F (rdOf ByteArray.empty x26 x28) (⟨#[58, 59, 44]⟩ : ByteArray)).bind fun t208 => (if t208 < ((rdOf ByteArray.empty x26 x28).size : Int) then (if 1 + (rdOf ByteArray.empty x26 x28).size ≤ 9223372036854775807 then (if ((⟨#[34]⟩ : ByteArray) ++ (rdOf ByteArray.empty x26 x28)).size + 1 ≤ 9223372036854775807 then (if x8.length < 8796093022208 then (line_Text.L1 x5 (x8 ++ [((⟨#[34]⟩ : ByteArray) ++ (rdOf ByteArray.empty x26 x28)) ++ (⟨#[34]⟩ : ByteArray)]) x19 x20 x21 x26 x27 (wrap64 (x28 + 1)) x204000 x204001 x204002 x207000 x207001) else (none)) else (none)) else (none)) else (if x8.length < 8796093022208 then (line_Text.L1 x5 (x8 ++ [rdOf ByteArray.empty x26 x28]) x19 x20 x21 x26 x27 (wrap64 (x28 + 1)) x204000 x204001 x204002 x207000 x207001) else (none)))) else (none)) else (none)) else (if 1 + x207000.size ≤ 9223372036854775807 then (if ((⟨#[59]⟩ : ByteArray) ++ x207000).size + 1 ≤ 9223372036854775807 then ((strings_Join.f x8 (⟨#[44]⟩ : ByteArray)).bind fun t215 => (if (((⟨#[59]⟩ : ByteArray) ++ x207000) ++ (⟨#[61]⟩ : ByteArray)).size + t215.size ≤ 9223372036854775807 then (if x5.size + ((((⟨#[59]⟩ : ByteArray) ++ x207000) ++ (⟨#[61]⟩ : ByteArray)) ++ t215).size ≤ 9223372036854775807 then (line_Text.L0 (x5 ++ ((((⟨#[59]⟩ : ByteArray) ++ x207000) ++ (⟨#[61]⟩ : ByteArray)) ++ t215)) x19 x20 (wrap64 (x21 + 1)) x204000 x204001 x204002) else (none)) else (none))) else (none)) else (none)) := by
  apply IsLim.step (line_Text.isL1 x5 x8 x19 x20 x21 x26 x27 x28 x204000 x204001 x204002 x207000 x207001).mono
  case hf =>
    repeat'
      try intro _
      first
      | (with_reducible exact line_Text.isL0 _ _ _ _ _ _ _)
      | (with_reducible exact line_Text.isL1 _ _ _ _ _ _ _ _ _ _ _ _ _)
      | (with_reducible exact line_until.isF _ _)
      | (with_reducible apply IsLim.ite)
      | (with_reducible apply IsLim.bind)
      | (apply IsLim.cst; intro _; exact rfl)
  case h => intro k; rw [line_Text.l1]
theorem line_Text.F_eq (a0_0 : ByteArray) (l0_1 : List (S70)) (a0_2 : ByteArray) : line_Text.F a0_0 l0_1 a0_2 = (line_Check.F a0_0 l0_1 a0_2).bind fun t204 => (if t204 = 0 then (line_Text.L0 a0_0 l0_1 (l0_1.length : Int) 0 a0_0 l0_1 a0_2) else (some ((⟨#[]⟩ : ByteArray), t204))) := by
  apply IsLim.via
  case hf =>
    repeat'
      try intro _
      first
      | (with_reducible exact line_Check.isF _ _ _)
      | (with_reducible exact line_Text.isL0 _ _ _ _ _ _ _)
      | (with_reducible apply IsLim.ite)
      | (with_reducible apply IsLim.bind)
      | (apply IsLim.cst; intro _; exact rfl)
  case h => exact fun _ => rfl
end Go.Proofs.YtdgeokpbedllaaaDoor.PTre

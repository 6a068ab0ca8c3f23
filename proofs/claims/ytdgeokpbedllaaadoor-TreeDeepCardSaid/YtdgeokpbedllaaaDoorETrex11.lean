/- Printed functions of the family Tre without a bound on their rounds, and the equation that each meets. No condition. -/
import Derived.Test.YtdgeokpbedllaaaDoorBase
import Derived.Test.YtdgeokpbedllaaaDoorPTrex11
import Derived.Test.YtdgeokpbedllaaaDoorETrex2
import Derived.Test.YtdgeokpbedllaaaDoorETrex5
namespace Go.Proofs.YtdgeokpbedllaaaDoor.PTre
open Go.RowKit Go.Proofs.YtdgeokpbedllaaaDoorW.PrintWords Go.Proofs.YtdgeokpbedllaaaDoorW.PrintLast Go.Proofs.YtdgeokpbedllaaaDoor.Base
set_option linter.unusedVariables false
noncomputable def line_Text.L0 (x5 : ByteArray) (x19 : List (S70)) (x20 : Int) (x21 : Int) (x239000 : ByteArray) (x239001 : List (S70)) (x239002 : ByteArray) : Option (ByteArray × Int) := lim fun k => line_Text.l0 k x5 x19 x20 x21 x239000 x239001 x239002
noncomputable def line_Text.L1 (x5 : ByteArray) (x8 : List ByteArray) (x19 : List (S70)) (x20 : Int) (x21 : Int) (x26 : List ByteArray) (x27 : Int) (x28 : Int) (x239000 : ByteArray) (x239001 : List (S70)) (x239002 : ByteArray) (x242000 : ByteArray) (x242001 : List ByteArray) : Option (ByteArray × Int) := lim fun k => line_Text.l1 k x5 x8 x19 x20 x21 x26 x27 x28 x239000 x239001 x239002 x242000 x242001
noncomputable def line_Text.F (a0_0 : ByteArray) (l0_1 : List (S70)) (a0_2 : ByteArray) : Option (ByteArray × Int) := lim fun k => line_Text.f k a0_0 l0_1 a0_2
theorem line_Text.isL0 (x5 : ByteArray) (x19 : List (S70)) (x20 : Int) (x21 : Int) (x239000 : ByteArray) (x239001 : List (S70)) (x239002 : ByteArray) : IsLim (fun k => line_Text.l0 k x5 x19 x20 x21 x239000 x239001 x239002) (line_Text.L0 x5 x19 x20 x21 x239000 x239001 x239002) := ⟨fun k => (line_Text.mono_l k).1 x5 x19 x20 x21 x239000 x239001 x239002, rfl⟩
theorem line_Text.isL1 (x5 : ByteArray) (x8 : List ByteArray) (x19 : List (S70)) (x20 : Int) (x21 : Int) (x26 : List ByteArray) (x27 : Int) (x28 : Int) (x239000 : ByteArray) (x239001 : List (S70)) (x239002 : ByteArray) (x242000 : ByteArray) (x242001 : List ByteArray) : IsLim (fun k => line_Text.l1 k x5 x8 x19 x20 x21 x26 x27 x28 x239000 x239001 x239002 x242000 x242001) (line_Text.L1 x5 x8 x19 x20 x21 x26 x27 x28 x239000 x239001 x239002 x242000 x242001) := ⟨fun k => (line_Text.mono_l k).2 x5 x8 x19 x20 x21 x26 x27 x28 x239000 x239001 x239002 x242000 x242001, rfl⟩
theorem line_Text.isF (a0_0 : ByteArray) (l0_1 : List (S70)) (a0_2 : ByteArray) : IsLim (fun k => line_Text.f k a0_0 l0_1 a0_2) (line_Text.F a0_0 l0_1 a0_2) := ⟨fun k => line_Text.mono a0_0 l0_1 a0_2 k, rfl⟩
theorem line_Text.L0_eq (x5 : ByteArray) (x19 : List (S70)) (x20 : Int) (x21 : Int) (x239000 : ByteArray) (x239001 : List (S70)) (x239002 : ByteArray) : line_Text.L0 x5 x19 x20 x21 x239000 x239001 x239002 = if x21 < x20 then (if 0 ≤ x21 then (if x21 < (x19.length : Int) then (line_Text.L1 x5 ([] : List ByteArray) x19 x20 x21 ((rd_T70 x19 x21).f1) (((rd_T70 x19 x21).f1).length : Int) 0 x239000 x239001 x239002 ((rd_T70 x19 x21).f0) ((rd_T70 x19 x21).f1)) else (none)) else (none)) else (if x5.size + 1 ≤ 9223372036854775807 then (if (x5 ++ (⟨#[58]⟩ : ByteArray)).size + x239002.size ≤ 9223372036854775807 then (some ((x5 ++ (⟨#[58]⟩ : ByteArray)) ++ x239002, 0)) else (none)) else (none)) := by
  apply IsLim.step (line_Text.isL0 x5 x19 x20 x21 x239000 x239001 x239002).mono
  case hf =>
    repeat'
      try intro _
      first
      | (with_reducible exact line_Text.isL1 _ _ _ _ _ _ _ _ _ _ _ _ _)
      | (with_reducible apply IsLim.ite)
      | (with_reducible apply IsLim.bind)
      | (apply IsLim.cst; intro _; exact rfl)
  case h => intro k; rw [line_Text.l0]
theorem line_Text.L1_eq (x5 : ByteArray) (x8 : List ByteArray) (x19 : List (S70)) (x20 : Int) (x21 : Int) (x26 : List ByteArray) (x27 : Int) (x28 : Int) (x239000 : ByteArray) (x239001 : List (S70)) (x239002 : ByteArray) (x242000 : ByteArray) (x242001 : List ByteArray) : line_Text.L1 x5 x8 x19 x20 x21 x26 x27 x28 x239000 x239001 x239002 x242000 x242001 = if x28 < x27 then (if 0 ≤ x28 then (if x28 < (x26.length : Int) then ((line_until.F (rdOf ByteArray.empty x26 x28) (⟨#[58, 59, 44]⟩ : ByteArray)).bind fun t243 => (if t243 < ((rdOf ByteArray.empty x26 x28).size : Int) then (if 1 + (rdOf ByteArray.empty x26 x28).size ≤ 9223372036854775807 then (if ((⟨#[34]⟩ : ByteArray) ++ (rdOf ByteArray.empty x26 x28)).size + 1 ≤ 9223372036854775807 then (if x8.length < 8796093022208 then (line_Text.L1 x5 (x8 ++ [((⟨#[34]⟩ : ByteArray) ++ (rdOf ByteArray.empty x26 x28)) ++ (⟨#[34]⟩ : ByteArray)]) x19 x20 x21 x26 x27 (wrap64 (x28 + 1)) x239000 x239001 x239002 x242000 x242001) else (none)) else (none)) else (none)) else (if x8.length < 8796093022208 then (line_Text.L1 x5 (x8 ++ [rdOf ByteArray.empty x26 x28]) x19 x20 x21 x26 x27 (wrap64 (x28 + 1)) x239000 x239001 x239002 x242000 x242001) else (none)))) else (none)) else (none)) else (if 1 + x242000.size ≤ 9223372036854775807 then (if ((⟨#[59]⟩ : ByteArray) ++ x242000).size + 1 ≤ 9223372036854775807 then ((strings_Join.f x8 (⟨#[44]⟩ : ByteArray)).bind fun t250 => (if (((⟨#[59]⟩ : ByteArray) ++ x242000) ++ (⟨#[61]⟩ : ByteArray)).size + t250.size ≤ 9223372036854775807 then (if x5.size + ((((⟨#[59]⟩ : ByteArray) ++ x242000) ++ (⟨#[61]⟩ : ByteArray)) ++ t250).size ≤ 9223372036854775807 then (line_Text.L0 (x5 ++ ((((⟨#[59]⟩ : ByteArray) ++ x242000) ++ (⟨#[61]⟩ : ByteArray)) ++ t250)) x19 x20 (wrap64 (x21 + 1)) x239000 x239001 x239002) else (none)) else (none))) else (none)) else (none)) := by
  apply IsLim.step (line_Text.isL1 x5 x8 x19 x20 x21 x26 x27 x28 x239000 x239001 x239002 x242000 x242001).mono
  case hf =>
    repeat'
      try intro _
      first
      | (with_reducible exact line_Text.isL0 _ _ _ _ _ _ _)
      | (with_reducible exact line_Text.isL1 _ _ _ _ _ _ _ _ _ _ _ _ _)
      | (with_reducible exact line_until.isF _ _)
      | (with_reducible apply IsLim.ite)
      | (with_reducible apply IsLim.bind)
      | (apply IsLim.cst; intro _; exact rfl)
  case h => intro k; rw [line_Text.l1]
theorem line_Text.F_eq (a0_0 : ByteArray) (l0_1 : List (S70)) (a0_2 : ByteArray) : line_Text.F a0_0 l0_1 a0_2 = (line_Check.F a0_0 l0_1 a0_2).bind fun t239 => (if t239 = 0 then (line_Text.L0 a0_0 l0_1 (l0_1.length : Int) 0 a0_0 l0_1 a0_2) else (some ((⟨#[]⟩ : ByteArray), t239))) := by
  apply IsLim.via
  case hf =>
    repeat'
      try intro _
      first
      | (with_reducible exact line_Check.isF _ _ _)
      | (with_reducible exact line_Text.isL0 _ _ _ _ _ _ _)
      | (with_reducible apply IsLim.ite)
      | (with_reducible apply IsLim.bind)
      | (apply IsLim.cst; intro _; exact rfl)
  case h => exact fun _ => rfl
noncomputable def fold_cut.L0 (x0 : ByteArray) (x1 : Int) (x2 : Int) (x7 : Int) (x8 : Int) : Option (Int) := lim fun k => fold_cut.l0 k x0 x1 x2 x7 x8
noncomputable def fold_cut.F (a0 : ByteArray) (a1 : Int) (a2 : Int) : Option (Int) := lim fun k => fold_cut.f k a0 a1 a2
theorem fold_cut.isL0 (x0 : ByteArray) (x1 : Int) (x2 : Int) (x7 : Int) (x8 : Int) : IsLim (fun k => fold_cut.l0 k x0 x1 x2 x7 x8) (fold_cut.L0 x0 x1 x2 x7 x8) := ⟨fun k => (fold_cut.mono_l k) x0 x1 x2 x7 x8, rfl⟩
theorem fold_cut.isF (a0 : ByteArray) (a1 : Int) (a2 : Int) : IsLim (fun k => fold_cut.f k a0 a1 a2) (fold_cut.F a0 a1 a2) := ⟨fun k => fold_cut.mono a0 a1 a2 k, rfl⟩
theorem fold_cut.L0_eq (x0 : ByteArray) (x1 : Int) (x2 : Int) (x7 : Int) (x8 : Int) : fold_cut.L0 x0 x1 x2 x7 x8 = if x8 > x1 then (if 0 ≤ x8 then (if x8 < (x0.size : Int) then ((fold_on.f (bt x0 x8)).bind fun t252 => (if t252 = true then (if (wrap64 (x7 - x8)) ≤ 3 then (fold_cut.L0 x0 x1 x2 x7 (wrap64 (x8 - 1))) else ((fold_on.f (bt x0 x8)).bind fun t253 => (if t253 = true then (some x2) else (if (wrap64 (x7 - x8)) > 3 then (some x2) else (some (wrap64 (x8 - x1))))))) else ((fold_on.f (bt x0 x8)).bind fun t254 => (if t254 = true then (some x2) else (if (wrap64 (x7 - x8)) > 3 then (some x2) else (some (wrap64 (x8 - x1)))))))) else (none)) else (none)) else (if 0 ≤ x8 then (if x8 < (x0.size : Int) then ((fold_on.f (bt x0 x8)).bind fun t255 => (if t255 = true then (some x2) else (if (wrap64 (x7 - x8)) > 3 then (some x2) else (some (wrap64 (x8 - x1)))))) else (none)) else (none)) := by
  apply IsLim.step (fold_cut.isL0 x0 x1 x2 x7 x8).mono
  case hf =>
    repeat'
      try intro _
      first
      | (with_reducible exact fold_cut.isL0 _ _ _ _ _)
      | (with_reducible apply IsLim.ite)
      | (with_reducible apply IsLim.bind)
      | (apply IsLim.cst; intro _; exact rfl)
  case h => intro k; rw [fold_cut.l0]
theorem fold_cut.F_eq (a0 : ByteArray) (a1 : Int) (a2 : Int) : fold_cut.F a0 a1 a2 = if (wrap64 ((a0.size : Int) - a1)) ≤ a2 then (some (wrap64 ((a0.size : Int) - a1))) else (if 0 ≤ (wrap64 (a1 + a2)) then (if (wrap64 (a1 + a2)) < (a0.size : Int) then ((fold_on.f (bt a0 (wrap64 (a1 + a2)))).bind fun t251 => (if t251 = true then (fold_cut.L0 a0 a1 a2 (wrap64 (a1 + a2)) (wrap64 (a1 + a2))) else (some a2))) else (none)) else (none)) := by
  apply IsLim.via
  case hf =>
    repeat'
      try intro _
      first
      | (with_reducible exact fold_cut.isL0 _ _ _ _ _)
      | (with_reducible apply IsLim.ite)
      | (with_reducible apply IsLim.bind)
      | (apply IsLim.cst; intro _; exact rfl)
  case h => exact fun _ => rfl
end Go.Proofs.YtdgeokpbedllaaaDoor.PTre

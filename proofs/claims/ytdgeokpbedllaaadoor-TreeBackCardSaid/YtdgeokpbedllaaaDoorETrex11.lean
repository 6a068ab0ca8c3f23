/- Printed functions of the family Tre without a bound on their rounds, and the equation that each meets. No condition. -/
import Derived.Test.YtdgeokpbedllaaaDoorBase
import Derived.Test.YtdgeokpbedllaaaDoorPTrex11
namespace Go.Proofs.YtdgeokpbedllaaaDoor.PTre
open Go.RowKit Go.Proofs.YtdgeokpbedllaaaDoorW.PrintWords Go.Proofs.YtdgeokpbedllaaaDoorW.PrintLast Go.Proofs.YtdgeokpbedllaaaDoor.Base
set_option linter.unusedVariables false
noncomputable def fold_cut.L0 (x0 : ByteArray) (x1 : Int) (x2 : Int) (x7 : Int) (x8 : Int) : Option (Int) := lim fun k => fold_cut.l0 k x0 x1 x2 x7 x8
noncomputable def fold_cut.F (a0 : ByteArray) (a1 : Int) (a2 : Int) : Option (Int) := lim fun k => fold_cut.f k a0 a1 a2
theorem fold_cut.isL0 (x0 : ByteArray) (x1 : Int) (x2 : Int) (x7 : Int) (x8 : Int) : IsLim (fun k => fold_cut.l0 k x0 x1 x2 x7 x8) (fold_cut.L0 x0 x1 x2 x7 x8) := ⟨fun k => (fold_cut.mono_l k) x0 x1 x2 x7 x8, rfl⟩
theorem fold_cut.isF (a0 : ByteArray) (a1 : Int) (a2 : Int) : IsLim (fun k => fold_cut.f k a0 a1 a2) (fold_cut.F a0 a1 a2) := ⟨fun k => fold_cut.mono a0 a1 a2 k, rfl⟩
theorem fold_cut.L0_eq (x0 : ByteArray) (x1 : Int) (x2 : Int) (x7 : Int) (x8 : Int) : fold_cut.L0 x0 x1 x2 x7 x8 = if x8 > x1 then (if 0 ≤ x8 then (if x8 < (x0.size : Int) then ((fold_on.f (bt x0 x8)).bind fun t217 => (if t217 = true then (if (wrap64 (x7 - x8)) ≤ 3 then (fold_cut.L0 x0 x1 x2 x7 (wrap64 (x8 - 1))) else ((fold_on.f (bt x0 x8)).bind fun t218 => (if t218 = true then (some x2) else (if (wrap64 (x7 - x8)) > 3 then (some x2) else (some (wrap64 (x8 - x1))))))) else ((fold_on.f (bt x0 x8)).bind fun t219 => (if t219 = true then (some x2) else (if (wrap64 (x7 - x8)) > 3 then (some x2) else (some (wrap64 (x8 - x1)))))))) else (none)) else (none)) else (if 0 ≤ x8 then (if x8 < (x0.size : Int) then ((fold_on.f (bt x0 x8)).bind fun t220 => (if t220 = true then (some x2) else (if (wrap64 (x7 - x8)) > 3 then (some x2) else (some (wrap64 (x8 - x1)))))) else (none)) else (none)) := by
  apply IsLim.step (fold_cut.isL0 x0 x1 x2 x7 x8).mono
  case hf =>
    repeat'
      try intro _
      first
      | (with_reducible exact fold_cut.isL0 _ _ _ _ _)
      | (with_reducible apply IsLim.ite)
      | (with_reducible apply IsLim.bind)
      | (apply IsLim.cst; intro _; exact rfl)
  case h => intro k; rw [fold_cut.l0]
theorem fold_cut.F_eq (a0 : ByteArray) (a1 : Int) (a2 : Int) : fold_cut.F a0 a1 a2 = if (wrap64 ((a0.size : Int) - a1)) ≤ a2 then (some (wrap64 ((a0.size : Int) - a1))) else (if 0 ≤ (wrap64 (a1 + a2)) then (if (wrap64 (a1 + a2)) < (a0.size : Int) then ((fold_on.f (bt a0 (wrap64 (a1 + a2)))).bind fun t216 => (if t216 = true then (fold_cut.L0 a0 a1 a2 (wrap64 (a1 + a2)) (wrap64 (a1 + a2))) else (some a2))) else (none)) else (none)) := by
  apply IsLim.via
  case hf =>
    repeat'
      try intro _
      first
      | (with_reducible exact fold_cut.isL0 _ _ _ _ _)
      | (with_reducible apply IsLim.ite)
      | (with_reducible apply IsLim.bind)
      | (apply IsLim.cst; intro _; exact rfl)
  case h => exact fun _ => rfl
noncomputable def fold_Line.L0 (x0 : ByteArray) (x4 : List ByteArray) (x5 : Int) (x6 : Int) : Option (ByteArray × Int) := lim fun k => fold_Line.l0 k x0 x4 x5 x6
noncomputable def fold_Line.F (a0 : ByteArray) : Option (ByteArray × Int) := lim fun k => fold_Line.f k a0
theorem fold_Line.isL0 (x0 : ByteArray) (x4 : List ByteArray) (x5 : Int) (x6 : Int) : IsLim (fun k => fold_Line.l0 k x0 x4 x5 x6) (fold_Line.L0 x0 x4 x5 x6) := ⟨fun k => (fold_Line.mono_l k) x0 x4 x5 x6, rfl⟩
theorem fold_Line.isF (a0 : ByteArray) : IsLim (fun k => fold_Line.f k a0) (fold_Line.F a0) := ⟨fun k => fold_Line.mono a0 k, rfl⟩
theorem fold_Line.L0_eq (x0 : ByteArray) (x4 : List ByteArray) (x5 : Int) (x6 : Int) : fold_Line.L0 x0 x4 x5 x6 = (fold_cut.F x0 x5 x6).bind fun t223 => (if 0 ≤ x5 then (if x5 ≤ (wrap64 (x5 + t223)) then (if (wrap64 (x5 + t223)) ≤ (x0.size : Int) then (if x4.length < 8796093022208 then ((some (x4 ++ [x0.extract (x5 : Int).toNat ((wrap64 (x5 + t223)) : Int).toNat] : List ByteArray)).bind fun y224 => (if (wrap64 (x5 + t223)) ≥ (x0.size : Int) then ((strings_Join.f y224 (⟨#[13, 10, 32]⟩ : ByteArray)).bind fun t227 => (if t227.size + 2 ≤ 9223372036854775807 then (some (t227 ++ (⟨#[13, 10]⟩ : ByteArray), 0)) else (none))) else (fold_Line.L0 x0 y224 (wrap64 (x5 + t223)) 74))) else (none)) else (none)) else (none)) else (none)) := by
  apply IsLim.step (fold_Line.isL0 x0 x4 x5 x6).mono
  case hf =>
    repeat'
      try intro _
      first
      | (with_reducible exact fold_Line.isL0 _ _ _ _)
      | (with_reducible exact fold_cut.isF _ _ _)
      | (with_reducible apply IsLim.ite)
      | (with_reducible apply IsLim.bind)
      | (apply IsLim.cst; intro _; exact rfl)
  case h => intro k; rw [fold_Line.l0]
theorem fold_Line.F_eq (a0 : ByteArray) : fold_Line.F a0 = if (a0.size : Int) > 60000 then (some ((⟨#[]⟩ : ByteArray), 2)) else ((strings_IndexByte.f a0 10).bind fun t221 => (if t221 ≥ 0 then (some ((⟨#[]⟩ : ByteArray), 18)) else ((strings_IndexByte.f a0 13).bind fun t222 => (if t222 ≥ 0 then (some ((⟨#[]⟩ : ByteArray), 18)) else (fold_Line.L0 a0 ([] : List ByteArray) 0 75))))) := by
  apply IsLim.via
  case hf =>
    repeat'
      try intro _
      first
      | (with_reducible exact fold_Line.isL0 _ _ _ _)
      | (with_reducible apply IsLim.ite)
      | (with_reducible apply IsLim.bind)
      | (apply IsLim.cst; intro _; exact rfl)
  case h => exact fun _ => rfl
end Go.Proofs.YtdgeokpbedllaaaDoor.PTre

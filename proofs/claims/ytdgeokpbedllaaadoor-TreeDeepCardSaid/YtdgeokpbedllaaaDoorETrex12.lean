/- Printed functions of the family Tre without a bound on their rounds, and the equation that each meets. No condition. -/
import Derived.Test.YtdgeokpbedllaaaDoorBase
import Derived.Test.YtdgeokpbedllaaaDoorPTrex12
import Derived.Test.YtdgeokpbedllaaaDoorETrex11
namespace Go.Proofs.YtdgeokpbedllaaaDoor.PTre
open Go.RowKit Go.Proofs.YtdgeokpbedllaaaDoorW.PrintWords Go.Proofs.YtdgeokpbedllaaaDoorW.PrintLast Go.Proofs.YtdgeokpbedllaaaDoor.Base
set_option linter.unusedVariables false
noncomputable def fold_Line.L0 (x0 : ByteArray) (x4 : List ByteArray) (x5 : Int) (x6 : Int) : Option (ByteArray × Int) := lim fun k => fold_Line.l0 k x0 x4 x5 x6
noncomputable def fold_Line.F (a0 : ByteArray) : Option (ByteArray × Int) := lim fun k => fold_Line.f k a0
theorem fold_Line.isL0 (x0 : ByteArray) (x4 : List ByteArray) (x5 : Int) (x6 : Int) : IsLim (fun k => fold_Line.l0 k x0 x4 x5 x6) (fold_Line.L0 x0 x4 x5 x6) := ⟨fun k => (fold_Line.mono_l k) x0 x4 x5 x6, rfl⟩
theorem fold_Line.isF (a0 : ByteArray) : IsLim (fun k => fold_Line.f k a0) (fold_Line.F a0) := ⟨fun k => fold_Line.mono a0 k, rfl⟩
theorem fold_Line.L0_eq (x0 : ByteArray) (x4 : List ByteArray) (x5 : Int) (x6 : Int) : fold_Line.L0 x0 x4 x5 x6 = (fold_cut.F x0 x5 x6).bind fun t258 => (if 0 ≤ x5 then (if x5 ≤ (wrap64 (x5 + t258)) then (if (wrap64 (x5 + t258)) ≤ (x0.size : Int) then (if x4.length < 8796093022208 then ((some (x4 ++ [x0.extract (x5 : Int).toNat ((wrap64 (x5 + t258)) : Int).toNat] : List ByteArray)).bind fun y259 => (if (wrap64 (x5 + t258)) ≥ (x0.size : Int) then ((strings_Join.f y259 (⟨#[13, 10, 32]⟩ : ByteArray)).bind fun t262 => (if t262.size + 2 ≤ 9223372036854775807 then (some (t262 ++ (⟨#[13, 10]⟩ : ByteArray), 0)) else (none))) else (fold_Line.L0 x0 y259 (wrap64 (x5 + t258)) 74))) else (none)) else (none)) else (none)) else (none)) := by
  apply IsLim.step (fold_Line.isL0 x0 x4 x5 x6).mono
  case hf =>
    repeat'
      try intro _
      first
      | (with_reducible exact fold_Line.isL0 _ _ _ _)
      | (with_reducible exact fold_cut.isF _ _ _)
      | (with_reducible apply IsLim.ite)
      | (with_reducible apply IsLim.bind)
      | (apply IsLim.cst; intro _; exact rfl)
  case h => intro k; rw [fold_Line.l0]
theorem fold_Line.F_eq (a0 : ByteArray) : fold_Line.F a0 = if (a0.size : Int) > 60000 then (some ((⟨#[]⟩ : ByteArray), 2)) else ((strings_IndexByte.f a0 10).bind fun t256 => (if t256 ≥ 0 then (some ((⟨#[]⟩ : ByteArray), 18)) else ((strings_IndexByte.f a0 13).bind fun t257 => (if t257 ≥ 0 then (some ((⟨#[]⟩ : ByteArray), 18)) else (fold_Line.L0 a0 ([] : List ByteArray) 0 75))))) := by
  apply IsLim.via
  case hf =>
    repeat'
      try intro _
      first
      | (with_reducible exact fold_Line.isL0 _ _ _ _)
      | (with_reducible apply IsLim.ite)
      | (with_reducible apply IsLim.bind)
      | (apply IsLim.cst; intro _; exact rfl)
  case h => exact fun _ => rfl
end Go.Proofs.YtdgeokpbedllaaaDoor.PTre

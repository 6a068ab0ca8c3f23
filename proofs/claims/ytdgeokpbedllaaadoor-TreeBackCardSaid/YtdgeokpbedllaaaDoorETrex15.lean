/- Printed functions of the family Tre without a bound on their rounds, and the equation that each meets. No condition. -/
import Derived.Test.YtdgeokpbedllaaaDoorBase
import Derived.Test.YtdgeokpbedllaaaDoorPTrex15
import Derived.Test.YtdgeokpbedllaaaDoorETrex7
import Derived.Test.YtdgeokpbedllaaaDoorETrex9
import Derived.Test.YtdgeokpbedllaaaDoorETrex13
import Derived.Test.YtdgeokpbedllaaaDoorETrex14
namespace Go.Proofs.YtdgeokpbedllaaaDoor.PTre
open Go.RowKit Go.Proofs.YtdgeokpbedllaaaDoorW.PrintWords Go.Proofs.YtdgeokpbedllaaaDoorW.PrintLast Go.Proofs.YtdgeokpbedllaaaDoor.Base
set_option linter.unusedVariables false
noncomputable def tree_rl2.F (a0 : List (S40)) (a1 : List Int) (a2 : ByteArray) (a3 : List (S70)) (a4 : ByteArray) (a5 : Int) : Option (Bool × List (S40) × List Int) := lim fun k => tree_rl2.f k a0 a1 a2 a3 a4 a5
theorem tree_rl2.isF (a0 : List (S40)) (a1 : List Int) (a2 : ByteArray) (a3 : List (S70)) (a4 : ByteArray) (a5 : Int) : IsLim (fun k => tree_rl2.f k a0 a1 a2 a3 a4 a5) (tree_rl2.F a0 a1 a2 a3 a4 a5) := ⟨fun k => tree_rl2.mono a0 a1 a2 a3 a4 a5 k, rfl⟩
theorem tree_rl2.F_eq (a0 : List (S40)) (a1 : List Int) (a2 : ByteArray) (a3 : List (S70)) (a4 : ByteArray) (a5 : Int) : tree_rl2.F a0 a1 a2 a3 a4 a5 = if 0 ≤ a5 then (if a5 < (a0.length : Int) then ((line_Alike.F a2 (⟨#[69, 78, 68]⟩ : ByteArray)).bind fun t1 => (if t1 = true then (if (a3.length : Int) > 0 then (some (false, a0, a1)) else ((line_Alike.F a4 (rd_T40 a0 a5).f0).bind fun t2 => (if t2 = true then (some (true, a0.set a5.toNat (⟨(rd_T40 a0 a5).f0, (rd_T40 a0 a5).f1, wrap64 (wrap64 ((a0.length : Int) - 1) - a5)⟩ : S40), a1.take (a1.length - 1))) else (some (false, a0, a1))))) else (if ((rd_T40 a0 a5).f1).length < 1000000000 then (some (true, a0.set a5.toNat (⟨(rd_T40 a0 a5).f0, (rd_T40 a0 a5).f1 ++ [(⟨a2, a3, a4⟩ : S44)], (rd_T40 a0 a5).f2⟩ : S40), a1)) else (none)))) else (none)) else (none) := by
  apply IsLim.via
  case hf =>
    repeat'
      try intro _
      first
      | (with_reducible exact line_Alike.isF _ _)
      | (with_reducible apply IsLim.ite)
      | (with_reducible apply IsLim.bind)
      | (apply IsLim.cst; intro _; exact rfl)
  case h => exact fun _ => rfl
noncomputable def tree_rl1.F (a0 : List (S40)) (a1 : List Int) (a2 : ByteArray) (a3 : List (S70)) (a4 : ByteArray) : Option (Bool × List (S40) × List Int) := lim fun k => tree_rl1.f k a0 a1 a2 a3 a4
theorem tree_rl1.isF (a0 : List (S40)) (a1 : List Int) (a2 : ByteArray) (a3 : List (S70)) (a4 : ByteArray) : IsLim (fun k => tree_rl1.f k a0 a1 a2 a3 a4) (tree_rl1.F a0 a1 a2 a3 a4) := ⟨fun k => tree_rl1.mono a0 a1 a2 a3 a4 k, rfl⟩
theorem tree_rl1.F_eq (a0 : List (S40)) (a1 : List Int) (a2 : ByteArray) (a3 : List (S70)) (a4 : ByteArray) : tree_rl1.F a0 a1 a2 a3 a4 = (line_Alike.F a2 (⟨#[66, 69, 71, 73, 78]⟩ : ByteArray)).bind fun t1 => (if t1 = true then (if (a3.length : Int) > 0 then (some (false, a0, a1)) else (if a1.length < 17592186044416 then (if a0.length < 1000000000 then (some (true, a0 ++ [(⟨a4, [], 0⟩ : S40)], a1 ++ [(a0.length : Int)])) else (none)) else (none))) else (if (a1.length : Int) = 0 then (some (false, a0, a1)) else (tree_rl2.F a0 a1 a2 a3 a4 (rd a1 ((a1.length : Int) - 1))))) := by
  apply IsLim.via
  case hf =>
    repeat'
      try intro _
      first
      | (with_reducible exact line_Alike.isF _ _)
      | (with_reducible exact tree_rl2.isF _ _ _ _ _ _)
      | (with_reducible apply IsLim.ite)
      | (with_reducible apply IsLim.bind)
      | (apply IsLim.cst; intro _; exact rfl)
  case h => exact fun _ => rfl
noncomputable def tree_rl.F (a0 : List (S40)) (a1 : List Int) (a2 : ByteArray) (a3 : List (S70)) (a4 : ByteArray) : Option (Bool × List (S40) × List Int) := lim fun k => tree_rl.f k a0 a1 a2 a3 a4
theorem tree_rl.isF (a0 : List (S40)) (a1 : List Int) (a2 : ByteArray) (a3 : List (S70)) (a4 : ByteArray) : IsLim (fun k => tree_rl.f k a0 a1 a2 a3 a4) (tree_rl.F a0 a1 a2 a3 a4) := ⟨fun k => tree_rl.mono a0 a1 a2 a3 a4 k, rfl⟩
theorem tree_rl.F_eq (a0 : List (S40)) (a1 : List Int) (a2 : ByteArray) (a3 : List (S70)) (a4 : ByteArray) : tree_rl.F a0 a1 a2 a3 a4 = if (a1.length : Int) = 0 then (if (a0.length : Int) > 0 then (some (false, a0, a1)) else (tree_rl1.F a0 a1 a2 a3 a4)) else (tree_rl1.F a0 a1 a2 a3 a4) := by
  apply IsLim.via
  case hf =>
    repeat'
      try intro _
      first
      | (with_reducible exact tree_rl1.isF _ _ _ _ _)
      | (with_reducible apply IsLim.ite)
      | (with_reducible apply IsLim.bind)
      | (apply IsLim.cst; intro _; exact rfl)
  case h => exact fun _ => rfl
noncomputable def tree_Parse.L0 (x0 : List ByteArray) (x1 : List (S44)) (x2 : Int) : Option (List (S40) × Int) := lim fun k => tree_Parse.l0 k x0 x1 x2
noncomputable def tree_Parse.L1 (x0 : List (S44)) (x1 : List (S40)) (x2 : List Int) (x3 : Int) : Option (List (S40) × Int) := lim fun k => tree_Parse.l1 k x0 x1 x2 x3
noncomputable def tree_Parse.F (a0 : ByteArray) : Option (List (S40) × Int) := lim fun k => tree_Parse.f k a0
theorem tree_Parse.isL0 (x0 : List ByteArray) (x1 : List (S44)) (x2 : Int) : IsLim (fun k => tree_Parse.l0 k x0 x1 x2) (tree_Parse.L0 x0 x1 x2) := ⟨fun k => (tree_Parse.mono_l k).1 x0 x1 x2, rfl⟩
theorem tree_Parse.isL1 (x0 : List (S44)) (x1 : List (S40)) (x2 : List Int) (x3 : Int) : IsLim (fun k => tree_Parse.l1 k x0 x1 x2 x3) (tree_Parse.L1 x0 x1 x2 x3) := ⟨fun k => (tree_Parse.mono_l k).2 x0 x1 x2 x3, rfl⟩
theorem tree_Parse.isF (a0 : ByteArray) : IsLim (fun k => tree_Parse.f k a0) (tree_Parse.F a0) := ⟨fun k => tree_Parse.mono a0 k, rfl⟩
theorem tree_Parse.L0_eq (x0 : List ByteArray) (x1 : List (S44)) (x2 : Int) : tree_Parse.L0 x0 x1 x2 = if x2 < (x0.length : Int) then (if 0 ≤ x2 then ((line_Parse.F (rdOf ByteArray.empty x0 x2)).bind fun t1 => (if t1.2.2.2 = 0 then (if x1.length < 1000000000 then (tree_Parse.L0 x0 (x1 ++ [(⟨t1.1, t1.2.1, t1.2.2.1⟩ : S44)]) (wrap64 (x2 + 1))) else (none)) else (some (([] : List (S40)), t1.2.2.2)))) else (none)) else (tree_Parse.L1 x1 ([] : List (S40)) ([] : List Int) 0) := by
  apply IsLim.step (tree_Parse.isL0 x0 x1 x2).mono
  case hf =>
    repeat'
      try intro _
      first
      | (with_reducible exact line_Parse.isF _)
      | (with_reducible exact tree_Parse.isL0 _ _ _)
      | (with_reducible exact tree_Parse.isL1 _ _ _ _)
      | (with_reducible apply IsLim.ite)
      | (with_reducible apply IsLim.bind)
      | (apply IsLim.cst; intro _; exact rfl)
  case h => intro k; rw [tree_Parse.l0]
theorem tree_Parse.L1_eq (x0 : List (S44)) (x1 : List (S40)) (x2 : List Int) (x3 : Int) : tree_Parse.L1 x0 x1 x2 x3 = if x3 < (x0.length : Int) then (if 0 ≤ x3 then ((tree_rl.F x1 x2 (rd_T44 x0 x3).f0 (rd_T44 x0 x3).f1 (rd_T44 x0 x3).f2).bind fun t2 => (if t2.1 = true then (tree_Parse.L1 x0 t2.2.1 t2.2.2 (wrap64 (x3 + 1))) else (some (([] : List (S40)), 20)))) else (none)) else (if (x2.length : Int) > 0 then (some (([] : List (S40)), 20)) else ((tree_Check.F x1).bind fun t3 => (if t3 = 0 then (some (x1, 0)) else (some (([] : List (S40)), 20))))) := by
  apply IsLim.step (tree_Parse.isL1 x0 x1 x2 x3).mono
  case hf =>
    repeat'
      try intro _
      first
      | (with_reducible exact tree_Check.isF _)
      | (with_reducible exact tree_Parse.isL1 _ _ _ _)
      | (with_reducible exact tree_rl.isF _ _ _ _ _)
      | (with_reducible apply IsLim.ite)
      | (with_reducible apply IsLim.bind)
      | (apply IsLim.cst; intro _; exact rfl)
  case h => intro k; rw [tree_Parse.l1]
theorem tree_Parse.F_eq (a0 : ByteArray) : tree_Parse.F a0 = (fold_Unfold.F a0).bind fun t4 => (if t4.2 = 0 then (tree_Parse.L0 t4.1 ([] : List (S44)) 0) else (some (([] : List (S40)), t4.2))) := by
  apply IsLim.via
  case hf =>
    repeat'
      try intro _
      first
      | (with_reducible exact fold_Unfold.isF _)
      | (with_reducible exact tree_Parse.isL0 _ _ _)
      | (with_reducible apply IsLim.ite)
      | (with_reducible apply IsLim.bind)
      | (apply IsLim.cst; intro _; exact rfl)
  case h => exact fun _ => rfl
end Go.Proofs.YtdgeokpbedllaaaDoor.PTre

/- Printed functions of the family Tre without a bound on their rounds, and the equation that each meets. No condition. -/
import Derived.Test.YtdgeokpbedllaaaDoorBase
import Derived.Test.YtdgeokpbedllaaaDoorPTrex12
import Derived.Test.YtdgeokpbedllaaaDoorETrex9
import Derived.Test.YtdgeokpbedllaaaDoorETrex10
import Derived.Test.YtdgeokpbedllaaaDoorETrex11
namespace Go.Proofs.YtdgeokpbedllaaaDoor.PTre
open Go.RowKit Go.Proofs.YtdgeokpbedllaaaDoorW.PrintWords Go.Proofs.YtdgeokpbedllaaaDoorW.PrintLast Go.Proofs.YtdgeokpbedllaaaDoor.Base
set_option linter.unusedVariables false
noncomputable def tree_wl.F (a0 : List ByteArray) (a1 : Int) (a2 : Int) (a3 : ByteArray) (a4 : List (S70)) (a5 : ByteArray) : Option (List ByteArray × Int × Int) := lim fun k => tree_wl.f k a0 a1 a2 a3 a4 a5
theorem tree_wl.isF (a0 : List ByteArray) (a1 : Int) (a2 : Int) (a3 : ByteArray) (a4 : List (S70)) (a5 : ByteArray) : IsLim (fun k => tree_wl.f k a0 a1 a2 a3 a4 a5) (tree_wl.F a0 a1 a2 a3 a4 a5) := ⟨fun k => tree_wl.mono a0 a1 a2 a3 a4 a5 k, rfl⟩
theorem tree_wl.F_eq (a0 : List ByteArray) (a1 : Int) (a2 : Int) (a3 : ByteArray) (a4 : List (S70)) (a5 : ByteArray) : tree_wl.F a0 a1 a2 a3 a4 a5 = if a0.length < 1000000000 then ((line_Text.F a3 a4 a5).bind fun t1 => ((fold_Line.F t1.1).bind fun t2 => (some (a0 ++ [t2.1], wrap64 (a1 + (t2.1.size : Int)), if t2.2 = 0 then a2 else t2.2)))) else (none) := by
  apply IsLim.via
  case hf =>
    repeat'
      try intro _
      first
      | (with_reducible exact fold_Line.isF _)
      | (with_reducible exact line_Text.isF _ _ _)
      | (with_reducible apply IsLim.ite)
      | (with_reducible apply IsLim.bind)
      | (apply IsLim.cst; intro _; exact rfl)
  case h => exact fun _ => rfl
noncomputable def tree_Text.L0 (x0 : List (S40)) (x1 : List ByteArray) (x2 : Int) (x3 : Int) (x4 : List Int) (x5 : Int) : Option (ByteArray × Int) := lim fun k => tree_Text.l0 k x0 x1 x2 x3 x4 x5
noncomputable def tree_Text.L1 (x0 : List (S40)) (x1 : List ByteArray) (x2 : Int) (x3 : Int) (x4 : List Int) (x5 : Int) : Option (ByteArray × Int) := lim fun k => tree_Text.l1 k x0 x1 x2 x3 x4 x5
noncomputable def tree_Text.J2 (x0 : List (S40)) (x1 : List ByteArray) (x2 : Int) (x3 : Int) (x4 : List Int) (x5 : Int) (x6 : Int) : Option (ByteArray × Int) := lim fun k => tree_Text.j2 k x0 x1 x2 x3 x4 x5 x6
noncomputable def tree_Text.J0 (x0 : List (S40)) (x1 : List ByteArray) (x2 : Int) (x3 : Int) (x4 : List Int) (x5 : Int) : Option (ByteArray × Int) := lim fun k => tree_Text.j0 k x0 x1 x2 x3 x4 x5
noncomputable def tree_Text.L2 (x0 : List (S40)) (x1 : List ByteArray) (x2 : Int) (x3 : Int) (x4 : List Int) (x5 : Int) (x6 : Int) : Option (ByteArray × Int) := lim fun k => tree_Text.l2 k x0 x1 x2 x3 x4 x5 x6
noncomputable def tree_Text.J1 (x1 : List ByteArray) (x2 : Int) (x3 : Int) : Option (ByteArray × Int) := lim fun k => tree_Text.j1 k x1 x2 x3
noncomputable def tree_Text.F (l0 : List (S40)) : Option (ByteArray × Int) := lim fun k => tree_Text.f k l0
theorem tree_Text.isL0 (x0 : List (S40)) (x1 : List ByteArray) (x2 : Int) (x3 : Int) (x4 : List Int) (x5 : Int) : IsLim (fun k => tree_Text.l0 k x0 x1 x2 x3 x4 x5) (tree_Text.L0 x0 x1 x2 x3 x4 x5) := ⟨fun k => (tree_Text.mono_l k).1 x0 x1 x2 x3 x4 x5, rfl⟩
theorem tree_Text.isL1 (x0 : List (S40)) (x1 : List ByteArray) (x2 : Int) (x3 : Int) (x4 : List Int) (x5 : Int) : IsLim (fun k => tree_Text.l1 k x0 x1 x2 x3 x4 x5) (tree_Text.L1 x0 x1 x2 x3 x4 x5) := ⟨fun k => (tree_Text.mono_l k).2.1 x0 x1 x2 x3 x4 x5, rfl⟩
theorem tree_Text.isJ2 (x0 : List (S40)) (x1 : List ByteArray) (x2 : Int) (x3 : Int) (x4 : List Int) (x5 : Int) (x6 : Int) : IsLim (fun k => tree_Text.j2 k x0 x1 x2 x3 x4 x5 x6) (tree_Text.J2 x0 x1 x2 x3 x4 x5 x6) := ⟨fun k => (tree_Text.mono_l k).2.2.1 x0 x1 x2 x3 x4 x5 x6, rfl⟩
theorem tree_Text.isJ0 (x0 : List (S40)) (x1 : List ByteArray) (x2 : Int) (x3 : Int) (x4 : List Int) (x5 : Int) : IsLim (fun k => tree_Text.j0 k x0 x1 x2 x3 x4 x5) (tree_Text.J0 x0 x1 x2 x3 x4 x5) := ⟨fun k => (tree_Text.mono_l k).2.2.2.1 x0 x1 x2 x3 x4 x5, rfl⟩
theorem tree_Text.isL2 (x0 : List (S40)) (x1 : List ByteArray) (x2 : Int) (x3 : Int) (x4 : List Int) (x5 : Int) (x6 : Int) : IsLim (fun k => tree_Text.l2 k x0 x1 x2 x3 x4 x5 x6) (tree_Text.L2 x0 x1 x2 x3 x4 x5 x6) := ⟨fun k => (tree_Text.mono_l k).2.2.2.2.1 x0 x1 x2 x3 x4 x5 x6, rfl⟩
theorem tree_Text.isJ1 (x1 : List ByteArray) (x2 : Int) (x3 : Int) : IsLim (fun k => tree_Text.j1 k x1 x2 x3) (tree_Text.J1 x1 x2 x3) := ⟨fun k => (tree_Text.mono_l k).2.2.2.2.2 x1 x2 x3, rfl⟩
theorem tree_Text.isF (l0 : List (S40)) : IsLim (fun k => tree_Text.f k l0) (tree_Text.F l0) := ⟨fun k => tree_Text.mono l0 k, rfl⟩
theorem tree_Text.L0_eq (x0 : List (S40)) (x1 : List ByteArray) (x2 : Int) (x3 : Int) (x4 : List Int) (x5 : Int) : tree_Text.L0 x0 x1 x2 x3 x4 x5 = if x5 < (wrap64 ((x0.length : Int) + 1)) then (tree_Text.L1 x0 x1 x2 x3 x4 x5) else (tree_Text.J1 x1 x2 x3) := by
  apply IsLim.step (tree_Text.isL0 x0 x1 x2 x3 x4 x5).mono
  case hf =>
    repeat'
      try intro _
      first
      | (with_reducible exact tree_Text.isJ1 _ _ _)
      | (with_reducible exact tree_Text.isL1 _ _ _ _ _ _)
      | (with_reducible apply IsLim.ite)
      | (with_reducible apply IsLim.bind)
      | (apply IsLim.cst; intro _; exact rfl)
  case h => intro k; rw [tree_Text.l0]
theorem tree_Text.L1_eq (x0 : List (S40)) (x1 : List ByteArray) (x2 : Int) (x3 : Int) (x4 : List Int) (x5 : Int) : tree_Text.L1 x0 x1 x2 x3 x4 x5 = if (x4.length : Int) > 0 then (tree_Text.J2 x0 x1 x2 x3 x4 x5 (rd x4 ((x4.length : Int) - 1))) else (tree_Text.J0 x0 x1 x2 x3 x4 x5) := by
  apply IsLim.step (tree_Text.isL1 x0 x1 x2 x3 x4 x5).mono
  case hf =>
    repeat'
      try intro _
      first
      | (with_reducible exact tree_Text.isJ0 _ _ _ _ _ _)
      | (with_reducible exact tree_Text.isJ2 _ _ _ _ _ _ _)
      | (with_reducible apply IsLim.ite)
      | (with_reducible apply IsLim.bind)
      | (apply IsLim.cst; intro _; exact rfl)
  case h => intro k; rw [tree_Text.l1]
theorem tree_Text.J2_eq (x0 : List (S40)) (x1 : List ByteArray) (x2 : Int) (x3 : Int) (x4 : List Int) (x5 : Int) (x6 : Int) : tree_Text.J2 x0 x1 x2 x3 x4 x5 x6 = if 0 ≤ x6 then (if x6 < (x0.length : Int) then (if (wrap64 (x6 + (rd_T40 x0 x6).f2)) ≥ x5 then (tree_Text.J0 x0 x1 x2 x3 x4 x5) else ((tree_wl.F x1 x2 x3 (⟨#[69, 78, 68]⟩ : ByteArray) ([] : List (S70)) (rd_T40 x0 x6).f0).bind fun t3 => (tree_Text.L1 x0 t3.1 t3.2.1 t3.2.2 (x4.take (x4.length - 1)) x5))) else (none)) else (none) := by
  apply IsLim.step (tree_Text.isJ2 x0 x1 x2 x3 x4 x5 x6).mono
  case hf =>
    repeat'
      try intro _
      first
      | (with_reducible exact tree_Text.isJ0 _ _ _ _ _ _)
      | (with_reducible exact tree_Text.isL1 _ _ _ _ _ _)
      | (with_reducible exact tree_wl.isF _ _ _ _ _ _)
      | (with_reducible apply IsLim.ite)
      | (with_reducible apply IsLim.bind)
      | (apply IsLim.cst; intro _; exact rfl)
  case h => intro k; rw [tree_Text.j2]
theorem tree_Text.J0_eq (x0 : List (S40)) (x1 : List ByteArray) (x2 : Int) (x3 : Int) (x4 : List Int) (x5 : Int) : tree_Text.J0 x0 x1 x2 x3 x4 x5 = if x5 = (x0.length : Int) then (tree_Text.J1 x1 x2 x3) else (if 0 ≤ x5 then (if x5 < (x0.length : Int) then ((tree_wl.F x1 x2 x3 (⟨#[66, 69, 71, 73, 78]⟩ : ByteArray) ([] : List (S70)) (rd_T40 x0 x5).f0).bind fun t4 => (tree_Text.L2 x0 t4.1 t4.2.1 t4.2.2 x4 x5 0)) else (none)) else (none)) := by
  apply IsLim.step (tree_Text.isJ0 x0 x1 x2 x3 x4 x5).mono
  case hf =>
    repeat'
      try intro _
      first
      | (with_reducible exact tree_Text.isJ1 _ _ _)
      | (with_reducible exact tree_Text.isL2 _ _ _ _ _ _ _)
      | (with_reducible exact tree_wl.isF _ _ _ _ _ _)
      | (with_reducible apply IsLim.ite)
      | (with_reducible apply IsLim.bind)
      | (apply IsLim.cst; intro _; exact rfl)
  case h => intro k; rw [tree_Text.j0]
theorem tree_Text.L2_eq (x0 : List (S40)) (x1 : List ByteArray) (x2 : Int) (x3 : Int) (x4 : List Int) (x5 : Int) (x6 : Int) : tree_Text.L2 x0 x1 x2 x3 x4 x5 x6 = if x6 < (((rd_T40 x0 x5).f1).length : Int) then (if 0 ≤ x6 then ((tree_wl.F x1 x2 x3 (rd_T44 (rd_T40 x0 x5).f1 x6).f0 (rd_T44 (rd_T40 x0 x5).f1 x6).f1 (rd_T44 (rd_T40 x0 x5).f1 x6).f2).bind fun t5 => (tree_Text.L2 x0 t5.1 t5.2.1 t5.2.2 x4 x5 (wrap64 (x6 + 1)))) else (none)) else (if x4.length < 17592186044416 then (tree_Text.L0 x0 x1 x2 x3 (x4 ++ [x5]) (wrap64 (x5 + 1))) else (none)) := by
  apply IsLim.step (tree_Text.isL2 x0 x1 x2 x3 x4 x5 x6).mono
  case hf =>
    repeat'
      try intro _
      first
      | (with_reducible exact tree_Text.isL0 _ _ _ _ _ _)
      | (with_reducible exact tree_Text.isL2 _ _ _ _ _ _ _)
      | (with_reducible exact tree_wl.isF _ _ _ _ _ _)
      | (with_reducible apply IsLim.ite)
      | (with_reducible apply IsLim.bind)
      | (apply IsLim.cst; intro _; exact rfl)
  case h => intro k; rw [tree_Text.l2]
theorem tree_Text.J1_eq (x1 : List ByteArray) (x2 : Int) (x3 : Int) : tree_Text.J1 x1 x2 x3 = if x3 = 0 then (if x2 > 600000 then (some ((⟨#[]⟩ : ByteArray), 2)) else ((strings_Join.f x1 (⟨#[]⟩ : ByteArray)).bind fun t6 => (some (t6, 0)))) else (some ((⟨#[]⟩ : ByteArray), 2)) := by
  apply IsLim.step (tree_Text.isJ1 x1 x2 x3).mono
  case hf =>
    repeat'
      try intro _
      first
      | (with_reducible apply IsLim.ite)
      | (with_reducible apply IsLim.bind)
      | (apply IsLim.cst; intro _; exact rfl)
  case h => intro k; rw [tree_Text.j1]
theorem tree_Text.F_eq (l0 : List (S40)) : tree_Text.F l0 = (tree_Check.F l0).bind fun t7 => (if t7 = 0 then (tree_Text.L0 l0 ([] : List ByteArray) 0 0 ([] : List Int) 0) else (some ((⟨#[]⟩ : ByteArray), t7))) := by
  apply IsLim.via
  case hf =>
    repeat'
      try intro _
      first
      | (with_reducible exact tree_Check.isF _)
      | (with_reducible exact tree_Text.isL0 _ _ _ _ _ _)
      | (with_reducible apply IsLim.ite)
      | (with_reducible apply IsLim.bind)
      | (apply IsLim.cst; intro _; exact rfl)
  case h => exact fun _ => rfl
end Go.Proofs.YtdgeokpbedllaaaDoor.PTre

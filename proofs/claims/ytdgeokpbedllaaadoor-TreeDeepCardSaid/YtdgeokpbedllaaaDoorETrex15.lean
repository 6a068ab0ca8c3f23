/- Printed functions of the family Tre without a bound on their rounds, and the equation that each meets. No condition. -/
import Derived.Test.YtdgeokpbedllaaaDoorBase
import Derived.Test.YtdgeokpbedllaaaDoorPTrex15
import Derived.Test.YtdgeokpbedllaaaDoorETrex4
import Derived.Test.YtdgeokpbedllaaaDoorETrex7
import Derived.Test.YtdgeokpbedllaaaDoorETrex9
import Derived.Test.YtdgeokpbedllaaaDoorETrex10
import Derived.Test.YtdgeokpbedllaaaDoorETrex14
namespace Go.Proofs.YtdgeokpbedllaaaDoor.PTre
open Go.RowKit Go.Proofs.YtdgeokpbedllaaaDoorW.PrintWords Go.Proofs.YtdgeokpbedllaaaDoorW.PrintLast Go.Proofs.YtdgeokpbedllaaaDoor.Base
set_option linter.unusedVariables false
noncomputable def solsticelaw19_TreeDeep.L0 (x0 : Int) (x1 : Int) (x5 : ByteArray) (x6 : List (S40)) (x7 : Int) : Option (Bool) := lim fun k => solsticelaw19_TreeDeep.l0 k x0 x1 x5 x6 x7
noncomputable def solsticelaw19_TreeDeep.L1 (x0 : Int) (x1 : Int) (x5 : ByteArray) (x6 : List (S40)) (x8 : Int) : Option (Bool) := lim fun k => solsticelaw19_TreeDeep.l1 k x0 x1 x5 x6 x8
noncomputable def solsticelaw19_TreeDeep.L2 (x0 : Int) (x1 : Int) (x6 : List (S40)) (x9 : List (S40)) (x10 : Int) (x11 : ByteArray) (x12 : List (S40)) (x13 : Int) : Option (Bool) := lim fun k => solsticelaw19_TreeDeep.l2 k x0 x1 x6 x9 x10 x11 x12 x13
noncomputable def solsticelaw19_TreeDeep.J3 (x0 : Int) (x6 : List (S40)) (x9 : List (S40)) (x10 : Int) (x90 : Bool) : Option (Bool) := lim fun k => solsticelaw19_TreeDeep.j3 k x0 x6 x9 x10 x90
noncomputable def solsticelaw19_TreeDeep.F (a0 : Int) (a1 : Int) : Option (Bool) := lim fun k => solsticelaw19_TreeDeep.f k a0 a1
theorem solsticelaw19_TreeDeep.isL0 (x0 : Int) (x1 : Int) (x5 : ByteArray) (x6 : List (S40)) (x7 : Int) : IsLim (fun k => solsticelaw19_TreeDeep.l0 k x0 x1 x5 x6 x7) (solsticelaw19_TreeDeep.L0 x0 x1 x5 x6 x7) := ⟨fun k => (solsticelaw19_TreeDeep.mono_l k).1 x0 x1 x5 x6 x7, rfl⟩
theorem solsticelaw19_TreeDeep.isL1 (x0 : Int) (x1 : Int) (x5 : ByteArray) (x6 : List (S40)) (x8 : Int) : IsLim (fun k => solsticelaw19_TreeDeep.l1 k x0 x1 x5 x6 x8) (solsticelaw19_TreeDeep.L1 x0 x1 x5 x6 x8) := ⟨fun k => (solsticelaw19_TreeDeep.mono_l k).2.1 x0 x1 x5 x6 x8, rfl⟩
theorem solsticelaw19_TreeDeep.isL2 (x0 : Int) (x1 : Int) (x6 : List (S40)) (x9 : List (S40)) (x10 : Int) (x11 : ByteArray) (x12 : List (S40)) (x13 : Int) : IsLim (fun k => solsticelaw19_TreeDeep.l2 k x0 x1 x6 x9 x10 x11 x12 x13) (solsticelaw19_TreeDeep.L2 x0 x1 x6 x9 x10 x11 x12 x13) := ⟨fun k => (solsticelaw19_TreeDeep.mono_l k).2.2.1 x0 x1 x6 x9 x10 x11 x12 x13, rfl⟩
theorem solsticelaw19_TreeDeep.isJ3 (x0 : Int) (x6 : List (S40)) (x9 : List (S40)) (x10 : Int) (x90 : Bool) : IsLim (fun k => solsticelaw19_TreeDeep.j3 k x0 x6 x9 x10 x90) (solsticelaw19_TreeDeep.J3 x0 x6 x9 x10 x90) := ⟨fun k => (solsticelaw19_TreeDeep.mono_l k).2.2.2 x0 x6 x9 x10 x90, rfl⟩
theorem solsticelaw19_TreeDeep.isF (a0 : Int) (a1 : Int) : IsLim (fun k => solsticelaw19_TreeDeep.f k a0 a1) (solsticelaw19_TreeDeep.F a0 a1) := ⟨fun k => solsticelaw19_TreeDeep.mono a0 a1 k, rfl⟩
theorem solsticelaw19_TreeDeep.L0_eq (x0 : Int) (x1 : Int) (x5 : ByteArray) (x6 : List (S40)) (x7 : Int) : solsticelaw19_TreeDeep.L0 x0 x1 x5 x6 x7 = if x7 < x0 then (if x5.size + 9 ≤ 9223372036854775807 then (if x6.length < 2932031007402 then (solsticelaw19_TreeDeep.L0 x0 x1 (x5 ++ (⟨#[66, 69, 71, 73, 78, 58, 65, 13, 10]⟩ : ByteArray)) (x6 ++ [(⟨(⟨#[65]⟩ : ByteArray), ([] : List (S44)), wrap64 ((wrap64 (x0 - 1)) - x7)⟩ : S40)]) (wrap64 (x7 + 1))) else (none)) else (none)) else (solsticelaw19_TreeDeep.L1 x0 x1 x5 x6 0) := by
  apply IsLim.step (solsticelaw19_TreeDeep.isL0 x0 x1 x5 x6 x7).mono
  case hf =>
    repeat'
      try intro _
      first
      | (with_reducible exact solsticelaw19_TreeDeep.isL0 _ _ _ _ _)
      | (with_reducible exact solsticelaw19_TreeDeep.isL1 _ _ _ _ _)
      | (with_reducible apply IsLim.ite)
      | (with_reducible apply IsLim.bind)
      | (apply IsLim.cst; intro _; exact rfl)
  case h => intro k; rw [solsticelaw19_TreeDeep.l0]
theorem solsticelaw19_TreeDeep.L1_eq (x0 : Int) (x1 : Int) (x5 : ByteArray) (x6 : List (S40)) (x8 : Int) : solsticelaw19_TreeDeep.L1 x0 x1 x5 x6 x8 = if x8 < x0 then (if x5.size + 7 ≤ 9223372036854775807 then (solsticelaw19_TreeDeep.L1 x0 x1 (x5 ++ (⟨#[69, 78, 68, 58, 65, 13, 10]⟩ : ByteArray)) x6 (wrap64 (x8 + 1))) else (none)) else ((tree_Parse.F x5).bind fun bt293 => (solsticelaw19_TreeDeep.L2 x0 x1 x6 bt293.1 bt293.2 (⟨#[66, 69, 71, 73, 78, 58, 82, 10]⟩ : ByteArray) (([(⟨(⟨#[82]⟩ : ByteArray), ([] : List (S44)), x1⟩ : S40)] : List (S40))) 0)) := by
  apply IsLim.step (solsticelaw19_TreeDeep.isL1 x0 x1 x5 x6 x8).mono
  case hf =>
    repeat'
      try intro _
      first
      | (with_reducible exact solsticelaw19_TreeDeep.isL1 _ _ _ _ _)
      | (with_reducible exact solsticelaw19_TreeDeep.isL2 _ _ _ _ _ _ _ _)
      | (with_reducible exact tree_Parse.isF _)
      | (with_reducible apply IsLim.ite)
      | (with_reducible apply IsLim.bind)
      | (apply IsLim.cst; intro _; exact rfl)
  case h => intro k; rw [solsticelaw19_TreeDeep.l1]
theorem solsticelaw19_TreeDeep.L2_eq (x0 : Int) (x1 : Int) (x6 : List (S40)) (x9 : List (S40)) (x10 : Int) (x11 : ByteArray) (x12 : List (S40)) (x13 : Int) : solsticelaw19_TreeDeep.L2 x0 x1 x6 x9 x10 x11 x12 x13 = if x13 < x1 then (if x11.size + 10 ≤ 9223372036854775807 then (if (x11 ++ (⟨#[66, 69, 71, 73, 78, 58, 66, 10, 88, 58]⟩ : ByteArray)).size + 1 ≤ 9223372036854775807 then (if ((x11 ++ (⟨#[66, 69, 71, 73, 78, 58, 66, 10, 88, 58]⟩ : ByteArray)) ++ (⟨#[49]⟩ : ByteArray)).size + 7 ≤ 9223372036854775807 then (if x12.length < 2932031007402 then (solsticelaw19_TreeDeep.L2 x0 x1 x6 x9 x10 (((x11 ++ (⟨#[66, 69, 71, 73, 78, 58, 66, 10, 88, 58]⟩ : ByteArray)) ++ (⟨#[49]⟩ : ByteArray)) ++ (⟨#[10, 69, 78, 68, 58, 66, 10]⟩ : ByteArray)) (x12 ++ [(⟨(⟨#[66]⟩ : ByteArray), (([(⟨(⟨#[88]⟩ : ByteArray), ([] : List (S70)), (⟨#[49]⟩ : ByteArray)⟩ : S44)] : List (S44))), 0⟩ : S40)]) (wrap64 (x13 + 1))) else (none)) else (none)) else (none)) else (none)) else (if x11.size + 5 ≤ 9223372036854775807 then ((tree_Parse.F (x11 ++ (⟨#[69, 78, 68, 58, 82]⟩ : ByteArray))).bind fun bt306 => (if bt306.2 = 0 then ((solsticekeep_Comps.F bt306.1 x12).bind fun t310 => (if t310 = true then ((tree_Kids.F x12 0).bind fun t311 => (solsticelaw19_TreeDeep.J3 x0 x6 x9 x10 ((t311.length : Int) != x1))) else (solsticelaw19_TreeDeep.J3 x0 x6 x9 x10 true))) else (solsticelaw19_TreeDeep.J3 x0 x6 x9 x10 true))) else (none)) := by
  apply IsLim.step (solsticelaw19_TreeDeep.isL2 x0 x1 x6 x9 x10 x11 x12 x13).mono
  case hf =>
    repeat'
      try intro _
      first
      | (with_reducible exact solsticekeep_Comps.isF _ _)
      | (with_reducible exact solsticelaw19_TreeDeep.isJ3 _ _ _ _ _)
      | (with_reducible exact solsticelaw19_TreeDeep.isL2 _ _ _ _ _ _ _ _)
      | (with_reducible exact tree_Kids.isF _ _)
      | (with_reducible exact tree_Parse.isF _)
      | (with_reducible apply IsLim.ite)
      | (with_reducible apply IsLim.bind)
      | (apply IsLim.cst; intro _; exact rfl)
  case h => intro k; rw [solsticelaw19_TreeDeep.l2]
theorem solsticelaw19_TreeDeep.J3_eq (x0 : Int) (x6 : List (S40)) (x9 : List (S40)) (x10 : Int) (x90 : Bool) : solsticelaw19_TreeDeep.J3 x0 x6 x9 x10 x90 = if x90 = true then (some false) else (if x0 > 8 then (if x10 = 20 then (if (x9.length : Int) = 0 then ((tree_Check.F x6).bind fun t314 => (if t314 = 20 then ((solsticelaw19_wakes.F).bind fun t315 => (some t315)) else (some false))) else (some false)) else (some false)) else (if x10 = 0 then ((solsticekeep_Comps.F x9 x6).bind fun t316 => (if t316 = true then ((tree_Check.F x6).bind fun t317 => (if t317 = 0 then ((solsticelaw19_wakes.F).bind fun t318 => (some t318)) else (some false))) else (some false))) else (some false))) := by
  apply IsLim.step (solsticelaw19_TreeDeep.isJ3 x0 x6 x9 x10 x90).mono
  case hf =>
    repeat'
      try intro _
      first
      | (with_reducible exact solsticekeep_Comps.isF _ _)
      | (with_reducible exact solsticelaw19_wakes.isF)
      | (with_reducible exact tree_Check.isF _)
      | (with_reducible apply IsLim.ite)
      | (with_reducible apply IsLim.bind)
      | (apply IsLim.cst; intro _; exact rfl)
  case h => intro k; rw [solsticelaw19_TreeDeep.j3]
theorem solsticelaw19_TreeDeep.F_eq (a0 : Int) (a1 : Int) : solsticelaw19_TreeDeep.F a0 a1 = solsticelaw19_TreeDeep.L0 (wrap64 (1 + (wrap64 (Int.tmod (IntKind.u64.wrap (a0)) 12)))) (wrap64 (Int.tmod (IntKind.u64.wrap (a1)) 20)) (⟨#[]⟩ : ByteArray) ([] : List (S40)) 0 := by
  apply IsLim.via
  case hf =>
    repeat'
      try intro _
      first
      | (with_reducible exact solsticelaw19_TreeDeep.isL0 _ _ _ _ _)
      | (with_reducible apply IsLim.ite)
      | (with_reducible apply IsLim.bind)
      | (apply IsLim.cst; intro _; exact rfl)
  case h => exact fun _ => rfl
end Go.Proofs.YtdgeokpbedllaaaDoor.PTre

/- Printed functions of the family Fol without a bound on their rounds, and the equation that each meets. No condition. -/
import Derived.Test.YtfiiipjglacejaaDoorBase
import Derived.Test.YtfiiipjglacejaaDoorPFolx8
import Derived.Test.YtfiiipjglacejaaDoorEFolx2
import Derived.Test.YtfiiipjglacejaaDoorEFolx3
import Derived.Test.YtfiiipjglacejaaDoorEFolx4
namespace Go.Proofs.YtfiiipjglacejaaDoor.PFol
open Go.RowKit Go.Proofs.YtfiiipjglacejaaDoorW.PrintWords Go.Proofs.YtfiiipjglacejaaDoorW.PrintLast Go.Proofs.YtfiiipjglacejaaDoor.Base
set_option linter.unusedVariables false
noncomputable def solsticelaw16_FoldAnywhere.J0 (x0 : ByteArray) (x1 : List Int) (x2 : Bool) (x3 : Bool) (x29 : Bool) : Option (Bool) := lim fun k => solsticelaw16_FoldAnywhere.j0 k x0 x1 x2 x3 x29
noncomputable def solsticelaw16_FoldAnywhere.L0 (x0 : ByteArray) (x1 : List Int) (x2 : Bool) (x3 : Bool) (x9 : Int) : Option (Bool) := lim fun k => solsticelaw16_FoldAnywhere.l0 k x0 x1 x2 x3 x9
noncomputable def solsticelaw16_FoldAnywhere.J2 (x0 : ByteArray) (x1 : List Int) (x2 : Bool) (x10 : ByteArray) (x11 : ByteArray) : Option (Bool) := lim fun k => solsticelaw16_FoldAnywhere.j2 k x0 x1 x2 x10 x11
noncomputable def solsticelaw16_FoldAnywhere.J3 (x0 : ByteArray) (x1 : List Int) (x10 : ByteArray) (x11 : ByteArray) : Option (Bool) := lim fun k => solsticelaw16_FoldAnywhere.j3 k x0 x1 x10 x11
noncomputable def solsticelaw16_FoldAnywhere.L1 (x0 : ByteArray) (x1 : List Int) (x10 : ByteArray) (x11 : ByteArray) (x12 : ByteArray) (x13 : Int) : Option (Bool) := lim fun k => solsticelaw16_FoldAnywhere.l1 k x0 x1 x10 x11 x12 x13
noncomputable def solsticelaw16_FoldAnywhere.L2 (x0 : ByteArray) (x1 : List Int) (x10 : ByteArray) (x11 : ByteArray) (x12 : ByteArray) (x13 : Int) (x14 : Int) : Option (Bool) := lim fun k => solsticelaw16_FoldAnywhere.l2 k x0 x1 x10 x11 x12 x13 x14
noncomputable def solsticelaw16_FoldAnywhere.J6 (x0 : ByteArray) (x10 : ByteArray) (x12 : ByteArray) (x91 : Bool) : Option (Bool) := lim fun k => solsticelaw16_FoldAnywhere.j6 k x0 x10 x12 x91
noncomputable def solsticelaw16_FoldAnywhere.F (a0 : ByteArray) (l1 : List Int) (a2 : Bool) (a3 : Bool) : Option (Bool) := lim fun k => solsticelaw16_FoldAnywhere.f k a0 l1 a2 a3
theorem solsticelaw16_FoldAnywhere.isJ0 (x0 : ByteArray) (x1 : List Int) (x2 : Bool) (x3 : Bool) (x29 : Bool) : IsLim (fun k => solsticelaw16_FoldAnywhere.j0 k x0 x1 x2 x3 x29) (solsticelaw16_FoldAnywhere.J0 x0 x1 x2 x3 x29) := ⟨fun k => (solsticelaw16_FoldAnywhere.mono_l k).1 x0 x1 x2 x3 x29, rfl⟩
theorem solsticelaw16_FoldAnywhere.isL0 (x0 : ByteArray) (x1 : List Int) (x2 : Bool) (x3 : Bool) (x9 : Int) : IsLim (fun k => solsticelaw16_FoldAnywhere.l0 k x0 x1 x2 x3 x9) (solsticelaw16_FoldAnywhere.L0 x0 x1 x2 x3 x9) := ⟨fun k => (solsticelaw16_FoldAnywhere.mono_l k).2.1 x0 x1 x2 x3 x9, rfl⟩
theorem solsticelaw16_FoldAnywhere.isJ2 (x0 : ByteArray) (x1 : List Int) (x2 : Bool) (x10 : ByteArray) (x11 : ByteArray) : IsLim (fun k => solsticelaw16_FoldAnywhere.j2 k x0 x1 x2 x10 x11) (solsticelaw16_FoldAnywhere.J2 x0 x1 x2 x10 x11) := ⟨fun k => (solsticelaw16_FoldAnywhere.mono_l k).2.2.1 x0 x1 x2 x10 x11, rfl⟩
theorem solsticelaw16_FoldAnywhere.isJ3 (x0 : ByteArray) (x1 : List Int) (x10 : ByteArray) (x11 : ByteArray) : IsLim (fun k => solsticelaw16_FoldAnywhere.j3 k x0 x1 x10 x11) (solsticelaw16_FoldAnywhere.J3 x0 x1 x10 x11) := ⟨fun k => (solsticelaw16_FoldAnywhere.mono_l k).2.2.2.1 x0 x1 x10 x11, rfl⟩
theorem solsticelaw16_FoldAnywhere.isL1 (x0 : ByteArray) (x1 : List Int) (x10 : ByteArray) (x11 : ByteArray) (x12 : ByteArray) (x13 : Int) : IsLim (fun k => solsticelaw16_FoldAnywhere.l1 k x0 x1 x10 x11 x12 x13) (solsticelaw16_FoldAnywhere.L1 x0 x1 x10 x11 x12 x13) := ⟨fun k => (solsticelaw16_FoldAnywhere.mono_l k).2.2.2.2.1 x0 x1 x10 x11 x12 x13, rfl⟩
theorem solsticelaw16_FoldAnywhere.isL2 (x0 : ByteArray) (x1 : List Int) (x10 : ByteArray) (x11 : ByteArray) (x12 : ByteArray) (x13 : Int) (x14 : Int) : IsLim (fun k => solsticelaw16_FoldAnywhere.l2 k x0 x1 x10 x11 x12 x13 x14) (solsticelaw16_FoldAnywhere.L2 x0 x1 x10 x11 x12 x13 x14) := ⟨fun k => (solsticelaw16_FoldAnywhere.mono_l k).2.2.2.2.2.1 x0 x1 x10 x11 x12 x13 x14, rfl⟩
theorem solsticelaw16_FoldAnywhere.isJ6 (x0 : ByteArray) (x10 : ByteArray) (x12 : ByteArray) (x91 : Bool) : IsLim (fun k => solsticelaw16_FoldAnywhere.j6 k x0 x10 x12 x91) (solsticelaw16_FoldAnywhere.J6 x0 x10 x12 x91) := ⟨fun k => (solsticelaw16_FoldAnywhere.mono_l k).2.2.2.2.2.2 x0 x10 x12 x91, rfl⟩
theorem solsticelaw16_FoldAnywhere.isF (a0 : ByteArray) (l1 : List Int) (a2 : Bool) (a3 : Bool) : IsLim (fun k => solsticelaw16_FoldAnywhere.f k a0 l1 a2 a3) (solsticelaw16_FoldAnywhere.F a0 l1 a2 a3) := ⟨fun k => solsticelaw16_FoldAnywhere.mono a0 l1 a2 a3 k, rfl⟩
theorem solsticelaw16_FoldAnywhere.J0_eq (x0 : ByteArray) (x1 : List Int) (x2 : Bool) (x3 : Bool) (x29 : Bool) : solsticelaw16_FoldAnywhere.J0 x0 x1 x2 x3 x29 = if x29 = true then (some true) else (solsticelaw16_FoldAnywhere.L0 x0 x1 x2 x3 0) := by
  refine IsLim.step (solsticelaw16_FoldAnywhere.isJ0 x0 x1 x2 x3 x29).mono (f := fun k => if x29 = true then (some true) else (solsticelaw16_FoldAnywhere.l0 k x0 x1 x2 x3 0)) (fun k => by rw [solsticelaw16_FoldAnywhere.j0]) ?_
  · repeat' first
    | (with_reducible exact IsLim.const _)
    | (with_reducible exact solsticelaw16_FoldAnywhere.isL0 _ _ _ _ _)
    | (with_reducible refine IsLim.ite ?_ ?_)
    | (with_reducible refine IsLim.bind ?_ (fun _ => ?_))
theorem solsticelaw16_FoldAnywhere.L0_eq (x0 : ByteArray) (x1 : List Int) (x2 : Bool) (x3 : Bool) (x9 : Int) : solsticelaw16_FoldAnywhere.L0 x0 x1 x2 x3 x9 = if x9 < (x0.size : Int) then (if 0 ≤ x9 then (if (bt x0 x9) = 10 then (some true) else (if (bt x0 x9) = 13 then (some true) else (solsticelaw16_FoldAnywhere.L0 x0 x1 x2 x3 (wrap64 (x9 + 1))))) else (none)) else (if x3 = true then (solsticelaw16_FoldAnywhere.J2 x0 x1 x2 (⟨#[10]⟩ : ByteArray) (⟨#[32]⟩ : ByteArray)) else (solsticelaw16_FoldAnywhere.J2 x0 x1 x2 (⟨#[13, 10]⟩ : ByteArray) (⟨#[32]⟩ : ByteArray))) := by
  refine IsLim.step (solsticelaw16_FoldAnywhere.isL0 x0 x1 x2 x3 x9).mono (f := fun k => if x9 < (x0.size : Int) then (if 0 ≤ x9 then (if (bt x0 x9) = 10 then (some true) else (if (bt x0 x9) = 13 then (some true) else (solsticelaw16_FoldAnywhere.l0 k x0 x1 x2 x3 (wrap64 (x9 + 1))))) else (none)) else (if x3 = true then (solsticelaw16_FoldAnywhere.j2 k x0 x1 x2 (⟨#[10]⟩ : ByteArray) (⟨#[32]⟩ : ByteArray)) else (solsticelaw16_FoldAnywhere.j2 k x0 x1 x2 (⟨#[13, 10]⟩ : ByteArray) (⟨#[32]⟩ : ByteArray)))) (fun k => by rw [solsticelaw16_FoldAnywhere.l0]) ?_
  · repeat' first
    | (with_reducible exact IsLim.const _)
    | (with_reducible exact solsticelaw16_FoldAnywhere.isJ2 _ _ _ _ _)
    | (with_reducible exact solsticelaw16_FoldAnywhere.isL0 _ _ _ _ _)
    | (with_reducible refine IsLim.ite ?_ ?_)
    | (with_reducible refine IsLim.bind ?_ (fun _ => ?_))
theorem solsticelaw16_FoldAnywhere.J2_eq (x0 : ByteArray) (x1 : List Int) (x2 : Bool) (x10 : ByteArray) (x11 : ByteArray) : solsticelaw16_FoldAnywhere.J2 x0 x1 x2 x10 x11 = if x2 = true then (solsticelaw16_FoldAnywhere.J3 x0 x1 x10 (⟨#[9]⟩ : ByteArray)) else (solsticelaw16_FoldAnywhere.J3 x0 x1 x10 x11) := by
  refine IsLim.step (solsticelaw16_FoldAnywhere.isJ2 x0 x1 x2 x10 x11).mono (f := fun k => if x2 = true then (solsticelaw16_FoldAnywhere.j3 k x0 x1 x10 (⟨#[9]⟩ : ByteArray)) else (solsticelaw16_FoldAnywhere.j3 k x0 x1 x10 x11)) (fun k => by rw [solsticelaw16_FoldAnywhere.j2]) ?_
  · repeat' first
    | (with_reducible exact IsLim.const _)
    | (with_reducible exact solsticelaw16_FoldAnywhere.isJ3 _ _ _ _)
    | (with_reducible refine IsLim.ite ?_ ?_)
    | (with_reducible refine IsLim.bind ?_ (fun _ => ?_))
theorem solsticelaw16_FoldAnywhere.J3_eq (x0 : ByteArray) (x1 : List Int) (x10 : ByteArray) (x11 : ByteArray) : solsticelaw16_FoldAnywhere.J3 x0 x1 x10 x11 = solsticelaw16_FoldAnywhere.L1 x0 x1 x10 x11 (⟨#[]⟩ : ByteArray) 0 := by
  refine IsLim.step (solsticelaw16_FoldAnywhere.isJ3 x0 x1 x10 x11).mono (f := fun k => solsticelaw16_FoldAnywhere.l1 k x0 x1 x10 x11 (⟨#[]⟩ : ByteArray) 0) (fun k => by rw [solsticelaw16_FoldAnywhere.j3]) ?_
  · repeat' first
    | (with_reducible exact IsLim.const _)
    | (with_reducible exact solsticelaw16_FoldAnywhere.isL1 _ _ _ _ _ _)
    | (with_reducible refine IsLim.ite ?_ ?_)
    | (with_reducible refine IsLim.bind ?_ (fun _ => ?_))
theorem solsticelaw16_FoldAnywhere.L1_eq (x0 : ByteArray) (x1 : List Int) (x10 : ByteArray) (x11 : ByteArray) (x12 : ByteArray) (x13 : Int) : solsticelaw16_FoldAnywhere.L1 x0 x1 x10 x11 x12 x13 = if x13 < (x0.size : Int) then (solsticelaw16_FoldAnywhere.L2 x0 x1 x10 x11 x12 x13 0) else (if 0 < (x0.size : Int) then (if (bt x0 0) = 32 then (solsticelaw16_FoldAnywhere.J6 x0 x10 x12 true) else (solsticelaw16_FoldAnywhere.J6 x0 x10 x12 ((bt x0 0) == 9))) else (none)) := by
  refine IsLim.step (solsticelaw16_FoldAnywhere.isL1 x0 x1 x10 x11 x12 x13).mono (f := fun k => if x13 < (x0.size : Int) then (solsticelaw16_FoldAnywhere.l2 k x0 x1 x10 x11 x12 x13 0) else (if 0 < (x0.size : Int) then (if (bt x0 0) = 32 then (solsticelaw16_FoldAnywhere.j6 k x0 x10 x12 true) else (solsticelaw16_FoldAnywhere.j6 k x0 x10 x12 ((bt x0 0) == 9))) else (none))) (fun k => by rw [solsticelaw16_FoldAnywhere.l1]) ?_
  · repeat' first
    | (with_reducible exact IsLim.const _)
    | (with_reducible exact solsticelaw16_FoldAnywhere.isJ6 _ _ _ _)
    | (with_reducible exact solsticelaw16_FoldAnywhere.isL2 _ _ _ _ _ _ _)
    | (with_reducible refine IsLim.ite ?_ ?_)
    | (with_reducible refine IsLim.bind ?_ (fun _ => ?_))
theorem solsticelaw16_FoldAnywhere.L2_eq (x0 : ByteArray) (x1 : List Int) (x10 : ByteArray) (x11 : ByteArray) (x12 : ByteArray) (x13 : Int) (x14 : Int) : solsticelaw16_FoldAnywhere.L2 x0 x1 x10 x11 x12 x13 x14 = if x14 < (x1.length : Int) then (if 0 ≤ x14 then (if (IntKind.u64.wrap ((x0.size : Int))) = 0 then (none) else (if (wrap64 (Int.tmod (IntKind.u64.wrap (rd x1 x14)) (IntKind.u64.wrap ((x0.size : Int))))) = x13 then (if x12.size + x10.size ≤ 9223372036854775807 then (if (x12 ++ x10).size + x11.size ≤ 9223372036854775807 then (solsticelaw16_FoldAnywhere.L2 x0 x1 x10 x11 ((x12 ++ x10) ++ x11) x13 (wrap64 (x14 + 1))) else (none)) else (none)) else (solsticelaw16_FoldAnywhere.L2 x0 x1 x10 x11 x12 x13 (wrap64 (x14 + 1))))) else (none)) else (if 0 ≤ x13 then (if x13 ≤ (wrap64 (x13 + 1)) then (if (wrap64 (x13 + 1)) ≤ (x0.size : Int) then (if x12.size + (x0.extract (x13 : Int).toNat ((wrap64 (x13 + 1)) : Int).toNat).size ≤ 9223372036854775807 then (solsticelaw16_FoldAnywhere.L1 x0 x1 x10 x11 (x12 ++ (x0.extract (x13 : Int).toNat ((wrap64 (x13 + 1)) : Int).toNat)) (wrap64 (x13 + 1))) else (none)) else (none)) else (none)) else (none)) := by
  refine IsLim.step (solsticelaw16_FoldAnywhere.isL2 x0 x1 x10 x11 x12 x13 x14).mono (f := fun k => if x14 < (x1.length : Int) then (if 0 ≤ x14 then (if (IntKind.u64.wrap ((x0.size : Int))) = 0 then (none) else (if (wrap64 (Int.tmod (IntKind.u64.wrap (rd x1 x14)) (IntKind.u64.wrap ((x0.size : Int))))) = x13 then (if x12.size + x10.size ≤ 9223372036854775807 then (if (x12 ++ x10).size + x11.size ≤ 9223372036854775807 then (solsticelaw16_FoldAnywhere.l2 k x0 x1 x10 x11 ((x12 ++ x10) ++ x11) x13 (wrap64 (x14 + 1))) else (none)) else (none)) else (solsticelaw16_FoldAnywhere.l2 k x0 x1 x10 x11 x12 x13 (wrap64 (x14 + 1))))) else (none)) else (if 0 ≤ x13 then (if x13 ≤ (wrap64 (x13 + 1)) then (if (wrap64 (x13 + 1)) ≤ (x0.size : Int) then (if x12.size + (x0.extract (x13 : Int).toNat ((wrap64 (x13 + 1)) : Int).toNat).size ≤ 9223372036854775807 then (solsticelaw16_FoldAnywhere.l1 k x0 x1 x10 x11 (x12 ++ (x0.extract (x13 : Int).toNat ((wrap64 (x13 + 1)) : Int).toNat)) (wrap64 (x13 + 1))) else (none)) else (none)) else (none)) else (none))) (fun k => by rw [solsticelaw16_FoldAnywhere.l2]) ?_
  · repeat' first
    | (with_reducible exact IsLim.const _)
    | (with_reducible exact solsticelaw16_FoldAnywhere.isL1 _ _ _ _ _ _)
    | (with_reducible exact solsticelaw16_FoldAnywhere.isL2 _ _ _ _ _ _ _)
    | (with_reducible refine IsLim.ite ?_ ?_)
    | (with_reducible refine IsLim.bind ?_ (fun _ => ?_))
theorem solsticelaw16_FoldAnywhere.J6_eq (x0 : ByteArray) (x10 : ByteArray) (x12 : ByteArray) (x91 : Bool) : solsticelaw16_FoldAnywhere.J6 x0 x10 x12 x91 = if x91 = true then ((solsticelaw16_wakes.F).bind fun t216 => (some t216)) else (if x12.size + x10.size ≤ 9223372036854775807 then ((fold_Unfold.F (x12 ++ x10)).bind fun bt217 => (if bt217.2 = 0 then ((solsticekeep_Texts.F bt217.1 (([x0] : List ByteArray))).bind fun t224 => (if t224 = true then ((solsticelaw16_wakes.F).bind fun t225 => (some t225)) else (some false))) else (some false))) else (none)) := by
  refine IsLim.step (solsticelaw16_FoldAnywhere.isJ6 x0 x10 x12 x91).mono (f := fun k => if x91 = true then ((solsticelaw16_wakes.f k).bind fun t216 => (some t216)) else (if x12.size + x10.size ≤ 9223372036854775807 then ((fold_Unfold.f k (x12 ++ x10)).bind fun bt217 => (if bt217.2 = 0 then ((solsticekeep_Texts.f k bt217.1 (([x0] : List ByteArray))).bind fun t224 => (if t224 = true then ((solsticelaw16_wakes.f k).bind fun t225 => (some t225)) else (some false))) else (some false))) else (none))) (fun k => by rw [solsticelaw16_FoldAnywhere.j6]) ?_
  · repeat' first
    | (with_reducible exact IsLim.const _)
    | (with_reducible exact fold_Unfold.isF _)
    | (with_reducible exact solsticekeep_Texts.isF _ _)
    | (with_reducible exact solsticelaw16_wakes.isF)
    | (with_reducible refine IsLim.ite ?_ ?_)
    | (with_reducible refine IsLim.bind ?_ (fun _ => ?_))
theorem solsticelaw16_FoldAnywhere.F_eq (a0 : ByteArray) (l1 : List Int) (a2 : Bool) (a3 : Bool) : solsticelaw16_FoldAnywhere.F a0 l1 a2 a3 = if (a0.size : Int) > 300 then (solsticelaw16_FoldAnywhere.J0 a0 l1 a2 a3 true) else (if (a0.size : Int) = 0 then (solsticelaw16_FoldAnywhere.J0 a0 l1 a2 a3 true) else (solsticelaw16_FoldAnywhere.J0 a0 l1 a2 a3 (decide ((l1.length : Int) > 20)))) := by
  refine IsLim.eq (g := fun k => if (a0.size : Int) > 300 then (solsticelaw16_FoldAnywhere.j0 k a0 l1 a2 a3 true) else (if (a0.size : Int) = 0 then (solsticelaw16_FoldAnywhere.j0 k a0 l1 a2 a3 true) else (solsticelaw16_FoldAnywhere.j0 k a0 l1 a2 a3 (decide ((l1.length : Int) > 20))))) ?_
  · repeat' first
    | (with_reducible exact IsLim.const _)
    | (with_reducible exact solsticelaw16_FoldAnywhere.isJ0 _ _ _ _ _)
    | (with_reducible refine IsLim.ite ?_ ?_)
    | (with_reducible refine IsLim.bind ?_ (fun _ => ?_))
end Go.Proofs.YtfiiipjglacejaaDoor.PFol

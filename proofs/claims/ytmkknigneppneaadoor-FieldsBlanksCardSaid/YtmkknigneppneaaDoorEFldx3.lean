/- Printed functions of the family Fld without a bound on their rounds, and the equation that each meets. No condition. -/
import Derived.Test.YtmkknigneppneaaDoorBase
import Derived.Test.YtmkknigneppneaaDoorPFldx3
import Derived.Test.YtmkknigneppneaaDoorEFldx1
import Derived.Test.YtmkknigneppneaaDoorEFldx2
namespace Go.Proofs.YtmkknigneppneaaDoor.PFld
open Go.RowKit Go.Proofs.YtmkknigneppneaaDoorW.PrintWords Go.Proofs.YtmkknigneppneaaDoorW.PrintLast Go.Proofs.YtmkknigneppneaaDoor.Base
set_option linter.unusedVariables false
noncomputable def solsticelaw05_FieldsBlanks.J0 (x0 : List ByteArray) (x1 : Int) (x2 : ByteArray) (x23 : Bool) : Option (Bool) := lim fun k => solsticelaw05_FieldsBlanks.j0 k x0 x1 x2 x23
noncomputable def solsticelaw05_FieldsBlanks.L0 (x0 : List ByteArray) (x1 : Int) (x2 : ByteArray) (x7 : List ByteArray) (x8 : ByteArray) (x9 : Int) : Option (Bool) := lim fun k => solsticelaw05_FieldsBlanks.l0 k x0 x1 x2 x7 x8 x9
noncomputable def solsticelaw05_FieldsBlanks.J2 (x0 : List ByteArray) (x1 : Int) (x2 : ByteArray) (x7 : List ByteArray) (x8 : ByteArray) (x9 : Int) (x51 : Bool) : Option (Bool) := lim fun k => solsticelaw05_FieldsBlanks.j2 k x0 x1 x2 x7 x8 x9 x51
noncomputable def solsticelaw05_FieldsBlanks.L1 (x0 : List ByteArray) (x1 : Int) (x2 : ByteArray) (x7 : List ByteArray) (x8 : ByteArray) (x9 : Int) (x10 : Int) : Option (Bool) := lim fun k => solsticelaw05_FieldsBlanks.l1 k x0 x1 x2 x7 x8 x9 x10
noncomputable def solsticelaw05_FieldsBlanks.L2 (x0 : List ByteArray) (x2 : ByteArray) (x8 : ByteArray) (x11 : Int) : Option (Bool) := lim fun k => solsticelaw05_FieldsBlanks.l2 k x0 x2 x8 x11
noncomputable def solsticelaw05_FieldsBlanks.F (l0 : List ByteArray) (a1 : Int) (a2 : ByteArray) : Option (Bool) := lim fun k => solsticelaw05_FieldsBlanks.f k l0 a1 a2
theorem solsticelaw05_FieldsBlanks.isJ0 (x0 : List ByteArray) (x1 : Int) (x2 : ByteArray) (x23 : Bool) : IsLim (fun k => solsticelaw05_FieldsBlanks.j0 k x0 x1 x2 x23) (solsticelaw05_FieldsBlanks.J0 x0 x1 x2 x23) := ⟨fun k => (solsticelaw05_FieldsBlanks.mono_l k).1 x0 x1 x2 x23, rfl⟩
theorem solsticelaw05_FieldsBlanks.isL0 (x0 : List ByteArray) (x1 : Int) (x2 : ByteArray) (x7 : List ByteArray) (x8 : ByteArray) (x9 : Int) : IsLim (fun k => solsticelaw05_FieldsBlanks.l0 k x0 x1 x2 x7 x8 x9) (solsticelaw05_FieldsBlanks.L0 x0 x1 x2 x7 x8 x9) := ⟨fun k => (solsticelaw05_FieldsBlanks.mono_l k).2.1 x0 x1 x2 x7 x8 x9, rfl⟩
theorem solsticelaw05_FieldsBlanks.isJ2 (x0 : List ByteArray) (x1 : Int) (x2 : ByteArray) (x7 : List ByteArray) (x8 : ByteArray) (x9 : Int) (x51 : Bool) : IsLim (fun k => solsticelaw05_FieldsBlanks.j2 k x0 x1 x2 x7 x8 x9 x51) (solsticelaw05_FieldsBlanks.J2 x0 x1 x2 x7 x8 x9 x51) := ⟨fun k => (solsticelaw05_FieldsBlanks.mono_l k).2.2.1 x0 x1 x2 x7 x8 x9 x51, rfl⟩
theorem solsticelaw05_FieldsBlanks.isL1 (x0 : List ByteArray) (x1 : Int) (x2 : ByteArray) (x7 : List ByteArray) (x8 : ByteArray) (x9 : Int) (x10 : Int) : IsLim (fun k => solsticelaw05_FieldsBlanks.l1 k x0 x1 x2 x7 x8 x9 x10) (solsticelaw05_FieldsBlanks.L1 x0 x1 x2 x7 x8 x9 x10) := ⟨fun k => (solsticelaw05_FieldsBlanks.mono_l k).2.2.2.1 x0 x1 x2 x7 x8 x9 x10, rfl⟩
theorem solsticelaw05_FieldsBlanks.isL2 (x0 : List ByteArray) (x2 : ByteArray) (x8 : ByteArray) (x11 : Int) : IsLim (fun k => solsticelaw05_FieldsBlanks.l2 k x0 x2 x8 x11) (solsticelaw05_FieldsBlanks.L2 x0 x2 x8 x11) := ⟨fun k => (solsticelaw05_FieldsBlanks.mono_l k).2.2.2.2 x0 x2 x8 x11, rfl⟩
theorem solsticelaw05_FieldsBlanks.isF (l0 : List ByteArray) (a1 : Int) (a2 : ByteArray) : IsLim (fun k => solsticelaw05_FieldsBlanks.f k l0 a1 a2) (solsticelaw05_FieldsBlanks.F l0 a1 a2) := ⟨fun k => solsticelaw05_FieldsBlanks.mono l0 a1 a2 k, rfl⟩
theorem solsticelaw05_FieldsBlanks.J0_eq (x0 : List ByteArray) (x1 : Int) (x2 : ByteArray) (x23 : Bool) : solsticelaw05_FieldsBlanks.J0 x0 x1 x2 x23 = if x23 = true then (some true) else ((some (([(⟨#[32]⟩ : ByteArray), (⟨#[9]⟩ : ByteArray), (⟨#[32, 32]⟩ : ByteArray), (⟨#[32, 9, 13, 32]⟩ : ByteArray)] : List ByteArray) : List ByteArray)).bind fun y146 => (if 0 ≤ (wrap64 (Int.tmod (IntKind.u64.wrap (x1)) 4)) then (if (wrap64 (Int.tmod (IntKind.u64.wrap (x1)) 4)) < (y146.length : Int) then (solsticelaw05_FieldsBlanks.L0 x0 x1 x2 y146 (rdOf ByteArray.empty y146 (wrap64 (Int.tmod (IntKind.u64.wrap (x1)) 4))) 0) else (none)) else (none))) := by
  refine IsLim.step (solsticelaw05_FieldsBlanks.isJ0 x0 x1 x2 x23).mono (f := fun k => if x23 = true then (some true) else ((some (([(⟨#[32]⟩ : ByteArray), (⟨#[9]⟩ : ByteArray), (⟨#[32, 32]⟩ : ByteArray), (⟨#[32, 9, 13, 32]⟩ : ByteArray)] : List ByteArray) : List ByteArray)).bind fun y146 => (if 0 ≤ (wrap64 (Int.tmod (IntKind.u64.wrap (x1)) 4)) then (if (wrap64 (Int.tmod (IntKind.u64.wrap (x1)) 4)) < (y146.length : Int) then (solsticelaw05_FieldsBlanks.l0 k x0 x1 x2 y146 (rdOf ByteArray.empty y146 (wrap64 (Int.tmod (IntKind.u64.wrap (x1)) 4))) 0) else (none)) else (none)))) (fun k => by rw [solsticelaw05_FieldsBlanks.j0]) ?_
  · repeat' first
    | (with_reducible exact IsLim.const _)
    | (with_reducible exact solsticelaw05_FieldsBlanks.isL0 _ _ _ _ _ _)
    | (with_reducible refine IsLim.ite ?_ ?_)
    | (with_reducible refine IsLim.bind ?_ (fun _ => ?_))
theorem solsticelaw05_FieldsBlanks.L0_eq (x0 : List ByteArray) (x1 : Int) (x2 : ByteArray) (x7 : List ByteArray) (x8 : ByteArray) (x9 : Int) : solsticelaw05_FieldsBlanks.L0 x0 x1 x2 x7 x8 x9 = if x9 < (x0.length : Int) then (if 0 ≤ x9 then (if ((rdOf ByteArray.empty x0 x9).size : Int) < 1 then (solsticelaw05_FieldsBlanks.J2 x0 x1 x2 x7 x8 x9 true) else (solsticelaw05_FieldsBlanks.J2 x0 x1 x2 x7 x8 x9 (decide (((rdOf ByteArray.empty x0 x9).size : Int) > 10)))) else (none)) else (solsticelaw05_FieldsBlanks.L2 x0 x2 x8 0) := by
  refine IsLim.step (solsticelaw05_FieldsBlanks.isL0 x0 x1 x2 x7 x8 x9).mono (f := fun k => if x9 < (x0.length : Int) then (if 0 ≤ x9 then (if ((rdOf ByteArray.empty x0 x9).size : Int) < 1 then (solsticelaw05_FieldsBlanks.j2 k x0 x1 x2 x7 x8 x9 true) else (solsticelaw05_FieldsBlanks.j2 k x0 x1 x2 x7 x8 x9 (decide (((rdOf ByteArray.empty x0 x9).size : Int) > 10)))) else (none)) else (solsticelaw05_FieldsBlanks.l2 k x0 x2 x8 0)) (fun k => by rw [solsticelaw05_FieldsBlanks.l0]) ?_
  · repeat' first
    | (with_reducible exact IsLim.const _)
    | (with_reducible exact solsticelaw05_FieldsBlanks.isJ2 _ _ _ _ _ _ _)
    | (with_reducible exact solsticelaw05_FieldsBlanks.isL2 _ _ _ _)
    | (with_reducible refine IsLim.ite ?_ ?_)
    | (with_reducible refine IsLim.bind ?_ (fun _ => ?_))
theorem solsticelaw05_FieldsBlanks.J2_eq (x0 : List ByteArray) (x1 : Int) (x2 : ByteArray) (x7 : List ByteArray) (x8 : ByteArray) (x9 : Int) (x51 : Bool) : solsticelaw05_FieldsBlanks.J2 x0 x1 x2 x7 x8 x9 x51 = if x51 = true then (some true) else (solsticelaw05_FieldsBlanks.L1 x0 x1 x2 x7 x8 x9 0) := by
  refine IsLim.step (solsticelaw05_FieldsBlanks.isJ2 x0 x1 x2 x7 x8 x9 x51).mono (f := fun k => if x51 = true then (some true) else (solsticelaw05_FieldsBlanks.l1 k x0 x1 x2 x7 x8 x9 0)) (fun k => by rw [solsticelaw05_FieldsBlanks.j2]) ?_
  · repeat' first
    | (with_reducible exact IsLim.const _)
    | (with_reducible exact solsticelaw05_FieldsBlanks.isL1 _ _ _ _ _ _ _)
    | (with_reducible refine IsLim.ite ?_ ?_)
    | (with_reducible refine IsLim.bind ?_ (fun _ => ?_))
theorem solsticelaw05_FieldsBlanks.L1_eq (x0 : List ByteArray) (x1 : Int) (x2 : ByteArray) (x7 : List ByteArray) (x8 : ByteArray) (x9 : Int) (x10 : Int) : solsticelaw05_FieldsBlanks.L1 x0 x1 x2 x7 x8 x9 x10 = if 0 ≤ x9 then (if x9 < (x0.length : Int) then (if x10 < ((rdOf ByteArray.empty x0 x9).size : Int) then (if 0 ≤ x10 then (if (bt (rdOf ByteArray.empty x0 x9) x10) ≤ 32 then (some true) else (if (bt (rdOf ByteArray.empty x0 x9) x10) = 35 then (some true) else (if (bt (rdOf ByteArray.empty x0 x9) x10) = 34 then (some true) else (solsticelaw05_FieldsBlanks.L1 x0 x1 x2 x7 x8 x9 (wrap64 (x10 + 1)))))) else (none)) else (if x8.size + (rdOf ByteArray.empty x0 x9).size ≤ 9223372036854775807 then (if 0 ≤ (wrap64 (Int.tmod (IntKind.u64.wrap (wrap64 (x1 + x9))) 4)) then (if (wrap64 (Int.tmod (IntKind.u64.wrap (wrap64 (x1 + x9))) 4)) < (x7.length : Int) then (if (x8 ++ (rdOf ByteArray.empty x0 x9)).size + (rdOf ByteArray.empty x7 (wrap64 (Int.tmod (IntKind.u64.wrap (wrap64 (x1 + x9))) 4))).size ≤ 9223372036854775807 then (solsticelaw05_FieldsBlanks.L0 x0 x1 x2 x7 ((x8 ++ (rdOf ByteArray.empty x0 x9)) ++ (rdOf ByteArray.empty x7 (wrap64 (Int.tmod (IntKind.u64.wrap (wrap64 (x1 + x9))) 4)))) (wrap64 (x9 + 1))) else (none)) else (none)) else (none)) else (none))) else (none)) else (none) := by
  refine IsLim.step (solsticelaw05_FieldsBlanks.isL1 x0 x1 x2 x7 x8 x9 x10).mono (f := fun k => if 0 ≤ x9 then (if x9 < (x0.length : Int) then (if x10 < ((rdOf ByteArray.empty x0 x9).size : Int) then (if 0 ≤ x10 then (if (bt (rdOf ByteArray.empty x0 x9) x10) ≤ 32 then (some true) else (if (bt (rdOf ByteArray.empty x0 x9) x10) = 35 then (some true) else (if (bt (rdOf ByteArray.empty x0 x9) x10) = 34 then (some true) else (solsticelaw05_FieldsBlanks.l1 k x0 x1 x2 x7 x8 x9 (wrap64 (x10 + 1)))))) else (none)) else (if x8.size + (rdOf ByteArray.empty x0 x9).size ≤ 9223372036854775807 then (if 0 ≤ (wrap64 (Int.tmod (IntKind.u64.wrap (wrap64 (x1 + x9))) 4)) then (if (wrap64 (Int.tmod (IntKind.u64.wrap (wrap64 (x1 + x9))) 4)) < (x7.length : Int) then (if (x8 ++ (rdOf ByteArray.empty x0 x9)).size + (rdOf ByteArray.empty x7 (wrap64 (Int.tmod (IntKind.u64.wrap (wrap64 (x1 + x9))) 4))).size ≤ 9223372036854775807 then (solsticelaw05_FieldsBlanks.l0 k x0 x1 x2 x7 ((x8 ++ (rdOf ByteArray.empty x0 x9)) ++ (rdOf ByteArray.empty x7 (wrap64 (Int.tmod (IntKind.u64.wrap (wrap64 (x1 + x9))) 4)))) (wrap64 (x9 + 1))) else (none)) else (none)) else (none)) else (none))) else (none)) else (none)) (fun k => by rw [solsticelaw05_FieldsBlanks.l1]) ?_
  · repeat' first
    | (with_reducible exact IsLim.const _)
    | (with_reducible exact solsticelaw05_FieldsBlanks.isL0 _ _ _ _ _ _)
    | (with_reducible exact solsticelaw05_FieldsBlanks.isL1 _ _ _ _ _ _ _)
    | (with_reducible refine IsLim.ite ?_ ?_)
    | (with_reducible refine IsLim.bind ?_ (fun _ => ?_))
theorem solsticelaw05_FieldsBlanks.L2_eq (x0 : List ByteArray) (x2 : ByteArray) (x8 : ByteArray) (x11 : Int) : solsticelaw05_FieldsBlanks.L2 x0 x2 x8 x11 = if x11 < (x2.size : Int) then (if 0 ≤ x11 then (if (bt x2 x11) = 0 then (some true) else (if (bt x2 x11) = 10 then (some true) else (solsticelaw05_FieldsBlanks.L2 x0 x2 x8 (wrap64 (x11 + 1))))) else (none)) else ((fields_Split.f x8).bind fun bt158 => (if x8.size + 1 ≤ 9223372036854775807 then (if (x8 ++ (⟨#[35]⟩ : ByteArray)).size + x2.size ≤ 9223372036854775807 then ((fields_Split.f ((x8 ++ (⟨#[35]⟩ : ByteArray)) ++ x2)).bind fun bt162 => (if bt158.2 = 0 then (if bt162.2 = 0 then ((solsticekeep_Texts.F bt158.1 x0).bind fun t166 => (if t166 = true then ((solsticekeep_Texts.F bt162.1 x0).bind fun t167 => (if t167 = true then ((solsticelaw05_wakes.F).bind fun t168 => (some t168)) else (some false))) else (some false))) else (some false)) else (some false))) else (none)) else (none))) := by
  refine IsLim.step (solsticelaw05_FieldsBlanks.isL2 x0 x2 x8 x11).mono (f := fun k => if x11 < (x2.size : Int) then (if 0 ≤ x11 then (if (bt x2 x11) = 0 then (some true) else (if (bt x2 x11) = 10 then (some true) else (solsticelaw05_FieldsBlanks.l2 k x0 x2 x8 (wrap64 (x11 + 1))))) else (none)) else ((fields_Split.f x8).bind fun bt158 => (if x8.size + 1 ≤ 9223372036854775807 then (if (x8 ++ (⟨#[35]⟩ : ByteArray)).size + x2.size ≤ 9223372036854775807 then ((fields_Split.f ((x8 ++ (⟨#[35]⟩ : ByteArray)) ++ x2)).bind fun bt162 => (if bt158.2 = 0 then (if bt162.2 = 0 then ((solsticekeep_Texts.f k bt158.1 x0).bind fun t166 => (if t166 = true then ((solsticekeep_Texts.f k bt162.1 x0).bind fun t167 => (if t167 = true then ((solsticelaw05_wakes.f k).bind fun t168 => (some t168)) else (some false))) else (some false))) else (some false)) else (some false))) else (none)) else (none)))) (fun k => by rw [solsticelaw05_FieldsBlanks.l2]) ?_
  · repeat' first
    | (with_reducible exact IsLim.const _)
    | (with_reducible exact solsticekeep_Texts.isF _ _)
    | (with_reducible exact solsticelaw05_FieldsBlanks.isL2 _ _ _ _)
    | (with_reducible exact solsticelaw05_wakes.isF)
    | (with_reducible refine IsLim.ite ?_ ?_)
    | (with_reducible refine IsLim.bind ?_ (fun _ => ?_))
theorem solsticelaw05_FieldsBlanks.F_eq (l0 : List ByteArray) (a1 : Int) (a2 : ByteArray) : solsticelaw05_FieldsBlanks.F l0 a1 a2 = if (l0.length : Int) > 20 then (solsticelaw05_FieldsBlanks.J0 l0 a1 a2 true) else (solsticelaw05_FieldsBlanks.J0 l0 a1 a2 (decide ((a2.size : Int) > 100))) := by
  refine IsLim.eq (g := fun k => if (l0.length : Int) > 20 then (solsticelaw05_FieldsBlanks.j0 k l0 a1 a2 true) else (solsticelaw05_FieldsBlanks.j0 k l0 a1 a2 (decide ((a2.size : Int) > 100)))) ?_
  · repeat' first
    | (with_reducible exact IsLim.const _)
    | (with_reducible exact solsticelaw05_FieldsBlanks.isJ0 _ _ _ _)
    | (with_reducible refine IsLim.ite ?_ ?_)
    | (with_reducible refine IsLim.bind ?_ (fun _ => ?_))
end Go.Proofs.YtmkknigneppneaaDoor.PFld

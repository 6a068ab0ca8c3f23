/- Printed functions of the family Vls without a bound on their rounds, and the equation that each meets. No condition. -/
import Derived.Test.YtligbecmbefclaaDoorBase
import Derived.Test.YtligbecmbefclaaDoorPVlsx7
import Derived.Test.YtligbecmbefclaaDoorEVlsx6
namespace Go.Proofs.YtligbecmbefclaaDoor.PVls
open Go.RowKit Go.Proofs.YtligbecmbefclaaDoorW.PrintWords Go.Proofs.YtligbecmbefclaaDoorW.PrintLast Go.Proofs.YtligbecmbefclaaDoor.Base
set_option linter.unusedVariables false
noncomputable def value_Times.L0 (x2 : List Int) (x3 : Bool) (x11 : List ByteArray) (x12 : Int) (x13 : Int) : Option (List Int × Bool × Int) := lim fun k => value_Times.l0 k x2 x3 x11 x12 x13
noncomputable def value_Times.F (a0 : ByteArray) : Option (List Int × Bool × Int) := lim fun k => value_Times.f k a0
theorem value_Times.isL0 (x2 : List Int) (x3 : Bool) (x11 : List ByteArray) (x12 : Int) (x13 : Int) : IsLim (fun k => value_Times.l0 k x2 x3 x11 x12 x13) (value_Times.L0 x2 x3 x11 x12 x13) := ⟨fun k => (value_Times.mono_l k) x2 x3 x11 x12 x13, rfl⟩
theorem value_Times.isF (a0 : ByteArray) : IsLim (fun k => value_Times.f k a0) (value_Times.F a0) := ⟨fun k => value_Times.mono a0 k, rfl⟩
theorem value_Times.L0_eq (x2 : List Int) (x3 : Bool) (x11 : List ByteArray) (x12 : Int) (x13 : Int) : value_Times.L0 x2 x3 x11 x12 x13 = if x13 < x12 then (if 0 ≤ x13 then (if x13 < (x11.length : Int) then ((value_ParseTime.F (rdOf ByteArray.empty x11 x13)).bind fun bt171 => (if bt171.2.2 = 0 then (if x13 > 0 then (if (bt171.2.1 != x3) = true then (some (([] : List Int), false, 19)) else (if x2.length < 17592186044416 then (value_Times.L0 (x2 ++ [bt171.1]) bt171.2.1 x11 x12 (wrap64 (x13 + 1))) else (none))) else (if x2.length < 17592186044416 then (value_Times.L0 (x2 ++ [bt171.1]) bt171.2.1 x11 x12 (wrap64 (x13 + 1))) else (none))) else (some (([] : List Int), false, 19)))) else (none)) else (none)) else (some (x2, x3, 0)) := by
  refine IsLim.step (value_Times.isL0 x2 x3 x11 x12 x13).mono (f := fun k => if x13 < x12 then (if 0 ≤ x13 then (if x13 < (x11.length : Int) then ((value_ParseTime.f k (rdOf ByteArray.empty x11 x13)).bind fun bt171 => (if bt171.2.2 = 0 then (if x13 > 0 then (if (bt171.2.1 != x3) = true then (some (([] : List Int), false, 19)) else (if x2.length < 17592186044416 then (value_Times.l0 k (x2 ++ [bt171.1]) bt171.2.1 x11 x12 (wrap64 (x13 + 1))) else (none))) else (if x2.length < 17592186044416 then (value_Times.l0 k (x2 ++ [bt171.1]) bt171.2.1 x11 x12 (wrap64 (x13 + 1))) else (none))) else (some (([] : List Int), false, 19)))) else (none)) else (none)) else (some (x2, x3, 0))) (fun k => by rw [value_Times.l0]) ?_
  · repeat' first
    | (with_reducible exact IsLim.const _)
    | (with_reducible exact value_ParseTime.isF _)
    | (with_reducible exact value_Times.isL0 _ _ _ _ _)
    | (with_reducible refine IsLim.ite ?_ ?_)
    | (with_reducible refine IsLim.bind ?_ (fun _ => ?_))
theorem value_Times.F_eq (a0 : ByteArray) : value_Times.F a0 = (strings_Split.f a0 (⟨#[44]⟩ : ByteArray)).bind fun t167 => (value_Times.L0 ([] : List Int) false t167 (t167.length : Int) 0) := by
  refine IsLim.eq (g := fun k => (strings_Split.f a0 (⟨#[44]⟩ : ByteArray)).bind fun t167 => (value_Times.l0 k ([] : List Int) false t167 (t167.length : Int) 0)) ?_
  · repeat' first
    | (with_reducible exact IsLim.const _)
    | (with_reducible exact value_Times.isL0 _ _ _ _ _)
    | (with_reducible refine IsLim.ite ?_ ?_)
    | (with_reducible refine IsLim.bind ?_ (fun _ => ?_))
noncomputable def solsticekeep_Ints.L0 (x0 : List Int) (x1 : List Int) (x5 : Int) : Option (Bool) := lim fun k => solsticekeep_Ints.l0 k x0 x1 x5
noncomputable def solsticekeep_Ints.F (l0 : List Int) (l1 : List Int) : Option (Bool) := lim fun k => solsticekeep_Ints.f k l0 l1
theorem solsticekeep_Ints.isL0 (x0 : List Int) (x1 : List Int) (x5 : Int) : IsLim (fun k => solsticekeep_Ints.l0 k x0 x1 x5) (solsticekeep_Ints.L0 x0 x1 x5) := ⟨fun k => (solsticekeep_Ints.mono_l k) x0 x1 x5, rfl⟩
theorem solsticekeep_Ints.isF (l0 : List Int) (l1 : List Int) : IsLim (fun k => solsticekeep_Ints.f k l0 l1) (solsticekeep_Ints.F l0 l1) := ⟨fun k => solsticekeep_Ints.mono l0 l1 k, rfl⟩
theorem solsticekeep_Ints.L0_eq (x0 : List Int) (x1 : List Int) (x5 : Int) : solsticekeep_Ints.L0 x0 x1 x5 = if x5 < (x0.length : Int) then (if 0 ≤ x5 then (if x5 < (x1.length : Int) then (if (rd x0 x5) = (rd x1 x5) then (solsticekeep_Ints.L0 x0 x1 (wrap64 (x5 + 1))) else (some false)) else (none)) else (none)) else (some true) := by
  refine IsLim.step (solsticekeep_Ints.isL0 x0 x1 x5).mono (f := fun k => if x5 < (x0.length : Int) then (if 0 ≤ x5 then (if x5 < (x1.length : Int) then (if (rd x0 x5) = (rd x1 x5) then (solsticekeep_Ints.l0 k x0 x1 (wrap64 (x5 + 1))) else (some false)) else (none)) else (none)) else (some true)) (fun k => by rw [solsticekeep_Ints.l0]) ?_
  · repeat' first
    | (with_reducible exact IsLim.const _)
    | (with_reducible exact solsticekeep_Ints.isL0 _ _ _)
    | (with_reducible refine IsLim.ite ?_ ?_)
    | (with_reducible refine IsLim.bind ?_ (fun _ => ?_))
theorem solsticekeep_Ints.F_eq (l0 : List Int) (l1 : List Int) : solsticekeep_Ints.F l0 l1 = if (l0.length : Int) = (l1.length : Int) then (solsticekeep_Ints.L0 l0 l1 0) else (some false) := by
  refine IsLim.eq (g := fun k => if (l0.length : Int) = (l1.length : Int) then (solsticekeep_Ints.l0 k l0 l1 0) else (some false)) ?_
  · repeat' first
    | (with_reducible exact IsLim.const _)
    | (with_reducible exact solsticekeep_Ints.isL0 _ _ _)
    | (with_reducible refine IsLim.ite ?_ ?_)
    | (with_reducible refine IsLim.bind ?_ (fun _ => ?_))
noncomputable def value_Offset.J0 (x0 : Int) (x11 : Bool) : Option (ByteArray × Int) := lim fun k => value_Offset.j0 k x0 x11
noncomputable def value_Offset.J1 (x0 : Int) (x4 : ByteArray) : Option (ByteArray × Int) := lim fun k => value_Offset.j1 k x0 x4
noncomputable def value_Offset.F (a0 : Int) : Option (ByteArray × Int) := lim fun k => value_Offset.f k a0
theorem value_Offset.isJ0 (x0 : Int) (x11 : Bool) : IsLim (fun k => value_Offset.j0 k x0 x11) (value_Offset.J0 x0 x11) := ⟨fun k => (value_Offset.mono_l k).1 x0 x11, rfl⟩
theorem value_Offset.isJ1 (x0 : Int) (x4 : ByteArray) : IsLim (fun k => value_Offset.j1 k x0 x4) (value_Offset.J1 x0 x4) := ⟨fun k => (value_Offset.mono_l k).2 x0 x4, rfl⟩
theorem value_Offset.isF (a0 : Int) : IsLim (fun k => value_Offset.f k a0) (value_Offset.F a0) := ⟨fun k => value_Offset.mono a0 k, rfl⟩
theorem value_Offset.J0_eq (x0 : Int) (x11 : Bool) : value_Offset.J0 x0 x11 = if x11 = true then (some ((⟨#[]⟩ : ByteArray), 19)) else (if x0 < 0 then (value_Offset.J1 (wrap64 (-x0)) (⟨#[45]⟩ : ByteArray)) else (value_Offset.J1 x0 (⟨#[43]⟩ : ByteArray))) := by
  refine IsLim.step (value_Offset.isJ0 x0 x11).mono (f := fun k => if x11 = true then (some ((⟨#[]⟩ : ByteArray), 19)) else (if x0 < 0 then (value_Offset.j1 k (wrap64 (-x0)) (⟨#[45]⟩ : ByteArray)) else (value_Offset.j1 k x0 (⟨#[43]⟩ : ByteArray)))) (fun k => by rw [value_Offset.j0]) ?_
  · repeat' first
    | (with_reducible exact IsLim.const _)
    | (with_reducible exact value_Offset.isJ1 _ _)
    | (with_reducible refine IsLim.ite ?_ ?_)
    | (with_reducible refine IsLim.bind ?_ (fun _ => ?_))
theorem value_Offset.J1_eq (x0 : Int) (x4 : ByteArray) : value_Offset.J1 x0 x4 = (num_Text.f (wrap64 (Int.tdiv x0 3600)) 2).bind fun t182 => (if x4.size + t182.size ≤ 9223372036854775807 then ((num_Text.f (wrap64 (Int.tdiv (Int.tmod x0 3600) 60)) 2).bind fun t183 => (if (x4 ++ t182).size + t183.size ≤ 9223372036854775807 then (if (Int.tmod x0 60) = 0 then (some ((x4 ++ t182) ++ t183, 0)) else ((num_Text.f (Int.tmod x0 60) 2).bind fun t184 => (if ((x4 ++ t182) ++ t183).size + t184.size ≤ 9223372036854775807 then (some (((x4 ++ t182) ++ t183) ++ t184, 0)) else (none)))) else (none))) else (none)) := by
  refine IsLim.step (value_Offset.isJ1 x0 x4).mono (f := fun k => (num_Text.f (wrap64 (Int.tdiv x0 3600)) 2).bind fun t182 => (if x4.size + t182.size ≤ 9223372036854775807 then ((num_Text.f (wrap64 (Int.tdiv (Int.tmod x0 3600) 60)) 2).bind fun t183 => (if (x4 ++ t182).size + t183.size ≤ 9223372036854775807 then (if (Int.tmod x0 60) = 0 then (some ((x4 ++ t182) ++ t183, 0)) else ((num_Text.f (Int.tmod x0 60) 2).bind fun t184 => (if ((x4 ++ t182) ++ t183).size + t184.size ≤ 9223372036854775807 then (some (((x4 ++ t182) ++ t183) ++ t184, 0)) else (none)))) else (none))) else (none))) (fun k => by rw [value_Offset.j1]) ?_
  · repeat' first
    | (with_reducible exact IsLim.const _)
    | (with_reducible refine IsLim.ite ?_ ?_)
    | (with_reducible refine IsLim.bind ?_ (fun _ => ?_))
theorem value_Offset.F_eq (a0 : Int) : value_Offset.F a0 = if a0 ≤ (-86400) then (value_Offset.J0 a0 true) else (value_Offset.J0 a0 (decide (a0 ≥ 86400))) := by
  refine IsLim.eq (g := fun k => if a0 ≤ (-86400) then (value_Offset.j0 k a0 true) else (value_Offset.j0 k a0 (decide (a0 ≥ 86400)))) ?_
  · repeat' first
    | (with_reducible exact IsLim.const _)
    | (with_reducible exact value_Offset.isJ0 _ _)
    | (with_reducible refine IsLim.ite ?_ ?_)
    | (with_reducible refine IsLim.bind ?_ (fun _ => ?_))
end Go.Proofs.YtligbecmbefclaaDoor.PVls

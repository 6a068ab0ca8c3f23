/- Printed functions of the family Lin without a bound on their rounds, and the equation that each meets. No condition. -/
import Derived.Test.YtookjnpmbenheaaBase
import Derived.Test.YtookjnpmbenheaaPLinx9
import Derived.Test.YtookjnpmbenheaaELinx3
namespace Go.Proofs.Ytookjnpmbenheaa.PLin
open Go.RowKit Go.Proofs.YtookjnpmbenheaaW.PrintWords Go.Proofs.YtookjnpmbenheaaW.PrintLast Go.Proofs.Ytookjnpmbenheaa.Base
set_option linter.unusedVariables false
noncomputable def line_Text.L0 (x5 : ByteArray) (x19 : List (S54)) (x20 : Int) (x21 : Int) (x186000 : ByteArray) (x186001 : List (S54)) (x186002 : ByteArray) : Option (ByteArray × Int) := lim fun k => line_Text.l0 k x5 x19 x20 x21 x186000 x186001 x186002
noncomputable def line_Text.L1 (x5 : ByteArray) (x8 : List ByteArray) (x19 : List (S54)) (x20 : Int) (x21 : Int) (x26 : List ByteArray) (x27 : Int) (x28 : Int) (x186000 : ByteArray) (x186001 : List (S54)) (x186002 : ByteArray) (x189000 : ByteArray) (x189001 : List ByteArray) : Option (ByteArray × Int) := lim fun k => line_Text.l1 k x5 x8 x19 x20 x21 x26 x27 x28 x186000 x186001 x186002 x189000 x189001
noncomputable def line_Text.F (a0_0 : ByteArray) (l0_1 : List (S54)) (a0_2 : ByteArray) : Option (ByteArray × Int) := lim fun k => line_Text.f k a0_0 l0_1 a0_2
theorem line_Text.isL0 (x5 : ByteArray) (x19 : List (S54)) (x20 : Int) (x21 : Int) (x186000 : ByteArray) (x186001 : List (S54)) (x186002 : ByteArray) : IsLim (fun k => line_Text.l0 k x5 x19 x20 x21 x186000 x186001 x186002) (line_Text.L0 x5 x19 x20 x21 x186000 x186001 x186002) := ⟨fun k => (line_Text.mono_l k).1 x5 x19 x20 x21 x186000 x186001 x186002, rfl⟩
theorem line_Text.isL1 (x5 : ByteArray) (x8 : List ByteArray) (x19 : List (S54)) (x20 : Int) (x21 : Int) (x26 : List ByteArray) (x27 : Int) (x28 : Int) (x186000 : ByteArray) (x186001 : List (S54)) (x186002 : ByteArray) (x189000 : ByteArray) (x189001 : List ByteArray) : IsLim (fun k => line_Text.l1 k x5 x8 x19 x20 x21 x26 x27 x28 x186000 x186001 x186002 x189000 x189001) (line_Text.L1 x5 x8 x19 x20 x21 x26 x27 x28 x186000 x186001 x186002 x189000 x189001) := ⟨fun k => (line_Text.mono_l k).2 x5 x8 x19 x20 x21 x26 x27 x28 x186000 x186001 x186002 x189000 x189001, rfl⟩
theorem line_Text.isF (a0_0 : ByteArray) (l0_1 : List (S54)) (a0_2 : ByteArray) : IsLim (fun k => line_Text.f k a0_0 l0_1 a0_2) (line_Text.F a0_0 l0_1 a0_2) := ⟨fun k => line_Text.mono a0_0 l0_1 a0_2 k, rfl⟩
theorem line_Text.L0_eq (x5 : ByteArray) (x19 : List (S54)) (x20 : Int) (x21 : Int) (x186000 : ByteArray) (x186001 : List (S54)) (x186002 : ByteArray) : line_Text.L0 x5 x19 x20 x21 x186000 x186001 x186002 = if x21 < x20 then (if 0 ≤ x21 then (if x21 < (x19.length : Int) then (line_Text.L1 x5 ([] : List ByteArray) x19 x20 x21 ((rd_T54 x19 x21).f1) (((rd_T54 x19 x21).f1).length : Int) 0 x186000 x186001 x186002 ((rd_T54 x19 x21).f0) ((rd_T54 x19 x21).f1)) else (none)) else (none)) else (if x5.size + 1 ≤ 9223372036854775807 then (if (x5 ++ (⟨#[58]⟩ : ByteArray)).size + x186002.size ≤ 9223372036854775807 then (some ((x5 ++ (⟨#[58]⟩ : ByteArray)) ++ x186002, 0)) else (none)) else (none)) := by
  refine IsLim.step (line_Text.isL0 x5 x19 x20 x21 x186000 x186001 x186002).mono (f := fun k => if x21 < x20 then (if 0 ≤ x21 then (if x21 < (x19.length : Int) then (line_Text.l1 k x5 ([] : List ByteArray) x19 x20 x21 ((rd_T54 x19 x21).f1) (((rd_T54 x19 x21).f1).length : Int) 0 x186000 x186001 x186002 ((rd_T54 x19 x21).f0) ((rd_T54 x19 x21).f1)) else (none)) else (none)) else (if x5.size + 1 ≤ 9223372036854775807 then (if (x5 ++ (⟨#[58]⟩ : ByteArray)).size + x186002.size ≤ 9223372036854775807 then (some ((x5 ++ (⟨#[58]⟩ : ByteArray)) ++ x186002, 0)) else (none)) else (none))) (fun k => by rw [line_Text.l0]) ?_
  · repeat' first
    | (with_reducible exact IsLim.const _)
    | (with_reducible exact line_Text.isL1 _ _ _ _ _ _ _ _ _ _ _ _ _)
    | (with_reducible refine IsLim.ite ?_ ?_)
    | (with_reducible refine IsLim.bind ?_ (fun _ => ?_))
theorem line_Text.L1_eq (x5 : ByteArray) (x8 : List ByteArray) (x19 : List (S54)) (x20 : Int) (x21 : Int) (x26 : List ByteArray) (x27 : Int) (x28 : Int) (x186000 : ByteArray) (x186001 : List (S54)) (x186002 : ByteArray) (x189000 : ByteArray) (x189001 : List ByteArray) : line_Text.L1 x5 x8 x19 x20 x21 x26 x27 x28 x186000 x186001 x186002 x189000 x189001 = if x28 < x27 then (if 0 ≤ x28 then (if x28 < (x26.length : Int) then ((line_until.F (rdOf ByteArray.empty x26 x28) (⟨#[58, 59, 44]⟩ : ByteArray)).bind fun t190 => (if t190 < ((rdOf ByteArray.empty x26 x28).size : Int) then (if 1 + (rdOf ByteArray.empty x26 x28).size ≤ 9223372036854775807 then (if ((⟨#[34]⟩ : ByteArray) ++ (rdOf ByteArray.empty x26 x28)).size + 1 ≤ 9223372036854775807 then (if x8.length < 8796093022208 then (line_Text.L1 x5 (x8 ++ [((⟨#[34]⟩ : ByteArray) ++ (rdOf ByteArray.empty x26 x28)) ++ (⟨#[34]⟩ : ByteArray)]) x19 x20 x21 x26 x27 (wrap64 (x28 + 1)) x186000 x186001 x186002 x189000 x189001) else (none)) else (none)) else (none)) else (if x8.length < 8796093022208 then (line_Text.L1 x5 (x8 ++ [rdOf ByteArray.empty x26 x28]) x19 x20 x21 x26 x27 (wrap64 (x28 + 1)) x186000 x186001 x186002 x189000 x189001) else (none)))) else (none)) else (none)) else (if 1 + x189000.size ≤ 9223372036854775807 then (if ((⟨#[59]⟩ : ByteArray) ++ x189000).size + 1 ≤ 9223372036854775807 then ((strings_Join.f x8 (⟨#[44]⟩ : ByteArray)).bind fun t197 => (if (((⟨#[59]⟩ : ByteArray) ++ x189000) ++ (⟨#[61]⟩ : ByteArray)).size + t197.size ≤ 9223372036854775807 then (if x5.size + ((((⟨#[59]⟩ : ByteArray) ++ x189000) ++ (⟨#[61]⟩ : ByteArray)) ++ t197).size ≤ 9223372036854775807 then (line_Text.L0 (x5 ++ ((((⟨#[59]⟩ : ByteArray) ++ x189000) ++ (⟨#[61]⟩ : ByteArray)) ++ t197)) x19 x20 (wrap64 (x21 + 1)) x186000 x186001 x186002) else (none)) else (none))) else (none)) else (none)) := by
  refine IsLim.step (line_Text.isL1 x5 x8 x19 x20 x21 x26 x27 x28 x186000 x186001 x186002 x189000 x189001).mono (f := fun k => if x28 < x27 then (if 0 ≤ x28 then (if x28 < (x26.length : Int) then ((line_until.f k (rdOf ByteArray.empty x26 x28) (⟨#[58, 59, 44]⟩ : ByteArray)).bind fun t190 => (if t190 < ((rdOf ByteArray.empty x26 x28).size : Int) then (if 1 + (rdOf ByteArray.empty x26 x28).size ≤ 9223372036854775807 then (if ((⟨#[34]⟩ : ByteArray) ++ (rdOf ByteArray.empty x26 x28)).size + 1 ≤ 9223372036854775807 then (if x8.length < 8796093022208 then (line_Text.l1 k x5 (x8 ++ [((⟨#[34]⟩ : ByteArray) ++ (rdOf ByteArray.empty x26 x28)) ++ (⟨#[34]⟩ : ByteArray)]) x19 x20 x21 x26 x27 (wrap64 (x28 + 1)) x186000 x186001 x186002 x189000 x189001) else (none)) else (none)) else (none)) else (if x8.length < 8796093022208 then (line_Text.l1 k x5 (x8 ++ [rdOf ByteArray.empty x26 x28]) x19 x20 x21 x26 x27 (wrap64 (x28 + 1)) x186000 x186001 x186002 x189000 x189001) else (none)))) else (none)) else (none)) else (if 1 + x189000.size ≤ 9223372036854775807 then (if ((⟨#[59]⟩ : ByteArray) ++ x189000).size + 1 ≤ 9223372036854775807 then ((strings_Join.f x8 (⟨#[44]⟩ : ByteArray)).bind fun t197 => (if (((⟨#[59]⟩ : ByteArray) ++ x189000) ++ (⟨#[61]⟩ : ByteArray)).size + t197.size ≤ 9223372036854775807 then (if x5.size + ((((⟨#[59]⟩ : ByteArray) ++ x189000) ++ (⟨#[61]⟩ : ByteArray)) ++ t197).size ≤ 9223372036854775807 then (line_Text.l0 k (x5 ++ ((((⟨#[59]⟩ : ByteArray) ++ x189000) ++ (⟨#[61]⟩ : ByteArray)) ++ t197)) x19 x20 (wrap64 (x21 + 1)) x186000 x186001 x186002) else (none)) else (none))) else (none)) else (none))) (fun k => by rw [line_Text.l1]) ?_
  · repeat' first
    | (with_reducible exact IsLim.const _)
    | (with_reducible exact line_Text.isL0 _ _ _ _ _ _ _)
    | (with_reducible exact line_Text.isL1 _ _ _ _ _ _ _ _ _ _ _ _ _)
    | (with_reducible exact line_until.isF _ _)
    | (with_reducible refine IsLim.ite ?_ ?_)
    | (with_reducible refine IsLim.bind ?_ (fun _ => ?_))
theorem line_Text.F_eq (a0_0 : ByteArray) (l0_1 : List (S54)) (a0_2 : ByteArray) : line_Text.F a0_0 l0_1 a0_2 = (line_Check.F a0_0 l0_1 a0_2).bind fun t186 => (if t186 = 0 then (line_Text.L0 a0_0 l0_1 (l0_1.length : Int) 0 a0_0 l0_1 a0_2) else (some ((⟨#[]⟩ : ByteArray), t186))) := by
  refine IsLim.eq (g := fun k => (line_Check.f k a0_0 l0_1 a0_2).bind fun t186 => (if t186 = 0 then (line_Text.l0 k a0_0 l0_1 (l0_1.length : Int) 0 a0_0 l0_1 a0_2) else (some ((⟨#[]⟩ : ByteArray), t186)))) ?_
  · repeat' first
    | (with_reducible exact IsLim.const _)
    | (with_reducible exact line_Check.isF _ _ _)
    | (with_reducible exact line_Text.isL0 _ _ _ _ _ _ _)
    | (with_reducible refine IsLim.ite ?_ ?_)
    | (with_reducible refine IsLim.bind ?_ (fun _ => ?_))
noncomputable def line_Alike.L0 (x0 : ByteArray) (x1 : ByteArray) (x12 : Int) (x13 : Int) : Option (Bool) := lim fun k => line_Alike.l0 k x0 x1 x12 x13
noncomputable def line_Alike.F (a0 : ByteArray) (a1 : ByteArray) : Option (Bool) := lim fun k => line_Alike.f k a0 a1
theorem line_Alike.isL0 (x0 : ByteArray) (x1 : ByteArray) (x12 : Int) (x13 : Int) : IsLim (fun k => line_Alike.l0 k x0 x1 x12 x13) (line_Alike.L0 x0 x1 x12 x13) := ⟨fun k => (line_Alike.mono_l k) x0 x1 x12 x13, rfl⟩
theorem line_Alike.isF (a0 : ByteArray) (a1 : ByteArray) : IsLim (fun k => line_Alike.f k a0 a1) (line_Alike.F a0 a1) := ⟨fun k => line_Alike.mono a0 a1 k, rfl⟩
theorem line_Alike.L0_eq (x0 : ByteArray) (x1 : ByteArray) (x12 : Int) (x13 : Int) : line_Alike.L0 x0 x1 x12 x13 = if x13 < x12 then (if 0 ≤ x13 then (if x13 < (x0.size : Int) then ((line_small.f (bt x0 x13)).bind fun t198 => (if x13 < (x1.size : Int) then ((line_small.f (bt x1 x13)).bind fun t199 => (if t198 = t199 then (line_Alike.L0 x0 x1 x12 (wrap64 (x13 + 1))) else (some false))) else (none))) else (none)) else (none)) else (some true) := by
  refine IsLim.step (line_Alike.isL0 x0 x1 x12 x13).mono (f := fun k => if x13 < x12 then (if 0 ≤ x13 then (if x13 < (x0.size : Int) then ((line_small.f (bt x0 x13)).bind fun t198 => (if x13 < (x1.size : Int) then ((line_small.f (bt x1 x13)).bind fun t199 => (if t198 = t199 then (line_Alike.l0 k x0 x1 x12 (wrap64 (x13 + 1))) else (some false))) else (none))) else (none)) else (none)) else (some true)) (fun k => by rw [line_Alike.l0]) ?_
  · repeat' first
    | (with_reducible exact IsLim.const _)
    | (with_reducible exact line_Alike.isL0 _ _ _ _)
    | (with_reducible refine IsLim.ite ?_ ?_)
    | (with_reducible refine IsLim.bind ?_ (fun _ => ?_))
theorem line_Alike.F_eq (a0 : ByteArray) (a1 : ByteArray) : line_Alike.F a0 a1 = if (a0.size : Int) = (a1.size : Int) then (line_Alike.L0 a0 a1 (a0.size : Int) 0) else (some false) := by
  refine IsLim.eq (g := fun k => if (a0.size : Int) = (a1.size : Int) then (line_Alike.l0 k a0 a1 (a0.size : Int) 0) else (some false)) ?_
  · repeat' first
    | (with_reducible exact IsLim.const _)
    | (with_reducible exact line_Alike.isL0 _ _ _ _)
    | (with_reducible refine IsLim.ite ?_ ?_)
    | (with_reducible refine IsLim.bind ?_ (fun _ => ?_))
end Go.Proofs.Ytookjnpmbenheaa.PLin

/- Printed functions of the family Esc without a bound on their rounds, and the equation that each meets. No condition. -/
import Derived.Test.YtookjnpmbenheaaBase
import Derived.Test.YtookjnpmbenheaaPEscx5
namespace Go.Proofs.Ytookjnpmbenheaa.PEsc
open Go.RowKit Go.Proofs.YtookjnpmbenheaaW.PrintWords Go.Proofs.YtookjnpmbenheaaW.PrintLast Go.Proofs.Ytookjnpmbenheaa.Base
set_option linter.unusedVariables false
noncomputable def solsticeref16_Get.L0 (x0 : ByteArray) (x4 : List Int) (x5 : Int) : Option (ByteArray × Int) := lim fun k => solsticeref16_Get.l0 k x0 x4 x5
noncomputable def solsticeref16_Get.J1 (x0 : ByteArray) (x4 : List Int) (x5 : Int) (x6 : Int) (x20 : Bool) : Option (ByteArray × Int) := lim fun k => solsticeref16_Get.j1 k x0 x4 x5 x6 x20
noncomputable def solsticeref16_Get.J2 (x0 : ByteArray) (x4 : List Int) (x5 : Int) (x43 : Int) (x44 : Bool) : Option (ByteArray × Int) := lim fun k => solsticeref16_Get.j2 k x0 x4 x5 x43 x44
noncomputable def solsticeref16_Get.F (a0 : ByteArray) : Option (ByteArray × Int) := lim fun k => solsticeref16_Get.f k a0
theorem solsticeref16_Get.isL0 (x0 : ByteArray) (x4 : List Int) (x5 : Int) : IsLim (fun k => solsticeref16_Get.l0 k x0 x4 x5) (solsticeref16_Get.L0 x0 x4 x5) := ⟨fun k => (solsticeref16_Get.mono_l k).1 x0 x4 x5, rfl⟩
theorem solsticeref16_Get.isJ1 (x0 : ByteArray) (x4 : List Int) (x5 : Int) (x6 : Int) (x20 : Bool) : IsLim (fun k => solsticeref16_Get.j1 k x0 x4 x5 x6 x20) (solsticeref16_Get.J1 x0 x4 x5 x6 x20) := ⟨fun k => (solsticeref16_Get.mono_l k).2.1 x0 x4 x5 x6 x20, rfl⟩
theorem solsticeref16_Get.isJ2 (x0 : ByteArray) (x4 : List Int) (x5 : Int) (x43 : Int) (x44 : Bool) : IsLim (fun k => solsticeref16_Get.j2 k x0 x4 x5 x43 x44) (solsticeref16_Get.J2 x0 x4 x5 x43 x44) := ⟨fun k => (solsticeref16_Get.mono_l k).2.2 x0 x4 x5 x43 x44, rfl⟩
theorem solsticeref16_Get.isF (a0 : ByteArray) : IsLim (fun k => solsticeref16_Get.f k a0) (solsticeref16_Get.F a0) := ⟨fun k => solsticeref16_Get.mono a0 k, rfl⟩
theorem solsticeref16_Get.L0_eq (x0 : ByteArray) (x4 : List Int) (x5 : Int) : solsticeref16_Get.L0 x0 x4 x5 = if x5 < (x0.size : Int) then (if 0 ≤ x5 then ((solsticeref16_bad.f (bt x0 x5)).bind fun t223 => (if t223 = true then (solsticeref16_Get.J1 x0 x4 x5 (bt x0 x5) true) else (if (bt x0 x5) = 59 then (solsticeref16_Get.J1 x0 x4 x5 (bt x0 x5) true) else (solsticeref16_Get.J1 x0 x4 x5 (bt x0 x5) ((bt x0 x5) == 44))))) else (none)) else (some (strOfNums x4, 0)) := by
  refine IsLim.step (solsticeref16_Get.isL0 x0 x4 x5).mono (f := fun k => if x5 < (x0.size : Int) then (if 0 ≤ x5 then ((solsticeref16_bad.f (bt x0 x5)).bind fun t223 => (if t223 = true then (solsticeref16_Get.j1 k x0 x4 x5 (bt x0 x5) true) else (if (bt x0 x5) = 59 then (solsticeref16_Get.j1 k x0 x4 x5 (bt x0 x5) true) else (solsticeref16_Get.j1 k x0 x4 x5 (bt x0 x5) ((bt x0 x5) == 44))))) else (none)) else (some (strOfNums x4, 0))) (fun k => by rw [solsticeref16_Get.l0]) ?_
  · repeat' first
    | (with_reducible exact IsLim.const _)
    | (with_reducible exact solsticeref16_Get.isJ1 _ _ _ _ _)
    | (with_reducible refine IsLim.ite ?_ ?_)
    | (with_reducible refine IsLim.bind ?_ (fun _ => ?_))
theorem solsticeref16_Get.J1_eq (x0 : ByteArray) (x4 : List Int) (x5 : Int) (x6 : Int) (x20 : Bool) : solsticeref16_Get.J1 x0 x4 x5 x6 x20 = if x20 = true then (some ((⟨#[]⟩ : ByteArray), 3)) else (if x6 = 92 then (if (wrap64 (x5 + 1)) ≥ (x0.size : Int) then (some ((⟨#[]⟩ : ByteArray), 3)) else (if 0 ≤ (wrap64 (x5 + 1)) then (if (wrap64 (x5 + 1)) < (x0.size : Int) then (if (bt x0 (wrap64 (x5 + 1))) = 92 then (solsticeref16_Get.J2 x0 x4 (wrap64 (x5 + 1)) (bt x0 (wrap64 (x5 + 1))) ((bt x0 (wrap64 (x5 + 1))) == 92)) else (if (bt x0 (wrap64 (x5 + 1))) = 59 then (solsticeref16_Get.J2 x0 x4 (wrap64 (x5 + 1)) (bt x0 (wrap64 (x5 + 1))) ((bt x0 (wrap64 (x5 + 1))) == 59)) else (solsticeref16_Get.J2 x0 x4 (wrap64 (x5 + 1)) (bt x0 (wrap64 (x5 + 1))) ((bt x0 (wrap64 (x5 + 1))) == 44)))) else (none)) else (none))) else (if x4.length < 140737488355328 then (solsticeref16_Get.L0 x0 (x4 ++ [x6]) (wrap64 (x5 + 1))) else (none))) := by
  refine IsLim.step (solsticeref16_Get.isJ1 x0 x4 x5 x6 x20).mono (f := fun k => if x20 = true then (some ((⟨#[]⟩ : ByteArray), 3)) else (if x6 = 92 then (if (wrap64 (x5 + 1)) ≥ (x0.size : Int) then (some ((⟨#[]⟩ : ByteArray), 3)) else (if 0 ≤ (wrap64 (x5 + 1)) then (if (wrap64 (x5 + 1)) < (x0.size : Int) then (if (bt x0 (wrap64 (x5 + 1))) = 92 then (solsticeref16_Get.j2 k x0 x4 (wrap64 (x5 + 1)) (bt x0 (wrap64 (x5 + 1))) ((bt x0 (wrap64 (x5 + 1))) == 92)) else (if (bt x0 (wrap64 (x5 + 1))) = 59 then (solsticeref16_Get.j2 k x0 x4 (wrap64 (x5 + 1)) (bt x0 (wrap64 (x5 + 1))) ((bt x0 (wrap64 (x5 + 1))) == 59)) else (solsticeref16_Get.j2 k x0 x4 (wrap64 (x5 + 1)) (bt x0 (wrap64 (x5 + 1))) ((bt x0 (wrap64 (x5 + 1))) == 44)))) else (none)) else (none))) else (if x4.length < 140737488355328 then (solsticeref16_Get.l0 k x0 (x4 ++ [x6]) (wrap64 (x5 + 1))) else (none)))) (fun k => by rw [solsticeref16_Get.j1]) ?_
  · repeat' first
    | (with_reducible exact IsLim.const _)
    | (with_reducible exact solsticeref16_Get.isJ2 _ _ _ _ _)
    | (with_reducible exact solsticeref16_Get.isL0 _ _ _)
    | (with_reducible refine IsLim.ite ?_ ?_)
    | (with_reducible refine IsLim.bind ?_ (fun _ => ?_))
theorem solsticeref16_Get.J2_eq (x0 : ByteArray) (x4 : List Int) (x5 : Int) (x43 : Int) (x44 : Bool) : solsticeref16_Get.J2 x0 x4 x5 x43 x44 = if x44 = true then (if 0 ≤ x5 then (if x5 < (x0.size : Int) then (if x4.length < 140737488355328 then (solsticeref16_Get.L0 x0 (x4 ++ [bt x0 x5]) (wrap64 (x5 + 1))) else (none)) else (none)) else (none)) else (if x43 = 110 then (if x4.length < 140737488355328 then (solsticeref16_Get.L0 x0 (x4 ++ [10]) (wrap64 (x5 + 1))) else (none)) else (if x43 = 78 then (if x4.length < 140737488355328 then (solsticeref16_Get.L0 x0 (x4 ++ [10]) (wrap64 (x5 + 1))) else (none)) else (some ((⟨#[]⟩ : ByteArray), 3)))) := by
  refine IsLim.step (solsticeref16_Get.isJ2 x0 x4 x5 x43 x44).mono (f := fun k => if x44 = true then (if 0 ≤ x5 then (if x5 < (x0.size : Int) then (if x4.length < 140737488355328 then (solsticeref16_Get.l0 k x0 (x4 ++ [bt x0 x5]) (wrap64 (x5 + 1))) else (none)) else (none)) else (none)) else (if x43 = 110 then (if x4.length < 140737488355328 then (solsticeref16_Get.l0 k x0 (x4 ++ [10]) (wrap64 (x5 + 1))) else (none)) else (if x43 = 78 then (if x4.length < 140737488355328 then (solsticeref16_Get.l0 k x0 (x4 ++ [10]) (wrap64 (x5 + 1))) else (none)) else (some ((⟨#[]⟩ : ByteArray), 3))))) (fun k => by rw [solsticeref16_Get.j2]) ?_
  · repeat' first
    | (with_reducible exact IsLim.const _)
    | (with_reducible exact solsticeref16_Get.isL0 _ _ _)
    | (with_reducible refine IsLim.ite ?_ ?_)
    | (with_reducible refine IsLim.bind ?_ (fun _ => ?_))
theorem solsticeref16_Get.F_eq (a0 : ByteArray) : solsticeref16_Get.F a0 = solsticeref16_Get.L0 a0 ([] : List Int) 0 := by
  refine IsLim.eq (g := fun k => solsticeref16_Get.l0 k a0 ([] : List Int) 0) ?_
  · repeat' first
    | (with_reducible exact IsLim.const _)
    | (with_reducible exact solsticeref16_Get.isL0 _ _ _)
    | (with_reducible refine IsLim.ite ?_ ?_)
    | (with_reducible refine IsLim.bind ?_ (fun _ => ?_))
noncomputable def solsticeref16_Pieces.L0 (x0 : ByteArray) (x3 : List ByteArray) (x4 : Int) (x5 : Int) : Option (List ByteArray) := lim fun k => solsticeref16_Pieces.l0 k x0 x3 x4 x5
noncomputable def solsticeref16_Pieces.F (a0 : ByteArray) : Option (List ByteArray) := lim fun k => solsticeref16_Pieces.f k a0
theorem solsticeref16_Pieces.isL0 (x0 : ByteArray) (x3 : List ByteArray) (x4 : Int) (x5 : Int) : IsLim (fun k => solsticeref16_Pieces.l0 k x0 x3 x4 x5) (solsticeref16_Pieces.L0 x0 x3 x4 x5) := ⟨fun k => (solsticeref16_Pieces.mono_l k) x0 x3 x4 x5, rfl⟩
theorem solsticeref16_Pieces.isF (a0 : ByteArray) : IsLim (fun k => solsticeref16_Pieces.f k a0) (solsticeref16_Pieces.F a0) := ⟨fun k => solsticeref16_Pieces.mono a0 k, rfl⟩
theorem solsticeref16_Pieces.L0_eq (x0 : ByteArray) (x3 : List ByteArray) (x4 : Int) (x5 : Int) : solsticeref16_Pieces.L0 x0 x3 x4 x5 = if x5 < (x0.size : Int) then (if 0 ≤ x5 then (if (bt x0 x5) = 92 then (solsticeref16_Pieces.L0 x0 x3 x4 (wrap64 ((wrap64 (x5 + 1)) + 1))) else (if (bt x0 x5) = 44 then (if 0 ≤ x4 then (if x4 ≤ x5 then (if x5 ≤ (x0.size : Int) then (if x3.length < 8796093022208 then (solsticeref16_Pieces.L0 x0 (x3 ++ [x0.extract (x4 : Int).toNat (x5 : Int).toNat]) (wrap64 (x5 + 1)) (wrap64 (x5 + 1))) else (none)) else (none)) else (none)) else (none)) else (solsticeref16_Pieces.L0 x0 x3 x4 (wrap64 (x5 + 1))))) else (none)) else (if 0 ≤ x4 then (if x4 ≤ (x0.size : Int) then (if x3.length < 8796093022208 then (some (x3 ++ [x0.extract (x4 : Int).toNat x0.size])) else (none)) else (none)) else (none)) := by
  refine IsLim.step (solsticeref16_Pieces.isL0 x0 x3 x4 x5).mono (f := fun k => if x5 < (x0.size : Int) then (if 0 ≤ x5 then (if (bt x0 x5) = 92 then (solsticeref16_Pieces.l0 k x0 x3 x4 (wrap64 ((wrap64 (x5 + 1)) + 1))) else (if (bt x0 x5) = 44 then (if 0 ≤ x4 then (if x4 ≤ x5 then (if x5 ≤ (x0.size : Int) then (if x3.length < 8796093022208 then (solsticeref16_Pieces.l0 k x0 (x3 ++ [x0.extract (x4 : Int).toNat (x5 : Int).toNat]) (wrap64 (x5 + 1)) (wrap64 (x5 + 1))) else (none)) else (none)) else (none)) else (none)) else (solsticeref16_Pieces.l0 k x0 x3 x4 (wrap64 (x5 + 1))))) else (none)) else (if 0 ≤ x4 then (if x4 ≤ (x0.size : Int) then (if x3.length < 8796093022208 then (some (x3 ++ [x0.extract (x4 : Int).toNat x0.size])) else (none)) else (none)) else (none))) (fun k => by rw [solsticeref16_Pieces.l0]) ?_
  · repeat' first
    | (with_reducible exact IsLim.const _)
    | (with_reducible exact solsticeref16_Pieces.isL0 _ _ _ _)
    | (with_reducible refine IsLim.ite ?_ ?_)
    | (with_reducible refine IsLim.bind ?_ (fun _ => ?_))
theorem solsticeref16_Pieces.F_eq (a0 : ByteArray) : solsticeref16_Pieces.F a0 = solsticeref16_Pieces.L0 a0 ([] : List ByteArray) 0 0 := by
  refine IsLim.eq (g := fun k => solsticeref16_Pieces.l0 k a0 ([] : List ByteArray) 0 0) ?_
  · repeat' first
    | (with_reducible exact IsLim.const _)
    | (with_reducible exact solsticeref16_Pieces.isL0 _ _ _ _)
    | (with_reducible refine IsLim.ite ?_ ?_)
    | (with_reducible refine IsLim.bind ?_ (fun _ => ?_))
end Go.Proofs.Ytookjnpmbenheaa.PEsc
